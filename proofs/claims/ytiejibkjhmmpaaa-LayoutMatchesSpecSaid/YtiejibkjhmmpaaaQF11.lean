/- Printed by a program of this session (wip/tools) out of the translation: Lean functions that answer as the Go functions do, and the proofs of that; turned by hand where the program calls closures or cuts with three indexes. -/
import Derived.Test.YtiejibkjhmmpaaaQ0
import Derived.Test.YtiejibkjhmmpaaaQE1
import Derived.Test.YtiejibkjhmmpaaaQE2
import Derived.Test.YtiejibkjhmmpaaaQC
import Derived.Test.YtiejibkjhmmpaaaQL
import Derived.Test.YtiejibkjhmmpaaaQP
import Derived.Test.YtiejibkjhmmpaaaQK
import Derived.Test.YtiejibkjhmmpaaaQU
import Derived.Test.YtiejibkjhmmpaaaQR0
import Derived.Test.YtiejibkjhmmpaaaQR
import Derived.Test.YtiejibkjhmmpaaaQT
import Derived.Test.YtiejibkjhmmpaaaQF11a
namespace Go.Proofs.Ytiejibkjhmmpaaa.Q
open Go.RowKit Go.Proofs.YtiejibkjhmmpaaaW.PrintWords Go.Proofs.YtiejibkjhmmpaaaW.PrintLast Go.Proofs.YtiejibkjhmmpaaaW.PrintMore
attribute [local go_sem] max2_int min2_int max_two min_two max_three min_three max_four min_four   -- for this text's walks alone
set_option linter.unusedVariables false
set_option linter.unusedSimpArgs false

attribute [local go_sem high] eqA45 eqA59
set_option maxHeartbeats 8000000 in
set_option maxRecDepth 100000 in
theorem solventlaw14_LayoutMatchesSpec.calls (k : Nat) (a0_0 : Int) (a0_1 : Int) (a0_2 : Int) (a0_3 : Int) (a0_4 : Int) (a0_5 : Int) (a0_6 : Int) (a0_7 : Int) (a0_8 : Int) (a0_9 : Int) (a0_10 : Int) (a0_11 : Int) (r : Bool) (w : World) (h : solventlaw14_LayoutMatchesSpec.f k a0_0 a0_1 a0_2 a0_3 a0_4 a0_5 a0_6 a0_7 a0_8 a0_9 a0_10 a0_11 = some r) :
  Calls Try.prog 11 #[.agg #[.int .i64 a0_0, .int .i64 a0_1, .int .i64 a0_2, .int .i64 a0_3, .int .i64 a0_4, .int .i64 a0_5, .int .i64 a0_6, .int .i64 a0_7, .int .i64 a0_8, .int .i64 a0_9, .int .i64 a0_10, .int .i64 a0_11]] w fun e w' => e = .returned (.bool r) ∧ Below w.heap.size w w' := by
 have hu57 := Try.underlying57
 have hu23 := Try.underlying23
 have hu45 := Try.underlying45
 have hu59 := Try.underlying59
 have HB := Aside0.mk (Below.refl w.heap.size w)
 have H : ((solventlaw14_sanity.f k).bind fun t475 => ((solventref14_Small.f a0_0 a0_1 a0_2 a0_3 a0_4 a0_5).bind fun t477 => (if t477 = true then (solventlaw14_LayoutMatchesSpec.j0 k t475 a0_6 a0_0 a0_1 a0_2 a0_3 a0_4 a0_5 a0_6 a0_7 a0_8 a0_9 a0_10 a0_11 a0_0 a0_1 a0_2 a0_3 a0_4 a0_5) else (some t475)))) = some r := h
 clear h
 replace H := Option.bind_eq_some_iff.mp H
 obtain ⟨t475, A20, H⟩ := H
 replace H : ((solventref14_Small.f a0_0 a0_1 a0_2 a0_3 a0_4 a0_5).bind fun t477 => (if t477 = true then (solventlaw14_LayoutMatchesSpec.j0 k t475 a0_6 a0_0 a0_1 a0_2 a0_3 a0_4 a0_5 a0_6 a0_7 a0_8 a0_9 a0_10 a0_11 a0_0 a0_1 a0_2 a0_3 a0_4 a0_5) else (some t475))) = some r := H
 have A2 := Aside0.mk A20
 clear A20
 replace H := Option.bind_eq_some_iff.mp H
 obtain ⟨t477, A30, H⟩ := H
 replace H : (if t477 = true then (solventlaw14_LayoutMatchesSpec.j0 k t475 a0_6 a0_0 a0_1 a0_2 a0_3 a0_4 a0_5 a0_6 a0_7 a0_8 a0_9 a0_10 a0_11 a0_0 a0_1 a0_2 a0_3 a0_4 a0_5) else (some t475)) = some r := H
 have A3 := Aside0.mk A30
 clear A30
 have HC4 := Aside0.mk H
 clear H
 go_enter Try.func11, Try.ntmps11
 go_upto_if 25 with (first | ((with_reducible refine gate_dst (N := 1) rfl ?_); refine box_event ?hg (N := 1) ?hd (cs := #[.int .i64 a0_0, .int .i64 a0_1, .int .i64 a0_2, .int .i64 a0_3, .int .i64 a0_4, .int .i64 a0_5, .int .i64 a0_6, .int .i64 a0_7, .int .i64 a0_8, .int .i64 a0_9, .int .i64 a0_10, .int .i64 a0_11]) (t := 57) ?hr ?_; (case hd => rfl); (case hg => rfl); (case hr => first | (go_simp; done) | (go_simp; rfl)); intro gb474 hg w5 hbox hb; have n0_ := Aside0.mk (below_step (by repeat (first | (with_reducible first | exact HB.out | apply below_alloc | apply pw_below_drewN | apply below_drew1) | exact HB.out)) hb); have n1_ := Aside0.mk (hbox); have n2_ := Aside0.mk ((by rw [hg]; exact (below_size (by repeat (first | (with_reducible first | exact HB.out | apply below_alloc | apply pw_below_drewN | apply below_drew1) | exact HB.out))) : w.heap.size ≤ gb474)); have n3_ := Aside0.mk ((by rw [hg]; exact (below_size (by repeat (first | (with_reducible first | exact HB.out | apply below_alloc | apply pw_below_drewN | apply below_drew1) | exact HB.out))) : w.heap.size ≤ gb474)); clear HB; have HB := n0_; have BK474 := n1_; have GW474 := n2_; have GE474 := n3_; clear n0_ n1_ n2_ n3_; clear hb hbox hg) | ((with_reducible refine gate_callee (f := 30) rfl ?_); refine goesL_ (some 18) rfl rfl Try.func30 (by kernel_rfl) rfl #[] rfl (by (try simp only [List.map_toArray, List.map_cons, List.map_nil]); first | done | rfl | (simp only [List.length_drop, List.length_take]; rfl)) ?_; (with_reducible refine (solventlaw14_sanity.calls k  t475 _ A2.out).mono ?_); rintro e w6 ⟨rfl, hb⟩; refine ⟨_, rfl, ?_⟩; have n0_ := Aside0.mk (blk_below (g := gb474) (o := .cells #[.int .i64 a0_0, .int .i64 a0_1, .int .i64 a0_2, .int .i64 a0_3, .int .i64 a0_4, .int .i64 a0_5, .int .i64 a0_6, .int .i64 a0_7, .int .i64 a0_8, .int .i64 a0_9, .int .i64 a0_10, .int .i64 a0_11] 57 (0, 0)) (by (with_reducible repeat (first | refine blk_drewN ?_ _ | refine blk_drew ?_ | refine blk_alloc ?_ _)); exact BK474.out) hb); have n1_ := Aside0.mk (below_step (by repeat (first | (with_reducible first | exact HB.out | apply below_alloc | apply pw_below_drewN | apply below_drew1 | refine below_set ?_ GE474.out) | exact HB.out)) hb); clear BK474; clear HB; have BK474 := n0_; have HB := n1_; clear n0_ n1_; (try clear hb); (try clear hb2); (try clear hk); (try clear hi); have hcz7_0 : w6.cell? ⟨gb474, 0, none⟩ = some (.int .i64 a0_0) := (blk_cell BK474.out 0).trans rfl; have hcz7_1 : w6.cell? ⟨gb474, 1, none⟩ = some (.int .i64 a0_1) := (blk_cell BK474.out 1).trans rfl; have hcz7_2 : w6.cell? ⟨gb474, 2, none⟩ = some (.int .i64 a0_2) := (blk_cell BK474.out 2).trans rfl; have hcz7_3 : w6.cell? ⟨gb474, 3, none⟩ = some (.int .i64 a0_3) := (blk_cell BK474.out 3).trans rfl; have hcz7_4 : w6.cell? ⟨gb474, 4, none⟩ = some (.int .i64 a0_4) := (blk_cell BK474.out 4).trans rfl; have hcz7_5 : w6.cell? ⟨gb474, 5, none⟩ = some (.int .i64 a0_5) := (blk_cell BK474.out 5).trans rfl; have hcz7_6 : w6.cell? ⟨gb474, 6, none⟩ = some (.int .i64 a0_6) := (blk_cell BK474.out 6).trans rfl; have hcz7_7 : w6.cell? ⟨gb474, 7, none⟩ = some (.int .i64 a0_7) := (blk_cell BK474.out 7).trans rfl; have hcz7_8 : w6.cell? ⟨gb474, 8, none⟩ = some (.int .i64 a0_8) := (blk_cell BK474.out 8).trans rfl; have hcz7_9 : w6.cell? ⟨gb474, 9, none⟩ = some (.int .i64 a0_9) := (blk_cell BK474.out 9).trans rfl; have hcz7_10 : w6.cell? ⟨gb474, 10, none⟩ = some (.int .i64 a0_10) := (blk_cell BK474.out 10).trans rfl; have hcz7_11 : w6.cell? ⟨gb474, 11, none⟩ = some (.int .i64 a0_11) := (blk_cell BK474.out 11).trans rfl; have hfz7_0 := blk_frozen BK474.out 0; have hfz7_1 := blk_frozen BK474.out 1; have hfz7_2 := blk_frozen BK474.out 2; have hfz7_3 := blk_frozen BK474.out 3; have hfz7_4 := blk_frozen BK474.out 4; have hfz7_5 := blk_frozen BK474.out 5; have hfz7_6 := blk_frozen BK474.out 6; have hfz7_7 := blk_frozen BK474.out 7; have hfz7_8 := blk_frozen BK474.out 8; have hfz7_9 := blk_frozen BK474.out 9; have hfz7_10 := blk_frozen BK474.out 10; have hfz7_11 := blk_frozen BK474.out 11) | ((with_reducible refine gate_dst (N := 4) rfl ?_); refine box_event ?hg (N := 4) ?hd (cs := #[.int .i64 0, .int .i64 0, .int .i64 0, .int .i64 0, .int .i64 0, .int .i64 0]) (t := 23) ?hr ?_; (case hd => rfl); (case hg => rfl); (case hr => first | (go_simp; done) | (go_simp; rfl)); intro gb476 hg w8 hbox hb; have n0_ := Aside0.mk (blk_below (g := gb474) (o := .cells #[.int .i64 a0_0, .int .i64 a0_1, .int .i64 a0_2, .int .i64 a0_3, .int .i64 a0_4, .int .i64 a0_5, .int .i64 a0_6, .int .i64 a0_7, .int .i64 a0_8, .int .i64 a0_9, .int .i64 a0_10, .int .i64 a0_11] 57 (0, 0)) (by (with_reducible repeat (first | refine blk_drewN ?_ _ | refine blk_drew ?_ | refine blk_alloc ?_ _)); exact BK474.out) hb); have n1_ := Aside0.mk (below_step (by repeat (first | (with_reducible first | exact HB.out | apply below_alloc | apply pw_below_drewN | apply below_drew1 | refine below_set ?_ GE474.out) | exact HB.out)) hb); have n2_ := Aside0.mk (hbox); have n3_ := Aside0.mk ((by rw [hg]; exact (below_size (by repeat (first | (with_reducible first | exact HB.out | apply below_alloc | apply pw_below_drewN | apply below_drew1 | refine below_set ?_ GE474.out) | exact HB.out))) : w.heap.size ≤ gb476)); have n4_ := Aside0.mk ((by rw [hg]; exact (below_size (by repeat (first | (with_reducible first | exact HB.out | apply below_alloc | apply pw_below_drewN | apply below_drew1 | refine below_set ?_ GE474.out) | exact HB.out))) : w.heap.size ≤ gb476)); have n5_ := Aside0.mk ((by rw [hg]; exact Nat.ne_of_lt (blk_lt (g := gb474) (o := .cells #[.int .i64 a0_0, .int .i64 a0_1, .int .i64 a0_2, .int .i64 a0_3, .int .i64 a0_4, .int .i64 a0_5, .int .i64 a0_6, .int .i64 a0_7, .int .i64 a0_8, .int .i64 a0_9, .int .i64 a0_10, .int .i64 a0_11] 57 (0, 0)) (by (with_reducible repeat (first | refine blk_drewN ?_ _ | refine blk_drew ?_ | refine blk_alloc ?_ _)); exact BK474.out)) : gb474 ≠ gb476)); have n6_ := Aside0.mk ((by rw [hg]; exact Nat.ne_of_gt (blk_lt (g := gb474) (o := .cells #[.int .i64 a0_0, .int .i64 a0_1, .int .i64 a0_2, .int .i64 a0_3, .int .i64 a0_4, .int .i64 a0_5, .int .i64 a0_6, .int .i64 a0_7, .int .i64 a0_8, .int .i64 a0_9, .int .i64 a0_10, .int .i64 a0_11] 57 (0, 0)) (by (with_reducible repeat (first | refine blk_drewN ?_ _ | refine blk_drew ?_ | refine blk_alloc ?_ _)); exact BK474.out)) : gb476 ≠ gb474)); clear BK474; clear HB; have BK474 := n0_; have HB := n1_; have BK476 := n2_; have GW476 := n3_; have GE476 := n4_; have NB474_476 := n5_; have NB476_474 := n6_; clear n0_ n1_ n2_ n3_ n4_ n5_ n6_; clear hb hbox hg; have hnb9 := NB476_474.out; have hnc9 := NB474_476.out; have hcz10_0 : w8.cell? ⟨gb476, 0, none⟩ = some (.int .i64 0) := (blk_cell BK476.out 0).trans rfl; have hcz10_1 : w8.cell? ⟨gb476, 1, none⟩ = some (.int .i64 0) := (blk_cell BK476.out 1).trans rfl; have hcz10_2 : w8.cell? ⟨gb476, 2, none⟩ = some (.int .i64 0) := (blk_cell BK476.out 2).trans rfl; have hcz10_3 : w8.cell? ⟨gb476, 3, none⟩ = some (.int .i64 0) := (blk_cell BK476.out 3).trans rfl; have hcz10_4 : w8.cell? ⟨gb476, 4, none⟩ = some (.int .i64 0) := (blk_cell BK476.out 4).trans rfl; have hcz10_5 : w8.cell? ⟨gb476, 5, none⟩ = some (.int .i64 0) := (blk_cell BK476.out 5).trans rfl; have hfz10_0 := blk_frozen BK476.out 0; have hfz10_1 := blk_frozen BK476.out 1; have hfz10_2 := blk_frozen BK476.out 2; have hfz10_3 := blk_frozen BK476.out 3; have hfz10_4 := blk_frozen BK476.out 4; have hfz10_5 := blk_frozen BK476.out 5; have hcz11_0 : w8.cell? ⟨gb474, 0, none⟩ = some (.int .i64 a0_0) := (blk_cell BK474.out 0).trans rfl; have hcz11_1 : w8.cell? ⟨gb474, 1, none⟩ = some (.int .i64 a0_1) := (blk_cell BK474.out 1).trans rfl; have hcz11_2 : w8.cell? ⟨gb474, 2, none⟩ = some (.int .i64 a0_2) := (blk_cell BK474.out 2).trans rfl; have hcz11_3 : w8.cell? ⟨gb474, 3, none⟩ = some (.int .i64 a0_3) := (blk_cell BK474.out 3).trans rfl; have hcz11_4 : w8.cell? ⟨gb474, 4, none⟩ = some (.int .i64 a0_4) := (blk_cell BK474.out 4).trans rfl; have hcz11_5 : w8.cell? ⟨gb474, 5, none⟩ = some (.int .i64 a0_5) := (blk_cell BK474.out 5).trans rfl; have hcz11_6 : w8.cell? ⟨gb474, 6, none⟩ = some (.int .i64 a0_6) := (blk_cell BK474.out 6).trans rfl; have hcz11_7 : w8.cell? ⟨gb474, 7, none⟩ = some (.int .i64 a0_7) := (blk_cell BK474.out 7).trans rfl; have hcz11_8 : w8.cell? ⟨gb474, 8, none⟩ = some (.int .i64 a0_8) := (blk_cell BK474.out 8).trans rfl; have hcz11_9 : w8.cell? ⟨gb474, 9, none⟩ = some (.int .i64 a0_9) := (blk_cell BK474.out 9).trans rfl; have hcz11_10 : w8.cell? ⟨gb474, 10, none⟩ = some (.int .i64 a0_10) := (blk_cell BK474.out 10).trans rfl; have hcz11_11 : w8.cell? ⟨gb474, 11, none⟩ = some (.int .i64 a0_11) := (blk_cell BK474.out 11).trans rfl; have hfz11_0 := blk_frozen BK474.out 0; have hfz11_1 := blk_frozen BK474.out 1; have hfz11_2 := blk_frozen BK474.out 2; have hfz11_3 := blk_frozen BK474.out 3; have hfz11_4 := blk_frozen BK474.out 4; have hfz11_5 := blk_frozen BK474.out 5; have hfz11_6 := blk_frozen BK474.out 6; have hfz11_7 := blk_frozen BK474.out 7; have hfz11_8 := blk_frozen BK474.out 8; have hfz11_9 := blk_frozen BK474.out 9; have hfz11_10 := blk_frozen BK474.out 10; have hfz11_11 := blk_frozen BK474.out 11) | ((with_reducible refine gate_callee (f := 37) rfl ?_); refine goesL_ (some 24) rfl rfl Try.func37 (by kernel_rfl) rfl #[.agg #[.int .i64 a0_0, .int .i64 a0_1, .int .i64 a0_2, .int .i64 a0_3, .int .i64 a0_4, .int .i64 a0_5]] rfl (by (try simp only [List.map_toArray, List.map_cons, List.map_nil]); first | done | rfl | (simp only [List.length_drop, List.length_take]; rfl)) ?_; (with_reducible refine (solventref14_Small.calls a0_0 a0_1 a0_2 a0_3 a0_4 a0_5 t477 _ A3.out).mono ?_); rintro e w12 ⟨rfl, hb⟩; refine ⟨_, rfl, ?_⟩; have n0_ := Aside0.mk (blk_below (g := gb474) (o := .cells #[.int .i64 a0_0, .int .i64 a0_1, .int .i64 a0_2, .int .i64 a0_3, .int .i64 a0_4, .int .i64 a0_5, .int .i64 a0_6, .int .i64 a0_7, .int .i64 a0_8, .int .i64 a0_9, .int .i64 a0_10, .int .i64 a0_11] 57 (0, 0)) (by (with_reducible repeat (first | refine blk_drewN ?_ _ | refine blk_drew ?_ | refine blk_alloc ?_ _)); refine blk_far ?_ NB474_476.out _; (with_reducible repeat (first | refine blk_drewN ?_ _ | refine blk_drew ?_ | refine blk_alloc ?_ _)); refine blk_far ?_ NB474_476.out _; (with_reducible repeat (first | refine blk_drewN ?_ _ | refine blk_drew ?_ | refine blk_alloc ?_ _)); refine blk_far ?_ NB474_476.out _; (with_reducible repeat (first | refine blk_drewN ?_ _ | refine blk_drew ?_ | refine blk_alloc ?_ _)); refine blk_far ?_ NB474_476.out _; (with_reducible repeat (first | refine blk_drewN ?_ _ | refine blk_drew ?_ | refine blk_alloc ?_ _)); refine blk_far ?_ NB474_476.out _; (with_reducible repeat (first | refine blk_drewN ?_ _ | refine blk_drew ?_ | refine blk_alloc ?_ _)); refine blk_far ?_ NB474_476.out _; (with_reducible repeat (first | refine blk_drewN ?_ _ | refine blk_drew ?_ | refine blk_alloc ?_ _)); exact BK474.out) hb); have n1_ := Aside0.mk (blk_below (g := gb476) (o := .cells #[.int .i64 a0_0, .int .i64 a0_1, .int .i64 a0_2, .int .i64 a0_3, .int .i64 a0_4, .int .i64 a0_5] 23 (0, 0)) (by (with_reducible repeat (first | refine blk_drewN ?_ _ | refine blk_drew ?_ | refine blk_alloc ?_ _)); refine blk_put (cs := #[.int .i64 a0_0, .int .i64 a0_1, .int .i64 a0_2, .int .i64 a0_3, .int .i64 a0_4, .int .i64 0]) ?_ 5 _ rfl; (with_reducible repeat (first | refine blk_drewN ?_ _ | refine blk_drew ?_ | refine blk_alloc ?_ _)); refine blk_put (cs := #[.int .i64 a0_0, .int .i64 a0_1, .int .i64 a0_2, .int .i64 a0_3, .int .i64 0, .int .i64 0]) ?_ 4 _ rfl; (with_reducible repeat (first | refine blk_drewN ?_ _ | refine blk_drew ?_ | refine blk_alloc ?_ _)); refine blk_put (cs := #[.int .i64 a0_0, .int .i64 a0_1, .int .i64 a0_2, .int .i64 0, .int .i64 0, .int .i64 0]) ?_ 3 _ rfl; (with_reducible repeat (first | refine blk_drewN ?_ _ | refine blk_drew ?_ | refine blk_alloc ?_ _)); refine blk_put (cs := #[.int .i64 a0_0, .int .i64 a0_1, .int .i64 0, .int .i64 0, .int .i64 0, .int .i64 0]) ?_ 2 _ rfl; (with_reducible repeat (first | refine blk_drewN ?_ _ | refine blk_drew ?_ | refine blk_alloc ?_ _)); refine blk_put (cs := #[.int .i64 a0_0, .int .i64 0, .int .i64 0, .int .i64 0, .int .i64 0, .int .i64 0]) ?_ 1 _ rfl; (with_reducible repeat (first | refine blk_drewN ?_ _ | refine blk_drew ?_ | refine blk_alloc ?_ _)); refine blk_put (cs := #[.int .i64 0, .int .i64 0, .int .i64 0, .int .i64 0, .int .i64 0, .int .i64 0]) ?_ 0 _ rfl; (with_reducible repeat (first | refine blk_drewN ?_ _ | refine blk_drew ?_ | refine blk_alloc ?_ _)); exact BK476.out) hb); have n2_ := Aside0.mk (below_step (by repeat (first | (with_reducible first | exact HB.out | apply below_alloc | apply pw_below_drewN | apply below_drew1 | refine below_set ?_ GE474.out | refine below_set ?_ GE476.out) | exact HB.out)) hb); clear BK474; clear BK476; clear HB; have BK474 := n0_; have BK476 := n1_; have HB := n2_; clear n0_ n1_ n2_; (try clear hb); (try clear hb2); (try clear hk); (try clear hi)))
 (try simp only [Act.put, List.setIfInBounds_toArray, List.set_cons_zero, List.set_cons_succ])
 go_cut [] (fun wc => ∃ (kq : Nat), Aside0 (solventlaw14_LayoutMatchesSpec.j0 kq t475 a0_6 a0_0 a0_1 a0_2 a0_3 a0_4 a0_5 a0_6 a0_7 a0_8 a0_9 a0_10 a0_11 a0_0 a0_1 a0_2 a0_3 a0_4 a0_5 = some r) ∧ Aside0 (kq ≤ k) ∧ Aside0 (wc.heap[gb474]? = some (.cells #[.int .i64 a0_0, .int .i64 a0_1, .int .i64 a0_2, .int .i64 a0_3, .int .i64 a0_4, .int .i64 a0_5, .int .i64 a0_6, .int .i64 a0_7, .int .i64 a0_8, .int .i64 a0_9, .int .i64 a0_10, .int .i64 a0_11] 57 (0, 0))) ∧ Aside0 (wc.heap[gb476]? = some (.cells #[.int .i64 a0_0, .int .i64 a0_1, .int .i64 a0_2, .int .i64 a0_3, .int .i64 a0_4, .int .i64 a0_5] 23 (0, 0))) ∧ Aside0 (Below w.heap.size w wc))
 case first =>
  have H := HC4.out
  clear HC4
  by_cases c13 : t477 = true
  ·subst c13
   have H1 : (solventlaw14_LayoutMatchesSpec.j0 k t475 a0_6 a0_0 a0_1 a0_2 a0_3 a0_4 a0_5 a0_6 a0_7 a0_8 a0_9 a0_10 a0_11 a0_0 a0_1 a0_2 a0_3 a0_4 a0_5) = some r := by rw [if_pos rfl] at H; exact H
   clear H
   have H := H1
   clear H1
   have H' := Aside0.mk H
   clear H
   go_wp2
   go_meet
   case rel => exact ⟨_, H', ⟨by first | omega | exact Nat.le_refl _⟩, ⟨by (with_reducible repeat (first | refine blk_drewN ?_ _ | refine blk_drew ?_ | refine blk_alloc ?_ _)); exact BK474.out⟩, ⟨by (with_reducible repeat (first | refine blk_drewN ?_ _ | refine blk_drew ?_ | refine blk_alloc ?_ _)); exact BK476.out⟩, ⟨by repeat (first | (with_reducible first | exact HB.out | apply below_alloc | apply pw_below_drewN | apply below_drew1 | refine below_set ?_ GE474.out | refine below_set ?_ GE476.out) | exact HB.out)⟩⟩
  ·replace c13 := Bool.eq_false_iff.mpr c13
   subst c13
   have H1 : (some t475) = some r := by rw [if_neg (show ¬ (false = true) by decide)] at H; exact H
   clear H
   have H := H1
   clear H1
   obtain rfl := Option.some.inj H
   go_wp2
   go_ret
   exact ⟨by first | rfl | (simp [errW_none, errW_some] <;> rfl) | (simp [*, errW_none, errW_some] <;> rfl), by repeat (first | (with_reducible first | exact HB.out | apply below_alloc | apply pw_below_drewN | apply below_drew1 | refine below_set ?_ GE474.out | refine below_set ?_ GE476.out) | exact HB.out)⟩
 case rest =>
  clear HC4
  try clear c1
  try clear p2
  try clear c3
  try clear c9
  try clear c11
  try clear c13
  try clear hcz10_0
  try clear hcz10_1
  try clear hcz10_2
  try clear hcz10_3
  try clear hcz10_4
  try clear hcz10_5
  try clear hcz11_0
  try clear hcz11_1
  try clear hcz11_10
  try clear hcz11_11
  try clear hcz11_2
  try clear hcz11_3
  try clear hcz11_4
  try clear hcz11_5
  try clear hcz11_6
  try clear hcz11_7
  try clear hcz11_8
  try clear hcz11_9
  try clear hcz7_0
  try clear hcz7_1
  try clear hcz7_10
  try clear hcz7_11
  try clear hcz7_2
  try clear hcz7_3
  try clear hcz7_4
  try clear hcz7_5
  try clear hcz7_6
  try clear hcz7_7
  try clear hcz7_8
  try clear hcz7_9
  try clear hfz10_0
  try clear hfz10_1
  try clear hfz10_2
  try clear hfz10_3
  try clear hfz10_4
  try clear hfz10_5
  try clear hfz11_0
  try clear hfz11_1
  try clear hfz11_10
  try clear hfz11_11
  try clear hfz11_2
  try clear hfz11_3
  try clear hfz11_4
  try clear hfz11_5
  try clear hfz11_6
  try clear hfz11_7
  try clear hfz11_8
  try clear hfz11_9
  try clear hfz7_0
  try clear hfz7_1
  try clear hfz7_10
  try clear hfz7_11
  try clear hfz7_2
  try clear hfz7_3
  try clear hfz7_4
  try clear hfz7_5
  try clear hfz7_6
  try clear hfz7_7
  try clear hfz7_8
  try clear hfz7_9
  obtain ⟨kq, HA, HJ3, BK474, BK476, HB⟩ := hcut
  cases kq with
  | zero => exact absurd HA.out (by simp [solventlaw14_LayoutMatchesSpec.j0])
  | succ kj3 =>
   have H := HA.out
   clear HA
   simp only [solventlaw14_LayoutMatchesSpec.j0] at H
   replace H := Option.bind_eq_some_iff.mp H
   obtain ⟨⟨t478, t479, t480, t481⟩, A140, H⟩ := H
   replace H : ((solventref14_At.f kj3 a0_0 a0_1 a0_2 a0_3 a0_4 a0_5 a0_6 a0_7 a0_8 a0_9).bind fun bt483 => ((layout_Find.f kj3 a0_0 a0_1 a0_2 a0_3 a0_4 a0_5 a0_7 a0_6 a0_10).bind fun bt488 => ((solventref14_Find.f kj3 a0_0 a0_1 a0_2 a0_3 a0_4 a0_5 a0_7 a0_6 a0_10).bind fun bt493 => (if (!(t478 == bt483.1) || (!(t479 == bt483.2.1) || (!(t480 == bt483.2.2.1)))) = true then (solventlaw14_LayoutMatchesSpec.j1 kj3 t475 a0_6 a0_7 true a0_0 a0_1 a0_2 a0_3 a0_4 a0_5 a0_6 a0_7 a0_8 a0_9 a0_10 a0_11 a0_0 a0_1 a0_2 a0_3 a0_4 a0_5) else (if t481 = bt483.2.2.2 then (if ((!(bt488.1 == bt493.1) || (!(bt488.2.1 == bt493.2.1))) || (!(bt488.2.2.1 == bt493.2.2.1))) = true then (solventlaw14_LayoutMatchesSpec.j1 kj3 t475 a0_6 a0_7 true a0_0 a0_1 a0_2 a0_3 a0_4 a0_5 a0_6 a0_7 a0_8 a0_9 a0_10 a0_11 a0_0 a0_1 a0_2 a0_3 a0_4 a0_5) else (solventlaw14_LayoutMatchesSpec.j1 kj3 t475 a0_6 a0_7 (bt488.2.2.2 != bt493.2.2.2) a0_0 a0_1 a0_2 a0_3 a0_4 a0_5 a0_6 a0_7 a0_8 a0_9 a0_10 a0_11 a0_0 a0_1 a0_2 a0_3 a0_4 a0_5)) else (solventlaw14_LayoutMatchesSpec.j1 kj3 t475 a0_6 a0_7 true a0_0 a0_1 a0_2 a0_3 a0_4 a0_5 a0_6 a0_7 a0_8 a0_9 a0_10 a0_11 a0_0 a0_1 a0_2 a0_3 a0_4 a0_5)))))) = some r := H
   have A14 := Aside0.mk A140
   clear A140
   replace H := Option.bind_eq_some_iff.mp H
   obtain ⟨⟨t483, t484, t485, t486⟩, A150, H⟩ := H
   replace H : ((layout_Find.f kj3 a0_0 a0_1 a0_2 a0_3 a0_4 a0_5 a0_7 a0_6 a0_10).bind fun bt488 => ((solventref14_Find.f kj3 a0_0 a0_1 a0_2 a0_3 a0_4 a0_5 a0_7 a0_6 a0_10).bind fun bt493 => (if (!(t478 == t483) || (!(t479 == t484) || (!(t480 == t485)))) = true then (solventlaw14_LayoutMatchesSpec.j1 kj3 t475 a0_6 a0_7 true a0_0 a0_1 a0_2 a0_3 a0_4 a0_5 a0_6 a0_7 a0_8 a0_9 a0_10 a0_11 a0_0 a0_1 a0_2 a0_3 a0_4 a0_5) else (if t481 = t486 then (if ((!(bt488.1 == bt493.1) || (!(bt488.2.1 == bt493.2.1))) || (!(bt488.2.2.1 == bt493.2.2.1))) = true then (solventlaw14_LayoutMatchesSpec.j1 kj3 t475 a0_6 a0_7 true a0_0 a0_1 a0_2 a0_3 a0_4 a0_5 a0_6 a0_7 a0_8 a0_9 a0_10 a0_11 a0_0 a0_1 a0_2 a0_3 a0_4 a0_5) else (solventlaw14_LayoutMatchesSpec.j1 kj3 t475 a0_6 a0_7 (bt488.2.2.2 != bt493.2.2.2) a0_0 a0_1 a0_2 a0_3 a0_4 a0_5 a0_6 a0_7 a0_8 a0_9 a0_10 a0_11 a0_0 a0_1 a0_2 a0_3 a0_4 a0_5)) else (solventlaw14_LayoutMatchesSpec.j1 kj3 t475 a0_6 a0_7 true a0_0 a0_1 a0_2 a0_3 a0_4 a0_5 a0_6 a0_7 a0_8 a0_9 a0_10 a0_11 a0_0 a0_1 a0_2 a0_3 a0_4 a0_5))))) = some r := H
   have A15 := Aside0.mk A150
   clear A150
   replace H := Option.bind_eq_some_iff.mp H
   obtain ⟨⟨t488, t489, t490, t491⟩, A160, H⟩ := H
   replace H : ((solventref14_Find.f kj3 a0_0 a0_1 a0_2 a0_3 a0_4 a0_5 a0_7 a0_6 a0_10).bind fun bt493 => (if (!(t478 == t483) || (!(t479 == t484) || (!(t480 == t485)))) = true then (solventlaw14_LayoutMatchesSpec.j1 kj3 t475 a0_6 a0_7 true a0_0 a0_1 a0_2 a0_3 a0_4 a0_5 a0_6 a0_7 a0_8 a0_9 a0_10 a0_11 a0_0 a0_1 a0_2 a0_3 a0_4 a0_5) else (if t481 = t486 then (if ((!(t488 == bt493.1) || (!(t489 == bt493.2.1))) || (!(t490 == bt493.2.2.1))) = true then (solventlaw14_LayoutMatchesSpec.j1 kj3 t475 a0_6 a0_7 true a0_0 a0_1 a0_2 a0_3 a0_4 a0_5 a0_6 a0_7 a0_8 a0_9 a0_10 a0_11 a0_0 a0_1 a0_2 a0_3 a0_4 a0_5) else (solventlaw14_LayoutMatchesSpec.j1 kj3 t475 a0_6 a0_7 (t491 != bt493.2.2.2) a0_0 a0_1 a0_2 a0_3 a0_4 a0_5 a0_6 a0_7 a0_8 a0_9 a0_10 a0_11 a0_0 a0_1 a0_2 a0_3 a0_4 a0_5)) else (solventlaw14_LayoutMatchesSpec.j1 kj3 t475 a0_6 a0_7 true a0_0 a0_1 a0_2 a0_3 a0_4 a0_5 a0_6 a0_7 a0_8 a0_9 a0_10 a0_11 a0_0 a0_1 a0_2 a0_3 a0_4 a0_5)))) = some r := H
   have A16 := Aside0.mk A160
   clear A160
   replace H := Option.bind_eq_some_iff.mp H
   obtain ⟨⟨t493, t494, t495, t496⟩, A170, H⟩ := H
   replace H : (if (!(t478 == t483) || (!(t479 == t484) || (!(t480 == t485)))) = true then (solventlaw14_LayoutMatchesSpec.j1 kj3 t475 a0_6 a0_7 true a0_0 a0_1 a0_2 a0_3 a0_4 a0_5 a0_6 a0_7 a0_8 a0_9 a0_10 a0_11 a0_0 a0_1 a0_2 a0_3 a0_4 a0_5) else (if t481 = t486 then (if ((!(t488 == t493) || (!(t489 == t494))) || (!(t490 == t495))) = true then (solventlaw14_LayoutMatchesSpec.j1 kj3 t475 a0_6 a0_7 true a0_0 a0_1 a0_2 a0_3 a0_4 a0_5 a0_6 a0_7 a0_8 a0_9 a0_10 a0_11 a0_0 a0_1 a0_2 a0_3 a0_4 a0_5) else (solventlaw14_LayoutMatchesSpec.j1 kj3 t475 a0_6 a0_7 (t491 != t496) a0_0 a0_1 a0_2 a0_3 a0_4 a0_5 a0_6 a0_7 a0_8 a0_9 a0_10 a0_11 a0_0 a0_1 a0_2 a0_3 a0_4 a0_5)) else (solventlaw14_LayoutMatchesSpec.j1 kj3 t475 a0_6 a0_7 true a0_0 a0_1 a0_2 a0_3 a0_4 a0_5 a0_6 a0_7 a0_8 a0_9 a0_10 a0_11 a0_0 a0_1 a0_2 a0_3 a0_4 a0_5))) = some r := H
   have A17 := Aside0.mk A170
   clear A170
   have HC18 := Aside0.mk H
   clear H
   have hnb19 := NB474_476.out
   have hnc19 := NB476_474.out
   have hcz20_0 : wc.cell? ⟨gb474, 0, none⟩ = some (.int .i64 a0_0) := (blk_cell BK474.out 0).trans rfl
   have hcz20_1 : wc.cell? ⟨gb474, 1, none⟩ = some (.int .i64 a0_1) := (blk_cell BK474.out 1).trans rfl
   have hcz20_2 : wc.cell? ⟨gb474, 2, none⟩ = some (.int .i64 a0_2) := (blk_cell BK474.out 2).trans rfl
   have hcz20_3 : wc.cell? ⟨gb474, 3, none⟩ = some (.int .i64 a0_3) := (blk_cell BK474.out 3).trans rfl
   have hcz20_4 : wc.cell? ⟨gb474, 4, none⟩ = some (.int .i64 a0_4) := (blk_cell BK474.out 4).trans rfl
   have hcz20_5 : wc.cell? ⟨gb474, 5, none⟩ = some (.int .i64 a0_5) := (blk_cell BK474.out 5).trans rfl
   have hcz20_6 : wc.cell? ⟨gb474, 6, none⟩ = some (.int .i64 a0_6) := (blk_cell BK474.out 6).trans rfl
   have hcz20_7 : wc.cell? ⟨gb474, 7, none⟩ = some (.int .i64 a0_7) := (blk_cell BK474.out 7).trans rfl
   have hcz20_8 : wc.cell? ⟨gb474, 8, none⟩ = some (.int .i64 a0_8) := (blk_cell BK474.out 8).trans rfl
   have hcz20_9 : wc.cell? ⟨gb474, 9, none⟩ = some (.int .i64 a0_9) := (blk_cell BK474.out 9).trans rfl
   have hcz20_10 : wc.cell? ⟨gb474, 10, none⟩ = some (.int .i64 a0_10) := (blk_cell BK474.out 10).trans rfl
   have hcz20_11 : wc.cell? ⟨gb474, 11, none⟩ = some (.int .i64 a0_11) := (blk_cell BK474.out 11).trans rfl
   have hfz20_0 := blk_frozen BK474.out 0
   have hfz20_1 := blk_frozen BK474.out 1
   have hfz20_2 := blk_frozen BK474.out 2
   have hfz20_3 := blk_frozen BK474.out 3
   have hfz20_4 := blk_frozen BK474.out 4
   have hfz20_5 := blk_frozen BK474.out 5
   have hfz20_6 := blk_frozen BK474.out 6
   have hfz20_7 := blk_frozen BK474.out 7
   have hfz20_8 := blk_frozen BK474.out 8
   have hfz20_9 := blk_frozen BK474.out 9
   have hfz20_10 := blk_frozen BK474.out 10
   have hfz20_11 := blk_frozen BK474.out 11
   have hcz21_0 : wc.cell? ⟨gb476, 0, none⟩ = some (.int .i64 a0_0) := (blk_cell BK476.out 0).trans rfl
   have hcz21_1 : wc.cell? ⟨gb476, 1, none⟩ = some (.int .i64 a0_1) := (blk_cell BK476.out 1).trans rfl
   have hcz21_2 : wc.cell? ⟨gb476, 2, none⟩ = some (.int .i64 a0_2) := (blk_cell BK476.out 2).trans rfl
   have hcz21_3 : wc.cell? ⟨gb476, 3, none⟩ = some (.int .i64 a0_3) := (blk_cell BK476.out 3).trans rfl
   have hcz21_4 : wc.cell? ⟨gb476, 4, none⟩ = some (.int .i64 a0_4) := (blk_cell BK476.out 4).trans rfl
   have hcz21_5 : wc.cell? ⟨gb476, 5, none⟩ = some (.int .i64 a0_5) := (blk_cell BK476.out 5).trans rfl
   have hfz21_0 := blk_frozen BK476.out 0
   have hfz21_1 := blk_frozen BK476.out 1
   have hfz21_2 := blk_frozen BK476.out 2
   have hfz21_3 := blk_frozen BK476.out 3
   have hfz21_4 := blk_frozen BK476.out 4
   have hfz21_5 := blk_frozen BK476.out 5
   go_upto_region 11 with (first | ((with_reducible refine gate_callee (f := 38) rfl ?_); refine goesL_ (some 36) rfl rfl Try.func38 (by kernel_rfl) rfl #[.agg #[.int .i64 a0_0, .int .i64 a0_1, .int .i64 a0_2, .int .i64 a0_3, .int .i64 a0_4, .int .i64 a0_5], .int .i64 a0_6, .agg #[.int .i64 a0_7, .int .i64 a0_8, .int .i64 a0_9]] rfl (by (try simp only [List.map_toArray, List.map_cons, List.map_nil]); first | done | rfl | (simp only [List.length_drop, List.length_take]; rfl)) ?_; (with_reducible refine (layout_At.calls kj3 a0_0 a0_1 a0_2 a0_3 a0_4 a0_5 a0_6 a0_7 a0_8 a0_9 t478 t479 t480 t481 _ A14.out).mono ?_); rintro e w22 ⟨rfl, hb⟩; refine ⟨_, rfl, ?_⟩; have n0_ := Aside0.mk (blk_below (g := gb474) (o := .cells #[.int .i64 a0_0, .int .i64 a0_1, .int .i64 a0_2, .int .i64 a0_3, .int .i64 a0_4, .int .i64 a0_5, .int .i64 a0_6, .int .i64 a0_7, .int .i64 a0_8, .int .i64 a0_9, .int .i64 a0_10, .int .i64 a0_11] 57 (0, 0)) (by (with_reducible repeat (first | refine blk_drewN ?_ _ | refine blk_drew ?_ | refine blk_alloc ?_ _)); exact BK474.out) hb); have n1_ := Aside0.mk (blk_below (g := gb476) (o := .cells #[.int .i64 a0_0, .int .i64 a0_1, .int .i64 a0_2, .int .i64 a0_3, .int .i64 a0_4, .int .i64 a0_5] 23 (0, 0)) (by (with_reducible repeat (first | refine blk_drewN ?_ _ | refine blk_drew ?_ | refine blk_alloc ?_ _)); exact BK476.out) hb); have n2_ := Aside0.mk (below_step (by repeat (first | (with_reducible first | exact HB.out | apply below_alloc | apply pw_below_drewN | apply below_drew1 | refine below_set ?_ GE474.out | refine below_set ?_ GE476.out) | exact HB.out)) hb); clear BK474; clear BK476; clear HB; have BK474 := n0_; have BK476 := n1_; have HB := n2_; clear n0_ n1_ n2_; (try clear hb); (try clear hb2); (try clear hk); (try clear hi)) | ((with_reducible refine gate_dst (N := 7) rfl ?_); refine box_event ?hg (N := 7) ?hd (cs := #[.int .i64 0, .int .i64 0, .int .i64 0]) (t := 59) ?hr ?_; (case hd => rfl); (case hg => rfl); (case hr => first | (go_simp; done) | (go_simp; rfl)); intro gb482 hg w23 hbox hb; have n0_ := Aside0.mk (blk_below (g := gb474) (o := .cells #[.int .i64 a0_0, .int .i64 a0_1, .int .i64 a0_2, .int .i64 a0_3, .int .i64 a0_4, .int .i64 a0_5, .int .i64 a0_6, .int .i64 a0_7, .int .i64 a0_8, .int .i64 a0_9, .int .i64 a0_10, .int .i64 a0_11] 57 (0, 0)) (by (with_reducible repeat (first | refine blk_drewN ?_ _ | refine blk_drew ?_ | refine blk_alloc ?_ _)); exact BK474.out) hb); have n1_ := Aside0.mk (blk_below (g := gb476) (o := .cells #[.int .i64 a0_0, .int .i64 a0_1, .int .i64 a0_2, .int .i64 a0_3, .int .i64 a0_4, .int .i64 a0_5] 23 (0, 0)) (by (with_reducible repeat (first | refine blk_drewN ?_ _ | refine blk_drew ?_ | refine blk_alloc ?_ _)); exact BK476.out) hb); have n2_ := Aside0.mk (below_step (by repeat (first | (with_reducible first | exact HB.out | apply below_alloc | apply pw_below_drewN | apply below_drew1 | refine below_set ?_ GE474.out | refine below_set ?_ GE476.out) | exact HB.out)) hb); have n3_ := Aside0.mk (hbox); have n4_ := Aside0.mk ((by rw [hg]; exact (below_size (by repeat (first | (with_reducible first | exact HB.out | apply below_alloc | apply pw_below_drewN | apply below_drew1 | refine below_set ?_ GE474.out | refine below_set ?_ GE476.out) | exact HB.out))) : w.heap.size ≤ gb482)); have n5_ := Aside0.mk ((by rw [hg]; exact (below_size (by repeat (first | (with_reducible first | exact HB.out | apply below_alloc | apply pw_below_drewN | apply below_drew1 | refine below_set ?_ GE474.out | refine below_set ?_ GE476.out) | exact HB.out))) : w.heap.size ≤ gb482)); have n6_ := Aside0.mk ((by rw [hg]; exact Nat.ne_of_lt (blk_lt (g := gb474) (o := .cells #[.int .i64 a0_0, .int .i64 a0_1, .int .i64 a0_2, .int .i64 a0_3, .int .i64 a0_4, .int .i64 a0_5, .int .i64 a0_6, .int .i64 a0_7, .int .i64 a0_8, .int .i64 a0_9, .int .i64 a0_10, .int .i64 a0_11] 57 (0, 0)) (by (with_reducible repeat (first | refine blk_drewN ?_ _ | refine blk_drew ?_ | refine blk_alloc ?_ _)); exact BK474.out)) : gb474 ≠ gb482)); have n7_ := Aside0.mk ((by rw [hg]; exact Nat.ne_of_gt (blk_lt (g := gb474) (o := .cells #[.int .i64 a0_0, .int .i64 a0_1, .int .i64 a0_2, .int .i64 a0_3, .int .i64 a0_4, .int .i64 a0_5, .int .i64 a0_6, .int .i64 a0_7, .int .i64 a0_8, .int .i64 a0_9, .int .i64 a0_10, .int .i64 a0_11] 57 (0, 0)) (by (with_reducible repeat (first | refine blk_drewN ?_ _ | refine blk_drew ?_ | refine blk_alloc ?_ _)); exact BK474.out)) : gb482 ≠ gb474)); have n8_ := Aside0.mk ((by rw [hg]; exact Nat.ne_of_lt (blk_lt (g := gb476) (o := .cells #[.int .i64 a0_0, .int .i64 a0_1, .int .i64 a0_2, .int .i64 a0_3, .int .i64 a0_4, .int .i64 a0_5] 23 (0, 0)) (by (with_reducible repeat (first | refine blk_drewN ?_ _ | refine blk_drew ?_ | refine blk_alloc ?_ _)); exact BK476.out)) : gb476 ≠ gb482)); have n9_ := Aside0.mk ((by rw [hg]; exact Nat.ne_of_gt (blk_lt (g := gb476) (o := .cells #[.int .i64 a0_0, .int .i64 a0_1, .int .i64 a0_2, .int .i64 a0_3, .int .i64 a0_4, .int .i64 a0_5] 23 (0, 0)) (by (with_reducible repeat (first | refine blk_drewN ?_ _ | refine blk_drew ?_ | refine blk_alloc ?_ _)); exact BK476.out)) : gb482 ≠ gb476)); clear BK474; clear BK476; clear HB; have BK474 := n0_; have BK476 := n1_; have HB := n2_; have BK482 := n3_; have GW482 := n4_; have GE482 := n5_; have NB474_482 := n6_; have NB482_474 := n7_; have NB476_482 := n8_; have NB482_476 := n9_; clear n0_ n1_ n2_ n3_ n4_ n5_ n6_ n7_ n8_ n9_; clear hb hbox hg; have hnb24 := NB482_474.out; have hnc24 := NB474_482.out; have hnb25 := NB482_476.out; have hnc25 := NB476_482.out; have hcz26_0 : w23.cell? ⟨gb482, 0, none⟩ = some (.int .i64 0) := (blk_cell BK482.out 0).trans rfl; have hcz26_1 : w23.cell? ⟨gb482, 1, none⟩ = some (.int .i64 0) := (blk_cell BK482.out 1).trans rfl; have hcz26_2 : w23.cell? ⟨gb482, 2, none⟩ = some (.int .i64 0) := (blk_cell BK482.out 2).trans rfl; have hfz26_0 := blk_frozen BK482.out 0; have hfz26_1 := blk_frozen BK482.out 1; have hfz26_2 := blk_frozen BK482.out 2; have hcz27_0 : w23.cell? ⟨gb476, 0, none⟩ = some (.int .i64 a0_0) := (blk_cell BK476.out 0).trans rfl; have hcz27_1 : w23.cell? ⟨gb476, 1, none⟩ = some (.int .i64 a0_1) := (blk_cell BK476.out 1).trans rfl; have hcz27_2 : w23.cell? ⟨gb476, 2, none⟩ = some (.int .i64 a0_2) := (blk_cell BK476.out 2).trans rfl; have hcz27_3 : w23.cell? ⟨gb476, 3, none⟩ = some (.int .i64 a0_3) := (blk_cell BK476.out 3).trans rfl; have hcz27_4 : w23.cell? ⟨gb476, 4, none⟩ = some (.int .i64 a0_4) := (blk_cell BK476.out 4).trans rfl; have hcz27_5 : w23.cell? ⟨gb476, 5, none⟩ = some (.int .i64 a0_5) := (blk_cell BK476.out 5).trans rfl; have hfz27_0 := blk_frozen BK476.out 0; have hfz27_1 := blk_frozen BK476.out 1; have hfz27_2 := blk_frozen BK476.out 2; have hfz27_3 := blk_frozen BK476.out 3; have hfz27_4 := blk_frozen BK476.out 4; have hfz27_5 := blk_frozen BK476.out 5; have hcz28_0 : w23.cell? ⟨gb474, 0, none⟩ = some (.int .i64 a0_0) := (blk_cell BK474.out 0).trans rfl; have hcz28_1 : w23.cell? ⟨gb474, 1, none⟩ = some (.int .i64 a0_1) := (blk_cell BK474.out 1).trans rfl; have hcz28_2 : w23.cell? ⟨gb474, 2, none⟩ = some (.int .i64 a0_2) := (blk_cell BK474.out 2).trans rfl; have hcz28_3 : w23.cell? ⟨gb474, 3, none⟩ = some (.int .i64 a0_3) := (blk_cell BK474.out 3).trans rfl; have hcz28_4 : w23.cell? ⟨gb474, 4, none⟩ = some (.int .i64 a0_4) := (blk_cell BK474.out 4).trans rfl; have hcz28_5 : w23.cell? ⟨gb474, 5, none⟩ = some (.int .i64 a0_5) := (blk_cell BK474.out 5).trans rfl; have hcz28_6 : w23.cell? ⟨gb474, 6, none⟩ = some (.int .i64 a0_6) := (blk_cell BK474.out 6).trans rfl; have hcz28_7 : w23.cell? ⟨gb474, 7, none⟩ = some (.int .i64 a0_7) := (blk_cell BK474.out 7).trans rfl; have hcz28_8 : w23.cell? ⟨gb474, 8, none⟩ = some (.int .i64 a0_8) := (blk_cell BK474.out 8).trans rfl; have hcz28_9 : w23.cell? ⟨gb474, 9, none⟩ = some (.int .i64 a0_9) := (blk_cell BK474.out 9).trans rfl; have hcz28_10 : w23.cell? ⟨gb474, 10, none⟩ = some (.int .i64 a0_10) := (blk_cell BK474.out 10).trans rfl; have hcz28_11 : w23.cell? ⟨gb474, 11, none⟩ = some (.int .i64 a0_11) := (blk_cell BK474.out 11).trans rfl; have hfz28_0 := blk_frozen BK474.out 0; have hfz28_1 := blk_frozen BK474.out 1; have hfz28_2 := blk_frozen BK474.out 2; have hfz28_3 := blk_frozen BK474.out 3; have hfz28_4 := blk_frozen BK474.out 4; have hfz28_5 := blk_frozen BK474.out 5; have hfz28_6 := blk_frozen BK474.out 6; have hfz28_7 := blk_frozen BK474.out 7; have hfz28_8 := blk_frozen BK474.out 8; have hfz28_9 := blk_frozen BK474.out 9; have hfz28_10 := blk_frozen BK474.out 10; have hfz28_11 := blk_frozen BK474.out 11) | ((with_reducible refine gate_callee (f := 39) rfl ?_); refine goesL_ (some 44) rfl rfl Try.func39 (by kernel_rfl) rfl #[.agg #[.int .i64 a0_0, .int .i64 a0_1, .int .i64 a0_2, .int .i64 a0_3, .int .i64 a0_4, .int .i64 a0_5], .int .i64 a0_6, .agg #[.int .i64 a0_7, .int .i64 a0_8, .int .i64 a0_9]] rfl (by (try simp only [List.map_toArray, List.map_cons, List.map_nil]); first | done | rfl | (simp only [List.length_drop, List.length_take]; rfl)) ?_; (with_reducible refine (solventref14_At.calls kj3 a0_0 a0_1 a0_2 a0_3 a0_4 a0_5 a0_6 a0_7 a0_8 a0_9 t483 t484 t485 t486 _ A15.out).mono ?_); rintro e w29 ⟨rfl, hb⟩; refine ⟨_, rfl, ?_⟩; have n0_ := Aside0.mk (blk_below (g := gb474) (o := .cells #[.int .i64 a0_0, .int .i64 a0_1, .int .i64 a0_2, .int .i64 a0_3, .int .i64 a0_4, .int .i64 a0_5, .int .i64 a0_6, .int .i64 a0_7, .int .i64 a0_8, .int .i64 a0_9, .int .i64 a0_10, .int .i64 a0_11] 57 (0, 0)) (by (with_reducible repeat (first | refine blk_drewN ?_ _ | refine blk_drew ?_ | refine blk_alloc ?_ _)); refine blk_far ?_ NB474_482.out _; (with_reducible repeat (first | refine blk_drewN ?_ _ | refine blk_drew ?_ | refine blk_alloc ?_ _)); refine blk_far ?_ NB474_482.out _; (with_reducible repeat (first | refine blk_drewN ?_ _ | refine blk_drew ?_ | refine blk_alloc ?_ _)); refine blk_far ?_ NB474_482.out _; (with_reducible repeat (first | refine blk_drewN ?_ _ | refine blk_drew ?_ | refine blk_alloc ?_ _)); exact BK474.out) hb); have n1_ := Aside0.mk (blk_below (g := gb476) (o := .cells #[.int .i64 a0_0, .int .i64 a0_1, .int .i64 a0_2, .int .i64 a0_3, .int .i64 a0_4, .int .i64 a0_5] 23 (0, 0)) (by (with_reducible repeat (first | refine blk_drewN ?_ _ | refine blk_drew ?_ | refine blk_alloc ?_ _)); refine blk_far ?_ NB476_482.out _; (with_reducible repeat (first | refine blk_drewN ?_ _ | refine blk_drew ?_ | refine blk_alloc ?_ _)); refine blk_far ?_ NB476_482.out _; (with_reducible repeat (first | refine blk_drewN ?_ _ | refine blk_drew ?_ | refine blk_alloc ?_ _)); refine blk_far ?_ NB476_482.out _; (with_reducible repeat (first | refine blk_drewN ?_ _ | refine blk_drew ?_ | refine blk_alloc ?_ _)); exact BK476.out) hb); have n2_ := Aside0.mk (blk_below (g := gb482) (o := .cells #[.int .i64 t478, .int .i64 t479, .int .i64 t480] 59 (0, 0)) (by (with_reducible repeat (first | refine blk_drewN ?_ _ | refine blk_drew ?_ | refine blk_alloc ?_ _)); refine blk_put (cs := #[.int .i64 t478, .int .i64 t479, .int .i64 0]) ?_ 2 _ rfl; (with_reducible repeat (first | refine blk_drewN ?_ _ | refine blk_drew ?_ | refine blk_alloc ?_ _)); refine blk_put (cs := #[.int .i64 t478, .int .i64 0, .int .i64 0]) ?_ 1 _ rfl; (with_reducible repeat (first | refine blk_drewN ?_ _ | refine blk_drew ?_ | refine blk_alloc ?_ _)); refine blk_put (cs := #[.int .i64 0, .int .i64 0, .int .i64 0]) ?_ 0 _ rfl; (with_reducible repeat (first | refine blk_drewN ?_ _ | refine blk_drew ?_ | refine blk_alloc ?_ _)); exact BK482.out) hb); have n3_ := Aside0.mk (below_step (by repeat (first | (with_reducible first | exact HB.out | apply below_alloc | apply pw_below_drewN | apply below_drew1 | refine below_set ?_ GE474.out | refine below_set ?_ GE476.out | refine below_set ?_ GE482.out) | exact HB.out)) hb); clear BK474; clear BK476; clear BK482; clear HB; have BK474 := n0_; have BK476 := n1_; have BK482 := n2_; have HB := n3_; clear n0_ n1_ n2_ n3_; (try clear hb); (try clear hb2); (try clear hk); (try clear hi)) | ((with_reducible refine gate_dst (N := 9) rfl ?_); refine box_event ?hg (N := 9) ?hd (cs := #[.int .i64 0, .int .i64 0, .int .i64 0]) (t := 59) ?hr ?_; (case hd => rfl); (case hg => rfl); (case hr => first | (go_simp; done) | (go_simp; rfl)); intro gb487 hg w30 hbox hb; have n0_ := Aside0.mk (blk_below (g := gb474) (o := .cells #[.int .i64 a0_0, .int .i64 a0_1, .int .i64 a0_2, .int .i64 a0_3, .int .i64 a0_4, .int .i64 a0_5, .int .i64 a0_6, .int .i64 a0_7, .int .i64 a0_8, .int .i64 a0_9, .int .i64 a0_10, .int .i64 a0_11] 57 (0, 0)) (by (with_reducible repeat (first | refine blk_drewN ?_ _ | refine blk_drew ?_ | refine blk_alloc ?_ _)); exact BK474.out) hb); have n1_ := Aside0.mk (blk_below (g := gb476) (o := .cells #[.int .i64 a0_0, .int .i64 a0_1, .int .i64 a0_2, .int .i64 a0_3, .int .i64 a0_4, .int .i64 a0_5] 23 (0, 0)) (by (with_reducible repeat (first | refine blk_drewN ?_ _ | refine blk_drew ?_ | refine blk_alloc ?_ _)); exact BK476.out) hb); have n2_ := Aside0.mk (blk_below (g := gb482) (o := .cells #[.int .i64 t478, .int .i64 t479, .int .i64 t480] 59 (0, 0)) (by (with_reducible repeat (first | refine blk_drewN ?_ _ | refine blk_drew ?_ | refine blk_alloc ?_ _)); exact BK482.out) hb); have n3_ := Aside0.mk (below_step (by repeat (first | (with_reducible first | exact HB.out | apply below_alloc | apply pw_below_drewN | apply below_drew1 | refine below_set ?_ GE474.out | refine below_set ?_ GE476.out | refine below_set ?_ GE482.out) | exact HB.out)) hb); have n4_ := Aside0.mk (hbox); have n5_ := Aside0.mk ((by rw [hg]; exact (below_size (by repeat (first | (with_reducible first | exact HB.out | apply below_alloc | apply pw_below_drewN | apply below_drew1 | refine below_set ?_ GE474.out | refine below_set ?_ GE476.out | refine below_set ?_ GE482.out) | exact HB.out))) : w.heap.size ≤ gb487)); have n6_ := Aside0.mk ((by rw [hg]; exact (below_size (by repeat (first | (with_reducible first | exact HB.out | apply below_alloc | apply pw_below_drewN | apply below_drew1 | refine below_set ?_ GE474.out | refine below_set ?_ GE476.out | refine below_set ?_ GE482.out) | exact HB.out))) : w.heap.size ≤ gb487)); have n7_ := Aside0.mk ((by rw [hg]; exact Nat.ne_of_lt (blk_lt (g := gb474) (o := .cells #[.int .i64 a0_0, .int .i64 a0_1, .int .i64 a0_2, .int .i64 a0_3, .int .i64 a0_4, .int .i64 a0_5, .int .i64 a0_6, .int .i64 a0_7, .int .i64 a0_8, .int .i64 a0_9, .int .i64 a0_10, .int .i64 a0_11] 57 (0, 0)) (by (with_reducible repeat (first | refine blk_drewN ?_ _ | refine blk_drew ?_ | refine blk_alloc ?_ _)); exact BK474.out)) : gb474 ≠ gb487)); have n8_ := Aside0.mk ((by rw [hg]; exact Nat.ne_of_gt (blk_lt (g := gb474) (o := .cells #[.int .i64 a0_0, .int .i64 a0_1, .int .i64 a0_2, .int .i64 a0_3, .int .i64 a0_4, .int .i64 a0_5, .int .i64 a0_6, .int .i64 a0_7, .int .i64 a0_8, .int .i64 a0_9, .int .i64 a0_10, .int .i64 a0_11] 57 (0, 0)) (by (with_reducible repeat (first | refine blk_drewN ?_ _ | refine blk_drew ?_ | refine blk_alloc ?_ _)); exact BK474.out)) : gb487 ≠ gb474)); have n9_ := Aside0.mk ((by rw [hg]; exact Nat.ne_of_lt (blk_lt (g := gb476) (o := .cells #[.int .i64 a0_0, .int .i64 a0_1, .int .i64 a0_2, .int .i64 a0_3, .int .i64 a0_4, .int .i64 a0_5] 23 (0, 0)) (by (with_reducible repeat (first | refine blk_drewN ?_ _ | refine blk_drew ?_ | refine blk_alloc ?_ _)); exact BK476.out)) : gb476 ≠ gb487)); have n10_ := Aside0.mk ((by rw [hg]; exact Nat.ne_of_gt (blk_lt (g := gb476) (o := .cells #[.int .i64 a0_0, .int .i64 a0_1, .int .i64 a0_2, .int .i64 a0_3, .int .i64 a0_4, .int .i64 a0_5] 23 (0, 0)) (by (with_reducible repeat (first | refine blk_drewN ?_ _ | refine blk_drew ?_ | refine blk_alloc ?_ _)); exact BK476.out)) : gb487 ≠ gb476)); have n11_ := Aside0.mk ((by rw [hg]; exact Nat.ne_of_lt (blk_lt (g := gb482) (o := .cells #[.int .i64 t478, .int .i64 t479, .int .i64 t480] 59 (0, 0)) (by (with_reducible repeat (first | refine blk_drewN ?_ _ | refine blk_drew ?_ | refine blk_alloc ?_ _)); exact BK482.out)) : gb482 ≠ gb487)); have n12_ := Aside0.mk ((by rw [hg]; exact Nat.ne_of_gt (blk_lt (g := gb482) (o := .cells #[.int .i64 t478, .int .i64 t479, .int .i64 t480] 59 (0, 0)) (by (with_reducible repeat (first | refine blk_drewN ?_ _ | refine blk_drew ?_ | refine blk_alloc ?_ _)); exact BK482.out)) : gb487 ≠ gb482)); clear BK474; clear BK476; clear BK482; clear HB; have BK474 := n0_; have BK476 := n1_; have BK482 := n2_; have HB := n3_; have BK487 := n4_; have GW487 := n5_; have GE487 := n6_; have NB474_487 := n7_; have NB487_474 := n8_; have NB476_487 := n9_; have NB487_476 := n10_; have NB482_487 := n11_; have NB487_482 := n12_; clear n0_ n1_ n2_ n3_ n4_ n5_ n6_ n7_ n8_ n9_ n10_ n11_ n12_; clear hb hbox hg; have hnb31 := NB487_474.out; have hnc31 := NB474_487.out; have hnb32 := NB487_476.out; have hnc32 := NB476_487.out; have hnb33 := NB487_482.out; have hnc33 := NB482_487.out; have hcz34_0 : w30.cell? ⟨gb487, 0, none⟩ = some (.int .i64 0) := (blk_cell BK487.out 0).trans rfl; have hcz34_1 : w30.cell? ⟨gb487, 1, none⟩ = some (.int .i64 0) := (blk_cell BK487.out 1).trans rfl; have hcz34_2 : w30.cell? ⟨gb487, 2, none⟩ = some (.int .i64 0) := (blk_cell BK487.out 2).trans rfl; have hfz34_0 := blk_frozen BK487.out 0; have hfz34_1 := blk_frozen BK487.out 1; have hfz34_2 := blk_frozen BK487.out 2; have hcz35_0 : w30.cell? ⟨gb476, 0, none⟩ = some (.int .i64 a0_0) := (blk_cell BK476.out 0).trans rfl; have hcz35_1 : w30.cell? ⟨gb476, 1, none⟩ = some (.int .i64 a0_1) := (blk_cell BK476.out 1).trans rfl; have hcz35_2 : w30.cell? ⟨gb476, 2, none⟩ = some (.int .i64 a0_2) := (blk_cell BK476.out 2).trans rfl; have hcz35_3 : w30.cell? ⟨gb476, 3, none⟩ = some (.int .i64 a0_3) := (blk_cell BK476.out 3).trans rfl; have hcz35_4 : w30.cell? ⟨gb476, 4, none⟩ = some (.int .i64 a0_4) := (blk_cell BK476.out 4).trans rfl; have hcz35_5 : w30.cell? ⟨gb476, 5, none⟩ = some (.int .i64 a0_5) := (blk_cell BK476.out 5).trans rfl; have hfz35_0 := blk_frozen BK476.out 0; have hfz35_1 := blk_frozen BK476.out 1; have hfz35_2 := blk_frozen BK476.out 2; have hfz35_3 := blk_frozen BK476.out 3; have hfz35_4 := blk_frozen BK476.out 4; have hfz35_5 := blk_frozen BK476.out 5; have hcz36_0 : w30.cell? ⟨gb474, 0, none⟩ = some (.int .i64 a0_0) := (blk_cell BK474.out 0).trans rfl; have hcz36_1 : w30.cell? ⟨gb474, 1, none⟩ = some (.int .i64 a0_1) := (blk_cell BK474.out 1).trans rfl; have hcz36_2 : w30.cell? ⟨gb474, 2, none⟩ = some (.int .i64 a0_2) := (blk_cell BK474.out 2).trans rfl; have hcz36_3 : w30.cell? ⟨gb474, 3, none⟩ = some (.int .i64 a0_3) := (blk_cell BK474.out 3).trans rfl; have hcz36_4 : w30.cell? ⟨gb474, 4, none⟩ = some (.int .i64 a0_4) := (blk_cell BK474.out 4).trans rfl; have hcz36_5 : w30.cell? ⟨gb474, 5, none⟩ = some (.int .i64 a0_5) := (blk_cell BK474.out 5).trans rfl; have hcz36_6 : w30.cell? ⟨gb474, 6, none⟩ = some (.int .i64 a0_6) := (blk_cell BK474.out 6).trans rfl; have hcz36_7 : w30.cell? ⟨gb474, 7, none⟩ = some (.int .i64 a0_7) := (blk_cell BK474.out 7).trans rfl; have hcz36_8 : w30.cell? ⟨gb474, 8, none⟩ = some (.int .i64 a0_8) := (blk_cell BK474.out 8).trans rfl; have hcz36_9 : w30.cell? ⟨gb474, 9, none⟩ = some (.int .i64 a0_9) := (blk_cell BK474.out 9).trans rfl; have hcz36_10 : w30.cell? ⟨gb474, 10, none⟩ = some (.int .i64 a0_10) := (blk_cell BK474.out 10).trans rfl; have hcz36_11 : w30.cell? ⟨gb474, 11, none⟩ = some (.int .i64 a0_11) := (blk_cell BK474.out 11).trans rfl; have hfz36_0 := blk_frozen BK474.out 0; have hfz36_1 := blk_frozen BK474.out 1; have hfz36_2 := blk_frozen BK474.out 2; have hfz36_3 := blk_frozen BK474.out 3; have hfz36_4 := blk_frozen BK474.out 4; have hfz36_5 := blk_frozen BK474.out 5; have hfz36_6 := blk_frozen BK474.out 6; have hfz36_7 := blk_frozen BK474.out 7; have hfz36_8 := blk_frozen BK474.out 8; have hfz36_9 := blk_frozen BK474.out 9; have hfz36_10 := blk_frozen BK474.out 10; have hfz36_11 := blk_frozen BK474.out 11) | ((with_reducible refine gate_callee (f := 31) rfl ?_); refine goesL_ (some 53) rfl rfl Try.func31 (by kernel_rfl) rfl #[.agg #[.int .i64 a0_0, .int .i64 a0_1, .int .i64 a0_2, .int .i64 a0_3, .int .i64 a0_4, .int .i64 a0_5], .int .i64 a0_7, .int .i64 a0_6, .int .i64 a0_10] rfl (by (try simp only [List.map_toArray, List.map_cons, List.map_nil]); first | done | rfl | (simp only [List.length_drop, List.length_take]; rfl)) ?_; (with_reducible refine (layout_Find.calls kj3 a0_0 a0_1 a0_2 a0_3 a0_4 a0_5 a0_7 a0_6 a0_10 t488 t489 t490 t491 _ A16.out).mono ?_); rintro e w37 ⟨rfl, hb⟩; refine ⟨_, rfl, ?_⟩; have n0_ := Aside0.mk (blk_below (g := gb474) (o := .cells #[.int .i64 a0_0, .int .i64 a0_1, .int .i64 a0_2, .int .i64 a0_3, .int .i64 a0_4, .int .i64 a0_5, .int .i64 a0_6, .int .i64 a0_7, .int .i64 a0_8, .int .i64 a0_9, .int .i64 a0_10, .int .i64 a0_11] 57 (0, 0)) (by (with_reducible repeat (first | refine blk_drewN ?_ _ | refine blk_drew ?_ | refine blk_alloc ?_ _)); refine blk_far ?_ NB474_487.out _; (with_reducible repeat (first | refine blk_drewN ?_ _ | refine blk_drew ?_ | refine blk_alloc ?_ _)); refine blk_far ?_ NB474_487.out _; (with_reducible repeat (first | refine blk_drewN ?_ _ | refine blk_drew ?_ | refine blk_alloc ?_ _)); refine blk_far ?_ NB474_487.out _; (with_reducible repeat (first | refine blk_drewN ?_ _ | refine blk_drew ?_ | refine blk_alloc ?_ _)); exact BK474.out) hb); have n1_ := Aside0.mk (blk_below (g := gb476) (o := .cells #[.int .i64 a0_0, .int .i64 a0_1, .int .i64 a0_2, .int .i64 a0_3, .int .i64 a0_4, .int .i64 a0_5] 23 (0, 0)) (by (with_reducible repeat (first | refine blk_drewN ?_ _ | refine blk_drew ?_ | refine blk_alloc ?_ _)); refine blk_far ?_ NB476_487.out _; (with_reducible repeat (first | refine blk_drewN ?_ _ | refine blk_drew ?_ | refine blk_alloc ?_ _)); refine blk_far ?_ NB476_487.out _; (with_reducible repeat (first | refine blk_drewN ?_ _ | refine blk_drew ?_ | refine blk_alloc ?_ _)); refine blk_far ?_ NB476_487.out _; (with_reducible repeat (first | refine blk_drewN ?_ _ | refine blk_drew ?_ | refine blk_alloc ?_ _)); exact BK476.out) hb); have n2_ := Aside0.mk (blk_below (g := gb482) (o := .cells #[.int .i64 t478, .int .i64 t479, .int .i64 t480] 59 (0, 0)) (by (with_reducible repeat (first | refine blk_drewN ?_ _ | refine blk_drew ?_ | refine blk_alloc ?_ _)); refine blk_far ?_ NB482_487.out _; (with_reducible repeat (first | refine blk_drewN ?_ _ | refine blk_drew ?_ | refine blk_alloc ?_ _)); refine blk_far ?_ NB482_487.out _; (with_reducible repeat (first | refine blk_drewN ?_ _ | refine blk_drew ?_ | refine blk_alloc ?_ _)); refine blk_far ?_ NB482_487.out _; (with_reducible repeat (first | refine blk_drewN ?_ _ | refine blk_drew ?_ | refine blk_alloc ?_ _)); exact BK482.out) hb); have n3_ := Aside0.mk (blk_below (g := gb487) (o := .cells #[.int .i64 t483, .int .i64 t484, .int .i64 t485] 59 (0, 0)) (by (with_reducible repeat (first | refine blk_drewN ?_ _ | refine blk_drew ?_ | refine blk_alloc ?_ _)); refine blk_put (cs := #[.int .i64 t483, .int .i64 t484, .int .i64 0]) ?_ 2 _ rfl; (with_reducible repeat (first | refine blk_drewN ?_ _ | refine blk_drew ?_ | refine blk_alloc ?_ _)); refine blk_put (cs := #[.int .i64 t483, .int .i64 0, .int .i64 0]) ?_ 1 _ rfl; (with_reducible repeat (first | refine blk_drewN ?_ _ | refine blk_drew ?_ | refine blk_alloc ?_ _)); refine blk_put (cs := #[.int .i64 0, .int .i64 0, .int .i64 0]) ?_ 0 _ rfl; (with_reducible repeat (first | refine blk_drewN ?_ _ | refine blk_drew ?_ | refine blk_alloc ?_ _)); exact BK487.out) hb); have n4_ := Aside0.mk (below_step (by repeat (first | (with_reducible first | exact HB.out | apply below_alloc | apply pw_below_drewN | apply below_drew1 | refine below_set ?_ GE474.out | refine below_set ?_ GE476.out | refine below_set ?_ GE482.out | refine below_set ?_ GE487.out) | exact HB.out)) hb); clear BK474; clear BK476; clear BK482; clear BK487; clear HB; have BK474 := n0_; have BK476 := n1_; have BK482 := n2_; have BK487 := n3_; have HB := n4_; clear n0_ n1_ n2_ n3_ n4_; (try clear hb); (try clear hb2); (try clear hk); (try clear hi)) | ((with_reducible refine gate_dst (N := 11) rfl ?_); refine box_event ?hg (N := 11) ?hd (cs := #[.int .i64 0, .int .i64 0, .int .i64 0]) (t := 45) ?hr ?_; (case hd => rfl); (case hg => rfl); (case hr => first | (go_simp; done) | (go_simp; rfl)); intro gb492 hg w38 hbox hb; have n0_ := Aside0.mk (blk_below (g := gb474) (o := .cells #[.int .i64 a0_0, .int .i64 a0_1, .int .i64 a0_2, .int .i64 a0_3, .int .i64 a0_4, .int .i64 a0_5, .int .i64 a0_6, .int .i64 a0_7, .int .i64 a0_8, .int .i64 a0_9, .int .i64 a0_10, .int .i64 a0_11] 57 (0, 0)) (by (with_reducible repeat (first | refine blk_drewN ?_ _ | refine blk_drew ?_ | refine blk_alloc ?_ _)); exact BK474.out) hb); have n1_ := Aside0.mk (blk_below (g := gb476) (o := .cells #[.int .i64 a0_0, .int .i64 a0_1, .int .i64 a0_2, .int .i64 a0_3, .int .i64 a0_4, .int .i64 a0_5] 23 (0, 0)) (by (with_reducible repeat (first | refine blk_drewN ?_ _ | refine blk_drew ?_ | refine blk_alloc ?_ _)); exact BK476.out) hb); have n2_ := Aside0.mk (blk_below (g := gb482) (o := .cells #[.int .i64 t478, .int .i64 t479, .int .i64 t480] 59 (0, 0)) (by (with_reducible repeat (first | refine blk_drewN ?_ _ | refine blk_drew ?_ | refine blk_alloc ?_ _)); exact BK482.out) hb); have n3_ := Aside0.mk (blk_below (g := gb487) (o := .cells #[.int .i64 t483, .int .i64 t484, .int .i64 t485] 59 (0, 0)) (by (with_reducible repeat (first | refine blk_drewN ?_ _ | refine blk_drew ?_ | refine blk_alloc ?_ _)); exact BK487.out) hb); have n4_ := Aside0.mk (below_step (by repeat (first | (with_reducible first | exact HB.out | apply below_alloc | apply pw_below_drewN | apply below_drew1 | refine below_set ?_ GE474.out | refine below_set ?_ GE476.out | refine below_set ?_ GE482.out | refine below_set ?_ GE487.out) | exact HB.out)) hb); have n5_ := Aside0.mk (hbox); have n6_ := Aside0.mk ((by rw [hg]; exact (below_size (by repeat (first | (with_reducible first | exact HB.out | apply below_alloc | apply pw_below_drewN | apply below_drew1 | refine below_set ?_ GE474.out | refine below_set ?_ GE476.out | refine below_set ?_ GE482.out | refine below_set ?_ GE487.out) | exact HB.out))) : w.heap.size ≤ gb492)); have n7_ := Aside0.mk ((by rw [hg]; exact (below_size (by repeat (first | (with_reducible first | exact HB.out | apply below_alloc | apply pw_below_drewN | apply below_drew1 | refine below_set ?_ GE474.out | refine below_set ?_ GE476.out | refine below_set ?_ GE482.out | refine below_set ?_ GE487.out) | exact HB.out))) : w.heap.size ≤ gb492)); have n8_ := Aside0.mk ((by rw [hg]; exact Nat.ne_of_lt (blk_lt (g := gb474) (o := .cells #[.int .i64 a0_0, .int .i64 a0_1, .int .i64 a0_2, .int .i64 a0_3, .int .i64 a0_4, .int .i64 a0_5, .int .i64 a0_6, .int .i64 a0_7, .int .i64 a0_8, .int .i64 a0_9, .int .i64 a0_10, .int .i64 a0_11] 57 (0, 0)) (by (with_reducible repeat (first | refine blk_drewN ?_ _ | refine blk_drew ?_ | refine blk_alloc ?_ _)); exact BK474.out)) : gb474 ≠ gb492)); have n9_ := Aside0.mk ((by rw [hg]; exact Nat.ne_of_gt (blk_lt (g := gb474) (o := .cells #[.int .i64 a0_0, .int .i64 a0_1, .int .i64 a0_2, .int .i64 a0_3, .int .i64 a0_4, .int .i64 a0_5, .int .i64 a0_6, .int .i64 a0_7, .int .i64 a0_8, .int .i64 a0_9, .int .i64 a0_10, .int .i64 a0_11] 57 (0, 0)) (by (with_reducible repeat (first | refine blk_drewN ?_ _ | refine blk_drew ?_ | refine blk_alloc ?_ _)); exact BK474.out)) : gb492 ≠ gb474)); have n10_ := Aside0.mk ((by rw [hg]; exact Nat.ne_of_lt (blk_lt (g := gb476) (o := .cells #[.int .i64 a0_0, .int .i64 a0_1, .int .i64 a0_2, .int .i64 a0_3, .int .i64 a0_4, .int .i64 a0_5] 23 (0, 0)) (by (with_reducible repeat (first | refine blk_drewN ?_ _ | refine blk_drew ?_ | refine blk_alloc ?_ _)); exact BK476.out)) : gb476 ≠ gb492)); have n11_ := Aside0.mk ((by rw [hg]; exact Nat.ne_of_gt (blk_lt (g := gb476) (o := .cells #[.int .i64 a0_0, .int .i64 a0_1, .int .i64 a0_2, .int .i64 a0_3, .int .i64 a0_4, .int .i64 a0_5] 23 (0, 0)) (by (with_reducible repeat (first | refine blk_drewN ?_ _ | refine blk_drew ?_ | refine blk_alloc ?_ _)); exact BK476.out)) : gb492 ≠ gb476)); have n12_ := Aside0.mk ((by rw [hg]; exact Nat.ne_of_lt (blk_lt (g := gb482) (o := .cells #[.int .i64 t478, .int .i64 t479, .int .i64 t480] 59 (0, 0)) (by (with_reducible repeat (first | refine blk_drewN ?_ _ | refine blk_drew ?_ | refine blk_alloc ?_ _)); exact BK482.out)) : gb482 ≠ gb492)); have n13_ := Aside0.mk ((by rw [hg]; exact Nat.ne_of_gt (blk_lt (g := gb482) (o := .cells #[.int .i64 t478, .int .i64 t479, .int .i64 t480] 59 (0, 0)) (by (with_reducible repeat (first | refine blk_drewN ?_ _ | refine blk_drew ?_ | refine blk_alloc ?_ _)); exact BK482.out)) : gb492 ≠ gb482)); have n14_ := Aside0.mk ((by rw [hg]; exact Nat.ne_of_lt (blk_lt (g := gb487) (o := .cells #[.int .i64 t483, .int .i64 t484, .int .i64 t485] 59 (0, 0)) (by (with_reducible repeat (first | refine blk_drewN ?_ _ | refine blk_drew ?_ | refine blk_alloc ?_ _)); exact BK487.out)) : gb487 ≠ gb492)); have n15_ := Aside0.mk ((by rw [hg]; exact Nat.ne_of_gt (blk_lt (g := gb487) (o := .cells #[.int .i64 t483, .int .i64 t484, .int .i64 t485] 59 (0, 0)) (by (with_reducible repeat (first | refine blk_drewN ?_ _ | refine blk_drew ?_ | refine blk_alloc ?_ _)); exact BK487.out)) : gb492 ≠ gb487)); clear BK474; clear BK476; clear BK482; clear BK487; clear HB; have BK474 := n0_; have BK476 := n1_; have BK482 := n2_; have BK487 := n3_; have HB := n4_; have BK492 := n5_; have GW492 := n6_; have GE492 := n7_; have NB474_492 := n8_; have NB492_474 := n9_; have NB476_492 := n10_; have NB492_476 := n11_; have NB482_492 := n12_; have NB492_482 := n13_; have NB487_492 := n14_; have NB492_487 := n15_; clear n0_ n1_ n2_ n3_ n4_ n5_ n6_ n7_ n8_ n9_ n10_ n11_ n12_ n13_ n14_ n15_; clear hb hbox hg; have hnb39 := NB492_474.out; have hnc39 := NB474_492.out; have hnb40 := NB492_476.out; have hnc40 := NB476_492.out; have hnb41 := NB492_482.out; have hnc41 := NB482_492.out; have hnb42 := NB492_487.out; have hnc42 := NB487_492.out; have hcz43_0 : w38.cell? ⟨gb492, 0, none⟩ = some (.int .i64 0) := (blk_cell BK492.out 0).trans rfl; have hcz43_1 : w38.cell? ⟨gb492, 1, none⟩ = some (.int .i64 0) := (blk_cell BK492.out 1).trans rfl; have hcz43_2 : w38.cell? ⟨gb492, 2, none⟩ = some (.int .i64 0) := (blk_cell BK492.out 2).trans rfl; have hfz43_0 := blk_frozen BK492.out 0; have hfz43_1 := blk_frozen BK492.out 1; have hfz43_2 := blk_frozen BK492.out 2; have hcz44_0 : w38.cell? ⟨gb476, 0, none⟩ = some (.int .i64 a0_0) := (blk_cell BK476.out 0).trans rfl; have hcz44_1 : w38.cell? ⟨gb476, 1, none⟩ = some (.int .i64 a0_1) := (blk_cell BK476.out 1).trans rfl; have hcz44_2 : w38.cell? ⟨gb476, 2, none⟩ = some (.int .i64 a0_2) := (blk_cell BK476.out 2).trans rfl; have hcz44_3 : w38.cell? ⟨gb476, 3, none⟩ = some (.int .i64 a0_3) := (blk_cell BK476.out 3).trans rfl; have hcz44_4 : w38.cell? ⟨gb476, 4, none⟩ = some (.int .i64 a0_4) := (blk_cell BK476.out 4).trans rfl; have hcz44_5 : w38.cell? ⟨gb476, 5, none⟩ = some (.int .i64 a0_5) := (blk_cell BK476.out 5).trans rfl; have hfz44_0 := blk_frozen BK476.out 0; have hfz44_1 := blk_frozen BK476.out 1; have hfz44_2 := blk_frozen BK476.out 2; have hfz44_3 := blk_frozen BK476.out 3; have hfz44_4 := blk_frozen BK476.out 4; have hfz44_5 := blk_frozen BK476.out 5; have hcz45_0 : w38.cell? ⟨gb474, 0, none⟩ = some (.int .i64 a0_0) := (blk_cell BK474.out 0).trans rfl; have hcz45_1 : w38.cell? ⟨gb474, 1, none⟩ = some (.int .i64 a0_1) := (blk_cell BK474.out 1).trans rfl; have hcz45_2 : w38.cell? ⟨gb474, 2, none⟩ = some (.int .i64 a0_2) := (blk_cell BK474.out 2).trans rfl; have hcz45_3 : w38.cell? ⟨gb474, 3, none⟩ = some (.int .i64 a0_3) := (blk_cell BK474.out 3).trans rfl; have hcz45_4 : w38.cell? ⟨gb474, 4, none⟩ = some (.int .i64 a0_4) := (blk_cell BK474.out 4).trans rfl; have hcz45_5 : w38.cell? ⟨gb474, 5, none⟩ = some (.int .i64 a0_5) := (blk_cell BK474.out 5).trans rfl; have hcz45_6 : w38.cell? ⟨gb474, 6, none⟩ = some (.int .i64 a0_6) := (blk_cell BK474.out 6).trans rfl; have hcz45_7 : w38.cell? ⟨gb474, 7, none⟩ = some (.int .i64 a0_7) := (blk_cell BK474.out 7).trans rfl; have hcz45_8 : w38.cell? ⟨gb474, 8, none⟩ = some (.int .i64 a0_8) := (blk_cell BK474.out 8).trans rfl; have hcz45_9 : w38.cell? ⟨gb474, 9, none⟩ = some (.int .i64 a0_9) := (blk_cell BK474.out 9).trans rfl; have hcz45_10 : w38.cell? ⟨gb474, 10, none⟩ = some (.int .i64 a0_10) := (blk_cell BK474.out 10).trans rfl; have hcz45_11 : w38.cell? ⟨gb474, 11, none⟩ = some (.int .i64 a0_11) := (blk_cell BK474.out 11).trans rfl; have hfz45_0 := blk_frozen BK474.out 0; have hfz45_1 := blk_frozen BK474.out 1; have hfz45_2 := blk_frozen BK474.out 2; have hfz45_3 := blk_frozen BK474.out 3; have hfz45_4 := blk_frozen BK474.out 4; have hfz45_5 := blk_frozen BK474.out 5; have hfz45_6 := blk_frozen BK474.out 6; have hfz45_7 := blk_frozen BK474.out 7; have hfz45_8 := blk_frozen BK474.out 8; have hfz45_9 := blk_frozen BK474.out 9; have hfz45_10 := blk_frozen BK474.out 10; have hfz45_11 := blk_frozen BK474.out 11) | ((with_reducible refine gate_callee (f := 40) rfl ?_); refine goesL_ (some 62) rfl rfl Try.func40 (by kernel_rfl) rfl #[.agg #[.int .i64 a0_0, .int .i64 a0_1, .int .i64 a0_2, .int .i64 a0_3, .int .i64 a0_4, .int .i64 a0_5], .int .i64 a0_7, .int .i64 a0_6, .int .i64 a0_10] rfl (by (try simp only [List.map_toArray, List.map_cons, List.map_nil]); first | done | rfl | (simp only [List.length_drop, List.length_take]; rfl)) ?_; (with_reducible refine (solventref14_Find.calls kj3 a0_0 a0_1 a0_2 a0_3 a0_4 a0_5 a0_7 a0_6 a0_10 t493 t494 t495 t496 _ A17.out).mono ?_); rintro e w46 ⟨rfl, hb⟩; refine ⟨_, rfl, ?_⟩; have n0_ := Aside0.mk (blk_below (g := gb474) (o := .cells #[.int .i64 a0_0, .int .i64 a0_1, .int .i64 a0_2, .int .i64 a0_3, .int .i64 a0_4, .int .i64 a0_5, .int .i64 a0_6, .int .i64 a0_7, .int .i64 a0_8, .int .i64 a0_9, .int .i64 a0_10, .int .i64 a0_11] 57 (0, 0)) (by (with_reducible repeat (first | refine blk_drewN ?_ _ | refine blk_drew ?_ | refine blk_alloc ?_ _)); refine blk_far ?_ NB474_492.out _; (with_reducible repeat (first | refine blk_drewN ?_ _ | refine blk_drew ?_ | refine blk_alloc ?_ _)); refine blk_far ?_ NB474_492.out _; (with_reducible repeat (first | refine blk_drewN ?_ _ | refine blk_drew ?_ | refine blk_alloc ?_ _)); refine blk_far ?_ NB474_492.out _; (with_reducible repeat (first | refine blk_drewN ?_ _ | refine blk_drew ?_ | refine blk_alloc ?_ _)); exact BK474.out) hb); have n1_ := Aside0.mk (blk_below (g := gb476) (o := .cells #[.int .i64 a0_0, .int .i64 a0_1, .int .i64 a0_2, .int .i64 a0_3, .int .i64 a0_4, .int .i64 a0_5] 23 (0, 0)) (by (with_reducible repeat (first | refine blk_drewN ?_ _ | refine blk_drew ?_ | refine blk_alloc ?_ _)); refine blk_far ?_ NB476_492.out _; (with_reducible repeat (first | refine blk_drewN ?_ _ | refine blk_drew ?_ | refine blk_alloc ?_ _)); refine blk_far ?_ NB476_492.out _; (with_reducible repeat (first | refine blk_drewN ?_ _ | refine blk_drew ?_ | refine blk_alloc ?_ _)); refine blk_far ?_ NB476_492.out _; (with_reducible repeat (first | refine blk_drewN ?_ _ | refine blk_drew ?_ | refine blk_alloc ?_ _)); exact BK476.out) hb); have n2_ := Aside0.mk (blk_below (g := gb482) (o := .cells #[.int .i64 t478, .int .i64 t479, .int .i64 t480] 59 (0, 0)) (by (with_reducible repeat (first | refine blk_drewN ?_ _ | refine blk_drew ?_ | refine blk_alloc ?_ _)); refine blk_far ?_ NB482_492.out _; (with_reducible repeat (first | refine blk_drewN ?_ _ | refine blk_drew ?_ | refine blk_alloc ?_ _)); refine blk_far ?_ NB482_492.out _; (with_reducible repeat (first | refine blk_drewN ?_ _ | refine blk_drew ?_ | refine blk_alloc ?_ _)); refine blk_far ?_ NB482_492.out _; (with_reducible repeat (first | refine blk_drewN ?_ _ | refine blk_drew ?_ | refine blk_alloc ?_ _)); exact BK482.out) hb); have n3_ := Aside0.mk (blk_below (g := gb487) (o := .cells #[.int .i64 t483, .int .i64 t484, .int .i64 t485] 59 (0, 0)) (by (with_reducible repeat (first | refine blk_drewN ?_ _ | refine blk_drew ?_ | refine blk_alloc ?_ _)); refine blk_far ?_ NB487_492.out _; (with_reducible repeat (first | refine blk_drewN ?_ _ | refine blk_drew ?_ | refine blk_alloc ?_ _)); refine blk_far ?_ NB487_492.out _; (with_reducible repeat (first | refine blk_drewN ?_ _ | refine blk_drew ?_ | refine blk_alloc ?_ _)); refine blk_far ?_ NB487_492.out _; (with_reducible repeat (first | refine blk_drewN ?_ _ | refine blk_drew ?_ | refine blk_alloc ?_ _)); exact BK487.out) hb); have n4_ := Aside0.mk (blk_below (g := gb492) (o := .cells #[.int .i64 t488, .int .i64 t489, .int .i64 t490] 45 (0, 0)) (by (with_reducible repeat (first | refine blk_drewN ?_ _ | refine blk_drew ?_ | refine blk_alloc ?_ _)); refine blk_put (cs := #[.int .i64 t488, .int .i64 t489, .int .i64 0]) ?_ 2 _ rfl; (with_reducible repeat (first | refine blk_drewN ?_ _ | refine blk_drew ?_ | refine blk_alloc ?_ _)); refine blk_put (cs := #[.int .i64 t488, .int .i64 0, .int .i64 0]) ?_ 1 _ rfl; (with_reducible repeat (first | refine blk_drewN ?_ _ | refine blk_drew ?_ | refine blk_alloc ?_ _)); refine blk_put (cs := #[.int .i64 0, .int .i64 0, .int .i64 0]) ?_ 0 _ rfl; (with_reducible repeat (first | refine blk_drewN ?_ _ | refine blk_drew ?_ | refine blk_alloc ?_ _)); exact BK492.out) hb); have n5_ := Aside0.mk (below_step (by repeat (first | (with_reducible first | exact HB.out | apply below_alloc | apply pw_below_drewN | apply below_drew1 | refine below_set ?_ GE474.out | refine below_set ?_ GE476.out | refine below_set ?_ GE482.out | refine below_set ?_ GE487.out | refine below_set ?_ GE492.out) | exact HB.out)) hb); clear BK474; clear BK476; clear BK482; clear BK487; clear BK492; clear HB; have BK474 := n0_; have BK476 := n1_; have BK482 := n2_; have BK487 := n3_; have BK492 := n4_; have HB := n5_; clear n0_ n1_ n2_ n3_ n4_ n5_; (try clear hb); (try clear hb2); (try clear hk); (try clear hi)) | ((with_reducible refine gate_dst (N := 13) rfl ?_); refine box_event ?hg (N := 13) ?hd (cs := #[.int .i64 0, .int .i64 0, .int .i64 0]) (t := 45) ?hr ?_; (case hd => rfl); (case hg => rfl); (case hr => first | (go_simp; done) | (go_simp; rfl)); intro gb497 hg w47 hbox hb; have n0_ := Aside0.mk (blk_below (g := gb474) (o := .cells #[.int .i64 a0_0, .int .i64 a0_1, .int .i64 a0_2, .int .i64 a0_3, .int .i64 a0_4, .int .i64 a0_5, .int .i64 a0_6, .int .i64 a0_7, .int .i64 a0_8, .int .i64 a0_9, .int .i64 a0_10, .int .i64 a0_11] 57 (0, 0)) (by (with_reducible repeat (first | refine blk_drewN ?_ _ | refine blk_drew ?_ | refine blk_alloc ?_ _)); exact BK474.out) hb); have n1_ := Aside0.mk (blk_below (g := gb476) (o := .cells #[.int .i64 a0_0, .int .i64 a0_1, .int .i64 a0_2, .int .i64 a0_3, .int .i64 a0_4, .int .i64 a0_5] 23 (0, 0)) (by (with_reducible repeat (first | refine blk_drewN ?_ _ | refine blk_drew ?_ | refine blk_alloc ?_ _)); exact BK476.out) hb); have n2_ := Aside0.mk (blk_below (g := gb482) (o := .cells #[.int .i64 t478, .int .i64 t479, .int .i64 t480] 59 (0, 0)) (by (with_reducible repeat (first | refine blk_drewN ?_ _ | refine blk_drew ?_ | refine blk_alloc ?_ _)); exact BK482.out) hb); have n3_ := Aside0.mk (blk_below (g := gb487) (o := .cells #[.int .i64 t483, .int .i64 t484, .int .i64 t485] 59 (0, 0)) (by (with_reducible repeat (first | refine blk_drewN ?_ _ | refine blk_drew ?_ | refine blk_alloc ?_ _)); exact BK487.out) hb); have n4_ := Aside0.mk (blk_below (g := gb492) (o := .cells #[.int .i64 t488, .int .i64 t489, .int .i64 t490] 45 (0, 0)) (by (with_reducible repeat (first | refine blk_drewN ?_ _ | refine blk_drew ?_ | refine blk_alloc ?_ _)); exact BK492.out) hb); have n5_ := Aside0.mk (below_step (by repeat (first | (with_reducible first | exact HB.out | apply below_alloc | apply pw_below_drewN | apply below_drew1 | refine below_set ?_ GE474.out | refine below_set ?_ GE476.out | refine below_set ?_ GE482.out | refine below_set ?_ GE487.out | refine below_set ?_ GE492.out) | exact HB.out)) hb); have n6_ := Aside0.mk (hbox); have n7_ := Aside0.mk ((by rw [hg]; exact (below_size (by repeat (first | (with_reducible first | exact HB.out | apply below_alloc | apply pw_below_drewN | apply below_drew1 | refine below_set ?_ GE474.out | refine below_set ?_ GE476.out | refine below_set ?_ GE482.out | refine below_set ?_ GE487.out | refine below_set ?_ GE492.out) | exact HB.out))) : w.heap.size ≤ gb497)); have n8_ := Aside0.mk ((by rw [hg]; exact (below_size (by repeat (first | (with_reducible first | exact HB.out | apply below_alloc | apply pw_below_drewN | apply below_drew1 | refine below_set ?_ GE474.out | refine below_set ?_ GE476.out | refine below_set ?_ GE482.out | refine below_set ?_ GE487.out | refine below_set ?_ GE492.out) | exact HB.out))) : w.heap.size ≤ gb497)); have n9_ := Aside0.mk ((by rw [hg]; exact Nat.ne_of_lt (blk_lt (g := gb474) (o := .cells #[.int .i64 a0_0, .int .i64 a0_1, .int .i64 a0_2, .int .i64 a0_3, .int .i64 a0_4, .int .i64 a0_5, .int .i64 a0_6, .int .i64 a0_7, .int .i64 a0_8, .int .i64 a0_9, .int .i64 a0_10, .int .i64 a0_11] 57 (0, 0)) (by (with_reducible repeat (first | refine blk_drewN ?_ _ | refine blk_drew ?_ | refine blk_alloc ?_ _)); exact BK474.out)) : gb474 ≠ gb497)); have n10_ := Aside0.mk ((by rw [hg]; exact Nat.ne_of_gt (blk_lt (g := gb474) (o := .cells #[.int .i64 a0_0, .int .i64 a0_1, .int .i64 a0_2, .int .i64 a0_3, .int .i64 a0_4, .int .i64 a0_5, .int .i64 a0_6, .int .i64 a0_7, .int .i64 a0_8, .int .i64 a0_9, .int .i64 a0_10, .int .i64 a0_11] 57 (0, 0)) (by (with_reducible repeat (first | refine blk_drewN ?_ _ | refine blk_drew ?_ | refine blk_alloc ?_ _)); exact BK474.out)) : gb497 ≠ gb474)); have n11_ := Aside0.mk ((by rw [hg]; exact Nat.ne_of_lt (blk_lt (g := gb476) (o := .cells #[.int .i64 a0_0, .int .i64 a0_1, .int .i64 a0_2, .int .i64 a0_3, .int .i64 a0_4, .int .i64 a0_5] 23 (0, 0)) (by (with_reducible repeat (first | refine blk_drewN ?_ _ | refine blk_drew ?_ | refine blk_alloc ?_ _)); exact BK476.out)) : gb476 ≠ gb497)); have n12_ := Aside0.mk ((by rw [hg]; exact Nat.ne_of_gt (blk_lt (g := gb476) (o := .cells #[.int .i64 a0_0, .int .i64 a0_1, .int .i64 a0_2, .int .i64 a0_3, .int .i64 a0_4, .int .i64 a0_5] 23 (0, 0)) (by (with_reducible repeat (first | refine blk_drewN ?_ _ | refine blk_drew ?_ | refine blk_alloc ?_ _)); exact BK476.out)) : gb497 ≠ gb476)); have n13_ := Aside0.mk ((by rw [hg]; exact Nat.ne_of_lt (blk_lt (g := gb482) (o := .cells #[.int .i64 t478, .int .i64 t479, .int .i64 t480] 59 (0, 0)) (by (with_reducible repeat (first | refine blk_drewN ?_ _ | refine blk_drew ?_ | refine blk_alloc ?_ _)); exact BK482.out)) : gb482 ≠ gb497)); have n14_ := Aside0.mk ((by rw [hg]; exact Nat.ne_of_gt (blk_lt (g := gb482) (o := .cells #[.int .i64 t478, .int .i64 t479, .int .i64 t480] 59 (0, 0)) (by (with_reducible repeat (first | refine blk_drewN ?_ _ | refine blk_drew ?_ | refine blk_alloc ?_ _)); exact BK482.out)) : gb497 ≠ gb482)); have n15_ := Aside0.mk ((by rw [hg]; exact Nat.ne_of_lt (blk_lt (g := gb487) (o := .cells #[.int .i64 t483, .int .i64 t484, .int .i64 t485] 59 (0, 0)) (by (with_reducible repeat (first | refine blk_drewN ?_ _ | refine blk_drew ?_ | refine blk_alloc ?_ _)); exact BK487.out)) : gb487 ≠ gb497)); have n16_ := Aside0.mk ((by rw [hg]; exact Nat.ne_of_gt (blk_lt (g := gb487) (o := .cells #[.int .i64 t483, .int .i64 t484, .int .i64 t485] 59 (0, 0)) (by (with_reducible repeat (first | refine blk_drewN ?_ _ | refine blk_drew ?_ | refine blk_alloc ?_ _)); exact BK487.out)) : gb497 ≠ gb487)); have n17_ := Aside0.mk ((by rw [hg]; exact Nat.ne_of_lt (blk_lt (g := gb492) (o := .cells #[.int .i64 t488, .int .i64 t489, .int .i64 t490] 45 (0, 0)) (by (with_reducible repeat (first | refine blk_drewN ?_ _ | refine blk_drew ?_ | refine blk_alloc ?_ _)); exact BK492.out)) : gb492 ≠ gb497)); have n18_ := Aside0.mk ((by rw [hg]; exact Nat.ne_of_gt (blk_lt (g := gb492) (o := .cells #[.int .i64 t488, .int .i64 t489, .int .i64 t490] 45 (0, 0)) (by (with_reducible repeat (first | refine blk_drewN ?_ _ | refine blk_drew ?_ | refine blk_alloc ?_ _)); exact BK492.out)) : gb497 ≠ gb492)); clear BK474; clear BK476; clear BK482; clear BK487; clear BK492; clear HB; have BK474 := n0_; have BK476 := n1_; have BK482 := n2_; have BK487 := n3_; have BK492 := n4_; have HB := n5_; have BK497 := n6_; have GW497 := n7_; have GE497 := n8_; have NB474_497 := n9_; have NB497_474 := n10_; have NB476_497 := n11_; have NB497_476 := n12_; have NB482_497 := n13_; have NB497_482 := n14_; have NB487_497 := n15_; have NB497_487 := n16_; have NB492_497 := n17_; have NB497_492 := n18_; clear n0_ n1_ n2_ n3_ n4_ n5_ n6_ n7_ n8_ n9_ n10_ n11_ n12_ n13_ n14_ n15_ n16_ n17_ n18_; clear hb hbox hg; have hnb48 := NB497_474.out; have hnc48 := NB474_497.out; have hnb49 := NB497_476.out; have hnc49 := NB476_497.out; have hnb50 := NB497_482.out; have hnc50 := NB482_497.out; have hnb51 := NB497_487.out; have hnc51 := NB487_497.out; have hnb52 := NB497_492.out; have hnc52 := NB492_497.out; have hcz53_0 : w47.cell? ⟨gb497, 0, none⟩ = some (.int .i64 0) := (blk_cell BK497.out 0).trans rfl; have hcz53_1 : w47.cell? ⟨gb497, 1, none⟩ = some (.int .i64 0) := (blk_cell BK497.out 1).trans rfl; have hcz53_2 : w47.cell? ⟨gb497, 2, none⟩ = some (.int .i64 0) := (blk_cell BK497.out 2).trans rfl; have hfz53_0 := blk_frozen BK497.out 0; have hfz53_1 := blk_frozen BK497.out 1; have hfz53_2 := blk_frozen BK497.out 2))
   (try simp only [Act.put, List.setIfInBounds_toArray, List.set_cons_zero, List.set_cons_succ])
   go_cut [82] (fun v82 wc => ∃ (kq : Nat) (x82_17 : Bool), v82 = .bool x82_17 ∧ Aside0 (solventlaw14_LayoutMatchesSpec.j1 kq t475 a0_6 a0_7 x82_17 a0_0 a0_1 a0_2 a0_3 a0_4 a0_5 a0_6 a0_7 a0_8 a0_9 a0_10 a0_11 a0_0 a0_1 a0_2 a0_3 a0_4 a0_5 = some r) ∧ Aside0 (kq ≤ kj3) ∧ Aside0 (wc.heap[gb474]? = some (.cells #[.int .i64 a0_0, .int .i64 a0_1, .int .i64 a0_2, .int .i64 a0_3, .int .i64 a0_4, .int .i64 a0_5, .int .i64 a0_6, .int .i64 a0_7, .int .i64 a0_8, .int .i64 a0_9, .int .i64 a0_10, .int .i64 a0_11] 57 (0, 0))) ∧ Aside0 (wc.heap[gb476]? = some (.cells #[.int .i64 a0_0, .int .i64 a0_1, .int .i64 a0_2, .int .i64 a0_3, .int .i64 a0_4, .int .i64 a0_5] 23 (0, 0))) ∧ Aside0 (wc.heap[gb482]? = some (.cells #[.int .i64 t478, .int .i64 t479, .int .i64 t480] 59 (0, 0))) ∧ Aside0 (wc.heap[gb487]? = some (.cells #[.int .i64 t483, .int .i64 t484, .int .i64 t485] 59 (0, 0))) ∧ Aside0 (wc.heap[gb492]? = some (.cells #[.int .i64 t488, .int .i64 t489, .int .i64 t490] 45 (0, 0))) ∧ Aside0 (wc.heap[gb497]? = some (.cells #[.int .i64 t493, .int .i64 t494, .int .i64 t495] 45 (0, 0))) ∧ Aside0 (Below w.heap.size w wc))
   case first =>
    have H := HC18.out
    clear HC18
    by_cases c54 : (!(t478 == t483) || (!(t479 == t484) || (!(t480 == t485)))) = true
    ·rw [if_pos c54] at H
     have c54b0 : (!(t478 == t483) || (!(t479 == t484) || (!(t480 == t485)))) = true := c54
     clear c54
     (first | rw [c54b0] | (simp only [i64_w, i32_w]; rw [c54b0]) | skip)
     have H' := Aside0.mk H
     clear H
     have hnb55 := NB482_474.out
     have hnc55 := NB474_482.out
     have hnb56 := NB482_476.out
     have hnc56 := NB476_482.out
     have hnb57 := NB482_487.out
     have hnc57 := NB487_482.out
     have hnb58 := NB482_492.out
     have hnc58 := NB492_482.out
     have hnb59 := NB482_497.out
     have hnc59 := NB497_482.out
     have hcz60_0 : w47.cell? ⟨gb482, 0, none⟩ = some (.int .i64 t478) := (blk_cell BK482.out 0).trans rfl
     have hcz60_1 : w47.cell? ⟨gb482, 1, none⟩ = some (.int .i64 t479) := (blk_cell BK482.out 1).trans rfl
     have hcz60_2 : w47.cell? ⟨gb482, 2, none⟩ = some (.int .i64 t480) := (blk_cell BK482.out 2).trans rfl
     have hfz60_0 := blk_frozen BK482.out 0
     have hfz60_1 := blk_frozen BK482.out 1
     have hfz60_2 := blk_frozen BK482.out 2
     have hnb61 := NB487_474.out
     have hnc61 := NB474_487.out
     have hnb62 := NB487_476.out
     have hnc62 := NB476_487.out
     have hnb63 := NB487_492.out
     have hnc63 := NB492_487.out
     have hnb64 := NB487_497.out
     have hnc64 := NB497_487.out
     have hcz65_0 : w47.cell? ⟨gb487, 0, none⟩ = some (.int .i64 t483) := (blk_cell BK487.out 0).trans rfl
     have hcz65_1 : w47.cell? ⟨gb487, 1, none⟩ = some (.int .i64 t484) := (blk_cell BK487.out 1).trans rfl
     have hcz65_2 : w47.cell? ⟨gb487, 2, none⟩ = some (.int .i64 t485) := (blk_cell BK487.out 2).trans rfl
     have hfz65_0 := blk_frozen BK487.out 0
     have hfz65_1 := blk_frozen BK487.out 1
     have hfz65_2 := blk_frozen BK487.out 2
     go_wp2
     go_meet
     case rel => exact ⟨_, (true), (by first | rfl | (simp; done) | (simp [*]; done)), H', ⟨by have := HJ3.out; first | omega | exact Nat.le_refl _⟩, ⟨by (with_reducible repeat (first | refine blk_drewN ?_ _ | refine blk_drew ?_ | refine blk_alloc ?_ _)); refine blk_far ?_ NB474_497.out _; (with_reducible repeat (first | refine blk_drewN ?_ _ | refine blk_drew ?_ | refine blk_alloc ?_ _)); refine blk_far ?_ NB474_497.out _; (with_reducible repeat (first | refine blk_drewN ?_ _ | refine blk_drew ?_ | refine blk_alloc ?_ _)); refine blk_far ?_ NB474_497.out _; (with_reducible repeat (first | refine blk_drewN ?_ _ | refine blk_drew ?_ | refine blk_alloc ?_ _)); exact BK474.out⟩, ⟨by (with_reducible repeat (first | refine blk_drewN ?_ _ | refine blk_drew ?_ | refine blk_alloc ?_ _)); refine blk_far ?_ NB476_497.out _; (with_reducible repeat (first | refine blk_drewN ?_ _ | refine blk_drew ?_ | refine blk_alloc ?_ _)); refine blk_far ?_ NB476_497.out _; (with_reducible repeat (first | refine blk_drewN ?_ _ | refine blk_drew ?_ | refine blk_alloc ?_ _)); refine blk_far ?_ NB476_497.out _; (with_reducible repeat (first | refine blk_drewN ?_ _ | refine blk_drew ?_ | refine blk_alloc ?_ _)); exact BK476.out⟩, ⟨by (with_reducible repeat (first | refine blk_drewN ?_ _ | refine blk_drew ?_ | refine blk_alloc ?_ _)); refine blk_far ?_ NB482_497.out _; (with_reducible repeat (first | refine blk_drewN ?_ _ | refine blk_drew ?_ | refine blk_alloc ?_ _)); refine blk_far ?_ NB482_497.out _; (with_reducible repeat (first | refine blk_drewN ?_ _ | refine blk_drew ?_ | refine blk_alloc ?_ _)); refine blk_far ?_ NB482_497.out _; (with_reducible repeat (first | refine blk_drewN ?_ _ | refine blk_drew ?_ | refine blk_alloc ?_ _)); exact BK482.out⟩, ⟨by (with_reducible repeat (first | refine blk_drewN ?_ _ | refine blk_drew ?_ | refine blk_alloc ?_ _)); refine blk_far ?_ NB487_497.out _; (with_reducible repeat (first | refine blk_drewN ?_ _ | refine blk_drew ?_ | refine blk_alloc ?_ _)); refine blk_far ?_ NB487_497.out _; (with_reducible repeat (first | refine blk_drewN ?_ _ | refine blk_drew ?_ | refine blk_alloc ?_ _)); refine blk_far ?_ NB487_497.out _; (with_reducible repeat (first | refine blk_drewN ?_ _ | refine blk_drew ?_ | refine blk_alloc ?_ _)); exact BK487.out⟩, ⟨by (with_reducible repeat (first | refine blk_drewN ?_ _ | refine blk_drew ?_ | refine blk_alloc ?_ _)); refine blk_far ?_ NB492_497.out _; (with_reducible repeat (first | refine blk_drewN ?_ _ | refine blk_drew ?_ | refine blk_alloc ?_ _)); refine blk_far ?_ NB492_497.out _; (with_reducible repeat (first | refine blk_drewN ?_ _ | refine blk_drew ?_ | refine blk_alloc ?_ _)); refine blk_far ?_ NB492_497.out _; (with_reducible repeat (first | refine blk_drewN ?_ _ | refine blk_drew ?_ | refine blk_alloc ?_ _)); exact BK492.out⟩, ⟨by (with_reducible repeat (first | refine blk_drewN ?_ _ | refine blk_drew ?_ | refine blk_alloc ?_ _)); refine blk_put (cs := #[.int .i64 t493, .int .i64 t494, .int .i64 0]) ?_ 2 _ rfl; (with_reducible repeat (first | refine blk_drewN ?_ _ | refine blk_drew ?_ | refine blk_alloc ?_ _)); refine blk_put (cs := #[.int .i64 t493, .int .i64 0, .int .i64 0]) ?_ 1 _ rfl; (with_reducible repeat (first | refine blk_drewN ?_ _ | refine blk_drew ?_ | refine blk_alloc ?_ _)); refine blk_put (cs := #[.int .i64 0, .int .i64 0, .int .i64 0]) ?_ 0 _ rfl; (with_reducible repeat (first | refine blk_drewN ?_ _ | refine blk_drew ?_ | refine blk_alloc ?_ _)); exact BK497.out⟩, ⟨by repeat (first | (with_reducible first | exact HB.out | apply below_alloc | apply pw_below_drewN | apply below_drew1 | refine below_set ?_ GE474.out | refine below_set ?_ GE476.out | refine below_set ?_ GE482.out | refine below_set ?_ GE487.out | refine below_set ?_ GE492.out | refine below_set ?_ GE497.out) | exact HB.out)⟩⟩
    ·rw [if_neg c54] at H
     have c54b0 : (!(t478 == t483) || (!(t479 == t484) || (!(t480 == t485)))) = false := by simpa using c54
     clear c54
     (first | rw [c54b0] | (simp only [i64_w, i32_w]; rw [c54b0]) | skip)
     by_cases c66 : t481 = t486
     ·rw [if_pos c66] at H
      have c66b0 : (t481 == t486) = true := beq_iff_eq.mpr c66
      have c66b1 : (t481 != t486) = false := bne_eq_false_iff_eq.mpr c66
      clear c66
      by_cases c67 : ((!(t488 == t493) || (!(t489 == t494))) || (!(t490 == t495))) = true
      ·rw [if_pos c67] at H
       have c67b0 : ((!(t488 == t493) || (!(t489 == t494))) || (!(t490 == t495))) = true := c67
       clear c67
       have H' := Aside0.mk H
       clear H
       have hnb68 := NB482_474.out
       have hnc68 := NB474_482.out
       have hnb69 := NB482_476.out
       have hnc69 := NB476_482.out
       have hnb70 := NB482_487.out
       have hnc70 := NB487_482.out
       have hnb71 := NB482_492.out
       have hnc71 := NB492_482.out
       have hnb72 := NB482_497.out
       have hnc72 := NB497_482.out
       have hcz73_0 : w47.cell? ⟨gb482, 0, none⟩ = some (.int .i64 t478) := (blk_cell BK482.out 0).trans rfl
       have hcz73_1 : w47.cell? ⟨gb482, 1, none⟩ = some (.int .i64 t479) := (blk_cell BK482.out 1).trans rfl
       have hcz73_2 : w47.cell? ⟨gb482, 2, none⟩ = some (.int .i64 t480) := (blk_cell BK482.out 2).trans rfl
       have hfz73_0 := blk_frozen BK482.out 0
       have hfz73_1 := blk_frozen BK482.out 1
       have hfz73_2 := blk_frozen BK482.out 2
       have hnb74 := NB487_474.out
       have hnc74 := NB474_487.out
       have hnb75 := NB487_476.out
       have hnc75 := NB476_487.out
       have hnb76 := NB487_492.out
       have hnc76 := NB492_487.out
       have hnb77 := NB487_497.out
       have hnc77 := NB497_487.out
       have hcz78_0 : w47.cell? ⟨gb487, 0, none⟩ = some (.int .i64 t483) := (blk_cell BK487.out 0).trans rfl
       have hcz78_1 : w47.cell? ⟨gb487, 1, none⟩ = some (.int .i64 t484) := (blk_cell BK487.out 1).trans rfl
       have hcz78_2 : w47.cell? ⟨gb487, 2, none⟩ = some (.int .i64 t485) := (blk_cell BK487.out 2).trans rfl
       have hfz78_0 := blk_frozen BK487.out 0
       have hfz78_1 := blk_frozen BK487.out 1
       have hfz78_2 := blk_frozen BK487.out 2
       have hnb79 := NB492_474.out
       have hnc79 := NB474_492.out
       have hnb80 := NB492_476.out
       have hnc80 := NB476_492.out
       have hnb81 := NB492_497.out
       have hnc81 := NB497_492.out
       have hcz82_0 : w47.cell? ⟨gb492, 0, none⟩ = some (.int .i64 t488) := (blk_cell BK492.out 0).trans rfl
       have hcz82_1 : w47.cell? ⟨gb492, 1, none⟩ = some (.int .i64 t489) := (blk_cell BK492.out 1).trans rfl
       have hcz82_2 : w47.cell? ⟨gb492, 2, none⟩ = some (.int .i64 t490) := (blk_cell BK492.out 2).trans rfl
       have hfz82_0 := blk_frozen BK492.out 0
       have hfz82_1 := blk_frozen BK492.out 1
       have hfz82_2 := blk_frozen BK492.out 2
       have hnb83 := NB497_474.out
       have hnc83 := NB474_497.out
       have hnb84 := NB497_476.out
       have hnc84 := NB476_497.out
       have hcz85_0 : w47.cell? ⟨gb497, 0, none⟩ = some (.int .i64 0) := (blk_cell BK497.out 0).trans rfl
       have hcz85_1 : w47.cell? ⟨gb497, 1, none⟩ = some (.int .i64 0) := (blk_cell BK497.out 1).trans rfl
       have hcz85_2 : w47.cell? ⟨gb497, 2, none⟩ = some (.int .i64 0) := (blk_cell BK497.out 2).trans rfl
       have hfz85_0 := blk_frozen BK497.out 0
       have hfz85_1 := blk_frozen BK497.out 1
       have hfz85_2 := blk_frozen BK497.out 2
       go_wp2
       go_meet
       case rel => exact ⟨_, (true), (by first | rfl | (simp; done) | (simp [*]; done)), H', ⟨by have := HJ3.out; first | omega | exact Nat.le_refl _⟩, ⟨by (with_reducible repeat (first | refine blk_drewN ?_ _ | refine blk_drew ?_ | refine blk_alloc ?_ _)); refine blk_far ?_ NB474_497.out _; (with_reducible repeat (first | refine blk_drewN ?_ _ | refine blk_drew ?_ | refine blk_alloc ?_ _)); refine blk_far ?_ NB474_497.out _; (with_reducible repeat (first | refine blk_drewN ?_ _ | refine blk_drew ?_ | refine blk_alloc ?_ _)); refine blk_far ?_ NB474_497.out _; (with_reducible repeat (first | refine blk_drewN ?_ _ | refine blk_drew ?_ | refine blk_alloc ?_ _)); exact BK474.out⟩, ⟨by (with_reducible repeat (first | refine blk_drewN ?_ _ | refine blk_drew ?_ | refine blk_alloc ?_ _)); refine blk_far ?_ NB476_497.out _; (with_reducible repeat (first | refine blk_drewN ?_ _ | refine blk_drew ?_ | refine blk_alloc ?_ _)); refine blk_far ?_ NB476_497.out _; (with_reducible repeat (first | refine blk_drewN ?_ _ | refine blk_drew ?_ | refine blk_alloc ?_ _)); refine blk_far ?_ NB476_497.out _; (with_reducible repeat (first | refine blk_drewN ?_ _ | refine blk_drew ?_ | refine blk_alloc ?_ _)); exact BK476.out⟩, ⟨by (with_reducible repeat (first | refine blk_drewN ?_ _ | refine blk_drew ?_ | refine blk_alloc ?_ _)); refine blk_far ?_ NB482_497.out _; (with_reducible repeat (first | refine blk_drewN ?_ _ | refine blk_drew ?_ | refine blk_alloc ?_ _)); refine blk_far ?_ NB482_497.out _; (with_reducible repeat (first | refine blk_drewN ?_ _ | refine blk_drew ?_ | refine blk_alloc ?_ _)); refine blk_far ?_ NB482_497.out _; (with_reducible repeat (first | refine blk_drewN ?_ _ | refine blk_drew ?_ | refine blk_alloc ?_ _)); exact BK482.out⟩, ⟨by (with_reducible repeat (first | refine blk_drewN ?_ _ | refine blk_drew ?_ | refine blk_alloc ?_ _)); refine blk_far ?_ NB487_497.out _; (with_reducible repeat (first | refine blk_drewN ?_ _ | refine blk_drew ?_ | refine blk_alloc ?_ _)); refine blk_far ?_ NB487_497.out _; (with_reducible repeat (first | refine blk_drewN ?_ _ | refine blk_drew ?_ | refine blk_alloc ?_ _)); refine blk_far ?_ NB487_497.out _; (with_reducible repeat (first | refine blk_drewN ?_ _ | refine blk_drew ?_ | refine blk_alloc ?_ _)); exact BK487.out⟩, ⟨by (with_reducible repeat (first | refine blk_drewN ?_ _ | refine blk_drew ?_ | refine blk_alloc ?_ _)); refine blk_far ?_ NB492_497.out _; (with_reducible repeat (first | refine blk_drewN ?_ _ | refine blk_drew ?_ | refine blk_alloc ?_ _)); refine blk_far ?_ NB492_497.out _; (with_reducible repeat (first | refine blk_drewN ?_ _ | refine blk_drew ?_ | refine blk_alloc ?_ _)); refine blk_far ?_ NB492_497.out _; (with_reducible repeat (first | refine blk_drewN ?_ _ | refine blk_drew ?_ | refine blk_alloc ?_ _)); exact BK492.out⟩, ⟨by (with_reducible repeat (first | refine blk_drewN ?_ _ | refine blk_drew ?_ | refine blk_alloc ?_ _)); refine blk_put (cs := #[.int .i64 t493, .int .i64 t494, .int .i64 0]) ?_ 2 _ rfl; (with_reducible repeat (first | refine blk_drewN ?_ _ | refine blk_drew ?_ | refine blk_alloc ?_ _)); refine blk_put (cs := #[.int .i64 t493, .int .i64 0, .int .i64 0]) ?_ 1 _ rfl; (with_reducible repeat (first | refine blk_drewN ?_ _ | refine blk_drew ?_ | refine blk_alloc ?_ _)); refine blk_put (cs := #[.int .i64 0, .int .i64 0, .int .i64 0]) ?_ 0 _ rfl; (with_reducible repeat (first | refine blk_drewN ?_ _ | refine blk_drew ?_ | refine blk_alloc ?_ _)); exact BK497.out⟩, ⟨by repeat (first | (with_reducible first | exact HB.out | apply below_alloc | apply pw_below_drewN | apply below_drew1 | refine below_set ?_ GE474.out | refine below_set ?_ GE476.out | refine below_set ?_ GE482.out | refine below_set ?_ GE487.out | refine below_set ?_ GE492.out | refine below_set ?_ GE497.out) | exact HB.out)⟩⟩
      ·rw [if_neg c67] at H
       have c67b0 : ((!(t488 == t493) || (!(t489 == t494))) || (!(t490 == t495))) = false := by simpa using c67
       clear c67
       have H' := Aside0.mk H
       clear H
       have hnb86 := NB482_474.out
       have hnc86 := NB474_482.out
       have hnb87 := NB482_476.out
       have hnc87 := NB476_482.out
       have hnb88 := NB482_487.out
       have hnc88 := NB487_482.out
       have hnb89 := NB482_492.out
       have hnc89 := NB492_482.out
       have hnb90 := NB482_497.out
       have hnc90 := NB497_482.out
       have hcz91_0 : w47.cell? ⟨gb482, 0, none⟩ = some (.int .i64 t478) := (blk_cell BK482.out 0).trans rfl
       have hcz91_1 : w47.cell? ⟨gb482, 1, none⟩ = some (.int .i64 t479) := (blk_cell BK482.out 1).trans rfl
       have hcz91_2 : w47.cell? ⟨gb482, 2, none⟩ = some (.int .i64 t480) := (blk_cell BK482.out 2).trans rfl
       have hfz91_0 := blk_frozen BK482.out 0
       have hfz91_1 := blk_frozen BK482.out 1
       have hfz91_2 := blk_frozen BK482.out 2
       have hnb92 := NB487_474.out
       have hnc92 := NB474_487.out
       have hnb93 := NB487_476.out
       have hnc93 := NB476_487.out
       have hnb94 := NB487_492.out
       have hnc94 := NB492_487.out
       have hnb95 := NB487_497.out
       have hnc95 := NB497_487.out
       have hcz96_0 : w47.cell? ⟨gb487, 0, none⟩ = some (.int .i64 t483) := (blk_cell BK487.out 0).trans rfl
       have hcz96_1 : w47.cell? ⟨gb487, 1, none⟩ = some (.int .i64 t484) := (blk_cell BK487.out 1).trans rfl
       have hcz96_2 : w47.cell? ⟨gb487, 2, none⟩ = some (.int .i64 t485) := (blk_cell BK487.out 2).trans rfl
       have hfz96_0 := blk_frozen BK487.out 0
       have hfz96_1 := blk_frozen BK487.out 1
       have hfz96_2 := blk_frozen BK487.out 2
       have hnb97 := NB492_474.out
       have hnc97 := NB474_492.out
       have hnb98 := NB492_476.out
       have hnc98 := NB476_492.out
       have hnb99 := NB492_497.out
       have hnc99 := NB497_492.out
       have hcz100_0 : w47.cell? ⟨gb492, 0, none⟩ = some (.int .i64 t488) := (blk_cell BK492.out 0).trans rfl
       have hcz100_1 : w47.cell? ⟨gb492, 1, none⟩ = some (.int .i64 t489) := (blk_cell BK492.out 1).trans rfl
       have hcz100_2 : w47.cell? ⟨gb492, 2, none⟩ = some (.int .i64 t490) := (blk_cell BK492.out 2).trans rfl
       have hfz100_0 := blk_frozen BK492.out 0
       have hfz100_1 := blk_frozen BK492.out 1
       have hfz100_2 := blk_frozen BK492.out 2
       have hnb101 := NB497_474.out
       have hnc101 := NB474_497.out
       have hnb102 := NB497_476.out
       have hnc102 := NB476_497.out
       have hcz103_0 : w47.cell? ⟨gb497, 0, none⟩ = some (.int .i64 0) := (blk_cell BK497.out 0).trans rfl
       have hcz103_1 : w47.cell? ⟨gb497, 1, none⟩ = some (.int .i64 0) := (blk_cell BK497.out 1).trans rfl
       have hcz103_2 : w47.cell? ⟨gb497, 2, none⟩ = some (.int .i64 0) := (blk_cell BK497.out 2).trans rfl
       have hfz103_0 := blk_frozen BK497.out 0
       have hfz103_1 := blk_frozen BK497.out 1
       have hfz103_2 := blk_frozen BK497.out 2
       go_wp2
       go_meet
       case rel => exact ⟨_, ((t491 != t496)), (by first | rfl | (simp; done) | (simp [*]; done)), H', ⟨by have := HJ3.out; first | omega | exact Nat.le_refl _⟩, ⟨by (with_reducible repeat (first | refine blk_drewN ?_ _ | refine blk_drew ?_ | refine blk_alloc ?_ _)); refine blk_far ?_ NB474_497.out _; (with_reducible repeat (first | refine blk_drewN ?_ _ | refine blk_drew ?_ | refine blk_alloc ?_ _)); refine blk_far ?_ NB474_497.out _; (with_reducible repeat (first | refine blk_drewN ?_ _ | refine blk_drew ?_ | refine blk_alloc ?_ _)); refine blk_far ?_ NB474_497.out _; (with_reducible repeat (first | refine blk_drewN ?_ _ | refine blk_drew ?_ | refine blk_alloc ?_ _)); exact BK474.out⟩, ⟨by (with_reducible repeat (first | refine blk_drewN ?_ _ | refine blk_drew ?_ | refine blk_alloc ?_ _)); refine blk_far ?_ NB476_497.out _; (with_reducible repeat (first | refine blk_drewN ?_ _ | refine blk_drew ?_ | refine blk_alloc ?_ _)); refine blk_far ?_ NB476_497.out _; (with_reducible repeat (first | refine blk_drewN ?_ _ | refine blk_drew ?_ | refine blk_alloc ?_ _)); refine blk_far ?_ NB476_497.out _; (with_reducible repeat (first | refine blk_drewN ?_ _ | refine blk_drew ?_ | refine blk_alloc ?_ _)); exact BK476.out⟩, ⟨by (with_reducible repeat (first | refine blk_drewN ?_ _ | refine blk_drew ?_ | refine blk_alloc ?_ _)); refine blk_far ?_ NB482_497.out _; (with_reducible repeat (first | refine blk_drewN ?_ _ | refine blk_drew ?_ | refine blk_alloc ?_ _)); refine blk_far ?_ NB482_497.out _; (with_reducible repeat (first | refine blk_drewN ?_ _ | refine blk_drew ?_ | refine blk_alloc ?_ _)); refine blk_far ?_ NB482_497.out _; (with_reducible repeat (first | refine blk_drewN ?_ _ | refine blk_drew ?_ | refine blk_alloc ?_ _)); exact BK482.out⟩, ⟨by (with_reducible repeat (first | refine blk_drewN ?_ _ | refine blk_drew ?_ | refine blk_alloc ?_ _)); refine blk_far ?_ NB487_497.out _; (with_reducible repeat (first | refine blk_drewN ?_ _ | refine blk_drew ?_ | refine blk_alloc ?_ _)); refine blk_far ?_ NB487_497.out _; (with_reducible repeat (first | refine blk_drewN ?_ _ | refine blk_drew ?_ | refine blk_alloc ?_ _)); refine blk_far ?_ NB487_497.out _; (with_reducible repeat (first | refine blk_drewN ?_ _ | refine blk_drew ?_ | refine blk_alloc ?_ _)); exact BK487.out⟩, ⟨by (with_reducible repeat (first | refine blk_drewN ?_ _ | refine blk_drew ?_ | refine blk_alloc ?_ _)); refine blk_far ?_ NB492_497.out _; (with_reducible repeat (first | refine blk_drewN ?_ _ | refine blk_drew ?_ | refine blk_alloc ?_ _)); refine blk_far ?_ NB492_497.out _; (with_reducible repeat (first | refine blk_drewN ?_ _ | refine blk_drew ?_ | refine blk_alloc ?_ _)); refine blk_far ?_ NB492_497.out _; (with_reducible repeat (first | refine blk_drewN ?_ _ | refine blk_drew ?_ | refine blk_alloc ?_ _)); exact BK492.out⟩, ⟨by (with_reducible repeat (first | refine blk_drewN ?_ _ | refine blk_drew ?_ | refine blk_alloc ?_ _)); refine blk_put (cs := #[.int .i64 t493, .int .i64 t494, .int .i64 0]) ?_ 2 _ rfl; (with_reducible repeat (first | refine blk_drewN ?_ _ | refine blk_drew ?_ | refine blk_alloc ?_ _)); refine blk_put (cs := #[.int .i64 t493, .int .i64 0, .int .i64 0]) ?_ 1 _ rfl; (with_reducible repeat (first | refine blk_drewN ?_ _ | refine blk_drew ?_ | refine blk_alloc ?_ _)); refine blk_put (cs := #[.int .i64 0, .int .i64 0, .int .i64 0]) ?_ 0 _ rfl; (with_reducible repeat (first | refine blk_drewN ?_ _ | refine blk_drew ?_ | refine blk_alloc ?_ _)); exact BK497.out⟩, ⟨by repeat (first | (with_reducible first | exact HB.out | apply below_alloc | apply pw_below_drewN | apply below_drew1 | refine below_set ?_ GE474.out | refine below_set ?_ GE476.out | refine below_set ?_ GE482.out | refine below_set ?_ GE487.out | refine below_set ?_ GE492.out | refine below_set ?_ GE497.out) | exact HB.out)⟩⟩
     ·rw [if_neg c66] at H
      have c66b0 : (t481 == t486) = false := beq_eq_false_iff_ne.mpr c66
      have c66b1 : (t481 != t486) = true := bne_iff_ne.mpr c66
      have H' := Aside0.mk H
      clear H
      have hnb104 := NB482_474.out
      have hnc104 := NB474_482.out
      have hnb105 := NB482_476.out
      have hnc105 := NB476_482.out
      have hnb106 := NB482_487.out
      have hnc106 := NB487_482.out
      have hnb107 := NB482_492.out
      have hnc107 := NB492_482.out
      have hnb108 := NB482_497.out
      have hnc108 := NB497_482.out
      have hcz109_0 : w47.cell? ⟨gb482, 0, none⟩ = some (.int .i64 t478) := (blk_cell BK482.out 0).trans rfl
      have hcz109_1 : w47.cell? ⟨gb482, 1, none⟩ = some (.int .i64 t479) := (blk_cell BK482.out 1).trans rfl
      have hcz109_2 : w47.cell? ⟨gb482, 2, none⟩ = some (.int .i64 t480) := (blk_cell BK482.out 2).trans rfl
      have hfz109_0 := blk_frozen BK482.out 0
      have hfz109_1 := blk_frozen BK482.out 1
      have hfz109_2 := blk_frozen BK482.out 2
      have hnb110 := NB487_474.out
      have hnc110 := NB474_487.out
      have hnb111 := NB487_476.out
      have hnc111 := NB476_487.out
      have hnb112 := NB487_492.out
      have hnc112 := NB492_487.out
      have hnb113 := NB487_497.out
      have hnc113 := NB497_487.out
      have hcz114_0 : w47.cell? ⟨gb487, 0, none⟩ = some (.int .i64 t483) := (blk_cell BK487.out 0).trans rfl
      have hcz114_1 : w47.cell? ⟨gb487, 1, none⟩ = some (.int .i64 t484) := (blk_cell BK487.out 1).trans rfl
      have hcz114_2 : w47.cell? ⟨gb487, 2, none⟩ = some (.int .i64 t485) := (blk_cell BK487.out 2).trans rfl
      have hfz114_0 := blk_frozen BK487.out 0
      have hfz114_1 := blk_frozen BK487.out 1
      have hfz114_2 := blk_frozen BK487.out 2
      go_wp2
      go_meet
      case rel => exact ⟨_, (true), (by first | rfl | (simp; done) | (simp [*]; done)), H', ⟨by have := HJ3.out; first | omega | exact Nat.le_refl _⟩, ⟨by (with_reducible repeat (first | refine blk_drewN ?_ _ | refine blk_drew ?_ | refine blk_alloc ?_ _)); refine blk_far ?_ NB474_497.out _; (with_reducible repeat (first | refine blk_drewN ?_ _ | refine blk_drew ?_ | refine blk_alloc ?_ _)); refine blk_far ?_ NB474_497.out _; (with_reducible repeat (first | refine blk_drewN ?_ _ | refine blk_drew ?_ | refine blk_alloc ?_ _)); refine blk_far ?_ NB474_497.out _; (with_reducible repeat (first | refine blk_drewN ?_ _ | refine blk_drew ?_ | refine blk_alloc ?_ _)); exact BK474.out⟩, ⟨by (with_reducible repeat (first | refine blk_drewN ?_ _ | refine blk_drew ?_ | refine blk_alloc ?_ _)); refine blk_far ?_ NB476_497.out _; (with_reducible repeat (first | refine blk_drewN ?_ _ | refine blk_drew ?_ | refine blk_alloc ?_ _)); refine blk_far ?_ NB476_497.out _; (with_reducible repeat (first | refine blk_drewN ?_ _ | refine blk_drew ?_ | refine blk_alloc ?_ _)); refine blk_far ?_ NB476_497.out _; (with_reducible repeat (first | refine blk_drewN ?_ _ | refine blk_drew ?_ | refine blk_alloc ?_ _)); exact BK476.out⟩, ⟨by (with_reducible repeat (first | refine blk_drewN ?_ _ | refine blk_drew ?_ | refine blk_alloc ?_ _)); refine blk_far ?_ NB482_497.out _; (with_reducible repeat (first | refine blk_drewN ?_ _ | refine blk_drew ?_ | refine blk_alloc ?_ _)); refine blk_far ?_ NB482_497.out _; (with_reducible repeat (first | refine blk_drewN ?_ _ | refine blk_drew ?_ | refine blk_alloc ?_ _)); refine blk_far ?_ NB482_497.out _; (with_reducible repeat (first | refine blk_drewN ?_ _ | refine blk_drew ?_ | refine blk_alloc ?_ _)); exact BK482.out⟩, ⟨by (with_reducible repeat (first | refine blk_drewN ?_ _ | refine blk_drew ?_ | refine blk_alloc ?_ _)); refine blk_far ?_ NB487_497.out _; (with_reducible repeat (first | refine blk_drewN ?_ _ | refine blk_drew ?_ | refine blk_alloc ?_ _)); refine blk_far ?_ NB487_497.out _; (with_reducible repeat (first | refine blk_drewN ?_ _ | refine blk_drew ?_ | refine blk_alloc ?_ _)); refine blk_far ?_ NB487_497.out _; (with_reducible repeat (first | refine blk_drewN ?_ _ | refine blk_drew ?_ | refine blk_alloc ?_ _)); exact BK487.out⟩, ⟨by (with_reducible repeat (first | refine blk_drewN ?_ _ | refine blk_drew ?_ | refine blk_alloc ?_ _)); refine blk_far ?_ NB492_497.out _; (with_reducible repeat (first | refine blk_drewN ?_ _ | refine blk_drew ?_ | refine blk_alloc ?_ _)); refine blk_far ?_ NB492_497.out _; (with_reducible repeat (first | refine blk_drewN ?_ _ | refine blk_drew ?_ | refine blk_alloc ?_ _)); refine blk_far ?_ NB492_497.out _; (with_reducible repeat (first | refine blk_drewN ?_ _ | refine blk_drew ?_ | refine blk_alloc ?_ _)); exact BK492.out⟩, ⟨by (with_reducible repeat (first | refine blk_drewN ?_ _ | refine blk_drew ?_ | refine blk_alloc ?_ _)); refine blk_put (cs := #[.int .i64 t493, .int .i64 t494, .int .i64 0]) ?_ 2 _ rfl; (with_reducible repeat (first | refine blk_drewN ?_ _ | refine blk_drew ?_ | refine blk_alloc ?_ _)); refine blk_put (cs := #[.int .i64 t493, .int .i64 0, .int .i64 0]) ?_ 1 _ rfl; (with_reducible repeat (first | refine blk_drewN ?_ _ | refine blk_drew ?_ | refine blk_alloc ?_ _)); refine blk_put (cs := #[.int .i64 0, .int .i64 0, .int .i64 0]) ?_ 0 _ rfl; (with_reducible repeat (first | refine blk_drewN ?_ _ | refine blk_drew ?_ | refine blk_alloc ?_ _)); exact BK497.out⟩, ⟨by repeat (first | (with_reducible first | exact HB.out | apply below_alloc | apply pw_below_drewN | apply below_drew1 | refine below_set ?_ GE474.out | refine below_set ?_ GE476.out | refine below_set ?_ GE482.out | refine below_set ?_ GE487.out | refine below_set ?_ GE492.out | refine below_set ?_ GE497.out) | exact HB.out)⟩⟩
   case rest =>
    clear HC18
    try clear c1
    try clear c2
    try clear p2
    try clear c3
    try clear c4
    try clear c5
    try clear c6
    try clear c7
    try clear c8
    try clear c9
    try clear c10
    try clear c11
    try clear c13
    try clear c19
    try clear c24
    try clear c25
    try clear c30
    try clear c31
    try clear c32
    try clear c33
    try clear c37
    try clear c38
    try clear c39
    try clear c40
    try clear c41
    try clear c42
    try clear c48
    try clear c49
    try clear c50
    try clear c51
    try clear c52
    try clear c54
    try clear c54b0
    try clear c55
    try clear c56
    try clear c57
    try clear c58
    try clear c59
    try clear c61
    try clear c62
    try clear c63
    try clear c64
    try clear c66
    try clear c66b0
    try clear c66b1
    try clear c67
    try clear c67b0
    try clear c68
    try clear c69
    try clear c70
    try clear c71
    try clear c72
    try clear c74
    try clear c75
    try clear c76
    try clear c77
    try clear c79
    try clear c80
    try clear c81
    try clear c83
    try clear c84
    try clear c86
    try clear c87
    try clear c88
    try clear c89
    try clear c90
    try clear c92
    try clear c93
    try clear c94
    try clear c95
    try clear c97
    try clear c98
    try clear c99
    try clear c101
    try clear c102
    try clear c104
    try clear c105
    try clear c106
    try clear c107
    try clear c108
    try clear c110
    try clear c111
    try clear c112
    try clear c113
    try clear hcz100_0
    try clear hcz100_1
    try clear hcz100_2
    try clear hcz103_0
    try clear hcz103_1
    try clear hcz103_2
    try clear hcz109_0
    try clear hcz109_1
    try clear hcz109_2
    try clear hcz10_0
    try clear hcz10_1
    try clear hcz10_2
    try clear hcz10_3
    try clear hcz10_4
    try clear hcz10_5
    try clear hcz114_0
    try clear hcz114_1
    try clear hcz114_2
    try clear hcz11_0
    try clear hcz11_1
    try clear hcz11_10
    try clear hcz11_11
    try clear hcz11_2
    try clear hcz11_3
    try clear hcz11_4
    try clear hcz11_5
    try clear hcz11_6
    try clear hcz11_7
    try clear hcz11_8
    try clear hcz11_9
    try clear hcz20_0
    try clear hcz20_1
    try clear hcz20_10
    try clear hcz20_11
    try clear hcz20_2
    try clear hcz20_3
    try clear hcz20_4
    try clear hcz20_5
    try clear hcz20_6
    try clear hcz20_7
    try clear hcz20_8
    try clear hcz20_9
    try clear hcz21_0
    try clear hcz21_1
    try clear hcz21_2
    try clear hcz21_3
    try clear hcz21_4
    try clear hcz21_5
    try clear hcz26_0
    try clear hcz26_1
    try clear hcz26_2
    try clear hcz27_0
    try clear hcz27_1
    try clear hcz27_2
    try clear hcz27_3
    try clear hcz27_4
    try clear hcz27_5
    try clear hcz28_0
    try clear hcz28_1
    try clear hcz28_10
    try clear hcz28_11
    try clear hcz28_2
    try clear hcz28_3
    try clear hcz28_4
    try clear hcz28_5
    try clear hcz28_6
    try clear hcz28_7
    try clear hcz28_8
    try clear hcz28_9
    try clear hcz34_0
    try clear hcz34_1
    try clear hcz34_2
    try clear hcz35_0
    try clear hcz35_1
    try clear hcz35_2
    try clear hcz35_3
    try clear hcz35_4
    try clear hcz35_5
    try clear hcz36_0
    try clear hcz36_1
    try clear hcz36_10
    try clear hcz36_11
    try clear hcz36_2
    try clear hcz36_3
    try clear hcz36_4
    try clear hcz36_5
    try clear hcz36_6
    try clear hcz36_7
    try clear hcz36_8
    try clear hcz36_9
    try clear hcz43_0
    try clear hcz43_1
    try clear hcz43_2
    try clear hcz44_0
    try clear hcz44_1
    try clear hcz44_2
    try clear hcz44_3
    try clear hcz44_4
    try clear hcz44_5
    try clear hcz45_0
    try clear hcz45_1
    try clear hcz45_10
    try clear hcz45_11
    try clear hcz45_2
    try clear hcz45_3
    try clear hcz45_4
    try clear hcz45_5
    try clear hcz45_6
    try clear hcz45_7
    try clear hcz45_8
    try clear hcz45_9
    try clear hcz53_0
    try clear hcz53_1
    try clear hcz53_2
    try clear hcz60_0
    try clear hcz60_1
    try clear hcz60_2
    try clear hcz65_0
    try clear hcz65_1
    try clear hcz65_2
    try clear hcz73_0
    try clear hcz73_1
    try clear hcz73_2
    try clear hcz78_0
    try clear hcz78_1
    try clear hcz78_2
    try clear hcz7_0
    try clear hcz7_1
    try clear hcz7_10
    try clear hcz7_11
    try clear hcz7_2
    try clear hcz7_3
    try clear hcz7_4
    try clear hcz7_5
    try clear hcz7_6
    try clear hcz7_7
    try clear hcz7_8
    try clear hcz7_9
    try clear hcz82_0
    try clear hcz82_1
    try clear hcz82_2
    try clear hcz85_0
    try clear hcz85_1
    try clear hcz85_2
    try clear hcz91_0
    try clear hcz91_1
    try clear hcz91_2
    try clear hcz96_0
    try clear hcz96_1
    try clear hcz96_2
    try clear hfz100_0
    try clear hfz100_1
    try clear hfz100_2
    try clear hfz103_0
    try clear hfz103_1
    try clear hfz103_2
    try clear hfz109_0
    try clear hfz109_1
    try clear hfz109_2
    try clear hfz10_0
    try clear hfz10_1
    try clear hfz10_2
    try clear hfz10_3
    try clear hfz10_4
    try clear hfz10_5
    try clear hfz114_0
    try clear hfz114_1
    try clear hfz114_2
    try clear hfz11_0
    try clear hfz11_1
    try clear hfz11_10
    try clear hfz11_11
    try clear hfz11_2
    try clear hfz11_3
    try clear hfz11_4
    try clear hfz11_5
    try clear hfz11_6
    try clear hfz11_7
    try clear hfz11_8
    try clear hfz11_9
    try clear hfz20_0
    try clear hfz20_1
    try clear hfz20_10
    try clear hfz20_11
    try clear hfz20_2
    try clear hfz20_3
    try clear hfz20_4
    try clear hfz20_5
    try clear hfz20_6
    try clear hfz20_7
    try clear hfz20_8
    try clear hfz20_9
    try clear hfz21_0
    try clear hfz21_1
    try clear hfz21_2
    try clear hfz21_3
    try clear hfz21_4
    try clear hfz21_5
    try clear hfz26_0
    try clear hfz26_1
    try clear hfz26_2
    try clear hfz27_0
    try clear hfz27_1
    try clear hfz27_2
    try clear hfz27_3
    try clear hfz27_4
    try clear hfz27_5
    try clear hfz28_0
    try clear hfz28_1
    try clear hfz28_10
    try clear hfz28_11
    try clear hfz28_2
    try clear hfz28_3
    try clear hfz28_4
    try clear hfz28_5
    try clear hfz28_6
    try clear hfz28_7
    try clear hfz28_8
    try clear hfz28_9
    try clear hfz34_0
    try clear hfz34_1
    try clear hfz34_2
    try clear hfz35_0
    try clear hfz35_1
    try clear hfz35_2
    try clear hfz35_3
    try clear hfz35_4
    try clear hfz35_5
    try clear hfz36_0
    try clear hfz36_1
    try clear hfz36_10
    try clear hfz36_11
    try clear hfz36_2
    try clear hfz36_3
    try clear hfz36_4
    try clear hfz36_5
    try clear hfz36_6
    try clear hfz36_7
    try clear hfz36_8
    try clear hfz36_9
    try clear hfz43_0
    try clear hfz43_1
    try clear hfz43_2
    try clear hfz44_0
    try clear hfz44_1
    try clear hfz44_2
    try clear hfz44_3
    try clear hfz44_4
    try clear hfz44_5
    try clear hfz45_0
    try clear hfz45_1
    try clear hfz45_10
    try clear hfz45_11
    try clear hfz45_2
    try clear hfz45_3
    try clear hfz45_4
    try clear hfz45_5
    try clear hfz45_6
    try clear hfz45_7
    try clear hfz45_8
    try clear hfz45_9
    try clear hfz53_0
    try clear hfz53_1
    try clear hfz53_2
    try clear hfz60_0
    try clear hfz60_1
    try clear hfz60_2
    try clear hfz65_0
    try clear hfz65_1
    try clear hfz65_2
    try clear hfz73_0
    try clear hfz73_1
    try clear hfz73_2
    try clear hfz78_0
    try clear hfz78_1
    try clear hfz78_2
    try clear hfz7_0
    try clear hfz7_1
    try clear hfz7_10
    try clear hfz7_11
    try clear hfz7_2
    try clear hfz7_3
    try clear hfz7_4
    try clear hfz7_5
    try clear hfz7_6
    try clear hfz7_7
    try clear hfz7_8
    try clear hfz7_9
    try clear hfz82_0
    try clear hfz82_1
    try clear hfz82_2
    try clear hfz85_0
    try clear hfz85_1
    try clear hfz85_2
    try clear hfz91_0
    try clear hfz91_1
    try clear hfz91_2
    try clear hfz96_0
    try clear hfz96_1
    try clear hfz96_2
    try clear p2
    obtain ⟨kq, x82_17, rfl, HA, HJ17, BK474, BK476, BK482, BK487, BK492, BK497, HB⟩ := hcut
    cases kq with
    | zero => exact absurd HA.out (by simp [solventlaw14_LayoutMatchesSpec.j1])
    | succ kj17 =>
     have H := HA.out
     clear HA
     simp only [solventlaw14_LayoutMatchesSpec.j1] at H
     have HC115 := Aside0.mk H
     clear H
     go_upto_if 82 with (fail)
     go_cut [] (fun wc => ∃ (kq : Nat), Aside0 (solventlaw14_LayoutMatchesSpec.j2 kq t475 a0_6 a0_7 a0_0 a0_1 a0_2 a0_3 a0_4 a0_5 a0_6 a0_7 a0_8 a0_9 a0_10 a0_11 a0_0 a0_1 a0_2 a0_3 a0_4 a0_5 = some r) ∧ Aside0 (kq ≤ kj17) ∧ Aside0 (wc.heap[gb474]? = some (.cells #[.int .i64 a0_0, .int .i64 a0_1, .int .i64 a0_2, .int .i64 a0_3, .int .i64 a0_4, .int .i64 a0_5, .int .i64 a0_6, .int .i64 a0_7, .int .i64 a0_8, .int .i64 a0_9, .int .i64 a0_10, .int .i64 a0_11] 57 (0, 0))) ∧ Aside0 (wc.heap[gb476]? = some (.cells #[.int .i64 a0_0, .int .i64 a0_1, .int .i64 a0_2, .int .i64 a0_3, .int .i64 a0_4, .int .i64 a0_5] 23 (0, 0))) ∧ Aside0 (wc.heap[gb482]? = some (.cells #[.int .i64 t478, .int .i64 t479, .int .i64 t480] 59 (0, 0))) ∧ Aside0 (wc.heap[gb487]? = some (.cells #[.int .i64 t483, .int .i64 t484, .int .i64 t485] 59 (0, 0))) ∧ Aside0 (wc.heap[gb492]? = some (.cells #[.int .i64 t488, .int .i64 t489, .int .i64 t490] 45 (0, 0))) ∧ Aside0 (wc.heap[gb497]? = some (.cells #[.int .i64 t493, .int .i64 t494, .int .i64 t495] 45 (0, 0))) ∧ Aside0 (Below w.heap.size w wc))
     case first =>
      have H := HC115.out
      clear HC115
      by_cases c116 : x82_17 = true
      ·subst c116
       have H1 : (none) = some r := by rw [if_pos rfl] at H; exact H
       clear H
       have H := H1
       clear H1
       exact absurd H (by simp)
      ·replace c116 := Bool.eq_false_iff.mpr c116
       subst c116
       have H1 : (solventlaw14_LayoutMatchesSpec.j2 kj17 t475 a0_6 a0_7 a0_0 a0_1 a0_2 a0_3 a0_4 a0_5 a0_6 a0_7 a0_8 a0_9 a0_10 a0_11 a0_0 a0_1 a0_2 a0_3 a0_4 a0_5) = some r := by rw [if_neg (show ¬ (false = true) by decide)] at H; exact H
       clear H
       have H := H1
       clear H1
       have H' := Aside0.mk H
       clear H
       go_wp2
       go_meet
       case rel => exact ⟨_, H', ⟨by have := HJ3.out; have := HJ17.out; first | omega | exact Nat.le_refl _⟩, ⟨by (with_reducible repeat (first | refine blk_drewN ?_ _ | refine blk_drew ?_ | refine blk_alloc ?_ _)); exact BK474.out⟩, ⟨by (with_reducible repeat (first | refine blk_drewN ?_ _ | refine blk_drew ?_ | refine blk_alloc ?_ _)); exact BK476.out⟩, ⟨by (with_reducible repeat (first | refine blk_drewN ?_ _ | refine blk_drew ?_ | refine blk_alloc ?_ _)); exact BK482.out⟩, ⟨by (with_reducible repeat (first | refine blk_drewN ?_ _ | refine blk_drew ?_ | refine blk_alloc ?_ _)); exact BK487.out⟩, ⟨by (with_reducible repeat (first | refine blk_drewN ?_ _ | refine blk_drew ?_ | refine blk_alloc ?_ _)); exact BK492.out⟩, ⟨by (with_reducible repeat (first | refine blk_drewN ?_ _ | refine blk_drew ?_ | refine blk_alloc ?_ _)); exact BK497.out⟩, ⟨by repeat (first | (with_reducible first | exact HB.out | apply below_alloc | apply pw_below_drewN | apply below_drew1 | refine below_set ?_ GE474.out | refine below_set ?_ GE476.out | refine below_set ?_ GE482.out | refine below_set ?_ GE487.out | refine below_set ?_ GE492.out | refine below_set ?_ GE497.out) | exact HB.out)⟩⟩
     case rest =>
      clear HC115
      try clear c1
      try clear c2
      try clear p2
      try clear c3
      try clear c4
      try clear c5
      try clear c6
      try clear c7
      try clear c8
      try clear c9
      try clear c10
      try clear c11
      try clear c13
      try clear c19
      try clear c24
      try clear c25
      try clear c30
      try clear c31
      try clear c32
      try clear c33
      try clear c37
      try clear c38
      try clear c39
      try clear c40
      try clear c41
      try clear c42
      try clear c48
      try clear c49
      try clear c50
      try clear c51
      try clear c52
      try clear c54
      try clear c54b0
      try clear c55
      try clear c56
      try clear c57
      try clear c58
      try clear c59
      try clear c61
      try clear c62
      try clear c63
      try clear c64
      try clear c66
      try clear c66b0
      try clear c66b1
      try clear c67
      try clear c67b0
      try clear c68
      try clear c69
      try clear c70
      try clear c71
      try clear c72
      try clear c74
      try clear c75
      try clear c76
      try clear c77
      try clear c79
      try clear c80
      try clear c81
      try clear c83
      try clear c84
      try clear c86
      try clear c87
      try clear c88
      try clear c89
      try clear c90
      try clear c92
      try clear c93
      try clear c94
      try clear c95
      try clear c97
      try clear c98
      try clear c99
      try clear c101
      try clear c102
      try clear c104
      try clear c105
      try clear c106
      try clear c107
      try clear c108
      try clear c110
      try clear c111
      try clear c112
      try clear c113
      try clear c116
      try clear hcz100_0
      try clear hcz100_1
      try clear hcz100_2
      try clear hcz103_0
      try clear hcz103_1
      try clear hcz103_2
      try clear hcz109_0
      try clear hcz109_1
      try clear hcz109_2
      try clear hcz10_0
      try clear hcz10_1
      try clear hcz10_2
      try clear hcz10_3
      try clear hcz10_4
      try clear hcz10_5
      try clear hcz114_0
      try clear hcz114_1
      try clear hcz114_2
      try clear hcz11_0
      try clear hcz11_1
      try clear hcz11_10
      try clear hcz11_11
      try clear hcz11_2
      try clear hcz11_3
      try clear hcz11_4
      try clear hcz11_5
      try clear hcz11_6
      try clear hcz11_7
      try clear hcz11_8
      try clear hcz11_9
      try clear hcz20_0
      try clear hcz20_1
      try clear hcz20_10
      try clear hcz20_11
      try clear hcz20_2
      try clear hcz20_3
      try clear hcz20_4
      try clear hcz20_5
      try clear hcz20_6
      try clear hcz20_7
      try clear hcz20_8
      try clear hcz20_9
      try clear hcz21_0
      try clear hcz21_1
      try clear hcz21_2
      try clear hcz21_3
      try clear hcz21_4
      try clear hcz21_5
      try clear hcz26_0
      try clear hcz26_1
      try clear hcz26_2
      try clear hcz27_0
      try clear hcz27_1
      try clear hcz27_2
      try clear hcz27_3
      try clear hcz27_4
      try clear hcz27_5
      try clear hcz28_0
      try clear hcz28_1
      try clear hcz28_10
      try clear hcz28_11
      try clear hcz28_2
      try clear hcz28_3
      try clear hcz28_4
      try clear hcz28_5
      try clear hcz28_6
      try clear hcz28_7
      try clear hcz28_8
      try clear hcz28_9
      try clear hcz34_0
      try clear hcz34_1
      try clear hcz34_2
      try clear hcz35_0
      try clear hcz35_1
      try clear hcz35_2
      try clear hcz35_3
      try clear hcz35_4
      try clear hcz35_5
      try clear hcz36_0
      try clear hcz36_1
      try clear hcz36_10
      try clear hcz36_11
      try clear hcz36_2
      try clear hcz36_3
      try clear hcz36_4
      try clear hcz36_5
      try clear hcz36_6
      try clear hcz36_7
      try clear hcz36_8
      try clear hcz36_9
      try clear hcz43_0
      try clear hcz43_1
      try clear hcz43_2
      try clear hcz44_0
      try clear hcz44_1
      try clear hcz44_2
      try clear hcz44_3
      try clear hcz44_4
      try clear hcz44_5
      try clear hcz45_0
      try clear hcz45_1
      try clear hcz45_10
      try clear hcz45_11
      try clear hcz45_2
      try clear hcz45_3
      try clear hcz45_4
      try clear hcz45_5
      try clear hcz45_6
      try clear hcz45_7
      try clear hcz45_8
      try clear hcz45_9
      try clear hcz53_0
      try clear hcz53_1
      try clear hcz53_2
      try clear hcz60_0
      try clear hcz60_1
      try clear hcz60_2
      try clear hcz65_0
      try clear hcz65_1
      try clear hcz65_2
      try clear hcz73_0
      try clear hcz73_1
      try clear hcz73_2
      try clear hcz78_0
      try clear hcz78_1
      try clear hcz78_2
      try clear hcz7_0
      try clear hcz7_1
      try clear hcz7_10
      try clear hcz7_11
      try clear hcz7_2
      try clear hcz7_3
      try clear hcz7_4
      try clear hcz7_5
      try clear hcz7_6
      try clear hcz7_7
      try clear hcz7_8
      try clear hcz7_9
      try clear hcz82_0
      try clear hcz82_1
      try clear hcz82_2
      try clear hcz85_0
      try clear hcz85_1
      try clear hcz85_2
      try clear hcz91_0
      try clear hcz91_1
      try clear hcz91_2
      try clear hcz96_0
      try clear hcz96_1
      try clear hcz96_2
      try clear hfz100_0
      try clear hfz100_1
      try clear hfz100_2
      try clear hfz103_0
      try clear hfz103_1
      try clear hfz103_2
      try clear hfz109_0
      try clear hfz109_1
      try clear hfz109_2
      try clear hfz10_0
      try clear hfz10_1
      try clear hfz10_2
      try clear hfz10_3
      try clear hfz10_4
      try clear hfz10_5
      try clear hfz114_0
      try clear hfz114_1
      try clear hfz114_2
      try clear hfz11_0
      try clear hfz11_1
      try clear hfz11_10
      try clear hfz11_11
      try clear hfz11_2
      try clear hfz11_3
      try clear hfz11_4
      try clear hfz11_5
      try clear hfz11_6
      try clear hfz11_7
      try clear hfz11_8
      try clear hfz11_9
      try clear hfz20_0
      try clear hfz20_1
      try clear hfz20_10
      try clear hfz20_11
      try clear hfz20_2
      try clear hfz20_3
      try clear hfz20_4
      try clear hfz20_5
      try clear hfz20_6
      try clear hfz20_7
      try clear hfz20_8
      try clear hfz20_9
      try clear hfz21_0
      try clear hfz21_1
      try clear hfz21_2
      try clear hfz21_3
      try clear hfz21_4
      try clear hfz21_5
      try clear hfz26_0
      try clear hfz26_1
      try clear hfz26_2
      try clear hfz27_0
      try clear hfz27_1
      try clear hfz27_2
      try clear hfz27_3
      try clear hfz27_4
      try clear hfz27_5
      try clear hfz28_0
      try clear hfz28_1
      try clear hfz28_10
      try clear hfz28_11
      try clear hfz28_2
      try clear hfz28_3
      try clear hfz28_4
      try clear hfz28_5
      try clear hfz28_6
      try clear hfz28_7
      try clear hfz28_8
      try clear hfz28_9
      try clear hfz34_0
      try clear hfz34_1
      try clear hfz34_2
      try clear hfz35_0
      try clear hfz35_1
      try clear hfz35_2
      try clear hfz35_3
      try clear hfz35_4
      try clear hfz35_5
      try clear hfz36_0
      try clear hfz36_1
      try clear hfz36_10
      try clear hfz36_11
      try clear hfz36_2
      try clear hfz36_3
      try clear hfz36_4
      try clear hfz36_5
      try clear hfz36_6
      try clear hfz36_7
      try clear hfz36_8
      try clear hfz36_9
      try clear hfz43_0
      try clear hfz43_1
      try clear hfz43_2
      try clear hfz44_0
      try clear hfz44_1
      try clear hfz44_2
      try clear hfz44_3
      try clear hfz44_4
      try clear hfz44_5
      try clear hfz45_0
      try clear hfz45_1
      try clear hfz45_10
      try clear hfz45_11
      try clear hfz45_2
      try clear hfz45_3
      try clear hfz45_4
      try clear hfz45_5
      try clear hfz45_6
      try clear hfz45_7
      try clear hfz45_8
      try clear hfz45_9
      try clear hfz53_0
      try clear hfz53_1
      try clear hfz53_2
      try clear hfz60_0
      try clear hfz60_1
      try clear hfz60_2
      try clear hfz65_0
      try clear hfz65_1
      try clear hfz65_2
      try clear hfz73_0
      try clear hfz73_1
      try clear hfz73_2
      try clear hfz78_0
      try clear hfz78_1
      try clear hfz78_2
      try clear hfz7_0
      try clear hfz7_1
      try clear hfz7_10
      try clear hfz7_11
      try clear hfz7_2
      try clear hfz7_3
      try clear hfz7_4
      try clear hfz7_5
      try clear hfz7_6
      try clear hfz7_7
      try clear hfz7_8
      try clear hfz7_9
      try clear hfz82_0
      try clear hfz82_1
      try clear hfz82_2
      try clear hfz85_0
      try clear hfz85_1
      try clear hfz85_2
      try clear hfz91_0
      try clear hfz91_1
      try clear hfz91_2
      try clear hfz96_0
      try clear hfz96_1
      try clear hfz96_2
      try clear p2
      obtain ⟨kq, HA, HJ114, BK474, BK476, BK482, BK487, BK492, BK497, HB⟩ := hcut
      cases kq with
      | zero => exact absurd HA.out (by simp [solventlaw14_LayoutMatchesSpec.j2])
      | succ kj114 =>
       have H := HA.out
       clear HA
       simp only [solventlaw14_LayoutMatchesSpec.j2] at H
       replace H := Option.bind_eq_some_iff.mp H
       obtain ⟨t498, A1170, H⟩ := H
       replace H : ((solventref14_Place.f kj114 a0_0 a0_1 a0_2 a0_3 a0_4 a0_5 a0_7 a0_6 a0_8).bind fun t501 => ((solventref13_Same.f kj114 t498 t501).bind fun t504 => ((layout_Spares.f kj114 a0_0 a0_1 a0_2 a0_3 a0_4 a0_5 a0_7 a0_6).bind fun t505 => ((solventref14_Spares.f kj114 a0_0 a0_1 a0_2 a0_3 a0_4 a0_5 a0_7 a0_6).bind fun t508 => ((solventref13_Same.f kj114 t505 t508).bind fun t511 => ((layout_Units.f kj114 a0_0 a0_1 a0_2 a0_3 a0_4 a0_5 a0_6 a0_10 a0_11).bind fun t512 => ((solventref14_Units.f kj114 a0_0 a0_1 a0_2 a0_3 a0_4 a0_5 a0_6 a0_10 a0_11).bind fun t513 => (if t475 = true then (if t504 = true then (if t511 = true then (if t512 = t513 then ((layout_Groups.f kj114 a0_0 a0_1 a0_2 a0_3 a0_4 a0_5 a0_6).bind fun t514 => ((solventref14_Groups.f kj114 a0_0 a0_1 a0_2 a0_3 a0_4 a0_5 a0_6).bind fun t515 => (if t514 = t515 then ((layout_Crowd.f kj114 a0_0 a0_1 a0_2 a0_3 a0_4 a0_5 a0_6).bind fun t516 => ((solventref14_Crowd.f kj114 a0_0 a0_1 a0_2 a0_3 a0_4 a0_5 a0_6).bind fun t517 => (some (t516 == t517)))) else (none)))) else (none)) else (none)) else (none)) else (none))))))))) = some r := H
       have A117 := Aside0.mk A1170
       clear A1170
       replace H := Option.bind_eq_some_iff.mp H
       obtain ⟨t501, A1180, H⟩ := H
       replace H : ((solventref13_Same.f kj114 t498 t501).bind fun t504 => ((layout_Spares.f kj114 a0_0 a0_1 a0_2 a0_3 a0_4 a0_5 a0_7 a0_6).bind fun t505 => ((solventref14_Spares.f kj114 a0_0 a0_1 a0_2 a0_3 a0_4 a0_5 a0_7 a0_6).bind fun t508 => ((solventref13_Same.f kj114 t505 t508).bind fun t511 => ((layout_Units.f kj114 a0_0 a0_1 a0_2 a0_3 a0_4 a0_5 a0_6 a0_10 a0_11).bind fun t512 => ((solventref14_Units.f kj114 a0_0 a0_1 a0_2 a0_3 a0_4 a0_5 a0_6 a0_10 a0_11).bind fun t513 => (if t475 = true then (if t504 = true then (if t511 = true then (if t512 = t513 then ((layout_Groups.f kj114 a0_0 a0_1 a0_2 a0_3 a0_4 a0_5 a0_6).bind fun t514 => ((solventref14_Groups.f kj114 a0_0 a0_1 a0_2 a0_3 a0_4 a0_5 a0_6).bind fun t515 => (if t514 = t515 then ((layout_Crowd.f kj114 a0_0 a0_1 a0_2 a0_3 a0_4 a0_5 a0_6).bind fun t516 => ((solventref14_Crowd.f kj114 a0_0 a0_1 a0_2 a0_3 a0_4 a0_5 a0_6).bind fun t517 => (some (t516 == t517)))) else (none)))) else (none)) else (none)) else (none)) else (none)))))))) = some r := H
       have A118 := Aside0.mk A1180
       clear A1180
       replace H := Option.bind_eq_some_iff.mp H
       obtain ⟨t504, A1190, H⟩ := H
       replace H : ((layout_Spares.f kj114 a0_0 a0_1 a0_2 a0_3 a0_4 a0_5 a0_7 a0_6).bind fun t505 => ((solventref14_Spares.f kj114 a0_0 a0_1 a0_2 a0_3 a0_4 a0_5 a0_7 a0_6).bind fun t508 => ((solventref13_Same.f kj114 t505 t508).bind fun t511 => ((layout_Units.f kj114 a0_0 a0_1 a0_2 a0_3 a0_4 a0_5 a0_6 a0_10 a0_11).bind fun t512 => ((solventref14_Units.f kj114 a0_0 a0_1 a0_2 a0_3 a0_4 a0_5 a0_6 a0_10 a0_11).bind fun t513 => (if t475 = true then (if t504 = true then (if t511 = true then (if t512 = t513 then ((layout_Groups.f kj114 a0_0 a0_1 a0_2 a0_3 a0_4 a0_5 a0_6).bind fun t514 => ((solventref14_Groups.f kj114 a0_0 a0_1 a0_2 a0_3 a0_4 a0_5 a0_6).bind fun t515 => (if t514 = t515 then ((layout_Crowd.f kj114 a0_0 a0_1 a0_2 a0_3 a0_4 a0_5 a0_6).bind fun t516 => ((solventref14_Crowd.f kj114 a0_0 a0_1 a0_2 a0_3 a0_4 a0_5 a0_6).bind fun t517 => (some (t516 == t517)))) else (none)))) else (none)) else (none)) else (none)) else (none))))))) = some r := H
       have A119 := Aside0.mk A1190
       clear A1190
       replace H := Option.bind_eq_some_iff.mp H
       obtain ⟨t505, A1200, H⟩ := H
       replace H : ((solventref14_Spares.f kj114 a0_0 a0_1 a0_2 a0_3 a0_4 a0_5 a0_7 a0_6).bind fun t508 => ((solventref13_Same.f kj114 t505 t508).bind fun t511 => ((layout_Units.f kj114 a0_0 a0_1 a0_2 a0_3 a0_4 a0_5 a0_6 a0_10 a0_11).bind fun t512 => ((solventref14_Units.f kj114 a0_0 a0_1 a0_2 a0_3 a0_4 a0_5 a0_6 a0_10 a0_11).bind fun t513 => (if t475 = true then (if t504 = true then (if t511 = true then (if t512 = t513 then ((layout_Groups.f kj114 a0_0 a0_1 a0_2 a0_3 a0_4 a0_5 a0_6).bind fun t514 => ((solventref14_Groups.f kj114 a0_0 a0_1 a0_2 a0_3 a0_4 a0_5 a0_6).bind fun t515 => (if t514 = t515 then ((layout_Crowd.f kj114 a0_0 a0_1 a0_2 a0_3 a0_4 a0_5 a0_6).bind fun t516 => ((solventref14_Crowd.f kj114 a0_0 a0_1 a0_2 a0_3 a0_4 a0_5 a0_6).bind fun t517 => (some (t516 == t517)))) else (none)))) else (none)) else (none)) else (none)) else (none)))))) = some r := H
       have A120 := Aside0.mk A1200
       clear A1200
       replace H := Option.bind_eq_some_iff.mp H
       obtain ⟨t508, A1210, H⟩ := H
       replace H : ((solventref13_Same.f kj114 t505 t508).bind fun t511 => ((layout_Units.f kj114 a0_0 a0_1 a0_2 a0_3 a0_4 a0_5 a0_6 a0_10 a0_11).bind fun t512 => ((solventref14_Units.f kj114 a0_0 a0_1 a0_2 a0_3 a0_4 a0_5 a0_6 a0_10 a0_11).bind fun t513 => (if t475 = true then (if t504 = true then (if t511 = true then (if t512 = t513 then ((layout_Groups.f kj114 a0_0 a0_1 a0_2 a0_3 a0_4 a0_5 a0_6).bind fun t514 => ((solventref14_Groups.f kj114 a0_0 a0_1 a0_2 a0_3 a0_4 a0_5 a0_6).bind fun t515 => (if t514 = t515 then ((layout_Crowd.f kj114 a0_0 a0_1 a0_2 a0_3 a0_4 a0_5 a0_6).bind fun t516 => ((solventref14_Crowd.f kj114 a0_0 a0_1 a0_2 a0_3 a0_4 a0_5 a0_6).bind fun t517 => (some (t516 == t517)))) else (none)))) else (none)) else (none)) else (none)) else (none))))) = some r := H
       have A121 := Aside0.mk A1210
       clear A1210
       replace H := Option.bind_eq_some_iff.mp H
       obtain ⟨t511, A1220, H⟩ := H
       replace H : ((layout_Units.f kj114 a0_0 a0_1 a0_2 a0_3 a0_4 a0_5 a0_6 a0_10 a0_11).bind fun t512 => ((solventref14_Units.f kj114 a0_0 a0_1 a0_2 a0_3 a0_4 a0_5 a0_6 a0_10 a0_11).bind fun t513 => (if t475 = true then (if t504 = true then (if t511 = true then (if t512 = t513 then ((layout_Groups.f kj114 a0_0 a0_1 a0_2 a0_3 a0_4 a0_5 a0_6).bind fun t514 => ((solventref14_Groups.f kj114 a0_0 a0_1 a0_2 a0_3 a0_4 a0_5 a0_6).bind fun t515 => (if t514 = t515 then ((layout_Crowd.f kj114 a0_0 a0_1 a0_2 a0_3 a0_4 a0_5 a0_6).bind fun t516 => ((solventref14_Crowd.f kj114 a0_0 a0_1 a0_2 a0_3 a0_4 a0_5 a0_6).bind fun t517 => (some (t516 == t517)))) else (none)))) else (none)) else (none)) else (none)) else (none)))) = some r := H
       have A122 := Aside0.mk A1220
       clear A1220
       replace H := Option.bind_eq_some_iff.mp H
       obtain ⟨t512, A1230, H⟩ := H
       replace H : ((solventref14_Units.f kj114 a0_0 a0_1 a0_2 a0_3 a0_4 a0_5 a0_6 a0_10 a0_11).bind fun t513 => (if t475 = true then (if t504 = true then (if t511 = true then (if t512 = t513 then ((layout_Groups.f kj114 a0_0 a0_1 a0_2 a0_3 a0_4 a0_5 a0_6).bind fun t514 => ((solventref14_Groups.f kj114 a0_0 a0_1 a0_2 a0_3 a0_4 a0_5 a0_6).bind fun t515 => (if t514 = t515 then ((layout_Crowd.f kj114 a0_0 a0_1 a0_2 a0_3 a0_4 a0_5 a0_6).bind fun t516 => ((solventref14_Crowd.f kj114 a0_0 a0_1 a0_2 a0_3 a0_4 a0_5 a0_6).bind fun t517 => (some (t516 == t517)))) else (none)))) else (none)) else (none)) else (none)) else (none))) = some r := H
       have A123 := Aside0.mk A1230
       clear A1230
       replace H := Option.bind_eq_some_iff.mp H
       obtain ⟨t513, A1240, H⟩ := H
       replace H : (if t475 = true then (if t504 = true then (if t511 = true then (if t512 = t513 then ((layout_Groups.f kj114 a0_0 a0_1 a0_2 a0_3 a0_4 a0_5 a0_6).bind fun t514 => ((solventref14_Groups.f kj114 a0_0 a0_1 a0_2 a0_3 a0_4 a0_5 a0_6).bind fun t515 => (if t514 = t515 then ((layout_Crowd.f kj114 a0_0 a0_1 a0_2 a0_3 a0_4 a0_5 a0_6).bind fun t516 => ((solventref14_Crowd.f kj114 a0_0 a0_1 a0_2 a0_3 a0_4 a0_5 a0_6).bind fun t517 => (some (t516 == t517)))) else (none)))) else (none)) else (none)) else (none)) else (none)) = some r := H
       have A124 := Aside0.mk A1240
       clear A1240
       by_cases c125 : t475 = true
       ·subst c125
        have H1 : (if t504 = true then (if t511 = true then (if t512 = t513 then ((layout_Groups.f kj114 a0_0 a0_1 a0_2 a0_3 a0_4 a0_5 a0_6).bind fun t514 => ((solventref14_Groups.f kj114 a0_0 a0_1 a0_2 a0_3 a0_4 a0_5 a0_6).bind fun t515 => (if t514 = t515 then ((layout_Crowd.f kj114 a0_0 a0_1 a0_2 a0_3 a0_4 a0_5 a0_6).bind fun t516 => ((solventref14_Crowd.f kj114 a0_0 a0_1 a0_2 a0_3 a0_4 a0_5 a0_6).bind fun t517 => (some (t516 == t517)))) else (none)))) else (none)) else (none)) else (none)) = some r := by rw [if_pos rfl] at H; exact H
        clear H
        have H := H1
        clear H1
        by_cases c126 : t504 = true
        ·subst c126
         have H1 : (if t511 = true then (if t512 = t513 then ((layout_Groups.f kj114 a0_0 a0_1 a0_2 a0_3 a0_4 a0_5 a0_6).bind fun t514 => ((solventref14_Groups.f kj114 a0_0 a0_1 a0_2 a0_3 a0_4 a0_5 a0_6).bind fun t515 => (if t514 = t515 then ((layout_Crowd.f kj114 a0_0 a0_1 a0_2 a0_3 a0_4 a0_5 a0_6).bind fun t516 => ((solventref14_Crowd.f kj114 a0_0 a0_1 a0_2 a0_3 a0_4 a0_5 a0_6).bind fun t517 => (some (t516 == t517)))) else (none)))) else (none)) else (none)) = some r := by rw [if_pos rfl] at H; exact H
         clear H
         have H := H1
         clear H1
         by_cases c127 : t511 = true
         ·subst c127
          have H1 : (if t512 = t513 then ((layout_Groups.f kj114 a0_0 a0_1 a0_2 a0_3 a0_4 a0_5 a0_6).bind fun t514 => ((solventref14_Groups.f kj114 a0_0 a0_1 a0_2 a0_3 a0_4 a0_5 a0_6).bind fun t515 => (if t514 = t515 then ((layout_Crowd.f kj114 a0_0 a0_1 a0_2 a0_3 a0_4 a0_5 a0_6).bind fun t516 => ((solventref14_Crowd.f kj114 a0_0 a0_1 a0_2 a0_3 a0_4 a0_5 a0_6).bind fun t517 => (some (t516 == t517)))) else (none)))) else (none)) = some r := by rw [if_pos rfl] at H; exact H
          clear H
          have H := H1
          clear H1
          by_cases c128 : t512 = t513
          ·rw [if_pos c128] at H
           have c128b0 : (t512 == t513) = true := beq_iff_eq.mpr c128
           have c128b1 : (t512 != t513) = false := bne_eq_false_iff_eq.mpr c128
           clear c128
           replace H := Option.bind_eq_some_iff.mp H
           obtain ⟨t514, A1290, H⟩ := H
           replace H : ((solventref14_Groups.f kj114 a0_0 a0_1 a0_2 a0_3 a0_4 a0_5 a0_6).bind fun t515 => (if t514 = t515 then ((layout_Crowd.f kj114 a0_0 a0_1 a0_2 a0_3 a0_4 a0_5 a0_6).bind fun t516 => ((solventref14_Crowd.f kj114 a0_0 a0_1 a0_2 a0_3 a0_4 a0_5 a0_6).bind fun t517 => (some (t516 == t517)))) else (none))) = some r := H
           have A129 := Aside0.mk A1290
           clear A1290
           replace H := Option.bind_eq_some_iff.mp H
           obtain ⟨t515, A1300, H⟩ := H
           replace H : (if t514 = t515 then ((layout_Crowd.f kj114 a0_0 a0_1 a0_2 a0_3 a0_4 a0_5 a0_6).bind fun t516 => ((solventref14_Crowd.f kj114 a0_0 a0_1 a0_2 a0_3 a0_4 a0_5 a0_6).bind fun t517 => (some (t516 == t517)))) else (none)) = some r := H
           have A130 := Aside0.mk A1300
           clear A1300
           by_cases c131 : t514 = t515
           ·rw [if_pos c131] at H
            have c131b0 : (t514 == t515) = true := beq_iff_eq.mpr c131
            have c131b1 : (t514 != t515) = false := bne_eq_false_iff_eq.mpr c131
            clear c131
            replace H := Option.bind_eq_some_iff.mp H
            obtain ⟨t516, A1320, H⟩ := H
            replace H : ((solventref14_Crowd.f kj114 a0_0 a0_1 a0_2 a0_3 a0_4 a0_5 a0_6).bind fun t517 => (some (t516 == t517))) = some r := H
            have A132 := Aside0.mk A1320
            clear A1320
            replace H := Option.bind_eq_some_iff.mp H
            obtain ⟨t517, A1330, H⟩ := H
            replace H : (some (t516 == t517)) = some r := H
            have A133 := Aside0.mk A1330
            clear A1330
            obtain rfl := Option.some.inj H
            try go_wp2
            have n0_ := Aside0.mk (blk_drew BK474.out)
            have n1_ := Aside0.mk (blk_drew BK476.out)
            have n2_ := Aside0.mk (blk_drew BK482.out)
            have n3_ := Aside0.mk (blk_drew BK487.out)
            have n4_ := Aside0.mk (blk_drew BK492.out)
            have n5_ := Aside0.mk (blk_drew BK497.out)
            have n6_ := Aside0.mk (below_drew1 HB.out)
            clear BK474
            clear BK476
            clear BK482
            clear BK487
            clear BK492
            clear BK497
            clear HB
            have BK474 := n0_
            have BK476 := n1_
            have BK482 := n2_
            have BK487 := n3_
            have BK492 := n4_
            have BK497 := n5_
            have HB := n6_
            clear n0_ n1_ n2_ n3_ n4_ n5_ n6_
            refine start_ (n := 18) (S := fun w' => w'.cell? ⟨gb476, 0, none⟩ = some (.int .i64 a0_0) ∧ w'.cell? ⟨gb476, 1, none⟩ = some (.int .i64 a0_1) ∧ w'.cell? ⟨gb476, 2, none⟩ = some (.int .i64 a0_2) ∧ w'.cell? ⟨gb476, 3, none⟩ = some (.int .i64 a0_3) ∧ w'.cell? ⟨gb476, 4, none⟩ = some (.int .i64 a0_4) ∧ w'.cell? ⟨gb476, 5, none⟩ = some (.int .i64 a0_5) ∧ w'.cell? ⟨gb474, 0, none⟩ = some (.int .i64 a0_0) ∧ w'.cell? ⟨gb474, 1, none⟩ = some (.int .i64 a0_1) ∧ w'.cell? ⟨gb474, 2, none⟩ = some (.int .i64 a0_2) ∧ w'.cell? ⟨gb474, 3, none⟩ = some (.int .i64 a0_3) ∧ w'.cell? ⟨gb474, 4, none⟩ = some (.int .i64 a0_4) ∧ w'.cell? ⟨gb474, 5, none⟩ = some (.int .i64 a0_5) ∧ w'.cell? ⟨gb474, 6, none⟩ = some (.int .i64 a0_6) ∧ w'.cell? ⟨gb474, 7, none⟩ = some (.int .i64 a0_7) ∧ w'.cell? ⟨gb474, 8, none⟩ = some (.int .i64 a0_8) ∧ w'.cell? ⟨gb474, 9, none⟩ = some (.int .i64 a0_9) ∧ w'.cell? ⟨gb474, 10, none⟩ = some (.int .i64 a0_10) ∧ w'.cell? ⟨gb474, 11, none⟩ = some (.int .i64 a0_11)) (ds := []) #[false, false, false, false, false, false, false, false, false, false, false, false, false, false, false, false, false, false] (by kernel_rfl) rfl rfl ⟨(blk_cell BK476.out 0).trans rfl, (blk_cell BK476.out 1).trans rfl, (blk_cell BK476.out 2).trans rfl, (blk_cell BK476.out 3).trans rfl, (blk_cell BK476.out 4).trans rfl, (blk_cell BK476.out 5).trans rfl, (blk_cell BK474.out 0).trans rfl, (blk_cell BK474.out 1).trans rfl, (blk_cell BK474.out 2).trans rfl, (blk_cell BK474.out 3).trans rfl, (blk_cell BK474.out 4).trans rfl, (blk_cell BK474.out 5).trans rfl, (blk_cell BK474.out 6).trans rfl, (blk_cell BK474.out 7).trans rfl, (blk_cell BK474.out 8).trans rfl, (blk_cell BK474.out 9).trans rfl, (blk_cell BK474.out 10).trans rfl, (blk_cell BK474.out 11).trans rfl⟩ (fun hHeld => ?_); refine with_tabW solventlaw14_LayoutMatchesSpec.tab13 solventlaw14_LayoutMatchesSpec.bits13 (fun HT_ HW_ => ?_)
            generalize wc.drew = w134 at BK474 BK476 BK482 BK487 BK492 BK497 HB hHeld ⊢
            refine pure_ (i := 1) (N := some 84) (v := ?_) (a' := ?_) #[false, true, false, false, false, false, false, false, false, false, false, false, false, false, false, false, false, false] rfl rfl (any_of HT_.out (by kernel_rfl)) (fun _ _ _ h => h) (Or.inl ⟨by rfl, ?_⟩) ?_ ?_
            rotate_left
            ·intro w'
             go_simp
             with_reducible rfl
            rotate_left
            ·simp only [Act.put, List.setIfInBounds_toArray, List.set_cons_zero, List.set_cons_succ, i64_w, i32_w]
             rfl
            refine pure_ (i := 2) (N := some 85) (v := ?_) (a' := ?_) #[false, true, true, false, false, false, false, false, false, false, false, false, false, false, false, false, false, false] rfl rfl (any_of HT_.out (by kernel_rfl)) (fun _ _ _ h => h) (Or.inl ⟨by rfl, ?_⟩) ?_ ?_
            rotate_left
            ·intro w'
             go_simp
             with_reducible rfl
            rotate_left
            ·simp only [Act.put, List.setIfInBounds_toArray, List.set_cons_zero, List.set_cons_succ, i64_w, i32_w]
             rfl
            refine pure_ (i := 3) (N := some 86) (v := ?_) (a' := ?_) #[false, true, true, true, false, false, false, false, false, false, false, false, false, false, false, false, false, false] rfl rfl (any_of HT_.out (by kernel_rfl)) (fun _ _ _ h => h) (Or.inl ⟨by rfl, ?_⟩) ?_ ?_
            rotate_left
            ·intro w'
             go_simp
             with_reducible rfl
            rotate_left
            ·simp only [Act.put, List.setIfInBounds_toArray, List.set_cons_zero, List.set_cons_succ, i64_w, i32_w]
             rfl
            refine pure_ (i := 4) (N := some 87) (v := ?_) (a' := ?_) #[false, true, true, true, true, false, false, false, false, false, false, false, false, false, false, false, false, false] rfl rfl (any_of HT_.out (by kernel_rfl)) (fun _ _ _ h => h) (Or.inl ⟨by rfl, ?_⟩) ?_ ?_
            rotate_left
            ·intro w'
             go_simp
             with_reducible rfl
            rotate_left
            ·simp only [Act.put, List.setIfInBounds_toArray, List.set_cons_zero, List.set_cons_succ, i64_w, i32_w]
             rfl
            refine pure_ (i := 5) (N := some 88) (v := ?_) (a' := ?_) #[false, true, true, true, true, true, false, false, false, false, false, false, false, false, false, false, false, false] rfl rfl (any_of HT_.out (by kernel_rfl)) (fun _ _ _ h => h) (Or.inl ⟨by rfl, ?_⟩) ?_ ?_
            rotate_left
            ·intro w'
             go_simp
             with_reducible rfl
            rotate_left
            ·simp only [Act.put, List.setIfInBounds_toArray, List.set_cons_zero, List.set_cons_succ, i64_w, i32_w]
             rfl
            refine pure_ (i := 9) (N := some 92) (v := ?_) (a' := ?_) #[false, true, true, true, true, true, false, false, false, true, false, false, false, false, false, false, false, false] rfl rfl (any_of HT_.out (by kernel_rfl)) (fun _ _ _ h => h) (Or.inl ⟨by rfl, ?_⟩) ?_ ?_
            rotate_left
            ·intro w'
             go_simp
             with_reducible rfl
            rotate_left
            ·simp only [Act.put, List.setIfInBounds_toArray, List.set_cons_zero, List.set_cons_succ, i64_w, i32_w]
             rfl
            refine pure_ (i := 10) (N := some 93) (v := ?_) (a' := ?_) #[false, true, true, true, true, true, false, false, false, true, true, false, false, false, false, false, false, false] rfl rfl (any_of HT_.out (by kernel_rfl)) (fun _ _ _ h => h) (Or.inl ⟨by rfl, ?_⟩) ?_ ?_
            rotate_left
            ·intro w'
             go_simp
             with_reducible rfl
            rotate_left
            ·simp only [Act.put, List.setIfInBounds_toArray, List.set_cons_zero, List.set_cons_succ, i64_w, i32_w]
             rfl
            refine pure_ (i := 11) (N := some 94) (v := ?_) (a' := ?_) #[false, true, true, true, true, true, false, false, false, true, true, true, false, false, false, false, false, false] rfl rfl (any_of HT_.out (by kernel_rfl)) (fun _ _ _ h => h) (Or.inl ⟨by rfl, ?_⟩) ?_ ?_
            rotate_left
            ·intro w'
             go_simp
             with_reducible rfl
            rotate_left
            ·simp only [Act.put, List.setIfInBounds_toArray, List.set_cons_zero, List.set_cons_succ, i64_w, i32_w]
             rfl
            refine pure_ (i := 12) (N := some 95) (v := ?_) (a' := ?_) #[false, true, true, true, true, true, false, false, false, true, true, true, true, false, false, false, false, false] rfl rfl (any_of HT_.out (by kernel_rfl)) (fun _ _ _ h => h) (Or.inl ⟨by rfl, ?_⟩) ?_ ?_
            rotate_left
            ·intro w'
             go_simp
             with_reducible rfl
            rotate_left
            ·simp only [Act.put, List.setIfInBounds_toArray, List.set_cons_zero, List.set_cons_succ, i64_w, i32_w]
             rfl
            refine pure_ (i := 13) (N := some 96) (v := ?_) (a' := ?_) #[false, true, true, true, true, true, false, false, false, true, true, true, true, true, false, false, false, false] rfl rfl (any_of HT_.out (by kernel_rfl)) (fun _ _ _ h => h) (Or.inl ⟨by rfl, ?_⟩) ?_ ?_
            rotate_left
            ·intro w'
             go_simp
             with_reducible rfl
            rotate_left
            ·simp only [Act.put, List.setIfInBounds_toArray, List.set_cons_zero, List.set_cons_succ, i64_w, i32_w]
             rfl
            refine take_ (i := 0) (N := some 83) (v := ?_) (a' := ?_) #[true, true, true, true, true, true, false, false, false, true, true, true, true, true, false, false, false, false] rfl rfl (take_ofW HT_.out HW_.out (by kernel_rfl)) (fun _ _ _ h => h) (Or.inl ⟨by rfl, ?_⟩) hHeld ?_ ?_
            rotate_left
            ·rintro w' ⟨s0, s1, s2, s3, s4, s5, s6, s7, s8, s9, s10, s11, s12, s13, s14, s15, s16, s17⟩
             go_simp
             with_reducible rfl
            rotate_left
            ·simp only [Act.put, List.setIfInBounds_toArray, List.set_cons_zero, List.set_cons_succ, i64_w, i32_w]
             rfl
            refine take_ (i := 6) (N := some 89) (v := ?_) (a' := ?_) #[true, true, true, true, true, true, true, false, false, true, true, true, true, true, false, false, false, false] rfl rfl (take_ofW HT_.out HW_.out (by kernel_rfl)) (fun _ _ _ h => h) (Or.inl ⟨by rfl, ?_⟩) hHeld ?_ ?_
            rotate_left
            ·rintro w' ⟨s0, s1, s2, s3, s4, s5, s6, s7, s8, s9, s10, s11, s12, s13, s14, s15, s16, s17⟩
             go_simp
             with_reducible rfl
            rotate_left
            ·simp only [Act.put, List.setIfInBounds_toArray, List.set_cons_zero, List.set_cons_succ, i64_w, i32_w]
             rfl
            refine take_ (i := 8) (N := some 91) (v := ?_) (a' := ?_) #[true, true, true, true, true, true, true, false, true, true, true, true, true, true, false, false, false, false] rfl rfl (take_ofW HT_.out HW_.out (by kernel_rfl)) (fun _ _ _ h => h) (Or.inl ⟨by rfl, ?_⟩) hHeld ?_ ?_
            rotate_left
            ·rintro w' ⟨s0, s1, s2, s3, s4, s5, s6, s7, s8, s9, s10, s11, s12, s13, s14, s15, s16, s17⟩
             go_simp
             with_reducible rfl
            rotate_left
            ·simp only [Act.put, List.setIfInBounds_toArray, List.set_cons_zero, List.set_cons_succ, i64_w, i32_w]
             rfl
            refine take_ (i := 14) (N := some 97) (v := ?_) (a' := ?_) #[true, true, true, true, true, true, true, false, true, true, true, true, true, true, true, false, false, false] rfl rfl (take_ofW HT_.out HW_.out (by kernel_rfl)) (fun _ _ _ h => h) (Or.inl ⟨by rfl, ?_⟩) hHeld ?_ ?_
            rotate_left
            ·rintro w' ⟨s0, s1, s2, s3, s4, s5, s6, s7, s8, s9, s10, s11, s12, s13, s14, s15, s16, s17⟩
             go_simp
             with_reducible rfl
            rotate_left
            ·simp only [Act.put, List.setIfInBounds_toArray, List.set_cons_zero, List.set_cons_succ, i64_w, i32_w]
             rfl
            refine one_ (i := 7) (N := some 90) #[true, true, true, true, true, true, true, true, true, true, true, true, true, true, true, false, false, false] rfl rfl (one_of HT_.out (by kernel_rfl)) (by decide) (fun K hK => ?_)
            refine goes_ Try.func35 (by kernel_rfl) rfl #[.agg #[.int .i64 a0_0, .int .i64 a0_1, .int .i64 a0_2, .int .i64 a0_3, .int .i64 a0_4, .int .i64 a0_5], .int .i64 a0_7, .int .i64 a0_6, .int .i64 a0_8] (by rfl) rfl rfl (by (try simp only [List.map_toArray, List.map_cons, List.map_nil]); first | done | rfl | (simp only [List.length_drop, List.length_take]; rfl)) ?_
            with_reducible refine (layout_Place.calls kj114 a0_0 a0_1 a0_2 a0_3 a0_4 a0_5 a0_7 a0_6 a0_8 t498 _ A117.out).mono ?_
            rintro e w135 ⟨v499, rfl, ho0, hb⟩
            refine ⟨_, rfl, ?_⟩
            have n0_ := Aside0.mk (Kd.V_lower (Kd.V_mono (ok' := fun k_ => k_ ≠ gb474 ∧ k_ ≠ gb476 ∧ k_ ≠ gb482 ∧ k_ ≠ gb487 ∧ k_ ≠ gb492 ∧ k_ ≠ gb497) ho0 (fun k_ hk_ => ⟨(Kd.freshB (g := gb474) (o := .cells #[.int .i64 a0_0, .int .i64 a0_1, .int .i64 a0_2, .int .i64 a0_3, .int .i64 a0_4, .int .i64 a0_5, .int .i64 a0_6, .int .i64 a0_7, .int .i64 a0_8, .int .i64 a0_9, .int .i64 a0_10, .int .i64 a0_11] 57 (0, 0)) (by (with_reducible repeat (first | refine blk_drewN ?_ _ | refine blk_drew ?_ | refine blk_alloc ?_ _)); exact BK474.out) k_ hk_), (Kd.freshB (g := gb476) (o := .cells #[.int .i64 a0_0, .int .i64 a0_1, .int .i64 a0_2, .int .i64 a0_3, .int .i64 a0_4, .int .i64 a0_5] 23 (0, 0)) (by (with_reducible repeat (first | refine blk_drewN ?_ _ | refine blk_drew ?_ | refine blk_alloc ?_ _)); exact BK476.out) k_ hk_), (Kd.freshB (g := gb482) (o := .cells #[.int .i64 t478, .int .i64 t479, .int .i64 t480] 59 (0, 0)) (by (with_reducible repeat (first | refine blk_drewN ?_ _ | refine blk_drew ?_ | refine blk_alloc ?_ _)); exact BK482.out) k_ hk_), (Kd.freshB (g := gb487) (o := .cells #[.int .i64 t483, .int .i64 t484, .int .i64 t485] 59 (0, 0)) (by (with_reducible repeat (first | refine blk_drewN ?_ _ | refine blk_drew ?_ | refine blk_alloc ?_ _)); exact BK487.out) k_ hk_), (Kd.freshB (g := gb492) (o := .cells #[.int .i64 t488, .int .i64 t489, .int .i64 t490] 45 (0, 0)) (by (with_reducible repeat (first | refine blk_drewN ?_ _ | refine blk_drew ?_ | refine blk_alloc ?_ _)); exact BK492.out) k_ hk_), (Kd.freshB (g := gb497) (o := .cells #[.int .i64 t493, .int .i64 t494, .int .i64 t495] 45 (0, 0)) (by (with_reducible repeat (first | refine blk_drewN ?_ _ | refine blk_drew ?_ | refine blk_alloc ?_ _)); exact BK497.out) k_ hk_)⟩)) (below_size (by repeat (first | (with_reducible first | exact HB.out | apply below_alloc | apply pw_below_drewN | apply below_drew1 | refine below_set ?_ GE474.out | refine below_set ?_ GE476.out | refine below_set ?_ GE482.out | refine below_set ?_ GE487.out | refine below_set ?_ GE492.out | refine below_set ?_ GE497.out) | exact HB.out))))
            have n1_ := Aside0.mk (blk_below (g := gb474) (o := .cells #[.int .i64 a0_0, .int .i64 a0_1, .int .i64 a0_2, .int .i64 a0_3, .int .i64 a0_4, .int .i64 a0_5, .int .i64 a0_6, .int .i64 a0_7, .int .i64 a0_8, .int .i64 a0_9, .int .i64 a0_10, .int .i64 a0_11] 57 (0, 0)) (by (with_reducible repeat (first | refine blk_drewN ?_ _ | refine blk_drew ?_ | refine blk_alloc ?_ _)); exact BK474.out) hb)
            have n2_ := Aside0.mk (blk_below (g := gb476) (o := .cells #[.int .i64 a0_0, .int .i64 a0_1, .int .i64 a0_2, .int .i64 a0_3, .int .i64 a0_4, .int .i64 a0_5] 23 (0, 0)) (by (with_reducible repeat (first | refine blk_drewN ?_ _ | refine blk_drew ?_ | refine blk_alloc ?_ _)); exact BK476.out) hb)
            have n3_ := Aside0.mk (blk_below (g := gb482) (o := .cells #[.int .i64 t478, .int .i64 t479, .int .i64 t480] 59 (0, 0)) (by (with_reducible repeat (first | refine blk_drewN ?_ _ | refine blk_drew ?_ | refine blk_alloc ?_ _)); exact BK482.out) hb)
            have n4_ := Aside0.mk (blk_below (g := gb487) (o := .cells #[.int .i64 t483, .int .i64 t484, .int .i64 t485] 59 (0, 0)) (by (with_reducible repeat (first | refine blk_drewN ?_ _ | refine blk_drew ?_ | refine blk_alloc ?_ _)); exact BK487.out) hb)
            have n5_ := Aside0.mk (blk_below (g := gb492) (o := .cells #[.int .i64 t488, .int .i64 t489, .int .i64 t490] 45 (0, 0)) (by (with_reducible repeat (first | refine blk_drewN ?_ _ | refine blk_drew ?_ | refine blk_alloc ?_ _)); exact BK492.out) hb)
            have n6_ := Aside0.mk (blk_below (g := gb497) (o := .cells #[.int .i64 t493, .int .i64 t494, .int .i64 t495] 45 (0, 0)) (by (with_reducible repeat (first | refine blk_drewN ?_ _ | refine blk_drew ?_ | refine blk_alloc ?_ _)); exact BK497.out) hb)
            have n7_ := Aside0.mk (below_step (by repeat (first | (with_reducible first | exact HB.out | apply below_alloc | apply pw_below_drewN | apply below_drew1 | refine below_set ?_ GE474.out | refine below_set ?_ GE476.out | refine below_set ?_ GE482.out | refine below_set ?_ GE487.out | refine below_set ?_ GE492.out | refine below_set ?_ GE497.out) | exact HB.out)) hb)
            clear BK474
            clear BK476
            clear BK482
            clear BK487
            clear BK492
            clear BK497
            clear HB
            have HO500 := n0_
            have BK474 := n1_
            have BK476 := n2_
            have BK482 := n3_
            have BK487 := n4_
            have BK492 := n5_
            have BK497 := n6_
            have HB := n7_
            clear n0_ n1_ n2_ n3_ n4_ n5_ n6_ n7_
            (try clear hb)
            (try clear hb2)
            (try clear hk)
            (try clear hi)
            (try clear ho0)
            refine hK.out _ _ ⟨(blk_cell BK476.out 0).trans rfl, (blk_cell BK476.out 1).trans rfl, (blk_cell BK476.out 2).trans rfl, (blk_cell BK476.out 3).trans rfl, (blk_cell BK476.out 4).trans rfl, (blk_cell BK476.out 5).trans rfl, (blk_cell BK474.out 0).trans rfl, (blk_cell BK474.out 1).trans rfl, (blk_cell BK474.out 2).trans rfl, (blk_cell BK474.out 3).trans rfl, (blk_cell BK474.out 4).trans rfl, (blk_cell BK474.out 5).trans rfl, (blk_cell BK474.out 6).trans rfl, (blk_cell BK474.out 7).trans rfl, (blk_cell BK474.out 8).trans rfl, (blk_cell BK474.out 9).trans rfl, (blk_cell BK474.out 10).trans rfl, (blk_cell BK474.out 11).trans rfl⟩ (fun hHeld => ?_)
            clear hK K
            refine norm_ (a' := ?_) ?_ ?_
            rotate_left
            ·show Act.put _ (some 90) _ = _
             simp only [Act.put, List.setIfInBounds_toArray, List.set_cons_zero, List.set_cons_succ, i64_w, i32_w]
             rfl
            refine one_ (i := 15) (N := some 98) #[true, true, true, true, true, true, true, true, true, true, true, true, true, true, true, true, false, false] rfl rfl (one_of HT_.out (by kernel_rfl)) (by decide) (fun K hK => ?_)
            refine goes_ Try.func41 (by kernel_rfl) rfl #[.agg #[.int .i64 a0_0, .int .i64 a0_1, .int .i64 a0_2, .int .i64 a0_3, .int .i64 a0_4, .int .i64 a0_5], .int .i64 a0_7, .int .i64 a0_6, .int .i64 a0_8] (by rfl) rfl rfl (by (try simp only [List.map_toArray, List.map_cons, List.map_nil]); first | done | rfl | (simp only [List.length_drop, List.length_take]; rfl)) ?_
            with_reducible refine (solventref14_Place.calls kj114 a0_0 a0_1 a0_2 a0_3 a0_4 a0_5 a0_7 a0_6 a0_8 t501 _ A118.out).mono ?_
            rintro e w136 ⟨v502, rfl, ho0, hb⟩
            refine ⟨_, rfl, ?_⟩
            have n0_ := Aside0.mk (Kd.V_elder' (by (with_reducible repeat (first | apply Kd.V_alloc | apply Kd.V_drewN | apply Kd.V_drew)); exact HO500.out) (Kd.R_base ho0) hb)
            have n1_ := Aside0.mk (Kd.R_lower ho0 (below_size (by repeat (first | (with_reducible first | exact HB.out | apply below_alloc | apply pw_below_drewN | apply below_drew1 | refine below_set ?_ GE474.out | refine below_set ?_ GE476.out | refine below_set ?_ GE482.out | refine below_set ?_ GE487.out | refine below_set ?_ GE492.out | refine below_set ?_ GE497.out) | exact HB.out))))
            have n2_ := Aside0.mk (blk_below (g := gb474) (o := .cells #[.int .i64 a0_0, .int .i64 a0_1, .int .i64 a0_2, .int .i64 a0_3, .int .i64 a0_4, .int .i64 a0_5, .int .i64 a0_6, .int .i64 a0_7, .int .i64 a0_8, .int .i64 a0_9, .int .i64 a0_10, .int .i64 a0_11] 57 (0, 0)) (by (with_reducible repeat (first | refine blk_drewN ?_ _ | refine blk_drew ?_ | refine blk_alloc ?_ _)); exact BK474.out) hb)
            have n3_ := Aside0.mk (blk_below (g := gb476) (o := .cells #[.int .i64 a0_0, .int .i64 a0_1, .int .i64 a0_2, .int .i64 a0_3, .int .i64 a0_4, .int .i64 a0_5] 23 (0, 0)) (by (with_reducible repeat (first | refine blk_drewN ?_ _ | refine blk_drew ?_ | refine blk_alloc ?_ _)); exact BK476.out) hb)
            have n4_ := Aside0.mk (blk_below (g := gb482) (o := .cells #[.int .i64 t478, .int .i64 t479, .int .i64 t480] 59 (0, 0)) (by (with_reducible repeat (first | refine blk_drewN ?_ _ | refine blk_drew ?_ | refine blk_alloc ?_ _)); exact BK482.out) hb)
            have n5_ := Aside0.mk (blk_below (g := gb487) (o := .cells #[.int .i64 t483, .int .i64 t484, .int .i64 t485] 59 (0, 0)) (by (with_reducible repeat (first | refine blk_drewN ?_ _ | refine blk_drew ?_ | refine blk_alloc ?_ _)); exact BK487.out) hb)
            have n6_ := Aside0.mk (blk_below (g := gb492) (o := .cells #[.int .i64 t488, .int .i64 t489, .int .i64 t490] 45 (0, 0)) (by (with_reducible repeat (first | refine blk_drewN ?_ _ | refine blk_drew ?_ | refine blk_alloc ?_ _)); exact BK492.out) hb)
            have n7_ := Aside0.mk (blk_below (g := gb497) (o := .cells #[.int .i64 t493, .int .i64 t494, .int .i64 t495] 45 (0, 0)) (by (with_reducible repeat (first | refine blk_drewN ?_ _ | refine blk_drew ?_ | refine blk_alloc ?_ _)); exact BK497.out) hb)
            have n8_ := Aside0.mk (below_step (by repeat (first | (with_reducible first | exact HB.out | apply below_alloc | apply pw_below_drewN | apply below_drew1 | refine below_set ?_ GE474.out | refine below_set ?_ GE476.out | refine below_set ?_ GE482.out | refine below_set ?_ GE487.out | refine below_set ?_ GE492.out | refine below_set ?_ GE497.out) | exact HB.out)) hb)
            clear HO500
            clear BK474
            clear BK476
            clear BK482
            clear BK487
            clear BK492
            clear BK497
            clear HB
            have HO500 := n0_
            have HO503 := n1_
            have BK474 := n2_
            have BK476 := n3_
            have BK482 := n4_
            have BK487 := n5_
            have BK492 := n6_
            have BK497 := n7_
            have HB := n8_
            clear n0_ n1_ n2_ n3_ n4_ n5_ n6_ n7_ n8_
            (try clear hb)
            (try clear hb2)
            (try clear hk)
            (try clear hi)
            (try clear ho0)
            obtain ⟨Ao137, co137, eo137⟩ := Kd.V_slice HO500.out
            (first | subst eo137 | (injection eo137 with f1_ f2_ f3_; have f4_ := f1_.symm; have f5_ := f3_.symm; clear f1_ f2_ f3_; subst f4_; subst f5_))
            obtain ⟨Ao138, co138, eo138⟩ := Kd.R_slice HO503.out
            (first | subst eo138 | (injection eo138 with f1_ f2_ f3_; have f4_ := f1_.symm; have f5_ := f3_.symm; clear f1_ f2_ f3_; subst f4_; subst f5_))
            refine hK.out _ _ ⟨(blk_cell BK476.out 0).trans rfl, (blk_cell BK476.out 1).trans rfl, (blk_cell BK476.out 2).trans rfl, (blk_cell BK476.out 3).trans rfl, (blk_cell BK476.out 4).trans rfl, (blk_cell BK476.out 5).trans rfl, (blk_cell BK474.out 0).trans rfl, (blk_cell BK474.out 1).trans rfl, (blk_cell BK474.out 2).trans rfl, (blk_cell BK474.out 3).trans rfl, (blk_cell BK474.out 4).trans rfl, (blk_cell BK474.out 5).trans rfl, (blk_cell BK474.out 6).trans rfl, (blk_cell BK474.out 7).trans rfl, (blk_cell BK474.out 8).trans rfl, (blk_cell BK474.out 9).trans rfl, (blk_cell BK474.out 10).trans rfl, (blk_cell BK474.out 11).trans rfl⟩ (fun hHeld => ?_)
            clear hK K
            refine norm_ (a' := ?_) ?_ ?_
            rotate_left
            ·show Act.put _ (some 98) _ = _
             simp only [Act.put, List.setIfInBounds_toArray, List.set_cons_zero, List.set_cons_succ, i64_w, i32_w]
             rfl
            refine one_ (i := 16) (N := some 99) #[true, true, true, true, true, true, true, true, true, true, true, true, true, true, true, true, true, false] rfl rfl (one_of HT_.out (by kernel_rfl)) (by decide) (fun K hK => ?_)
            refine goes_ Try.func18 (by kernel_rfl) rfl #[.slice Ao137 t498.length co137, .slice Ao138 t501.length co138] (by rfl) rfl rfl (by (try simp only [List.map_toArray, List.map_cons, List.map_nil]); first | done | rfl | (simp only [List.length_drop, List.length_take]; rfl)) ?_
            with_reducible refine (solventref13_Same.calls kj114 _ _ t498 _ _ t501 true _ ?side1 ?side2 ?side3 ?side4 A119.out).mono ?_
            (case side1 => repeat (first | exact (Kd.V_reads' HO500.out).2.2 | (with_reducible refine Kd.C_alloc ?_ _) | (with_reducible refine Kd.C_drewN ?_ _) | (with_reducible refine Kd.C_drew ?_)))
            (case side2 => exact (Kd.V_reads' HO500.out).2.1)
            (case side3 => repeat (first | exact (Kd.R_reads' HO503.out).2.2 | (with_reducible refine Kd.C_alloc ?_ _) | (with_reducible refine Kd.C_drewN ?_ _) | (with_reducible refine Kd.C_drew ?_)))
            (case side4 => exact (Kd.R_reads' HO503.out).2.1)
            rintro e w' ⟨rfl, ⟨nd, rfl⟩⟩
            refine ⟨_, rfl, ?_⟩
            refine hK.out _ _ ⟨(blk_cell BK476.out 0).trans rfl, (blk_cell BK476.out 1).trans rfl, (blk_cell BK476.out 2).trans rfl, (blk_cell BK476.out 3).trans rfl, (blk_cell BK476.out 4).trans rfl, (blk_cell BK476.out 5).trans rfl, (blk_cell BK474.out 0).trans rfl, (blk_cell BK474.out 1).trans rfl, (blk_cell BK474.out 2).trans rfl, (blk_cell BK474.out 3).trans rfl, (blk_cell BK474.out 4).trans rfl, (blk_cell BK474.out 5).trans rfl, (blk_cell BK474.out 6).trans rfl, (blk_cell BK474.out 7).trans rfl, (blk_cell BK474.out 8).trans rfl, (blk_cell BK474.out 9).trans rfl, (blk_cell BK474.out 10).trans rfl, (blk_cell BK474.out 11).trans rfl⟩ (fun hHeld => ?_)
            clear hK K
            refine norm_ (a' := ?_) ?_ ?_
            rotate_left
            ·show Act.put _ (some 99) _ = _
             simp only [Act.put, List.setIfInBounds_toArray, List.set_cons_zero, List.set_cons_succ, i64_w, i32_w]
             rfl
            refine pure_ (i := 17) (N := some 15) (v := ?_) (a' := ?_) #[true, true, true, true, true, true, true, true, true, true, true, true, true, true, true, true, true, true] rfl rfl (any_of HT_.out (by kernel_rfl)) (fun _ _ _ h => h) (Or.inl ⟨by rfl, ?_⟩) ?_ ?_
            rotate_left
            ·intro w'
             go_simp
             with_reducible rfl
            rotate_left
            ·simp only [Act.put, List.setIfInBounds_toArray, List.set_cons_zero, List.set_cons_succ, i64_w, i32_w]
             rfl
            refine done_ (done_of HT_.out (by kernel_rfl)) ?_
            try go_wp2
            (try (rw [drewN_self w136]; generalize hq_ : World.drewN w136 _ = w136; have n0_ : Aside0 (Kd.V (Kd.int .i64) 3 w136 w.heap.size (fun k_ => some k_ ≠ (.slice Ao138 t501.length co138 : Value).ownBlock ∧ k_ ≠ gb474 ∧ k_ ≠ gb476 ∧ k_ ≠ gb482 ∧ k_ ≠ gb487 ∧ k_ ≠ gb492 ∧ k_ ≠ gb497) (.slice Ao137 t498.length co137) t498) := ⟨by rw [← hq_]; exact (by (with_reducible repeat (first | apply Kd.V_alloc | apply Kd.V_drewN | apply Kd.V_drew)); exact Kd.V_mono HO500.out (fun _ hk => ⟨hk.2, ⟨hk.1.1, ⟨hk.1.2.1, ⟨hk.1.2.2.1, ⟨hk.1.2.2.2.1, ⟨hk.1.2.2.2.2.1, hk.1.2.2.2.2.2⟩⟩⟩⟩⟩⟩))⟩; have n1_ : Aside0 (Kd.R (Kd.int .i64) 3 w136 w.heap.size (fun _ => True) (.slice Ao138 t501.length co138) t501) := ⟨by rw [← hq_]; exact (by (with_reducible repeat (first | apply Kd.R_alloc | apply Kd.R_drewN | apply Kd.R_drew)); exact HO503.out)⟩; have n2_ : Aside0 (w136.heap[gb474]? = some (.cells #[.int .i64 a0_0, .int .i64 a0_1, .int .i64 a0_2, .int .i64 a0_3, .int .i64 a0_4, .int .i64 a0_5, .int .i64 a0_6, .int .i64 a0_7, .int .i64 a0_8, .int .i64 a0_9, .int .i64 a0_10, .int .i64 a0_11] 57 (0, 0))) := ⟨by rw [← hq_]; exact (by (with_reducible repeat (first | refine blk_drewN ?_ _ | refine blk_drew ?_ | refine blk_alloc ?_ _)); exact BK474.out)⟩; have n3_ : Aside0 (w136.heap[gb476]? = some (.cells #[.int .i64 a0_0, .int .i64 a0_1, .int .i64 a0_2, .int .i64 a0_3, .int .i64 a0_4, .int .i64 a0_5] 23 (0, 0))) := ⟨by rw [← hq_]; exact (by (with_reducible repeat (first | refine blk_drewN ?_ _ | refine blk_drew ?_ | refine blk_alloc ?_ _)); exact BK476.out)⟩; have n4_ : Aside0 (w136.heap[gb482]? = some (.cells #[.int .i64 t478, .int .i64 t479, .int .i64 t480] 59 (0, 0))) := ⟨by rw [← hq_]; exact (by (with_reducible repeat (first | refine blk_drewN ?_ _ | refine blk_drew ?_ | refine blk_alloc ?_ _)); exact BK482.out)⟩; have n5_ : Aside0 (w136.heap[gb487]? = some (.cells #[.int .i64 t483, .int .i64 t484, .int .i64 t485] 59 (0, 0))) := ⟨by rw [← hq_]; exact (by (with_reducible repeat (first | refine blk_drewN ?_ _ | refine blk_drew ?_ | refine blk_alloc ?_ _)); exact BK487.out)⟩; have n6_ : Aside0 (w136.heap[gb492]? = some (.cells #[.int .i64 t488, .int .i64 t489, .int .i64 t490] 45 (0, 0))) := ⟨by rw [← hq_]; exact (by (with_reducible repeat (first | refine blk_drewN ?_ _ | refine blk_drew ?_ | refine blk_alloc ?_ _)); exact BK492.out)⟩; have n7_ : Aside0 (w136.heap[gb497]? = some (.cells #[.int .i64 t493, .int .i64 t494, .int .i64 t495] 45 (0, 0))) := ⟨by rw [← hq_]; exact (by (with_reducible repeat (first | refine blk_drewN ?_ _ | refine blk_drew ?_ | refine blk_alloc ?_ _)); exact BK497.out)⟩; have n8_ : Aside0 (Below w.heap.size w w136) := ⟨by rw [← hq_]; exact (by repeat (first | (with_reducible first | exact HB.out | apply below_alloc | apply pw_below_drewN | apply below_drew1 | refine below_set ?_ GE474.out | refine below_set ?_ GE476.out | refine below_set ?_ GE482.out | refine below_set ?_ GE487.out | refine below_set ?_ GE492.out | refine below_set ?_ GE497.out) | exact HB.out))⟩; clear HO500 HO503 BK474 BK476 BK482 BK487 BK492 BK497 HB hq_; have HO500 := n0_; have HO503 := n1_; have BK474 := n2_; have BK476 := n3_; have BK482 := n4_; have BK487 := n5_; have BK492 := n6_; have BK497 := n7_; have HB := n8_; clear n0_ n1_ n2_ n3_ n4_ n5_ n6_ n7_ n8_))
            have n0_ := Aside0.mk (Kd.V_drew HO500.out)
            have n1_ := Aside0.mk (Kd.R_drew HO503.out)
            have n2_ := Aside0.mk (blk_drew BK474.out)
            have n3_ := Aside0.mk (blk_drew BK476.out)
            have n4_ := Aside0.mk (blk_drew BK482.out)
            have n5_ := Aside0.mk (blk_drew BK487.out)
            have n6_ := Aside0.mk (blk_drew BK492.out)
            have n7_ := Aside0.mk (blk_drew BK497.out)
            have n8_ := Aside0.mk (below_drew1 HB.out)
            clear HO500
            clear HO503
            clear BK474
            clear BK476
            clear BK482
            clear BK487
            clear BK492
            clear BK497
            clear HB
            have HO500 := n0_
            have HO503 := n1_
            have BK474 := n2_
            have BK476 := n3_
            have BK482 := n4_
            have BK487 := n5_
            have BK492 := n6_
            have BK497 := n7_
            have HB := n8_
            clear n0_ n1_ n2_ n3_ n4_ n5_ n6_ n7_ n8_
            refine start_ (n := 10) (S := fun w' => w'.cell? ⟨gb476, 0, none⟩ = some (.int .i64 a0_0) ∧ w'.cell? ⟨gb476, 1, none⟩ = some (.int .i64 a0_1) ∧ w'.cell? ⟨gb476, 2, none⟩ = some (.int .i64 a0_2) ∧ w'.cell? ⟨gb476, 3, none⟩ = some (.int .i64 a0_3) ∧ w'.cell? ⟨gb476, 4, none⟩ = some (.int .i64 a0_4) ∧ w'.cell? ⟨gb476, 5, none⟩ = some (.int .i64 a0_5)) (ds := []) #[false, false, false, false, false, false, false, false, false, false] (by kernel_rfl) rfl rfl ⟨(blk_cell BK476.out 0).trans rfl, (blk_cell BK476.out 1).trans rfl, (blk_cell BK476.out 2).trans rfl, (blk_cell BK476.out 3).trans rfl, (blk_cell BK476.out 4).trans rfl, (blk_cell BK476.out 5).trans rfl⟩ (fun hHeld => ?_); refine with_tabW solventlaw14_LayoutMatchesSpec.tab14 solventlaw14_LayoutMatchesSpec.bits14 (fun HT_ HW_ => ?_)
            generalize w136.drew = w139 at HO500 HO503 BK474 BK476 BK482 BK487 BK492 BK497 HB hHeld ⊢
            refine pure_ (i := 1) (N := some 101) (v := ?_) (a' := ?_) #[false, true, false, false, false, false, false, false, false, false] rfl rfl (any_of HT_.out (by kernel_rfl)) (fun _ _ _ h => h) (Or.inl ⟨by rfl, ?_⟩) ?_ ?_
            rotate_left
            ·intro w'
             go_simp
             with_reducible rfl
            rotate_left
            ·simp only [Act.put, List.setIfInBounds_toArray, List.set_cons_zero, List.set_cons_succ, i64_w, i32_w]
             rfl
            refine pure_ (i := 2) (N := some 102) (v := ?_) (a' := ?_) #[false, true, true, false, false, false, false, false, false, false] rfl rfl (any_of HT_.out (by kernel_rfl)) (fun _ _ _ h => h) (Or.inl ⟨by rfl, ?_⟩) ?_ ?_
            rotate_left
            ·intro w'
             go_simp
             with_reducible rfl
            rotate_left
            ·simp only [Act.put, List.setIfInBounds_toArray, List.set_cons_zero, List.set_cons_succ, i64_w, i32_w]
             rfl
            refine pure_ (i := 5) (N := some 105) (v := ?_) (a' := ?_) #[false, true, true, false, false, true, false, false, false, false] rfl rfl (any_of HT_.out (by kernel_rfl)) (fun _ _ _ h => h) (Or.inl ⟨by rfl, ?_⟩) ?_ ?_
            rotate_left
            ·intro w'
             go_simp
             with_reducible rfl
            rotate_left
            ·simp only [Act.put, List.setIfInBounds_toArray, List.set_cons_zero, List.set_cons_succ, i64_w, i32_w]
             rfl
            refine pure_ (i := 6) (N := some 106) (v := ?_) (a' := ?_) #[false, true, true, false, false, true, true, false, false, false] rfl rfl (any_of HT_.out (by kernel_rfl)) (fun _ _ _ h => h) (Or.inl ⟨by rfl, ?_⟩) ?_ ?_
            rotate_left
            ·intro w'
             go_simp
             with_reducible rfl
            rotate_left
            ·simp only [Act.put, List.setIfInBounds_toArray, List.set_cons_zero, List.set_cons_succ, i64_w, i32_w]
             rfl
            refine take_ (i := 0) (N := some 100) (v := ?_) (a' := ?_) #[true, true, true, false, false, true, true, false, false, false] rfl rfl (take_ofW HT_.out HW_.out (by kernel_rfl)) (fun _ _ _ h => h) (Or.inl ⟨by rfl, ?_⟩) hHeld ?_ ?_
            rotate_left
            ·rintro w' ⟨s0, s1, s2, s3, s4, s5⟩
             go_simp
             with_reducible rfl
            rotate_left
            ·simp only [Act.put, List.setIfInBounds_toArray, List.set_cons_zero, List.set_cons_succ, i64_w, i32_w]
             rfl
            refine take_ (i := 4) (N := some 104) (v := ?_) (a' := ?_) #[true, true, true, false, true, true, true, false, false, false] rfl rfl (take_ofW HT_.out HW_.out (by kernel_rfl)) (fun _ _ _ h => h) (Or.inl ⟨by rfl, ?_⟩) hHeld ?_ ?_
            rotate_left
            ·rintro w' ⟨s0, s1, s2, s3, s4, s5⟩
             go_simp
             with_reducible rfl
            rotate_left
            ·simp only [Act.put, List.setIfInBounds_toArray, List.set_cons_zero, List.set_cons_succ, i64_w, i32_w]
             rfl
            refine one_ (i := 3) (N := some 103) #[true, true, true, true, true, true, true, false, false, false] rfl rfl (one_of HT_.out (by kernel_rfl)) (by decide) (fun K hK => ?_)
            refine goes_ Try.func34 (by kernel_rfl) rfl #[.agg #[.int .i64 a0_0, .int .i64 a0_1, .int .i64 a0_2, .int .i64 a0_3, .int .i64 a0_4, .int .i64 a0_5], .int .i64 a0_7, .int .i64 a0_6] (by rfl) rfl rfl (by (try simp only [List.map_toArray, List.map_cons, List.map_nil]); first | done | rfl | (simp only [List.length_drop, List.length_take]; rfl)) ?_
            with_reducible refine (layout_Spares.calls kj114 a0_0 a0_1 a0_2 a0_3 a0_4 a0_5 a0_7 a0_6 t505 _ A120.out).mono ?_
            rintro e w140 ⟨v506, rfl, ho0, hb⟩
            refine ⟨_, rfl, ?_⟩
            have n0_ := Aside0.mk (Kd.V_elder' (by (with_reducible repeat (first | apply Kd.V_alloc | apply Kd.V_drewN | apply Kd.V_drew)); exact HO500.out) (Kd.Q_base ho0) hb)
            have n1_ := Aside0.mk (Kd.R_elder' (by (with_reducible repeat (first | apply Kd.R_alloc | apply Kd.R_drewN | apply Kd.R_drew)); exact HO503.out) (Kd.Q_base ho0) hb)
            have n2_ := Aside0.mk (Kd.Q_lower (Kd.Q_new' ho0 (Kd.R_lt (by (with_reducible repeat (first | apply Kd.R_alloc | apply Kd.R_drewN | apply Kd.R_drew)); exact HO503.out))) (below_size (by repeat (first | (with_reducible first | exact HB.out | apply below_alloc | apply pw_below_drewN | apply below_drew1 | refine below_set ?_ GE474.out | refine below_set ?_ GE476.out | refine below_set ?_ GE482.out | refine below_set ?_ GE487.out | refine below_set ?_ GE492.out | refine below_set ?_ GE497.out) | exact HB.out))))
            have n3_ := Aside0.mk (blk_below (g := gb474) (o := .cells #[.int .i64 a0_0, .int .i64 a0_1, .int .i64 a0_2, .int .i64 a0_3, .int .i64 a0_4, .int .i64 a0_5, .int .i64 a0_6, .int .i64 a0_7, .int .i64 a0_8, .int .i64 a0_9, .int .i64 a0_10, .int .i64 a0_11] 57 (0, 0)) (by (with_reducible repeat (first | refine blk_drewN ?_ _ | refine blk_drew ?_ | refine blk_alloc ?_ _)); exact BK474.out) hb)
            have n4_ := Aside0.mk (blk_below (g := gb476) (o := .cells #[.int .i64 a0_0, .int .i64 a0_1, .int .i64 a0_2, .int .i64 a0_3, .int .i64 a0_4, .int .i64 a0_5] 23 (0, 0)) (by (with_reducible repeat (first | refine blk_drewN ?_ _ | refine blk_drew ?_ | refine blk_alloc ?_ _)); exact BK476.out) hb)
            have n5_ := Aside0.mk (blk_below (g := gb482) (o := .cells #[.int .i64 t478, .int .i64 t479, .int .i64 t480] 59 (0, 0)) (by (with_reducible repeat (first | refine blk_drewN ?_ _ | refine blk_drew ?_ | refine blk_alloc ?_ _)); exact BK482.out) hb)
            have n6_ := Aside0.mk (blk_below (g := gb487) (o := .cells #[.int .i64 t483, .int .i64 t484, .int .i64 t485] 59 (0, 0)) (by (with_reducible repeat (first | refine blk_drewN ?_ _ | refine blk_drew ?_ | refine blk_alloc ?_ _)); exact BK487.out) hb)
            have n7_ := Aside0.mk (blk_below (g := gb492) (o := .cells #[.int .i64 t488, .int .i64 t489, .int .i64 t490] 45 (0, 0)) (by (with_reducible repeat (first | refine blk_drewN ?_ _ | refine blk_drew ?_ | refine blk_alloc ?_ _)); exact BK492.out) hb)
            have n8_ := Aside0.mk (blk_below (g := gb497) (o := .cells #[.int .i64 t493, .int .i64 t494, .int .i64 t495] 45 (0, 0)) (by (with_reducible repeat (first | refine blk_drewN ?_ _ | refine blk_drew ?_ | refine blk_alloc ?_ _)); exact BK497.out) hb)
            have n9_ := Aside0.mk (below_step (by repeat (first | (with_reducible first | exact HB.out | apply below_alloc | apply pw_below_drewN | apply below_drew1 | refine below_set ?_ GE474.out | refine below_set ?_ GE476.out | refine below_set ?_ GE482.out | refine below_set ?_ GE487.out | refine below_set ?_ GE492.out | refine below_set ?_ GE497.out) | exact HB.out)) hb)
            clear HO500
            clear HO503
            clear BK474
            clear BK476
            clear BK482
            clear BK487
            clear BK492
            clear BK497
            clear HB
            have HO500 := n0_
            have HO503 := n1_
            have HO507 := n2_
            have BK474 := n3_
            have BK476 := n4_
            have BK482 := n5_
            have BK487 := n6_
            have BK492 := n7_
            have BK497 := n8_
            have HB := n9_
            clear n0_ n1_ n2_ n3_ n4_ n5_ n6_ n7_ n8_ n9_
            (try clear hb)
            (try clear hb2)
            (try clear hk)
            (try clear hi)
            (try clear ho0)
            refine hK.out _ _ ⟨(blk_cell BK476.out 0).trans rfl, (blk_cell BK476.out 1).trans rfl, (blk_cell BK476.out 2).trans rfl, (blk_cell BK476.out 3).trans rfl, (blk_cell BK476.out 4).trans rfl, (blk_cell BK476.out 5).trans rfl⟩ (fun hHeld => ?_)
            clear hK K
            refine norm_ (a' := ?_) ?_ ?_
            rotate_left
            ·show Act.put _ (some 103) _ = _
             simp only [Act.put, List.setIfInBounds_toArray, List.set_cons_zero, List.set_cons_succ, i64_w, i32_w]
             rfl
            refine one_ (i := 7) (N := some 107) #[true, true, true, true, true, true, true, true, false, false] rfl rfl (one_of HT_.out (by kernel_rfl)) (by decide) (fun K hK => ?_)
            refine goes_ Try.func42 (by kernel_rfl) rfl #[.agg #[.int .i64 a0_0, .int .i64 a0_1, .int .i64 a0_2, .int .i64 a0_3, .int .i64 a0_4, .int .i64 a0_5], .int .i64 a0_7, .int .i64 a0_6] (by rfl) rfl rfl (by (try simp only [List.map_toArray, List.map_cons, List.map_nil]); first | done | rfl | (simp only [List.length_drop, List.length_take]; rfl)) ?_
            with_reducible refine (solventref14_Spares.calls kj114 a0_0 a0_1 a0_2 a0_3 a0_4 a0_5 a0_7 a0_6 t508 _ A121.out).mono ?_
            rintro e w141 ⟨v509, rfl, ho0, hb⟩
            refine ⟨_, rfl, ?_⟩
            have n0_ := Aside0.mk (Kd.V_elder' (by (with_reducible repeat (first | apply Kd.V_alloc | apply Kd.V_drewN | apply Kd.V_drew)); exact HO500.out) (Kd.R_base ho0) hb)
            have n1_ := Aside0.mk (Kd.R_elder' (by (with_reducible repeat (first | apply Kd.R_alloc | apply Kd.R_drewN | apply Kd.R_drew)); exact HO503.out) (Kd.R_base ho0) hb)
            have n2_ := Aside0.mk (Kd.Q_elder' (by (with_reducible repeat (first | apply Kd.Q_alloc | apply Kd.Q_drewN | apply Kd.Q_drew)); exact HO507.out) (Kd.R_base ho0) hb)
            have n3_ := Aside0.mk (Kd.R_lower (Kd.R_new' (Kd.R_new' ho0 (Kd.R_lt (by (with_reducible repeat (first | apply Kd.R_alloc | apply Kd.R_drewN | apply Kd.R_drew)); exact HO503.out))) (Kd.Q_lt (by (with_reducible repeat (first | apply Kd.Q_alloc | apply Kd.Q_drewN | apply Kd.Q_drew)); exact HO507.out))) (below_size (by repeat (first | (with_reducible first | exact HB.out | apply below_alloc | apply pw_below_drewN | apply below_drew1 | refine below_set ?_ GE474.out | refine below_set ?_ GE476.out | refine below_set ?_ GE482.out | refine below_set ?_ GE487.out | refine below_set ?_ GE492.out | refine below_set ?_ GE497.out) | exact HB.out))))
            have n4_ := Aside0.mk (blk_below (g := gb474) (o := .cells #[.int .i64 a0_0, .int .i64 a0_1, .int .i64 a0_2, .int .i64 a0_3, .int .i64 a0_4, .int .i64 a0_5, .int .i64 a0_6, .int .i64 a0_7, .int .i64 a0_8, .int .i64 a0_9, .int .i64 a0_10, .int .i64 a0_11] 57 (0, 0)) (by (with_reducible repeat (first | refine blk_drewN ?_ _ | refine blk_drew ?_ | refine blk_alloc ?_ _)); exact BK474.out) hb)
            have n5_ := Aside0.mk (blk_below (g := gb476) (o := .cells #[.int .i64 a0_0, .int .i64 a0_1, .int .i64 a0_2, .int .i64 a0_3, .int .i64 a0_4, .int .i64 a0_5] 23 (0, 0)) (by (with_reducible repeat (first | refine blk_drewN ?_ _ | refine blk_drew ?_ | refine blk_alloc ?_ _)); exact BK476.out) hb)
            have n6_ := Aside0.mk (blk_below (g := gb482) (o := .cells #[.int .i64 t478, .int .i64 t479, .int .i64 t480] 59 (0, 0)) (by (with_reducible repeat (first | refine blk_drewN ?_ _ | refine blk_drew ?_ | refine blk_alloc ?_ _)); exact BK482.out) hb)
            have n7_ := Aside0.mk (blk_below (g := gb487) (o := .cells #[.int .i64 t483, .int .i64 t484, .int .i64 t485] 59 (0, 0)) (by (with_reducible repeat (first | refine blk_drewN ?_ _ | refine blk_drew ?_ | refine blk_alloc ?_ _)); exact BK487.out) hb)
            have n8_ := Aside0.mk (blk_below (g := gb492) (o := .cells #[.int .i64 t488, .int .i64 t489, .int .i64 t490] 45 (0, 0)) (by (with_reducible repeat (first | refine blk_drewN ?_ _ | refine blk_drew ?_ | refine blk_alloc ?_ _)); exact BK492.out) hb)
            have n9_ := Aside0.mk (blk_below (g := gb497) (o := .cells #[.int .i64 t493, .int .i64 t494, .int .i64 t495] 45 (0, 0)) (by (with_reducible repeat (first | refine blk_drewN ?_ _ | refine blk_drew ?_ | refine blk_alloc ?_ _)); exact BK497.out) hb)
            have n10_ := Aside0.mk (below_step (by repeat (first | (with_reducible first | exact HB.out | apply below_alloc | apply pw_below_drewN | apply below_drew1 | refine below_set ?_ GE474.out | refine below_set ?_ GE476.out | refine below_set ?_ GE482.out | refine below_set ?_ GE487.out | refine below_set ?_ GE492.out | refine below_set ?_ GE497.out) | exact HB.out)) hb)
            clear HO500
            clear HO503
            clear HO507
            clear BK474
            clear BK476
            clear BK482
            clear BK487
            clear BK492
            clear BK497
            clear HB
            have HO500 := n0_
            have HO503 := n1_
            have HO507 := n2_
            have HO510 := n3_
            have BK474 := n4_
            have BK476 := n5_
            have BK482 := n6_
            have BK487 := n7_
            have BK492 := n8_
            have BK497 := n9_
            have HB := n10_
            clear n0_ n1_ n2_ n3_ n4_ n5_ n6_ n7_ n8_ n9_ n10_
            (try clear hb)
            (try clear hb2)
            (try clear hk)
            (try clear hi)
            (try clear ho0)
            obtain ⟨Ao142, co142, eo142, _⟩ := Kd.Q_slice HO507.out
            (first | subst eo142 | (injection eo142 with f1_ f2_ f3_; have f4_ := f1_.symm; have f5_ := f3_.symm; clear f1_ f2_ f3_; subst f4_; subst f5_))
            obtain ⟨Ao143, co143, eo143⟩ := Kd.R_slice HO510.out
            (first | subst eo143 | (injection eo143 with f1_ f2_ f3_; have f4_ := f1_.symm; have f5_ := f3_.symm; clear f1_ f2_ f3_; subst f4_; subst f5_))
            refine hK.out _ _ ⟨(blk_cell BK476.out 0).trans rfl, (blk_cell BK476.out 1).trans rfl, (blk_cell BK476.out 2).trans rfl, (blk_cell BK476.out 3).trans rfl, (blk_cell BK476.out 4).trans rfl, (blk_cell BK476.out 5).trans rfl⟩ (fun hHeld => ?_)
            clear hK K
            refine norm_ (a' := ?_) ?_ ?_
            rotate_left
            ·show Act.put _ (some 107) _ = _
             simp only [Act.put, List.setIfInBounds_toArray, List.set_cons_zero, List.set_cons_succ, i64_w, i32_w]
             rfl
            refine one_ (i := 8) (N := some 108) #[true, true, true, true, true, true, true, true, true, false] rfl rfl (one_of HT_.out (by kernel_rfl)) (by decide) (fun K hK => ?_)
            refine goes_ Try.func18 (by kernel_rfl) rfl #[.slice Ao142 t505.length co142, .slice Ao143 t508.length co143] (by rfl) rfl rfl (by (try simp only [List.map_toArray, List.map_cons, List.map_nil]); first | done | rfl | (simp only [List.length_drop, List.length_take]; rfl)) ?_
            with_reducible refine (solventref13_Same.calls kj114 _ _ t505 _ _ t508 true _ ?side1 ?side2 ?side3 ?side4 A122.out).mono ?_
            (case side1 => repeat (first | exact (Kd.Q_reads' HO507.out).2.2 | (with_reducible refine Kd.C_alloc ?_ _) | (with_reducible refine Kd.C_drewN ?_ _) | (with_reducible refine Kd.C_drew ?_)))
            (case side2 => exact (Kd.Q_reads' HO507.out).2.1)
            (case side3 => repeat (first | exact (Kd.R_reads' HO510.out).2.2 | (with_reducible refine Kd.C_alloc ?_ _) | (with_reducible refine Kd.C_drewN ?_ _) | (with_reducible refine Kd.C_drew ?_)))
            (case side4 => exact (Kd.R_reads' HO510.out).2.1)
            rintro e w' ⟨rfl, ⟨nd, rfl⟩⟩
            refine ⟨_, rfl, ?_⟩
            refine hK.out _ _ ⟨(blk_cell BK476.out 0).trans rfl, (blk_cell BK476.out 1).trans rfl, (blk_cell BK476.out 2).trans rfl, (blk_cell BK476.out 3).trans rfl, (blk_cell BK476.out 4).trans rfl, (blk_cell BK476.out 5).trans rfl⟩ (fun hHeld => ?_)
            clear hK K
            refine norm_ (a' := ?_) ?_ ?_
            rotate_left
            ·show Act.put _ (some 108) _ = _
             simp only [Act.put, List.setIfInBounds_toArray, List.set_cons_zero, List.set_cons_succ, i64_w, i32_w]
             rfl
            refine pure_ (i := 9) (N := some 16) (v := ?_) (a' := ?_) #[true, true, true, true, true, true, true, true, true, true] rfl rfl (any_of HT_.out (by kernel_rfl)) (fun _ _ _ h => h) (Or.inl ⟨by rfl, ?_⟩) ?_ ?_
            rotate_left
            ·intro w'
             go_simp
             with_reducible rfl
            rotate_left
            ·simp only [Act.put, List.setIfInBounds_toArray, List.set_cons_zero, List.set_cons_succ, i64_w, i32_w]
             rfl
            refine done_ (done_of HT_.out (by kernel_rfl)) ?_
            try go_wp2
            (try (rw [drewN_self w141]; generalize hq_ : World.drewN w141 _ = w141; have n0_ : Aside0 (Kd.V (Kd.int .i64) 3 w141 w.heap.size (fun k_ => some k_ ≠ (.slice Ao138 t501.length co138 : Value).ownBlock ∧ some k_ ≠ (.slice Ao142 t505.length co142 : Value).ownBlock ∧ some k_ ≠ (.slice Ao143 t508.length co143 : Value).ownBlock ∧ k_ ≠ gb474 ∧ k_ ≠ gb476 ∧ k_ ≠ gb482 ∧ k_ ≠ gb487 ∧ k_ ≠ gb492 ∧ k_ ≠ gb497) (.slice Ao137 t498.length co137) t498) := ⟨by rw [← hq_]; exact (by (with_reducible repeat (first | apply Kd.V_alloc | apply Kd.V_drewN | apply Kd.V_drew)); exact Kd.V_mono HO500.out (fun _ hk => ⟨hk.1.1.1, ⟨hk.1.2, ⟨hk.2, hk.1.1.2⟩⟩⟩))⟩; have n1_ : Aside0 (Kd.R (Kd.int .i64) 3 w141 w.heap.size (fun k_ => some k_ ≠ (.slice Ao142 t505.length co142 : Value).ownBlock ∧ some k_ ≠ (.slice Ao143 t508.length co143 : Value).ownBlock) (.slice Ao138 t501.length co138) t501) := ⟨by rw [← hq_]; exact (by (with_reducible repeat (first | apply Kd.R_alloc | apply Kd.R_drewN | apply Kd.R_drew)); exact Kd.R_mono HO503.out (fun _ hk => ⟨hk.1.2, hk.2⟩))⟩; have n2_ : Aside0 (Kd.Q (Kd.int .i64) 3 w141 w.heap.size (fun k_ => some k_ ≠ (.slice Ao138 t501.length co138 : Value).ownBlock ∧ some k_ ≠ (.slice Ao143 t508.length co143 : Value).ownBlock) (.slice Ao142 t505.length co142) t505) := ⟨by rw [← hq_]; exact (by (with_reducible repeat (first | apply Kd.Q_alloc | apply Kd.Q_drewN | apply Kd.Q_drew)); exact Kd.Q_mono HO507.out (fun _ hk => ⟨hk.1.2, hk.2⟩))⟩; have n3_ : Aside0 (Kd.R (Kd.int .i64) 3 w141 w.heap.size (fun k_ => some k_ ≠ (.slice Ao138 t501.length co138 : Value).ownBlock ∧ some k_ ≠ (.slice Ao142 t505.length co142 : Value).ownBlock) (.slice Ao143 t508.length co143) t508) := ⟨by rw [← hq_]; exact (by (with_reducible repeat (first | apply Kd.R_alloc | apply Kd.R_drewN | apply Kd.R_drew)); exact Kd.R_mono HO510.out (fun _ hk => ⟨hk.1.2, hk.2⟩))⟩; have n4_ : Aside0 (w141.heap[gb474]? = some (.cells #[.int .i64 a0_0, .int .i64 a0_1, .int .i64 a0_2, .int .i64 a0_3, .int .i64 a0_4, .int .i64 a0_5, .int .i64 a0_6, .int .i64 a0_7, .int .i64 a0_8, .int .i64 a0_9, .int .i64 a0_10, .int .i64 a0_11] 57 (0, 0))) := ⟨by rw [← hq_]; exact (by (with_reducible repeat (first | refine blk_drewN ?_ _ | refine blk_drew ?_ | refine blk_alloc ?_ _)); exact BK474.out)⟩; have n5_ : Aside0 (w141.heap[gb476]? = some (.cells #[.int .i64 a0_0, .int .i64 a0_1, .int .i64 a0_2, .int .i64 a0_3, .int .i64 a0_4, .int .i64 a0_5] 23 (0, 0))) := ⟨by rw [← hq_]; exact (by (with_reducible repeat (first | refine blk_drewN ?_ _ | refine blk_drew ?_ | refine blk_alloc ?_ _)); exact BK476.out)⟩; have n6_ : Aside0 (w141.heap[gb482]? = some (.cells #[.int .i64 t478, .int .i64 t479, .int .i64 t480] 59 (0, 0))) := ⟨by rw [← hq_]; exact (by (with_reducible repeat (first | refine blk_drewN ?_ _ | refine blk_drew ?_ | refine blk_alloc ?_ _)); exact BK482.out)⟩; have n7_ : Aside0 (w141.heap[gb487]? = some (.cells #[.int .i64 t483, .int .i64 t484, .int .i64 t485] 59 (0, 0))) := ⟨by rw [← hq_]; exact (by (with_reducible repeat (first | refine blk_drewN ?_ _ | refine blk_drew ?_ | refine blk_alloc ?_ _)); exact BK487.out)⟩; have n8_ : Aside0 (w141.heap[gb492]? = some (.cells #[.int .i64 t488, .int .i64 t489, .int .i64 t490] 45 (0, 0))) := ⟨by rw [← hq_]; exact (by (with_reducible repeat (first | refine blk_drewN ?_ _ | refine blk_drew ?_ | refine blk_alloc ?_ _)); exact BK492.out)⟩; have n9_ : Aside0 (w141.heap[gb497]? = some (.cells #[.int .i64 t493, .int .i64 t494, .int .i64 t495] 45 (0, 0))) := ⟨by rw [← hq_]; exact (by (with_reducible repeat (first | refine blk_drewN ?_ _ | refine blk_drew ?_ | refine blk_alloc ?_ _)); exact BK497.out)⟩; have n10_ : Aside0 (Below w.heap.size w w141) := ⟨by rw [← hq_]; exact (by repeat (first | (with_reducible first | exact HB.out | apply below_alloc | apply pw_below_drewN | apply below_drew1 | refine below_set ?_ GE474.out | refine below_set ?_ GE476.out | refine below_set ?_ GE482.out | refine below_set ?_ GE487.out | refine below_set ?_ GE492.out | refine below_set ?_ GE497.out) | exact HB.out))⟩; clear HO500 HO503 HO507 HO510 BK474 BK476 BK482 BK487 BK492 BK497 HB hq_; have HO500 := n0_; have HO503 := n1_; have HO507 := n2_; have HO510 := n3_; have BK474 := n4_; have BK476 := n5_; have BK482 := n6_; have BK487 := n7_; have BK492 := n8_; have BK497 := n9_; have HB := n10_; clear n0_ n1_ n2_ n3_ n4_ n5_ n6_ n7_ n8_ n9_ n10_))
            have n0_ := Aside0.mk (Kd.V_drew HO500.out)
            have n1_ := Aside0.mk (Kd.R_drew HO503.out)
            have n2_ := Aside0.mk (Kd.Q_drew HO507.out)
            have n3_ := Aside0.mk (Kd.R_drew HO510.out)
            have n4_ := Aside0.mk (blk_drew BK474.out)
            have n5_ := Aside0.mk (blk_drew BK476.out)
            have n6_ := Aside0.mk (blk_drew BK482.out)
            have n7_ := Aside0.mk (blk_drew BK487.out)
            have n8_ := Aside0.mk (blk_drew BK492.out)
            have n9_ := Aside0.mk (blk_drew BK497.out)
            have n10_ := Aside0.mk (below_drew1 HB.out)
            clear HO500
            clear HO503
            clear HO507
            clear HO510
            clear BK474
            clear BK476
            clear BK482
            clear BK487
            clear BK492
            clear BK497
            clear HB
            have HO500 := n0_
            have HO503 := n1_
            have HO507 := n2_
            have HO510 := n3_
            have BK474 := n4_
            have BK476 := n5_
            have BK482 := n6_
            have BK487 := n7_
            have BK492 := n8_
            have BK497 := n9_
            have HB := n10_
            clear n0_ n1_ n2_ n3_ n4_ n5_ n6_ n7_ n8_ n9_ n10_
            refine start_ (n := 16) (S := fun w' => w'.cell? ⟨gb476, 0, none⟩ = some (.int .i64 a0_0) ∧ w'.cell? ⟨gb476, 1, none⟩ = some (.int .i64 a0_1) ∧ w'.cell? ⟨gb476, 2, none⟩ = some (.int .i64 a0_2) ∧ w'.cell? ⟨gb476, 3, none⟩ = some (.int .i64 a0_3) ∧ w'.cell? ⟨gb476, 4, none⟩ = some (.int .i64 a0_4) ∧ w'.cell? ⟨gb476, 5, none⟩ = some (.int .i64 a0_5) ∧ w'.cell? ⟨gb474, 0, none⟩ = some (.int .i64 a0_0) ∧ w'.cell? ⟨gb474, 1, none⟩ = some (.int .i64 a0_1) ∧ w'.cell? ⟨gb474, 2, none⟩ = some (.int .i64 a0_2) ∧ w'.cell? ⟨gb474, 3, none⟩ = some (.int .i64 a0_3) ∧ w'.cell? ⟨gb474, 4, none⟩ = some (.int .i64 a0_4) ∧ w'.cell? ⟨gb474, 5, none⟩ = some (.int .i64 a0_5) ∧ w'.cell? ⟨gb474, 6, none⟩ = some (.int .i64 a0_6) ∧ w'.cell? ⟨gb474, 7, none⟩ = some (.int .i64 a0_7) ∧ w'.cell? ⟨gb474, 8, none⟩ = some (.int .i64 a0_8) ∧ w'.cell? ⟨gb474, 9, none⟩ = some (.int .i64 a0_9) ∧ w'.cell? ⟨gb474, 10, none⟩ = some (.int .i64 a0_10) ∧ w'.cell? ⟨gb474, 11, none⟩ = some (.int .i64 a0_11)) (ds := []) #[false, false, false, false, false, false, false, false, false, false, false, false, false, false, false, false] (by kernel_rfl) rfl rfl ⟨(blk_cell BK476.out 0).trans rfl, (blk_cell BK476.out 1).trans rfl, (blk_cell BK476.out 2).trans rfl, (blk_cell BK476.out 3).trans rfl, (blk_cell BK476.out 4).trans rfl, (blk_cell BK476.out 5).trans rfl, (blk_cell BK474.out 0).trans rfl, (blk_cell BK474.out 1).trans rfl, (blk_cell BK474.out 2).trans rfl, (blk_cell BK474.out 3).trans rfl, (blk_cell BK474.out 4).trans rfl, (blk_cell BK474.out 5).trans rfl, (blk_cell BK474.out 6).trans rfl, (blk_cell BK474.out 7).trans rfl, (blk_cell BK474.out 8).trans rfl, (blk_cell BK474.out 9).trans rfl, (blk_cell BK474.out 10).trans rfl, (blk_cell BK474.out 11).trans rfl⟩ (fun hHeld => ?_); refine with_tabW solventlaw14_LayoutMatchesSpec.tab15 solventlaw14_LayoutMatchesSpec.bits15 (fun HT_ HW_ => ?_)
            generalize w141.drew = w144 at HO500 HO503 HO507 HO510 BK474 BK476 BK482 BK487 BK492 BK497 HB hHeld ⊢
            refine pure_ (i := 1) (N := some 110) (v := ?_) (a' := ?_) #[false, true, false, false, false, false, false, false, false, false, false, false, false, false, false, false] rfl rfl (any_of HT_.out (by kernel_rfl)) (fun _ _ _ h => h) (Or.inl ⟨by rfl, ?_⟩) ?_ ?_
            rotate_left
            ·intro w'
             go_simp
             with_reducible rfl
            rotate_left
            ·simp only [Act.put, List.setIfInBounds_toArray, List.set_cons_zero, List.set_cons_succ, i64_w, i32_w]
             rfl
            refine pure_ (i := 2) (N := some 111) (v := ?_) (a' := ?_) #[false, true, true, false, false, false, false, false, false, false, false, false, false, false, false, false] rfl rfl (any_of HT_.out (by kernel_rfl)) (fun _ _ _ h => h) (Or.inl ⟨by rfl, ?_⟩) ?_ ?_
            rotate_left
            ·intro w'
             go_simp
             with_reducible rfl
            rotate_left
            ·simp only [Act.put, List.setIfInBounds_toArray, List.set_cons_zero, List.set_cons_succ, i64_w, i32_w]
             rfl
            refine pure_ (i := 4) (N := some 113) (v := ?_) (a' := ?_) #[false, true, true, false, true, false, false, false, false, false, false, false, false, false, false, false] rfl rfl (any_of HT_.out (by kernel_rfl)) (fun _ _ _ h => h) (Or.inl ⟨by rfl, ?_⟩) ?_ ?_
            rotate_left
            ·intro w'
             go_simp
             with_reducible rfl
            rotate_left
            ·simp only [Act.put, List.setIfInBounds_toArray, List.set_cons_zero, List.set_cons_succ, i64_w, i32_w]
             rfl
            refine pure_ (i := 8) (N := some 117) (v := ?_) (a' := ?_) #[false, true, true, false, true, false, false, false, true, false, false, false, false, false, false, false] rfl rfl (any_of HT_.out (by kernel_rfl)) (fun _ _ _ h => h) (Or.inl ⟨by rfl, ?_⟩) ?_ ?_
            rotate_left
            ·intro w'
             go_simp
             with_reducible rfl
            rotate_left
            ·simp only [Act.put, List.setIfInBounds_toArray, List.set_cons_zero, List.set_cons_succ, i64_w, i32_w]
             rfl
            refine pure_ (i := 9) (N := some 118) (v := ?_) (a' := ?_) #[false, true, true, false, true, false, false, false, true, true, false, false, false, false, false, false] rfl rfl (any_of HT_.out (by kernel_rfl)) (fun _ _ _ h => h) (Or.inl ⟨by rfl, ?_⟩) ?_ ?_
            rotate_left
            ·intro w'
             go_simp
             with_reducible rfl
            rotate_left
            ·simp only [Act.put, List.setIfInBounds_toArray, List.set_cons_zero, List.set_cons_succ, i64_w, i32_w]
             rfl
            refine pure_ (i := 11) (N := some 120) (v := ?_) (a' := ?_) #[false, true, true, false, true, false, false, false, true, true, false, true, false, false, false, false] rfl rfl (any_of HT_.out (by kernel_rfl)) (fun _ _ _ h => h) (Or.inl ⟨by rfl, ?_⟩) ?_ ?_
            rotate_left
            ·intro w'
             go_simp
             with_reducible rfl
            rotate_left
            ·simp only [Act.put, List.setIfInBounds_toArray, List.set_cons_zero, List.set_cons_succ, i64_w, i32_w]
             rfl
            refine take_ (i := 0) (N := some 109) (v := ?_) (a' := ?_) #[true, true, true, false, true, false, false, false, true, true, false, true, false, false, false, false] rfl rfl (take_ofW HT_.out HW_.out (by kernel_rfl)) (fun _ _ _ h => h) (Or.inl ⟨by rfl, ?_⟩) hHeld ?_ ?_
            rotate_left
            ·rintro w' ⟨s0, s1, s2, s3, s4, s5, s6, s7, s8, s9, s10, s11, s12, s13, s14, s15, s16, s17⟩
             go_simp
             with_reducible rfl
            rotate_left
            ·simp only [Act.put, List.setIfInBounds_toArray, List.set_cons_zero, List.set_cons_succ, i64_w, i32_w]
             rfl
            refine take_ (i := 3) (N := some 112) (v := ?_) (a' := ?_) #[true, true, true, true, true, false, false, false, true, true, false, true, false, false, false, false] rfl rfl (take_ofW HT_.out HW_.out (by kernel_rfl)) (fun _ _ _ h => h) (Or.inl ⟨by rfl, ?_⟩) hHeld ?_ ?_
            rotate_left
            ·rintro w' ⟨s0, s1, s2, s3, s4, s5, s6, s7, s8, s9, s10, s11, s12, s13, s14, s15, s16, s17⟩
             go_simp
             with_reducible rfl
            rotate_left
            ·simp only [Act.put, List.setIfInBounds_toArray, List.set_cons_zero, List.set_cons_succ, i64_w, i32_w]
             rfl
            refine take_ (i := 5) (N := some 114) (v := ?_) (a' := ?_) #[true, true, true, true, true, true, false, false, true, true, false, true, false, false, false, false] rfl rfl (take_ofW HT_.out HW_.out (by kernel_rfl)) (fun _ _ _ h => h) (Or.inl ⟨by rfl, ?_⟩) hHeld ?_ ?_
            rotate_left
            ·rintro w' ⟨s0, s1, s2, s3, s4, s5, s6, s7, s8, s9, s10, s11, s12, s13, s14, s15, s16, s17⟩
             go_simp
             with_reducible rfl
            rotate_left
            ·simp only [Act.put, List.setIfInBounds_toArray, List.set_cons_zero, List.set_cons_succ, i64_w, i32_w]
             rfl
            refine take_ (i := 7) (N := some 116) (v := ?_) (a' := ?_) #[true, true, true, true, true, true, false, true, true, true, false, true, false, false, false, false] rfl rfl (take_ofW HT_.out HW_.out (by kernel_rfl)) (fun _ _ _ h => h) (Or.inl ⟨by rfl, ?_⟩) hHeld ?_ ?_
            rotate_left
            ·rintro w' ⟨s0, s1, s2, s3, s4, s5, s6, s7, s8, s9, s10, s11, s12, s13, s14, s15, s16, s17⟩
             go_simp
             with_reducible rfl
            rotate_left
            ·simp only [Act.put, List.setIfInBounds_toArray, List.set_cons_zero, List.set_cons_succ, i64_w, i32_w]
             rfl
            refine take_ (i := 10) (N := some 119) (v := ?_) (a' := ?_) #[true, true, true, true, true, true, false, true, true, true, true, true, false, false, false, false] rfl rfl (take_ofW HT_.out HW_.out (by kernel_rfl)) (fun _ _ _ h => h) (Or.inl ⟨by rfl, ?_⟩) hHeld ?_ ?_
            rotate_left
            ·rintro w' ⟨s0, s1, s2, s3, s4, s5, s6, s7, s8, s9, s10, s11, s12, s13, s14, s15, s16, s17⟩
             go_simp
             with_reducible rfl
            rotate_left
            ·simp only [Act.put, List.setIfInBounds_toArray, List.set_cons_zero, List.set_cons_succ, i64_w, i32_w]
             rfl
            refine take_ (i := 12) (N := some 121) (v := ?_) (a' := ?_) #[true, true, true, true, true, true, false, true, true, true, true, true, true, false, false, false] rfl rfl (take_ofW HT_.out HW_.out (by kernel_rfl)) (fun _ _ _ h => h) (Or.inl ⟨by rfl, ?_⟩) hHeld ?_ ?_
            rotate_left
            ·rintro w' ⟨s0, s1, s2, s3, s4, s5, s6, s7, s8, s9, s10, s11, s12, s13, s14, s15, s16, s17⟩
             go_simp
             with_reducible rfl
            rotate_left
            ·simp only [Act.put, List.setIfInBounds_toArray, List.set_cons_zero, List.set_cons_succ, i64_w, i32_w]
             rfl
            refine one_ (i := 6) (N := some 115) #[true, true, true, true, true, true, true, true, true, true, true, true, true, false, false, false] rfl rfl (one_of HT_.out (by kernel_rfl)) (by decide) (fun K hK => ?_)
            refine goes_ Try.func43 (by kernel_rfl) rfl #[.agg #[.int .i64 a0_0, .int .i64 a0_1, .int .i64 a0_2, .int .i64 a0_3, .int .i64 a0_4, .int .i64 a0_5], .int .i64 a0_6, .int .i64 a0_10, .int .i64 a0_11] (by rfl) rfl rfl (by (try simp only [List.map_toArray, List.map_cons, List.map_nil]); first | done | rfl | (simp only [List.length_drop, List.length_take]; rfl)) ?_
            with_reducible refine (layout_Units.calls kj114 a0_0 a0_1 a0_2 a0_3 a0_4 a0_5 a0_6 a0_10 a0_11 t512 _ A123.out).mono ?_
            rintro e w145 ⟨rfl, hb⟩
            refine ⟨_, rfl, ?_⟩
            have n0_ := Aside0.mk (Kd.V_below (by (with_reducible repeat (first | apply Kd.V_alloc | apply Kd.V_drewN | apply Kd.V_drew)); exact HO500.out) hb)
            have n1_ := Aside0.mk (Kd.R_below (by (with_reducible repeat (first | apply Kd.R_alloc | apply Kd.R_drewN | apply Kd.R_drew)); exact HO503.out) hb)
            have n2_ := Aside0.mk (Kd.Q_below (by (with_reducible repeat (first | apply Kd.Q_alloc | apply Kd.Q_drewN | apply Kd.Q_drew)); exact HO507.out) hb)
            have n3_ := Aside0.mk (Kd.R_below (by (with_reducible repeat (first | apply Kd.R_alloc | apply Kd.R_drewN | apply Kd.R_drew)); exact HO510.out) hb)
            have n4_ := Aside0.mk (blk_below (g := gb474) (o := .cells #[.int .i64 a0_0, .int .i64 a0_1, .int .i64 a0_2, .int .i64 a0_3, .int .i64 a0_4, .int .i64 a0_5, .int .i64 a0_6, .int .i64 a0_7, .int .i64 a0_8, .int .i64 a0_9, .int .i64 a0_10, .int .i64 a0_11] 57 (0, 0)) (by (with_reducible repeat (first | refine blk_drewN ?_ _ | refine blk_drew ?_ | refine blk_alloc ?_ _)); exact BK474.out) hb)
            have n5_ := Aside0.mk (blk_below (g := gb476) (o := .cells #[.int .i64 a0_0, .int .i64 a0_1, .int .i64 a0_2, .int .i64 a0_3, .int .i64 a0_4, .int .i64 a0_5] 23 (0, 0)) (by (with_reducible repeat (first | refine blk_drewN ?_ _ | refine blk_drew ?_ | refine blk_alloc ?_ _)); exact BK476.out) hb)
            have n6_ := Aside0.mk (blk_below (g := gb482) (o := .cells #[.int .i64 t478, .int .i64 t479, .int .i64 t480] 59 (0, 0)) (by (with_reducible repeat (first | refine blk_drewN ?_ _ | refine blk_drew ?_ | refine blk_alloc ?_ _)); exact BK482.out) hb)
            have n7_ := Aside0.mk (blk_below (g := gb487) (o := .cells #[.int .i64 t483, .int .i64 t484, .int .i64 t485] 59 (0, 0)) (by (with_reducible repeat (first | refine blk_drewN ?_ _ | refine blk_drew ?_ | refine blk_alloc ?_ _)); exact BK487.out) hb)
            have n8_ := Aside0.mk (blk_below (g := gb492) (o := .cells #[.int .i64 t488, .int .i64 t489, .int .i64 t490] 45 (0, 0)) (by (with_reducible repeat (first | refine blk_drewN ?_ _ | refine blk_drew ?_ | refine blk_alloc ?_ _)); exact BK492.out) hb)
            have n9_ := Aside0.mk (blk_below (g := gb497) (o := .cells #[.int .i64 t493, .int .i64 t494, .int .i64 t495] 45 (0, 0)) (by (with_reducible repeat (first | refine blk_drewN ?_ _ | refine blk_drew ?_ | refine blk_alloc ?_ _)); exact BK497.out) hb)
            have n10_ := Aside0.mk (below_step (by repeat (first | (with_reducible first | exact HB.out | apply below_alloc | apply pw_below_drewN | apply below_drew1 | refine below_set ?_ GE474.out | refine below_set ?_ GE476.out | refine below_set ?_ GE482.out | refine below_set ?_ GE487.out | refine below_set ?_ GE492.out | refine below_set ?_ GE497.out) | exact HB.out)) hb)
            clear HO500
            clear HO503
            clear HO507
            clear HO510
            clear BK474
            clear BK476
            clear BK482
            clear BK487
            clear BK492
            clear BK497
            clear HB
            have HO500 := n0_
            have HO503 := n1_
            have HO507 := n2_
            have HO510 := n3_
            have BK474 := n4_
            have BK476 := n5_
            have BK482 := n6_
            have BK487 := n7_
            have BK492 := n8_
            have BK497 := n9_
            have HB := n10_
            clear n0_ n1_ n2_ n3_ n4_ n5_ n6_ n7_ n8_ n9_ n10_
            (try clear hb)
            (try clear hb2)
            (try clear hk)
            (try clear hi)
            refine hK.out _ _ ⟨(blk_cell BK476.out 0).trans rfl, (blk_cell BK476.out 1).trans rfl, (blk_cell BK476.out 2).trans rfl, (blk_cell BK476.out 3).trans rfl, (blk_cell BK476.out 4).trans rfl, (blk_cell BK476.out 5).trans rfl, (blk_cell BK474.out 0).trans rfl, (blk_cell BK474.out 1).trans rfl, (blk_cell BK474.out 2).trans rfl, (blk_cell BK474.out 3).trans rfl, (blk_cell BK474.out 4).trans rfl, (blk_cell BK474.out 5).trans rfl, (blk_cell BK474.out 6).trans rfl, (blk_cell BK474.out 7).trans rfl, (blk_cell BK474.out 8).trans rfl, (blk_cell BK474.out 9).trans rfl, (blk_cell BK474.out 10).trans rfl, (blk_cell BK474.out 11).trans rfl⟩ (fun hHeld => ?_)
            clear hK K
            refine norm_ (a' := ?_) ?_ ?_
            rotate_left
            ·show Act.put _ (some 115) _ = _
             simp only [Act.put, List.setIfInBounds_toArray, List.set_cons_zero, List.set_cons_succ, i64_w, i32_w]
             rfl
            refine one_ (i := 13) (N := some 122) #[true, true, true, true, true, true, true, true, true, true, true, true, true, true, false, false] rfl rfl (one_of HT_.out (by kernel_rfl)) (by decide) (fun K hK => ?_)
            refine goes_ Try.func44 (by kernel_rfl) rfl #[.agg #[.int .i64 a0_0, .int .i64 a0_1, .int .i64 a0_2, .int .i64 a0_3, .int .i64 a0_4, .int .i64 a0_5], .int .i64 a0_6, .int .i64 a0_10, .int .i64 a0_11] (by rfl) rfl rfl (by (try simp only [List.map_toArray, List.map_cons, List.map_nil]); first | done | rfl | (simp only [List.length_drop, List.length_take]; rfl)) ?_
            with_reducible refine (solventref14_Units.calls kj114 a0_0 a0_1 a0_2 a0_3 a0_4 a0_5 a0_6 a0_10 a0_11 t513 _ A124.out).mono ?_
            rintro e w146 ⟨rfl, hb⟩
            refine ⟨_, rfl, ?_⟩
            have n0_ := Aside0.mk (Kd.V_below (by (with_reducible repeat (first | apply Kd.V_alloc | apply Kd.V_drewN | apply Kd.V_drew)); exact HO500.out) hb)
            have n1_ := Aside0.mk (Kd.R_below (by (with_reducible repeat (first | apply Kd.R_alloc | apply Kd.R_drewN | apply Kd.R_drew)); exact HO503.out) hb)
            have n2_ := Aside0.mk (Kd.Q_below (by (with_reducible repeat (first | apply Kd.Q_alloc | apply Kd.Q_drewN | apply Kd.Q_drew)); exact HO507.out) hb)
            have n3_ := Aside0.mk (Kd.R_below (by (with_reducible repeat (first | apply Kd.R_alloc | apply Kd.R_drewN | apply Kd.R_drew)); exact HO510.out) hb)
            have n4_ := Aside0.mk (blk_below (g := gb474) (o := .cells #[.int .i64 a0_0, .int .i64 a0_1, .int .i64 a0_2, .int .i64 a0_3, .int .i64 a0_4, .int .i64 a0_5, .int .i64 a0_6, .int .i64 a0_7, .int .i64 a0_8, .int .i64 a0_9, .int .i64 a0_10, .int .i64 a0_11] 57 (0, 0)) (by (with_reducible repeat (first | refine blk_drewN ?_ _ | refine blk_drew ?_ | refine blk_alloc ?_ _)); exact BK474.out) hb)
            have n5_ := Aside0.mk (blk_below (g := gb476) (o := .cells #[.int .i64 a0_0, .int .i64 a0_1, .int .i64 a0_2, .int .i64 a0_3, .int .i64 a0_4, .int .i64 a0_5] 23 (0, 0)) (by (with_reducible repeat (first | refine blk_drewN ?_ _ | refine blk_drew ?_ | refine blk_alloc ?_ _)); exact BK476.out) hb)
            have n6_ := Aside0.mk (blk_below (g := gb482) (o := .cells #[.int .i64 t478, .int .i64 t479, .int .i64 t480] 59 (0, 0)) (by (with_reducible repeat (first | refine blk_drewN ?_ _ | refine blk_drew ?_ | refine blk_alloc ?_ _)); exact BK482.out) hb)
            have n7_ := Aside0.mk (blk_below (g := gb487) (o := .cells #[.int .i64 t483, .int .i64 t484, .int .i64 t485] 59 (0, 0)) (by (with_reducible repeat (first | refine blk_drewN ?_ _ | refine blk_drew ?_ | refine blk_alloc ?_ _)); exact BK487.out) hb)
            have n8_ := Aside0.mk (blk_below (g := gb492) (o := .cells #[.int .i64 t488, .int .i64 t489, .int .i64 t490] 45 (0, 0)) (by (with_reducible repeat (first | refine blk_drewN ?_ _ | refine blk_drew ?_ | refine blk_alloc ?_ _)); exact BK492.out) hb)
            have n9_ := Aside0.mk (blk_below (g := gb497) (o := .cells #[.int .i64 t493, .int .i64 t494, .int .i64 t495] 45 (0, 0)) (by (with_reducible repeat (first | refine blk_drewN ?_ _ | refine blk_drew ?_ | refine blk_alloc ?_ _)); exact BK497.out) hb)
            have n10_ := Aside0.mk (below_step (by repeat (first | (with_reducible first | exact HB.out | apply below_alloc | apply pw_below_drewN | apply below_drew1 | refine below_set ?_ GE474.out | refine below_set ?_ GE476.out | refine below_set ?_ GE482.out | refine below_set ?_ GE487.out | refine below_set ?_ GE492.out | refine below_set ?_ GE497.out) | exact HB.out)) hb)
            clear HO500
            clear HO503
            clear HO507
            clear HO510
            clear BK474
            clear BK476
            clear BK482
            clear BK487
            clear BK492
            clear BK497
            clear HB
            have HO500 := n0_
            have HO503 := n1_
            have HO507 := n2_
            have HO510 := n3_
            have BK474 := n4_
            have BK476 := n5_
            have BK482 := n6_
            have BK487 := n7_
            have BK492 := n8_
            have BK497 := n9_
            have HB := n10_
            clear n0_ n1_ n2_ n3_ n4_ n5_ n6_ n7_ n8_ n9_ n10_
            (try clear hb)
            (try clear hb2)
            (try clear hk)
            (try clear hi)
            refine hK.out _ _ ⟨(blk_cell BK476.out 0).trans rfl, (blk_cell BK476.out 1).trans rfl, (blk_cell BK476.out 2).trans rfl, (blk_cell BK476.out 3).trans rfl, (blk_cell BK476.out 4).trans rfl, (blk_cell BK476.out 5).trans rfl, (blk_cell BK474.out 0).trans rfl, (blk_cell BK474.out 1).trans rfl, (blk_cell BK474.out 2).trans rfl, (blk_cell BK474.out 3).trans rfl, (blk_cell BK474.out 4).trans rfl, (blk_cell BK474.out 5).trans rfl, (blk_cell BK474.out 6).trans rfl, (blk_cell BK474.out 7).trans rfl, (blk_cell BK474.out 8).trans rfl, (blk_cell BK474.out 9).trans rfl, (blk_cell BK474.out 10).trans rfl, (blk_cell BK474.out 11).trans rfl⟩ (fun hHeld => ?_)
            clear hK K
            refine norm_ (a' := ?_) ?_ ?_
            rotate_left
            ·show Act.put _ (some 122) _ = _
             simp only [Act.put, List.setIfInBounds_toArray, List.set_cons_zero, List.set_cons_succ, i64_w, i32_w]
             rfl
            refine pure_ (i := 14) (N := some 123) (v := ?_) (a' := ?_) #[true, true, true, true, true, true, true, true, true, true, true, true, true, true, true, false] rfl rfl (any_of HT_.out (by kernel_rfl)) (fun _ _ _ h => h) (Or.inl ⟨by rfl, ?_⟩) ?_ ?_
            rotate_left
            ·intro w'
             go_simp
             with_reducible rfl
            rotate_left
            ·simp only [Act.put, List.setIfInBounds_toArray, List.set_cons_zero, List.set_cons_succ, i64_w, i32_w]
             rfl
            refine pure_ (i := 15) (N := some 17) (v := ?_) (a' := ?_) #[true, true, true, true, true, true, true, true, true, true, true, true, true, true, true, true] rfl rfl (any_of HT_.out (by kernel_rfl)) (fun _ _ _ h => h) (Or.inl ⟨by rfl, ?_⟩) ?_ ?_
            rotate_left
            ·intro w'
             go_simp
             with_reducible rfl
            rotate_left
            ·simp only [Act.put, List.setIfInBounds_toArray, List.set_cons_zero, List.set_cons_succ, i64_w, i32_w]
             rfl
            refine done_ (done_of HT_.out (by kernel_rfl)) ?_
            try go_wp2
            have n0_ := Aside0.mk (Kd.V_drew HO500.out)
            have n1_ := Aside0.mk (Kd.R_drew HO503.out)
            have n2_ := Aside0.mk (Kd.Q_drew HO507.out)
            have n3_ := Aside0.mk (Kd.R_drew HO510.out)
            have n4_ := Aside0.mk (blk_drew BK474.out)
            have n5_ := Aside0.mk (blk_drew BK476.out)
            have n6_ := Aside0.mk (blk_drew BK482.out)
            have n7_ := Aside0.mk (blk_drew BK487.out)
            have n8_ := Aside0.mk (blk_drew BK492.out)
            have n9_ := Aside0.mk (blk_drew BK497.out)
            have n10_ := Aside0.mk (below_drew1 HB.out)
            clear HO500
            clear HO503
            clear HO507
            clear HO510
            clear BK474
            clear BK476
            clear BK482
            clear BK487
            clear BK492
            clear BK497
            clear HB
            have HO500 := n0_
            have HO503 := n1_
            have HO507 := n2_
            have HO510 := n3_
            have BK474 := n4_
            have BK476 := n5_
            have BK482 := n6_
            have BK487 := n7_
            have BK492 := n8_
            have BK497 := n9_
            have HB := n10_
            clear n0_ n1_ n2_ n3_ n4_ n5_ n6_ n7_ n8_ n9_ n10_
            refine start_ (n := 29) (S := fun w' => w'.cell? ⟨gb476, 0, none⟩ = some (.int .i64 a0_0) ∧ w'.cell? ⟨gb476, 1, none⟩ = some (.int .i64 a0_1) ∧ w'.cell? ⟨gb476, 2, none⟩ = some (.int .i64 a0_2) ∧ w'.cell? ⟨gb476, 3, none⟩ = some (.int .i64 a0_3) ∧ w'.cell? ⟨gb476, 4, none⟩ = some (.int .i64 a0_4) ∧ w'.cell? ⟨gb476, 5, none⟩ = some (.int .i64 a0_5)) (ds := []) #[false, false, false, false, false, false, false, false, false, false, false, false, false, false, false, false, false, false, false, false, false, false, false, false, false, false, false, false, false] (by kernel_rfl) rfl rfl ⟨(blk_cell BK476.out 0).trans rfl, (blk_cell BK476.out 1).trans rfl, (blk_cell BK476.out 2).trans rfl, (blk_cell BK476.out 3).trans rfl, (blk_cell BK476.out 4).trans rfl, (blk_cell BK476.out 5).trans rfl⟩ (fun hHeld => ?_); refine with_tabW solventlaw14_LayoutMatchesSpec.tab16 solventlaw14_LayoutMatchesSpec.bits16 (fun HT_ HW_ => ?_)
            generalize w146.drew = w147 at HO500 HO503 HO507 HO510 BK474 BK476 BK482 BK487 BK492 BK497 HB hHeld ⊢
            refine pure_ (i := 0) (N := some 124) (v := ?_) (a' := ?_) #[true, false, false, false, false, false, false, false, false, false, false, false, false, false, false, false, false, false, false, false, false, false, false, false, false, false, false, false, false] rfl rfl (any_of HT_.out (by kernel_rfl)) (fun _ _ _ h => h) (Or.inl ⟨by rfl, ?_⟩) ?_ ?_
            rotate_left
            ·intro w'
             go_simp
             with_reducible rfl
            rotate_left
            ·simp only [Act.put, List.setIfInBounds_toArray, List.set_cons_zero, List.set_cons_succ, i64_w, i32_w]
             rfl
            refine pure_ (i := 1) (N := some 125) (v := ?_) (a' := ?_) #[true, true, false, false, false, false, false, false, false, false, false, false, false, false, false, false, false, false, false, false, false, false, false, false, false, false, false, false, false] rfl rfl (any_of HT_.out (by kernel_rfl)) (fun _ _ _ h => h) (Or.inl ⟨by rfl, ?_⟩) ?_ ?_
            rotate_left
            ·intro w'
             go_simp
             with_reducible rfl
            rotate_left
            ·simp only [Act.put, List.setIfInBounds_toArray, List.set_cons_zero, List.set_cons_succ, i64_w, i32_w]
             rfl
            refine pure_ (i := 2) (N := some 126) (v := ?_) (a' := ?_) #[true, true, true, false, false, false, false, false, false, false, false, false, false, false, false, false, false, false, false, false, false, false, false, false, false, false, false, false, false] rfl rfl (any_of HT_.out (by kernel_rfl)) (fun _ _ _ h => h) (Or.inl ⟨by rfl, ?_⟩) ?_ ?_
            rotate_left
            ·intro w'
             go_simp
             with_reducible rfl
            rotate_left
            ·simp only [Act.put, List.setIfInBounds_toArray, List.set_cons_zero, List.set_cons_succ, i64_w, i32_w]
             rfl
            refine pure_ (i := 3) (N := some 127) (v := ?_) (a' := ?_) #[true, true, true, true, false, false, false, false, false, false, false, false, false, false, false, false, false, false, false, false, false, false, false, false, false, false, false, false, false] rfl rfl (any_of HT_.out (by kernel_rfl)) (fun _ _ _ h => h) (Or.inl ⟨by rfl, ?_⟩) ?_ ?_
            rotate_left
            ·intro w'
             go_simp
             with_reducible rfl
            rotate_left
            ·simp only [Act.put, List.setIfInBounds_toArray, List.set_cons_zero, List.set_cons_succ, i64_w, i32_w]
             rfl
            refine pure_ (i := 4) (N := some 128) (v := ?_) (a' := ?_) #[true, true, true, true, true, false, false, false, false, false, false, false, false, false, false, false, false, false, false, false, false, false, false, false, false, false, false, false, false] rfl rfl (any_of HT_.out (by kernel_rfl)) (fun _ _ _ h => h) (Or.inl ⟨by rfl, ?_⟩) ?_ ?_
            rotate_left
            ·intro w'
             go_simp
             with_reducible rfl
            rotate_left
            ·simp only [Act.put, List.setIfInBounds_toArray, List.set_cons_zero, List.set_cons_succ, i64_w, i32_w]
             rfl
            refine pure_ (i := 5) (N := some 129) (v := ?_) (a' := ?_) #[true, true, true, true, true, true, false, false, false, false, false, false, false, false, false, false, false, false, false, false, false, false, false, false, false, false, false, false, false] rfl rfl (any_of HT_.out (by kernel_rfl)) (fun _ _ _ h => h) (Or.inl ⟨by rfl, ?_⟩) ?_ ?_
            rotate_left
            ·intro w'
             go_simp
             with_reducible rfl
            rotate_left
            ·simp only [Act.put, List.setIfInBounds_toArray, List.set_cons_zero, List.set_cons_succ, i64_w, i32_w]
             rfl
            refine pure_ (i := 6) (N := some 130) (v := ?_) (a' := ?_) #[true, true, true, true, true, true, true, false, false, false, false, false, false, false, false, false, false, false, false, false, false, false, false, false, false, false, false, false, false] rfl rfl (any_of HT_.out (by kernel_rfl)) (fun _ _ _ h => h) (Or.inl ⟨by rfl, ?_⟩) ?_ ?_
            rotate_left
            ·intro w'
             go_simp
             with_reducible rfl
            rotate_left
            ·simp only [Act.put, List.setIfInBounds_toArray, List.set_cons_zero, List.set_cons_succ, i64_w, i32_w]
             rfl
            refine pure_ (i := 7) (N := some 131) (v := ?_) (a' := ?_) #[true, true, true, true, true, true, true, true, false, false, false, false, false, false, false, false, false, false, false, false, false, false, false, false, false, false, false, false, false] rfl rfl (any_of HT_.out (by kernel_rfl)) (fun _ _ _ h => h) (Or.inl ⟨by rfl, ?_⟩) ?_ ?_
            rotate_left
            ·intro w'
             go_simp
             with_reducible rfl
            rotate_left
            ·simp only [Act.put, List.setIfInBounds_toArray, List.set_cons_zero, List.set_cons_succ, i64_w, i32_w]
             rfl
            refine pure_ (i := 8) (N := some 132) (v := ?_) (a' := ?_) #[true, true, true, true, true, true, true, true, true, false, false, false, false, false, false, false, false, false, false, false, false, false, false, false, false, false, false, false, false] rfl rfl (any_of HT_.out (by kernel_rfl)) (fun _ _ _ h => h) (Or.inl ⟨by rfl, ?_⟩) ?_ ?_
            rotate_left
            ·intro w'
             go_simp
             with_reducible rfl
            rotate_left
            ·simp only [Act.put, List.setIfInBounds_toArray, List.set_cons_zero, List.set_cons_succ, i64_w, i32_w]
             rfl
            refine pure_ (i := 9) (N := some 133) (v := ?_) (a' := ?_) #[true, true, true, true, true, true, true, true, true, true, false, false, false, false, false, false, false, false, false, false, false, false, false, false, false, false, false, false, false] rfl rfl (any_of HT_.out (by kernel_rfl)) (fun _ _ _ h => h) (Or.inl ⟨by rfl, ?_⟩) ?_ ?_
            rotate_left
            ·intro w'
             go_simp
             with_reducible rfl
            rotate_left
            ·simp only [Act.put, List.setIfInBounds_toArray, List.set_cons_zero, List.set_cons_succ, i64_w, i32_w]
             rfl
            refine pure_ (i := 10) (N := some 134) (v := ?_) (a' := ?_) #[true, true, true, true, true, true, true, true, true, true, true, false, false, false, false, false, false, false, false, false, false, false, false, false, false, false, false, false, false] rfl rfl (any_of HT_.out (by kernel_rfl)) (fun _ _ _ h => h) (Or.inl ⟨by rfl, ?_⟩) ?_ ?_
            rotate_left
            ·intro w'
             go_simp
             with_reducible rfl
            rotate_left
            ·simp only [Act.put, List.setIfInBounds_toArray, List.set_cons_zero, List.set_cons_succ, i64_w, i32_w]
             rfl
            refine pure_ (i := 12) (N := some 136) (v := ?_) (a' := ?_) #[true, true, true, true, true, true, true, true, true, true, true, false, true, false, false, false, false, false, false, false, false, false, false, false, false, false, false, false, false] rfl rfl (any_of HT_.out (by kernel_rfl)) (fun _ _ _ h => h) (Or.inl ⟨by rfl, ?_⟩) ?_ ?_
            rotate_left
            ·intro w'
             go_simp
             with_reducible rfl
            rotate_left
            ·simp only [Act.put, List.setIfInBounds_toArray, List.set_cons_zero, List.set_cons_succ, i64_w, i32_w]
             rfl
            refine pure_ (i := 15) (N := some 139) (v := ?_) (a' := ?_) #[true, true, true, true, true, true, true, true, true, true, true, false, true, false, false, true, false, false, false, false, false, false, false, false, false, false, false, false, false] rfl rfl (any_of HT_.out (by kernel_rfl)) (fun _ _ _ h => h) (Or.inl ⟨by rfl, ?_⟩) ?_ ?_
            rotate_left
            ·intro w'
             go_simp
             with_reducible rfl
            rotate_left
            ·simp only [Act.put, List.setIfInBounds_toArray, List.set_cons_zero, List.set_cons_succ, i64_w, i32_w]
             rfl
            refine take_ (i := 11) (N := some 135) (v := ?_) (a' := ?_) #[true, true, true, true, true, true, true, true, true, true, true, true, true, false, false, true, false, false, false, false, false, false, false, false, false, false, false, false, false] rfl rfl (take_ofW HT_.out HW_.out (by kernel_rfl)) (fun _ _ _ h => h) (Or.inl ⟨by rfl, ?_⟩) hHeld ?_ ?_
            rotate_left
            ·rintro w' ⟨s0, s1, s2, s3, s4, s5⟩
             go_simp
             with_reducible rfl
            rotate_left
            ·simp only [Act.put, List.setIfInBounds_toArray, List.set_cons_zero, List.set_cons_succ, i64_w, i32_w]
             rfl
            refine take_ (i := 14) (N := some 138) (v := ?_) (a' := ?_) #[true, true, true, true, true, true, true, true, true, true, true, true, true, false, true, true, false, false, false, false, false, false, false, false, false, false, false, false, false] rfl rfl (take_ofW HT_.out HW_.out (by kernel_rfl)) (fun _ _ _ h => h) (Or.inl ⟨by rfl, ?_⟩) hHeld ?_ ?_
            rotate_left
            ·rintro w' ⟨s0, s1, s2, s3, s4, s5⟩
             go_simp
             with_reducible rfl
            rotate_left
            ·simp only [Act.put, List.setIfInBounds_toArray, List.set_cons_zero, List.set_cons_succ, i64_w, i32_w]
             rfl
            refine one_ (i := 13) (N := some 137) #[true, true, true, true, true, true, true, true, true, true, true, true, true, true, true, true, false, false, false, false, false, false, false, false, false, false, false, false, false] rfl rfl (one_of HT_.out (by kernel_rfl)) (by decide) (fun K hK => ?_)
            refine goes_ Try.func32 (by kernel_rfl) rfl #[.agg #[.int .i64 a0_0, .int .i64 a0_1, .int .i64 a0_2, .int .i64 a0_3, .int .i64 a0_4, .int .i64 a0_5], .int .i64 a0_6] (by rfl) rfl rfl (by (try simp only [List.map_toArray, List.map_cons, List.map_nil]); first | done | rfl | (simp only [List.length_drop, List.length_take]; rfl)) ?_
            with_reducible refine (layout_Groups.calls kj114 a0_0 a0_1 a0_2 a0_3 a0_4 a0_5 a0_6 t514 _ A129.out).mono ?_
            rintro e w148 ⟨rfl, hb⟩
            refine ⟨_, rfl, ?_⟩
            have n0_ := Aside0.mk (Kd.V_below (by (with_reducible repeat (first | apply Kd.V_alloc | apply Kd.V_drewN | apply Kd.V_drew)); exact HO500.out) hb)
            have n1_ := Aside0.mk (Kd.R_below (by (with_reducible repeat (first | apply Kd.R_alloc | apply Kd.R_drewN | apply Kd.R_drew)); exact HO503.out) hb)
            have n2_ := Aside0.mk (Kd.Q_below (by (with_reducible repeat (first | apply Kd.Q_alloc | apply Kd.Q_drewN | apply Kd.Q_drew)); exact HO507.out) hb)
            have n3_ := Aside0.mk (Kd.R_below (by (with_reducible repeat (first | apply Kd.R_alloc | apply Kd.R_drewN | apply Kd.R_drew)); exact HO510.out) hb)
            have n4_ := Aside0.mk (blk_below (g := gb474) (o := .cells #[.int .i64 a0_0, .int .i64 a0_1, .int .i64 a0_2, .int .i64 a0_3, .int .i64 a0_4, .int .i64 a0_5, .int .i64 a0_6, .int .i64 a0_7, .int .i64 a0_8, .int .i64 a0_9, .int .i64 a0_10, .int .i64 a0_11] 57 (0, 0)) (by (with_reducible repeat (first | refine blk_drewN ?_ _ | refine blk_drew ?_ | refine blk_alloc ?_ _)); exact BK474.out) hb)
            have n5_ := Aside0.mk (blk_below (g := gb476) (o := .cells #[.int .i64 a0_0, .int .i64 a0_1, .int .i64 a0_2, .int .i64 a0_3, .int .i64 a0_4, .int .i64 a0_5] 23 (0, 0)) (by (with_reducible repeat (first | refine blk_drewN ?_ _ | refine blk_drew ?_ | refine blk_alloc ?_ _)); exact BK476.out) hb)
            have n6_ := Aside0.mk (blk_below (g := gb482) (o := .cells #[.int .i64 t478, .int .i64 t479, .int .i64 t480] 59 (0, 0)) (by (with_reducible repeat (first | refine blk_drewN ?_ _ | refine blk_drew ?_ | refine blk_alloc ?_ _)); exact BK482.out) hb)
            have n7_ := Aside0.mk (blk_below (g := gb487) (o := .cells #[.int .i64 t483, .int .i64 t484, .int .i64 t485] 59 (0, 0)) (by (with_reducible repeat (first | refine blk_drewN ?_ _ | refine blk_drew ?_ | refine blk_alloc ?_ _)); exact BK487.out) hb)
            have n8_ := Aside0.mk (blk_below (g := gb492) (o := .cells #[.int .i64 t488, .int .i64 t489, .int .i64 t490] 45 (0, 0)) (by (with_reducible repeat (first | refine blk_drewN ?_ _ | refine blk_drew ?_ | refine blk_alloc ?_ _)); exact BK492.out) hb)
            have n9_ := Aside0.mk (blk_below (g := gb497) (o := .cells #[.int .i64 t493, .int .i64 t494, .int .i64 t495] 45 (0, 0)) (by (with_reducible repeat (first | refine blk_drewN ?_ _ | refine blk_drew ?_ | refine blk_alloc ?_ _)); exact BK497.out) hb)
            have n10_ := Aside0.mk (below_step (by repeat (first | (with_reducible first | exact HB.out | apply below_alloc | apply pw_below_drewN | apply below_drew1 | refine below_set ?_ GE474.out | refine below_set ?_ GE476.out | refine below_set ?_ GE482.out | refine below_set ?_ GE487.out | refine below_set ?_ GE492.out | refine below_set ?_ GE497.out) | exact HB.out)) hb)
            clear HO500
            clear HO503
            clear HO507
            clear HO510
            clear BK474
            clear BK476
            clear BK482
            clear BK487
            clear BK492
            clear BK497
            clear HB
            have HO500 := n0_
            have HO503 := n1_
            have HO507 := n2_
            have HO510 := n3_
            have BK474 := n4_
            have BK476 := n5_
            have BK482 := n6_
            have BK487 := n7_
            have BK492 := n8_
            have BK497 := n9_
            have HB := n10_
            clear n0_ n1_ n2_ n3_ n4_ n5_ n6_ n7_ n8_ n9_ n10_
            (try clear hb)
            (try clear hb2)
            (try clear hk)
            (try clear hi)
            refine hK.out _ _ ⟨(blk_cell BK476.out 0).trans rfl, (blk_cell BK476.out 1).trans rfl, (blk_cell BK476.out 2).trans rfl, (blk_cell BK476.out 3).trans rfl, (blk_cell BK476.out 4).trans rfl, (blk_cell BK476.out 5).trans rfl⟩ (fun hHeld => ?_)
            clear hK K
            refine norm_ (a' := ?_) ?_ ?_
            rotate_left
            ·show Act.put _ (some 137) _ = _
             simp only [Act.put, List.setIfInBounds_toArray, List.set_cons_zero, List.set_cons_succ, i64_w, i32_w]
             rfl
            refine one_ (i := 16) (N := some 140) #[true, true, true, true, true, true, true, true, true, true, true, true, true, true, true, true, true, false, false, false, false, false, false, false, false, false, false, false, false] rfl rfl (one_of HT_.out (by kernel_rfl)) (by decide) (fun K hK => ?_)
            refine goes_ Try.func45 (by kernel_rfl) rfl #[.agg #[.int .i64 a0_0, .int .i64 a0_1, .int .i64 a0_2, .int .i64 a0_3, .int .i64 a0_4, .int .i64 a0_5], .int .i64 a0_6] (by rfl) rfl rfl (by (try simp only [List.map_toArray, List.map_cons, List.map_nil]); first | done | rfl | (simp only [List.length_drop, List.length_take]; rfl)) ?_
            with_reducible refine (solventref14_Groups.calls kj114 a0_0 a0_1 a0_2 a0_3 a0_4 a0_5 a0_6 t515 _ A130.out).mono ?_
            rintro e w149 ⟨rfl, hb⟩
            refine ⟨_, rfl, ?_⟩
            have n0_ := Aside0.mk (Kd.V_below (by (with_reducible repeat (first | apply Kd.V_alloc | apply Kd.V_drewN | apply Kd.V_drew)); exact HO500.out) hb)
            have n1_ := Aside0.mk (Kd.R_below (by (with_reducible repeat (first | apply Kd.R_alloc | apply Kd.R_drewN | apply Kd.R_drew)); exact HO503.out) hb)
            have n2_ := Aside0.mk (Kd.Q_below (by (with_reducible repeat (first | apply Kd.Q_alloc | apply Kd.Q_drewN | apply Kd.Q_drew)); exact HO507.out) hb)
            have n3_ := Aside0.mk (Kd.R_below (by (with_reducible repeat (first | apply Kd.R_alloc | apply Kd.R_drewN | apply Kd.R_drew)); exact HO510.out) hb)
            have n4_ := Aside0.mk (blk_below (g := gb474) (o := .cells #[.int .i64 a0_0, .int .i64 a0_1, .int .i64 a0_2, .int .i64 a0_3, .int .i64 a0_4, .int .i64 a0_5, .int .i64 a0_6, .int .i64 a0_7, .int .i64 a0_8, .int .i64 a0_9, .int .i64 a0_10, .int .i64 a0_11] 57 (0, 0)) (by (with_reducible repeat (first | refine blk_drewN ?_ _ | refine blk_drew ?_ | refine blk_alloc ?_ _)); exact BK474.out) hb)
            have n5_ := Aside0.mk (blk_below (g := gb476) (o := .cells #[.int .i64 a0_0, .int .i64 a0_1, .int .i64 a0_2, .int .i64 a0_3, .int .i64 a0_4, .int .i64 a0_5] 23 (0, 0)) (by (with_reducible repeat (first | refine blk_drewN ?_ _ | refine blk_drew ?_ | refine blk_alloc ?_ _)); exact BK476.out) hb)
            have n6_ := Aside0.mk (blk_below (g := gb482) (o := .cells #[.int .i64 t478, .int .i64 t479, .int .i64 t480] 59 (0, 0)) (by (with_reducible repeat (first | refine blk_drewN ?_ _ | refine blk_drew ?_ | refine blk_alloc ?_ _)); exact BK482.out) hb)
            have n7_ := Aside0.mk (blk_below (g := gb487) (o := .cells #[.int .i64 t483, .int .i64 t484, .int .i64 t485] 59 (0, 0)) (by (with_reducible repeat (first | refine blk_drewN ?_ _ | refine blk_drew ?_ | refine blk_alloc ?_ _)); exact BK487.out) hb)
            have n8_ := Aside0.mk (blk_below (g := gb492) (o := .cells #[.int .i64 t488, .int .i64 t489, .int .i64 t490] 45 (0, 0)) (by (with_reducible repeat (first | refine blk_drewN ?_ _ | refine blk_drew ?_ | refine blk_alloc ?_ _)); exact BK492.out) hb)
            have n9_ := Aside0.mk (blk_below (g := gb497) (o := .cells #[.int .i64 t493, .int .i64 t494, .int .i64 t495] 45 (0, 0)) (by (with_reducible repeat (first | refine blk_drewN ?_ _ | refine blk_drew ?_ | refine blk_alloc ?_ _)); exact BK497.out) hb)
            have n10_ := Aside0.mk (below_step (by repeat (first | (with_reducible first | exact HB.out | apply below_alloc | apply pw_below_drewN | apply below_drew1 | refine below_set ?_ GE474.out | refine below_set ?_ GE476.out | refine below_set ?_ GE482.out | refine below_set ?_ GE487.out | refine below_set ?_ GE492.out | refine below_set ?_ GE497.out) | exact HB.out)) hb)
            clear HO500
            clear HO503
            clear HO507
            clear HO510
            clear BK474
            clear BK476
            clear BK482
            clear BK487
            clear BK492
            clear BK497
            clear HB
            have HO500 := n0_
            have HO503 := n1_
            have HO507 := n2_
            have HO510 := n3_
            have BK474 := n4_
            have BK476 := n5_
            have BK482 := n6_
            have BK487 := n7_
            have BK492 := n8_
            have BK497 := n9_
            have HB := n10_
            clear n0_ n1_ n2_ n3_ n4_ n5_ n6_ n7_ n8_ n9_ n10_
            (try clear hb)
            (try clear hb2)
            (try clear hk)
            (try clear hi)
            refine hK.out _ _ ⟨(blk_cell BK476.out 0).trans rfl, (blk_cell BK476.out 1).trans rfl, (blk_cell BK476.out 2).trans rfl, (blk_cell BK476.out 3).trans rfl, (blk_cell BK476.out 4).trans rfl, (blk_cell BK476.out 5).trans rfl⟩ (fun hHeld => ?_)
            clear hK K
            refine norm_ (a' := ?_) ?_ ?_
            rotate_left
            ·show Act.put _ (some 140) _ = _
             simp only [Act.put, List.setIfInBounds_toArray, List.set_cons_zero, List.set_cons_succ, i64_w, i32_w]
             rfl
            refine pure_ (i := 17) (N := some 141) (v := ?_) (a' := ?_) #[true, true, true, true, true, true, true, true, true, true, true, true, true, true, true, true, true, true, false, false, false, false, false, false, false, false, false, false, false] rfl rfl (any_of HT_.out (by kernel_rfl)) (fun _ _ _ h => h) (Or.inl ⟨by rfl, ?_⟩) ?_ ?_
            rotate_left
            ·intro w'
             go_simp
             with_reducible rfl
            rotate_left
            ·simp only [Act.put, List.setIfInBounds_toArray, List.set_cons_zero, List.set_cons_succ, i64_w, i32_w]
             rfl
            refine pure_ (i := 18) (N := some 142) (v := ?_) (a' := ?_) #[true, true, true, true, true, true, true, true, true, true, true, true, true, true, true, true, true, true, true, false, false, false, false, false, false, false, false, false, false] rfl rfl (any_of HT_.out (by kernel_rfl)) (fun _ _ _ h => h) (Or.inl ⟨by rfl, ?_⟩) ?_ ?_
            rotate_left
            ·intro w'
             go_simp
             with_reducible rfl
            rotate_left
            ·simp only [Act.put, List.setIfInBounds_toArray, List.set_cons_zero, List.set_cons_succ, i64_w, i32_w]
             rfl
            refine pure_ (i := 19) (N := some 143) (v := ?_) (a' := ?_) #[true, true, true, true, true, true, true, true, true, true, true, true, true, true, true, true, true, true, true, true, false, false, false, false, false, false, false, false, false] rfl rfl (any_of HT_.out (by kernel_rfl)) (fun _ _ _ h => h) (Or.inl ⟨by rfl, ?_⟩) ?_ ?_
            rotate_left
            ·intro w'
             go_simp
             with_reducible rfl
            rotate_left
            ·simp only [Act.put, List.setIfInBounds_toArray, List.set_cons_zero, List.set_cons_succ, i64_w, i32_w]
             rfl
            refine pure_ (i := 21) (N := some 145) (v := ?_) (a' := ?_) #[true, true, true, true, true, true, true, true, true, true, true, true, true, true, true, true, true, true, true, true, false, true, false, false, false, false, false, false, false] rfl rfl (any_of HT_.out (by kernel_rfl)) (fun _ _ _ h => h) (Or.inl ⟨by rfl, ?_⟩) ?_ ?_
            rotate_left
            ·intro w'
             go_simp
             with_reducible rfl
            rotate_left
            ·simp only [Act.put, List.setIfInBounds_toArray, List.set_cons_zero, List.set_cons_succ, i64_w, i32_w]
             rfl
            refine pure_ (i := 24) (N := some 148) (v := ?_) (a' := ?_) #[true, true, true, true, true, true, true, true, true, true, true, true, true, true, true, true, true, true, true, true, false, true, false, false, true, false, false, false, false] rfl rfl (any_of HT_.out (by kernel_rfl)) (fun _ _ _ h => h) (Or.inl ⟨by rfl, ?_⟩) ?_ ?_
            rotate_left
            ·intro w'
             go_simp
             with_reducible rfl
            rotate_left
            ·simp only [Act.put, List.setIfInBounds_toArray, List.set_cons_zero, List.set_cons_succ, i64_w, i32_w]
             rfl
            refine take_ (i := 20) (N := some 144) (v := ?_) (a' := ?_) #[true, true, true, true, true, true, true, true, true, true, true, true, true, true, true, true, true, true, true, true, true, true, false, false, true, false, false, false, false] rfl rfl (take_ofW HT_.out HW_.out (by kernel_rfl)) (fun _ _ _ h => h) (Or.inl ⟨by rfl, ?_⟩) hHeld ?_ ?_
            rotate_left
            ·rintro w' ⟨s0, s1, s2, s3, s4, s5⟩
             go_simp
             with_reducible rfl
            rotate_left
            ·simp only [Act.put, List.setIfInBounds_toArray, List.set_cons_zero, List.set_cons_succ, i64_w, i32_w]
             rfl
            refine take_ (i := 23) (N := some 147) (v := ?_) (a' := ?_) #[true, true, true, true, true, true, true, true, true, true, true, true, true, true, true, true, true, true, true, true, true, true, false, true, true, false, false, false, false] rfl rfl (take_ofW HT_.out HW_.out (by kernel_rfl)) (fun _ _ _ h => h) (Or.inl ⟨by rfl, ?_⟩) hHeld ?_ ?_
            rotate_left
            ·rintro w' ⟨s0, s1, s2, s3, s4, s5⟩
             go_simp
             with_reducible rfl
            rotate_left
            ·simp only [Act.put, List.setIfInBounds_toArray, List.set_cons_zero, List.set_cons_succ, i64_w, i32_w]
             rfl
            refine one_ (i := 22) (N := some 146) #[true, true, true, true, true, true, true, true, true, true, true, true, true, true, true, true, true, true, true, true, true, true, true, true, true, false, false, false, false] rfl rfl (one_of HT_.out (by kernel_rfl)) (by decide) (fun K hK => ?_)
            refine goes_ Try.func46 (by kernel_rfl) rfl #[.agg #[.int .i64 a0_0, .int .i64 a0_1, .int .i64 a0_2, .int .i64 a0_3, .int .i64 a0_4, .int .i64 a0_5], .int .i64 a0_6] (by rfl) rfl rfl (by (try simp only [List.map_toArray, List.map_cons, List.map_nil]); first | done | rfl | (simp only [List.length_drop, List.length_take]; rfl)) ?_
            with_reducible refine (layout_Crowd.calls kj114 a0_0 a0_1 a0_2 a0_3 a0_4 a0_5 a0_6 t516 _ A132.out).mono ?_
            rintro e w150 ⟨rfl, hb⟩
            refine ⟨_, rfl, ?_⟩
            have n0_ := Aside0.mk (Kd.V_below (by (with_reducible repeat (first | apply Kd.V_alloc | apply Kd.V_drewN | apply Kd.V_drew)); exact HO500.out) hb)
            have n1_ := Aside0.mk (Kd.R_below (by (with_reducible repeat (first | apply Kd.R_alloc | apply Kd.R_drewN | apply Kd.R_drew)); exact HO503.out) hb)
            have n2_ := Aside0.mk (Kd.Q_below (by (with_reducible repeat (first | apply Kd.Q_alloc | apply Kd.Q_drewN | apply Kd.Q_drew)); exact HO507.out) hb)
            have n3_ := Aside0.mk (Kd.R_below (by (with_reducible repeat (first | apply Kd.R_alloc | apply Kd.R_drewN | apply Kd.R_drew)); exact HO510.out) hb)
            have n4_ := Aside0.mk (blk_below (g := gb474) (o := .cells #[.int .i64 a0_0, .int .i64 a0_1, .int .i64 a0_2, .int .i64 a0_3, .int .i64 a0_4, .int .i64 a0_5, .int .i64 a0_6, .int .i64 a0_7, .int .i64 a0_8, .int .i64 a0_9, .int .i64 a0_10, .int .i64 a0_11] 57 (0, 0)) (by (with_reducible repeat (first | refine blk_drewN ?_ _ | refine blk_drew ?_ | refine blk_alloc ?_ _)); exact BK474.out) hb)
            have n5_ := Aside0.mk (blk_below (g := gb476) (o := .cells #[.int .i64 a0_0, .int .i64 a0_1, .int .i64 a0_2, .int .i64 a0_3, .int .i64 a0_4, .int .i64 a0_5] 23 (0, 0)) (by (with_reducible repeat (first | refine blk_drewN ?_ _ | refine blk_drew ?_ | refine blk_alloc ?_ _)); exact BK476.out) hb)
            have n6_ := Aside0.mk (blk_below (g := gb482) (o := .cells #[.int .i64 t478, .int .i64 t479, .int .i64 t480] 59 (0, 0)) (by (with_reducible repeat (first | refine blk_drewN ?_ _ | refine blk_drew ?_ | refine blk_alloc ?_ _)); exact BK482.out) hb)
            have n7_ := Aside0.mk (blk_below (g := gb487) (o := .cells #[.int .i64 t483, .int .i64 t484, .int .i64 t485] 59 (0, 0)) (by (with_reducible repeat (first | refine blk_drewN ?_ _ | refine blk_drew ?_ | refine blk_alloc ?_ _)); exact BK487.out) hb)
            have n8_ := Aside0.mk (blk_below (g := gb492) (o := .cells #[.int .i64 t488, .int .i64 t489, .int .i64 t490] 45 (0, 0)) (by (with_reducible repeat (first | refine blk_drewN ?_ _ | refine blk_drew ?_ | refine blk_alloc ?_ _)); exact BK492.out) hb)
            have n9_ := Aside0.mk (blk_below (g := gb497) (o := .cells #[.int .i64 t493, .int .i64 t494, .int .i64 t495] 45 (0, 0)) (by (with_reducible repeat (first | refine blk_drewN ?_ _ | refine blk_drew ?_ | refine blk_alloc ?_ _)); exact BK497.out) hb)
            have n10_ := Aside0.mk (below_step (by repeat (first | (with_reducible first | exact HB.out | apply below_alloc | apply pw_below_drewN | apply below_drew1 | refine below_set ?_ GE474.out | refine below_set ?_ GE476.out | refine below_set ?_ GE482.out | refine below_set ?_ GE487.out | refine below_set ?_ GE492.out | refine below_set ?_ GE497.out) | exact HB.out)) hb)
            clear HO500
            clear HO503
            clear HO507
            clear HO510
            clear BK474
            clear BK476
            clear BK482
            clear BK487
            clear BK492
            clear BK497
            clear HB
            have HO500 := n0_
            have HO503 := n1_
            have HO507 := n2_
            have HO510 := n3_
            have BK474 := n4_
            have BK476 := n5_
            have BK482 := n6_
            have BK487 := n7_
            have BK492 := n8_
            have BK497 := n9_
            have HB := n10_
            clear n0_ n1_ n2_ n3_ n4_ n5_ n6_ n7_ n8_ n9_ n10_
            (try clear hb)
            (try clear hb2)
            (try clear hk)
            (try clear hi)
            refine hK.out _ _ ⟨(blk_cell BK476.out 0).trans rfl, (blk_cell BK476.out 1).trans rfl, (blk_cell BK476.out 2).trans rfl, (blk_cell BK476.out 3).trans rfl, (blk_cell BK476.out 4).trans rfl, (blk_cell BK476.out 5).trans rfl⟩ (fun hHeld => ?_)
            clear hK K
            refine norm_ (a' := ?_) ?_ ?_
            rotate_left
            ·show Act.put _ (some 146) _ = _
             simp only [Act.put, List.setIfInBounds_toArray, List.set_cons_zero, List.set_cons_succ, i64_w, i32_w]
             rfl
            refine one_ (i := 25) (N := some 149) #[true, true, true, true, true, true, true, true, true, true, true, true, true, true, true, true, true, true, true, true, true, true, true, true, true, true, false, false, false] rfl rfl (one_of HT_.out (by kernel_rfl)) (by decide) (fun K hK => ?_)
            refine goes_ Try.func47 (by kernel_rfl) rfl #[.agg #[.int .i64 a0_0, .int .i64 a0_1, .int .i64 a0_2, .int .i64 a0_3, .int .i64 a0_4, .int .i64 a0_5], .int .i64 a0_6] (by rfl) rfl rfl (by (try simp only [List.map_toArray, List.map_cons, List.map_nil]); first | done | rfl | (simp only [List.length_drop, List.length_take]; rfl)) ?_
            with_reducible refine (solventref14_Crowd.calls kj114 a0_0 a0_1 a0_2 a0_3 a0_4 a0_5 a0_6 t517 _ A133.out).mono ?_
            rintro e w151 ⟨rfl, hb⟩
            refine ⟨_, rfl, ?_⟩
            have n0_ := Aside0.mk (Kd.V_below (by (with_reducible repeat (first | apply Kd.V_alloc | apply Kd.V_drewN | apply Kd.V_drew)); exact HO500.out) hb)
            have n1_ := Aside0.mk (Kd.R_below (by (with_reducible repeat (first | apply Kd.R_alloc | apply Kd.R_drewN | apply Kd.R_drew)); exact HO503.out) hb)
            have n2_ := Aside0.mk (Kd.Q_below (by (with_reducible repeat (first | apply Kd.Q_alloc | apply Kd.Q_drewN | apply Kd.Q_drew)); exact HO507.out) hb)
            have n3_ := Aside0.mk (Kd.R_below (by (with_reducible repeat (first | apply Kd.R_alloc | apply Kd.R_drewN | apply Kd.R_drew)); exact HO510.out) hb)
            have n4_ := Aside0.mk (blk_below (g := gb474) (o := .cells #[.int .i64 a0_0, .int .i64 a0_1, .int .i64 a0_2, .int .i64 a0_3, .int .i64 a0_4, .int .i64 a0_5, .int .i64 a0_6, .int .i64 a0_7, .int .i64 a0_8, .int .i64 a0_9, .int .i64 a0_10, .int .i64 a0_11] 57 (0, 0)) (by (with_reducible repeat (first | refine blk_drewN ?_ _ | refine blk_drew ?_ | refine blk_alloc ?_ _)); exact BK474.out) hb)
            have n5_ := Aside0.mk (blk_below (g := gb476) (o := .cells #[.int .i64 a0_0, .int .i64 a0_1, .int .i64 a0_2, .int .i64 a0_3, .int .i64 a0_4, .int .i64 a0_5] 23 (0, 0)) (by (with_reducible repeat (first | refine blk_drewN ?_ _ | refine blk_drew ?_ | refine blk_alloc ?_ _)); exact BK476.out) hb)
            have n6_ := Aside0.mk (blk_below (g := gb482) (o := .cells #[.int .i64 t478, .int .i64 t479, .int .i64 t480] 59 (0, 0)) (by (with_reducible repeat (first | refine blk_drewN ?_ _ | refine blk_drew ?_ | refine blk_alloc ?_ _)); exact BK482.out) hb)
            have n7_ := Aside0.mk (blk_below (g := gb487) (o := .cells #[.int .i64 t483, .int .i64 t484, .int .i64 t485] 59 (0, 0)) (by (with_reducible repeat (first | refine blk_drewN ?_ _ | refine blk_drew ?_ | refine blk_alloc ?_ _)); exact BK487.out) hb)
            have n8_ := Aside0.mk (blk_below (g := gb492) (o := .cells #[.int .i64 t488, .int .i64 t489, .int .i64 t490] 45 (0, 0)) (by (with_reducible repeat (first | refine blk_drewN ?_ _ | refine blk_drew ?_ | refine blk_alloc ?_ _)); exact BK492.out) hb)
            have n9_ := Aside0.mk (blk_below (g := gb497) (o := .cells #[.int .i64 t493, .int .i64 t494, .int .i64 t495] 45 (0, 0)) (by (with_reducible repeat (first | refine blk_drewN ?_ _ | refine blk_drew ?_ | refine blk_alloc ?_ _)); exact BK497.out) hb)
            have n10_ := Aside0.mk (below_step (by repeat (first | (with_reducible first | exact HB.out | apply below_alloc | apply pw_below_drewN | apply below_drew1 | refine below_set ?_ GE474.out | refine below_set ?_ GE476.out | refine below_set ?_ GE482.out | refine below_set ?_ GE487.out | refine below_set ?_ GE492.out | refine below_set ?_ GE497.out) | exact HB.out)) hb)
            clear HO500
            clear HO503
            clear HO507
            clear HO510
            clear BK474
            clear BK476
            clear BK482
            clear BK487
            clear BK492
            clear BK497
            clear HB
            have HO500 := n0_
            have HO503 := n1_
            have HO507 := n2_
            have HO510 := n3_
            have BK474 := n4_
            have BK476 := n5_
            have BK482 := n6_
            have BK487 := n7_
            have BK492 := n8_
            have BK497 := n9_
            have HB := n10_
            clear n0_ n1_ n2_ n3_ n4_ n5_ n6_ n7_ n8_ n9_ n10_
            (try clear hb)
            (try clear hb2)
            (try clear hk)
            (try clear hi)
            refine hK.out _ _ ⟨(blk_cell BK476.out 0).trans rfl, (blk_cell BK476.out 1).trans rfl, (blk_cell BK476.out 2).trans rfl, (blk_cell BK476.out 3).trans rfl, (blk_cell BK476.out 4).trans rfl, (blk_cell BK476.out 5).trans rfl⟩ (fun hHeld => ?_)
            clear hK K
            refine norm_ (a' := ?_) ?_ ?_
            rotate_left
            ·show Act.put _ (some 149) _ = _
             simp only [Act.put, List.setIfInBounds_toArray, List.set_cons_zero, List.set_cons_succ, i64_w, i32_w]
             rfl
            refine pure_ (i := 26) (N := some 150) (v := ?_) (a' := ?_) #[true, true, true, true, true, true, true, true, true, true, true, true, true, true, true, true, true, true, true, true, true, true, true, true, true, true, true, false, false] rfl rfl (any_of HT_.out (by kernel_rfl)) (fun _ _ _ h => h) (Or.inl ⟨by rfl, ?_⟩) ?_ ?_
            rotate_left
            ·intro w'
             go_simp
             with_reducible rfl
            rotate_left
            ·simp only [Act.put, List.setIfInBounds_toArray, List.set_cons_zero, List.set_cons_succ, i64_w, i32_w]
             rfl
            refine pure_ (i := 27) (N := some 151) (v := ?_) (a' := ?_) #[true, true, true, true, true, true, true, true, true, true, true, true, true, true, true, true, true, true, true, true, true, true, true, true, true, true, true, true, false] rfl rfl (any_of HT_.out (by kernel_rfl)) (fun _ _ _ h => h) (Or.inl ⟨by rfl, ?_⟩) ?_ ?_
            rotate_left
            ·intro w'
             go_simp
             with_reducible rfl
            rotate_left
            ·simp only [Act.put, List.setIfInBounds_toArray, List.set_cons_zero, List.set_cons_succ, i64_w, i32_w]
             rfl
            refine pure_ (i := 28) (N := some 2) (v := ?_) (a' := ?_) #[true, true, true, true, true, true, true, true, true, true, true, true, true, true, true, true, true, true, true, true, true, true, true, true, true, true, true, true, true] rfl rfl (any_of HT_.out (by kernel_rfl)) (fun _ _ _ h => h) (Or.inl ⟨by rfl, ?_⟩) ?_ ?_
            rotate_left
            ·intro w'
             go_simp
             with_reducible rfl
            rotate_left
            ·simp only [Act.put, List.setIfInBounds_toArray, List.set_cons_zero, List.set_cons_succ, i64_w, i32_w]
             rfl
            refine done_ (done_of HT_.out (by kernel_rfl)) ?_
            try go_wp2
            go_ret
            exact ⟨by first | rfl | (simp [errW_none, errW_some] <;> rfl) | (simp [*, errW_none, errW_some] <;> rfl), by repeat (first | (with_reducible first | exact HB.out | apply below_alloc | apply pw_below_drewN | apply below_drew1 | refine below_set ?_ GE474.out | refine below_set ?_ GE476.out | refine below_set ?_ GE482.out | refine below_set ?_ GE487.out | refine below_set ?_ GE492.out | refine below_set ?_ GE497.out) | exact HB.out)⟩
           ·rw [if_neg c131] at H
            exact absurd H (by simp)
          ·rw [if_neg c128] at H
           exact absurd H (by simp)
         ·replace c127 := Bool.eq_false_iff.mpr c127
          subst c127
          have H1 : (none) = some r := by rw [if_neg (show ¬ (false = true) by decide)] at H; exact H
          clear H
          have H := H1
          clear H1
          exact absurd H (by simp)
        ·replace c126 := Bool.eq_false_iff.mpr c126
         subst c126
         have H1 : (none) = some r := by rw [if_neg (show ¬ (false = true) by decide)] at H; exact H
         clear H
         have H := H1
         clear H1
         exact absurd H (by simp)
       ·replace c125 := Bool.eq_false_iff.mpr c125
        subst c125
        have H1 : (none) = some r := by rw [if_neg (show ¬ (false = true) by decide)] at H; exact H
        clear H
        have H := H1
        clear H1
        exact absurd H (by simp)

end Go.Proofs.Ytiejibkjhmmpaaa.Q
