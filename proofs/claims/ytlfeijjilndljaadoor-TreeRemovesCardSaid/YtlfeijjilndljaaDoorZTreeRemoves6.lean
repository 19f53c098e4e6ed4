/- Made by programs of the prover: walks of Go functions, the words that they use, and plain laws, each text in a section of its own; no condition of its own. -/
import Derived.Test.YtlfeijjilndljaaDoorZTreeRemoves2
import Derived.Test.YtlfeijjilndljaaDoorZTreeRemoves3
import Derived.Test.YtlfeijjilndljaaDoorZTreeRemoves4
import Derived.Test.YtlfeijjilndljaaDoorZTreeRemoves5
section
namespace Go.Proofs.YtlfeijjilndljaaDoor.All
open Go.RowKit Go.Proofs.YtlfeijjilndljaaDoorW.PrintWords Go.Proofs.YtlfeijjilndljaaDoorW.PrintLast Go.Proofs.YtlfeijjilndljaaDoorW.PrintMore
open Go.Proofs.YtlfeijjilndljaaDoorW.Mine
attribute [local go_sem] gtr_string leq_string geq_string
attribute [local go_sem] max2_int min2_int max_two min_two max_three min_three max_four min_four   -- for this text's walks alone
set_option linter.unusedVariables false
set_option linter.unusedSimpArgs false

attribute [local go_sem high] eqA32
/-! ### tree_alike: function 73 -/
def tree_alike.f (a0_0 : ByteArray) (a0_1 : Int) (a0_2 : Int) (a0_3 : ByteArray) (a0_4 : Int) (a0_5 : Int) (a0_6 : Int) (a0_7 : ByteArray) (a0_8 : ByteArray) (a0_9 : Int) (a0_10 : Int) (l0_11 : List Int) (a1_0 : ByteArray) (a1_1 : Int) (a1_2 : Int) (a1_3 : ByteArray) (a1_4 : Int) (a1_5 : Int) (a1_6 : Int) (a1_7 : ByteArray) (a1_8 : ByteArray) (a1_9 : Int) (a1_10 : Int) (l1_11 : List Int) : Option (Bool) := if (a0_4 == a1_4 && (a0_5 == a1_5 && (a0_6 == a1_6 && (a0_7.toList == a1_7.toList && (a0_8.toList == a1_8.toList && (a0_9 == a1_9 && (a0_10 == a1_10))))))) = true then (some ((strOfNums l0_11).toList == (strOfNums l1_11).toList)) else (some false)
set_option maxHeartbeats 8000000 in
set_option maxRecDepth 100000 in
theorem tree_alike.calls (a0_0 : ByteArray) (a0_1 : Int) (a0_2 : Int) (a0_3 : ByteArray) (a0_4 : Int) (a0_5 : Int) (a0_6 : Int) (a0_7 : ByteArray) (a0_8 : ByteArray) (a0_9 : Int) (a0_10 : Int) (A0_11 : Option Addr) (c0_11 : Nat) (l0_11 : List Int) (a1_0 : ByteArray) (a1_1 : Int) (a1_2 : Int) (a1_3 : ByteArray) (a1_4 : Int) (a1_5 : Int) (a1_6 : Int) (a1_7 : ByteArray) (a1_8 : ByteArray) (a1_9 : Int) (a1_10 : Int) (A1_11 : Option Addr) (c1_11 : Nat) (l1_11 : List Int) (r : Bool) (w : World) (hr0_11 : Kd.C (Kd.int .u8) w A0_11 l0_11.length l0_11) (hc0_11 : l0_11.length ≤ c0_11) (hr1_11 : Kd.C (Kd.int .u8) w A1_11 l1_11.length l1_11) (hc1_11 : l1_11.length ≤ c1_11) (h : tree_alike.f a0_0 a0_1 a0_2 a0_3 a0_4 a0_5 a0_6 a0_7 a0_8 a0_9 a0_10 l0_11 a1_0 a1_1 a1_2 a1_3 a1_4 a1_5 a1_6 a1_7 a1_8 a1_9 a1_10 l1_11 = some r) :
  Calls Tryd.prog 73 #[.agg #[.string a0_0, .int .i64 a0_1, .int .i64 a0_2, .string a0_3, .int .i64 a0_4, .int .i64 a0_5, .int .i64 a0_6, .string a0_7, .string a0_8, .int .i64 a0_9, .int .i64 a0_10, .slice A0_11 l0_11.length c0_11], .agg #[.string a1_0, .int .i64 a1_1, .int .i64 a1_2, .string a1_3, .int .i64 a1_4, .int .i64 a1_5, .int .i64 a1_6, .string a1_7, .string a1_8, .int .i64 a1_9, .int .i64 a1_10, .slice A1_11 l1_11.length c1_11]] w fun e w' => e = .returned (.bool r) ∧ Below w.heap.size w w' := by
 have hu56 := Tryd.underlying56
 have hu32 := Tryd.underlying32
 have HR0_11 := Aside0.mk hr0_11
 have HC0_11 := Aside0.mk hc0_11
 clear hr0_11 hc0_11
 have HR1_11 := Aside0.mk hr1_11
 have HC1_11 := Aside0.mk hc1_11
 clear hr1_11 hc1_11
 have HB := Aside0.mk (Below.refl w.heap.size w)
 have H : (if (a0_4 == a1_4 && (a0_5 == a1_5 && (a0_6 == a1_6 && (a0_7.toList == a1_7.toList && (a0_8.toList == a1_8.toList && (a0_9 == a1_9 && (a0_10 == a1_10))))))) = true then (some ((strOfNums l0_11).toList == (strOfNums l1_11).toList)) else (some false)) = some r := h
 clear h
 by_cases c3 : (a0_4 == a1_4 && (a0_5 == a1_5 && (a0_6 == a1_6 && (a0_7.toList == a1_7.toList && (a0_8.toList == a1_8.toList && (a0_9 == a1_9 && (a0_10 == a1_10))))))) = true
 ·rw [if_pos c3] at H
  have c3b0 : (a0_4 == a1_4 && (a0_5 == a1_5 && (a0_6 == a1_6 && (a0_7.toList == a1_7.toList && (a0_8.toList == a1_8.toList && (a0_9 == a1_9 && (a0_10 == a1_10))))))) = true := c3
  (try (have c3b1 : decide (a0_4 = a1_4 && (a0_5 == a1_5 && (a0_6 == a1_6 && (a0_7.toList == a1_7.toList && (a0_8.toList == a1_8.toList && (a0_9 == a1_9 && (a0_10 == a1_10))))))) = true := by simpa using c3))
  (try (have c3b2 : (a0_4 == a1_4 && (a0_5 == a1_5 && (a0_6 == a1_6 && (a0_7.toList == a1_7.toList && (a0_8.toList == a1_8.toList && (a0_9 == a1_9 && (a0_10 == a1_10))))))) = true := by simpa using c3))
  clear c3
  obtain rfl := Option.some.inj H
  go_enter Tryd.func73, Tryd.ntmps73
  go_wp2_with (first | ((with_reducible refine gate_dst (N := 2) rfl ?_); refine box_event ?hg (N := 2) ?hd (cs := #[.string a0_0, .int .i64 a0_1, .int .i64 a0_2, .string a0_3, .int .i64 a0_4, .int .i64 a0_5, .int .i64 a0_6, .string a0_7, .string a0_8, .int .i64 a0_9, .int .i64 a0_10, .slice A0_11 l0_11.length c0_11]) (t := 56) ?hr ?_; (case hd => rfl); (case hg => rfl); (case hr => first | (go_simp; done) | (go_simp; rfl)); intro gb101 hg w4 hbox hb; have n0_ := Aside0.mk (below_step (by repeat (first | (with_reducible first | exact HB.out | apply below_alloc | apply pw_below_drewN | apply below_drew1) | exact HB.out)) hb); have n1_ := Aside0.mk (hbox); have n2_ := Aside0.mk ((by rw [hg]; exact (below_size (by repeat (first | (with_reducible first | exact HB.out | apply below_alloc | apply pw_below_drewN | apply below_drew1) | exact HB.out))) : w.heap.size ≤ gb101)); have n3_ := Aside0.mk ((by rw [hg]; exact (below_size (by repeat (first | (with_reducible first | exact HB.out | apply below_alloc | apply pw_below_drewN | apply below_drew1) | exact HB.out))) : w.heap.size ≤ gb101)); clear HB; have HB := n0_; have BK101 := n1_; have GW101 := n2_; have GE101 := n3_; clear n0_ n1_ n2_ n3_; clear hb hbox hg) | ((with_reducible refine gate_dst (N := 3) rfl ?_); refine box_event ?hg (N := 3) ?hd (cs := #[.string a1_0, .int .i64 a1_1, .int .i64 a1_2, .string a1_3, .int .i64 a1_4, .int .i64 a1_5, .int .i64 a1_6, .string a1_7, .string a1_8, .int .i64 a1_9, .int .i64 a1_10, .slice A1_11 l1_11.length c1_11]) (t := 56) ?hr ?_; (case hd => rfl); (case hg => rfl); (case hr => first | (go_simp; done) | (go_simp; rfl)); intro gb102 hg w5 hbox hb; have n0_ := Aside0.mk (blk_below (g := gb101) (o := .cells #[.string a0_0, .int .i64 a0_1, .int .i64 a0_2, .string a0_3, .int .i64 a0_4, .int .i64 a0_5, .int .i64 a0_6, .string a0_7, .string a0_8, .int .i64 a0_9, .int .i64 a0_10, .slice A0_11 l0_11.length c0_11] 56 (0, 0)) (by (with_reducible repeat (first | refine blk_drewN ?_ _ | refine blk_drew ?_ | refine blk_alloc ?_ _)); exact BK101.out) hb); have n1_ := Aside0.mk (below_step (by repeat (first | (with_reducible first | exact HB.out | apply below_alloc | apply pw_below_drewN | apply below_drew1 | refine below_set ?_ GE101.out) | exact HB.out)) hb); have n2_ := Aside0.mk (hbox); have n3_ := Aside0.mk ((by rw [hg]; exact (below_size (by repeat (first | (with_reducible first | exact HB.out | apply below_alloc | apply pw_below_drewN | apply below_drew1 | refine below_set ?_ GE101.out) | exact HB.out))) : w.heap.size ≤ gb102)); have n4_ := Aside0.mk ((by rw [hg]; exact (below_size (by repeat (first | (with_reducible first | exact HB.out | apply below_alloc | apply pw_below_drewN | apply below_drew1 | refine below_set ?_ GE101.out) | exact HB.out))) : w.heap.size ≤ gb102)); have n5_ := Aside0.mk ((by rw [hg]; exact Nat.ne_of_lt (blk_lt (g := gb101) (o := .cells #[.string a0_0, .int .i64 a0_1, .int .i64 a0_2, .string a0_3, .int .i64 a0_4, .int .i64 a0_5, .int .i64 a0_6, .string a0_7, .string a0_8, .int .i64 a0_9, .int .i64 a0_10, .slice A0_11 l0_11.length c0_11] 56 (0, 0)) (by (with_reducible repeat (first | refine blk_drewN ?_ _ | refine blk_drew ?_ | refine blk_alloc ?_ _)); exact BK101.out)) : gb101 ≠ gb102)); have n6_ := Aside0.mk ((by rw [hg]; exact Nat.ne_of_gt (blk_lt (g := gb101) (o := .cells #[.string a0_0, .int .i64 a0_1, .int .i64 a0_2, .string a0_3, .int .i64 a0_4, .int .i64 a0_5, .int .i64 a0_6, .string a0_7, .string a0_8, .int .i64 a0_9, .int .i64 a0_10, .slice A0_11 l0_11.length c0_11] 56 (0, 0)) (by (with_reducible repeat (first | refine blk_drewN ?_ _ | refine blk_drew ?_ | refine blk_alloc ?_ _)); exact BK101.out)) : gb102 ≠ gb101)); clear BK101; clear HB; have BK101 := n0_; have HB := n1_; have BK102 := n2_; have GW102 := n3_; have GE102 := n4_; have NB101_102 := n5_; have NB102_101 := n6_; clear n0_ n1_ n2_ n3_ n4_ n5_ n6_; clear hb hbox hg; have hnb6 := NB101_102.out; have hnc6 := NB102_101.out; have hcz7_0 : w5.cell? ⟨gb101, 0, none⟩ = some (.string a0_0) := (blk_cell BK101.out 0).trans rfl; have hcz7_1 : w5.cell? ⟨gb101, 1, none⟩ = some (.int .i64 a0_1) := (blk_cell BK101.out 1).trans rfl; have hcz7_2 : w5.cell? ⟨gb101, 2, none⟩ = some (.int .i64 a0_2) := (blk_cell BK101.out 2).trans rfl; have hcz7_3 : w5.cell? ⟨gb101, 3, none⟩ = some (.string a0_3) := (blk_cell BK101.out 3).trans rfl; have hcz7_4 : w5.cell? ⟨gb101, 4, none⟩ = some (.int .i64 a0_4) := (blk_cell BK101.out 4).trans rfl; have hcz7_5 : w5.cell? ⟨gb101, 5, none⟩ = some (.int .i64 a0_5) := (blk_cell BK101.out 5).trans rfl; have hcz7_6 : w5.cell? ⟨gb101, 6, none⟩ = some (.int .i64 a0_6) := (blk_cell BK101.out 6).trans rfl; have hcz7_7 : w5.cell? ⟨gb101, 7, none⟩ = some (.string a0_7) := (blk_cell BK101.out 7).trans rfl; have hcz7_8 : w5.cell? ⟨gb101, 8, none⟩ = some (.string a0_8) := (blk_cell BK101.out 8).trans rfl; have hcz7_9 : w5.cell? ⟨gb101, 9, none⟩ = some (.int .i64 a0_9) := (blk_cell BK101.out 9).trans rfl; have hcz7_10 : w5.cell? ⟨gb101, 10, none⟩ = some (.int .i64 a0_10) := (blk_cell BK101.out 10).trans rfl; have hcz7_11 : w5.cell? ⟨gb101, 11, none⟩ = some (.slice A0_11 l0_11.length c0_11) := (blk_cell BK101.out 11).trans rfl; have hfz7_0 := blk_frozen BK101.out 0; have hfz7_1 := blk_frozen BK101.out 1; have hfz7_2 := blk_frozen BK101.out 2; have hfz7_3 := blk_frozen BK101.out 3; have hfz7_4 := blk_frozen BK101.out 4; have hfz7_5 := blk_frozen BK101.out 5; have hfz7_6 := blk_frozen BK101.out 6; have hfz7_7 := blk_frozen BK101.out 7; have hfz7_8 := blk_frozen BK101.out 8; have hfz7_9 := blk_frozen BK101.out 9; have hfz7_10 := blk_frozen BK101.out 10; have hfz7_11 := blk_frozen BK101.out 11; have hcz8_0 : w5.cell? ⟨gb102, 0, none⟩ = some (.string a1_0) := (blk_cell BK102.out 0).trans rfl; have hcz8_1 : w5.cell? ⟨gb102, 1, none⟩ = some (.int .i64 a1_1) := (blk_cell BK102.out 1).trans rfl; have hcz8_2 : w5.cell? ⟨gb102, 2, none⟩ = some (.int .i64 a1_2) := (blk_cell BK102.out 2).trans rfl; have hcz8_3 : w5.cell? ⟨gb102, 3, none⟩ = some (.string a1_3) := (blk_cell BK102.out 3).trans rfl; have hcz8_4 : w5.cell? ⟨gb102, 4, none⟩ = some (.int .i64 a1_4) := (blk_cell BK102.out 4).trans rfl; have hcz8_5 : w5.cell? ⟨gb102, 5, none⟩ = some (.int .i64 a1_5) := (blk_cell BK102.out 5).trans rfl; have hcz8_6 : w5.cell? ⟨gb102, 6, none⟩ = some (.int .i64 a1_6) := (blk_cell BK102.out 6).trans rfl; have hcz8_7 : w5.cell? ⟨gb102, 7, none⟩ = some (.string a1_7) := (blk_cell BK102.out 7).trans rfl; have hcz8_8 : w5.cell? ⟨gb102, 8, none⟩ = some (.string a1_8) := (blk_cell BK102.out 8).trans rfl; have hcz8_9 : w5.cell? ⟨gb102, 9, none⟩ = some (.int .i64 a1_9) := (blk_cell BK102.out 9).trans rfl; have hcz8_10 : w5.cell? ⟨gb102, 10, none⟩ = some (.int .i64 a1_10) := (blk_cell BK102.out 10).trans rfl; have hcz8_11 : w5.cell? ⟨gb102, 11, none⟩ = some (.slice A1_11 l1_11.length c1_11) := (blk_cell BK102.out 11).trans rfl; have hfz8_0 := blk_frozen BK102.out 0; have hfz8_1 := blk_frozen BK102.out 1; have hfz8_2 := blk_frozen BK102.out 2; have hfz8_3 := blk_frozen BK102.out 3; have hfz8_4 := blk_frozen BK102.out 4; have hfz8_5 := blk_frozen BK102.out 5; have hfz8_6 := blk_frozen BK102.out 6; have hfz8_7 := blk_frozen BK102.out 7; have hfz8_8 := blk_frozen BK102.out 8; have hfz8_9 := blk_frozen BK102.out 9; have hfz8_10 := blk_frozen BK102.out 10; have hfz8_11 := blk_frozen BK102.out 11; have hcv9 := Kd.C_string (P := Tryd.prog) (A := A0_11) (c := c0_11) Tryd.underlying33 Tryd.underlying5 Tryd.underlying9 (Kd.C_below HR0_11.out HB.out); have hcv10 := Kd.C_string (P := Tryd.prog) (A := A1_11) (c := c1_11) Tryd.underlying33 Tryd.underlying5 Tryd.underlying9 (Kd.C_below HR1_11.out HB.out)))
  go_ret
  exact ⟨by first | rfl | (simp [errW_none, errW_some] <;> rfl) | (simp [*, errW_none, errW_some] <;> rfl), by repeat (first | (with_reducible first | exact HB.out | apply below_alloc | apply pw_below_drewN | apply below_drew1 | refine below_set ?_ GE101.out | refine below_set ?_ GE102.out) | exact HB.out)⟩
 ·rw [if_neg c3] at H
  have c3b0 : (a0_4 == a1_4 && (a0_5 == a1_5 && (a0_6 == a1_6 && (a0_7.toList == a1_7.toList && (a0_8.toList == a1_8.toList && (a0_9 == a1_9 && (a0_10 == a1_10))))))) = false := by simpa using c3
  (try (have c3b1 : decide (a0_4 = a1_4 && (a0_5 == a1_5 && (a0_6 == a1_6 && (a0_7.toList == a1_7.toList && (a0_8.toList == a1_8.toList && (a0_9 == a1_9 && (a0_10 == a1_10))))))) = false := by simpa using c3))
  (try (have c3b2 : (a0_4 == a1_4 && (a0_5 == a1_5 && (a0_6 == a1_6 && (a0_7.toList == a1_7.toList && (a0_8.toList == a1_8.toList && (a0_9 == a1_9 && (a0_10 == a1_10))))))) = false := by simpa using c3))
  (try (have c3b3 : ¬ (a0_4 = a1_4 && (a0_5 == a1_5 && (a0_6 == a1_6 && (a0_7.toList == a1_7.toList && (a0_8.toList == a1_8.toList && (a0_9 == a1_9 && (a0_10 == a1_10))))))) := by simpa using c3))
  clear c3
  obtain rfl := Option.some.inj H
  go_enter Tryd.func73, Tryd.ntmps73
  go_wp2_with (first | ((with_reducible refine gate_dst (N := 2) rfl ?_); refine box_event ?hg (N := 2) ?hd (cs := #[.string a0_0, .int .i64 a0_1, .int .i64 a0_2, .string a0_3, .int .i64 a0_4, .int .i64 a0_5, .int .i64 a0_6, .string a0_7, .string a0_8, .int .i64 a0_9, .int .i64 a0_10, .slice A0_11 l0_11.length c0_11]) (t := 56) ?hr ?_; (case hd => rfl); (case hg => rfl); (case hr => first | (go_simp; done) | (go_simp; rfl)); intro gb101 hg w11 hbox hb; have n0_ := Aside0.mk (below_step (by repeat (first | (with_reducible first | exact HB.out | apply below_alloc | apply pw_below_drewN | apply below_drew1) | exact HB.out)) hb); have n1_ := Aside0.mk (hbox); have n2_ := Aside0.mk ((by rw [hg]; exact (below_size (by repeat (first | (with_reducible first | exact HB.out | apply below_alloc | apply pw_below_drewN | apply below_drew1) | exact HB.out))) : w.heap.size ≤ gb101)); have n3_ := Aside0.mk ((by rw [hg]; exact (below_size (by repeat (first | (with_reducible first | exact HB.out | apply below_alloc | apply pw_below_drewN | apply below_drew1) | exact HB.out))) : w.heap.size ≤ gb101)); clear HB; have HB := n0_; have BK101 := n1_; have GW101 := n2_; have GE101 := n3_; clear n0_ n1_ n2_ n3_; clear hb hbox hg) | ((with_reducible refine gate_dst (N := 3) rfl ?_); refine box_event ?hg (N := 3) ?hd (cs := #[.string a1_0, .int .i64 a1_1, .int .i64 a1_2, .string a1_3, .int .i64 a1_4, .int .i64 a1_5, .int .i64 a1_6, .string a1_7, .string a1_8, .int .i64 a1_9, .int .i64 a1_10, .slice A1_11 l1_11.length c1_11]) (t := 56) ?hr ?_; (case hd => rfl); (case hg => rfl); (case hr => first | (go_simp; done) | (go_simp; rfl)); intro gb102 hg w12 hbox hb; have n0_ := Aside0.mk (blk_below (g := gb101) (o := .cells #[.string a0_0, .int .i64 a0_1, .int .i64 a0_2, .string a0_3, .int .i64 a0_4, .int .i64 a0_5, .int .i64 a0_6, .string a0_7, .string a0_8, .int .i64 a0_9, .int .i64 a0_10, .slice A0_11 l0_11.length c0_11] 56 (0, 0)) (by (with_reducible repeat (first | refine blk_drewN ?_ _ | refine blk_drew ?_ | refine blk_alloc ?_ _)); exact BK101.out) hb); have n1_ := Aside0.mk (below_step (by repeat (first | (with_reducible first | exact HB.out | apply below_alloc | apply pw_below_drewN | apply below_drew1 | refine below_set ?_ GE101.out) | exact HB.out)) hb); have n2_ := Aside0.mk (hbox); have n3_ := Aside0.mk ((by rw [hg]; exact (below_size (by repeat (first | (with_reducible first | exact HB.out | apply below_alloc | apply pw_below_drewN | apply below_drew1 | refine below_set ?_ GE101.out) | exact HB.out))) : w.heap.size ≤ gb102)); have n4_ := Aside0.mk ((by rw [hg]; exact (below_size (by repeat (first | (with_reducible first | exact HB.out | apply below_alloc | apply pw_below_drewN | apply below_drew1 | refine below_set ?_ GE101.out) | exact HB.out))) : w.heap.size ≤ gb102)); have n5_ := Aside0.mk ((by rw [hg]; exact Nat.ne_of_lt (blk_lt (g := gb101) (o := .cells #[.string a0_0, .int .i64 a0_1, .int .i64 a0_2, .string a0_3, .int .i64 a0_4, .int .i64 a0_5, .int .i64 a0_6, .string a0_7, .string a0_8, .int .i64 a0_9, .int .i64 a0_10, .slice A0_11 l0_11.length c0_11] 56 (0, 0)) (by (with_reducible repeat (first | refine blk_drewN ?_ _ | refine blk_drew ?_ | refine blk_alloc ?_ _)); exact BK101.out)) : gb101 ≠ gb102)); have n6_ := Aside0.mk ((by rw [hg]; exact Nat.ne_of_gt (blk_lt (g := gb101) (o := .cells #[.string a0_0, .int .i64 a0_1, .int .i64 a0_2, .string a0_3, .int .i64 a0_4, .int .i64 a0_5, .int .i64 a0_6, .string a0_7, .string a0_8, .int .i64 a0_9, .int .i64 a0_10, .slice A0_11 l0_11.length c0_11] 56 (0, 0)) (by (with_reducible repeat (first | refine blk_drewN ?_ _ | refine blk_drew ?_ | refine blk_alloc ?_ _)); exact BK101.out)) : gb102 ≠ gb101)); clear BK101; clear HB; have BK101 := n0_; have HB := n1_; have BK102 := n2_; have GW102 := n3_; have GE102 := n4_; have NB101_102 := n5_; have NB102_101 := n6_; clear n0_ n1_ n2_ n3_ n4_ n5_ n6_; clear hb hbox hg; have hnb13 := NB101_102.out; have hnc13 := NB102_101.out; have hcz14_0 : w12.cell? ⟨gb101, 0, none⟩ = some (.string a0_0) := (blk_cell BK101.out 0).trans rfl; have hcz14_1 : w12.cell? ⟨gb101, 1, none⟩ = some (.int .i64 a0_1) := (blk_cell BK101.out 1).trans rfl; have hcz14_2 : w12.cell? ⟨gb101, 2, none⟩ = some (.int .i64 a0_2) := (blk_cell BK101.out 2).trans rfl; have hcz14_3 : w12.cell? ⟨gb101, 3, none⟩ = some (.string a0_3) := (blk_cell BK101.out 3).trans rfl; have hcz14_4 : w12.cell? ⟨gb101, 4, none⟩ = some (.int .i64 a0_4) := (blk_cell BK101.out 4).trans rfl; have hcz14_5 : w12.cell? ⟨gb101, 5, none⟩ = some (.int .i64 a0_5) := (blk_cell BK101.out 5).trans rfl; have hcz14_6 : w12.cell? ⟨gb101, 6, none⟩ = some (.int .i64 a0_6) := (blk_cell BK101.out 6).trans rfl; have hcz14_7 : w12.cell? ⟨gb101, 7, none⟩ = some (.string a0_7) := (blk_cell BK101.out 7).trans rfl; have hcz14_8 : w12.cell? ⟨gb101, 8, none⟩ = some (.string a0_8) := (blk_cell BK101.out 8).trans rfl; have hcz14_9 : w12.cell? ⟨gb101, 9, none⟩ = some (.int .i64 a0_9) := (blk_cell BK101.out 9).trans rfl; have hcz14_10 : w12.cell? ⟨gb101, 10, none⟩ = some (.int .i64 a0_10) := (blk_cell BK101.out 10).trans rfl; have hcz14_11 : w12.cell? ⟨gb101, 11, none⟩ = some (.slice A0_11 l0_11.length c0_11) := (blk_cell BK101.out 11).trans rfl; have hfz14_0 := blk_frozen BK101.out 0; have hfz14_1 := blk_frozen BK101.out 1; have hfz14_2 := blk_frozen BK101.out 2; have hfz14_3 := blk_frozen BK101.out 3; have hfz14_4 := blk_frozen BK101.out 4; have hfz14_5 := blk_frozen BK101.out 5; have hfz14_6 := blk_frozen BK101.out 6; have hfz14_7 := blk_frozen BK101.out 7; have hfz14_8 := blk_frozen BK101.out 8; have hfz14_9 := blk_frozen BK101.out 9; have hfz14_10 := blk_frozen BK101.out 10; have hfz14_11 := blk_frozen BK101.out 11; have hcz15_0 : w12.cell? ⟨gb102, 0, none⟩ = some (.string a1_0) := (blk_cell BK102.out 0).trans rfl; have hcz15_1 : w12.cell? ⟨gb102, 1, none⟩ = some (.int .i64 a1_1) := (blk_cell BK102.out 1).trans rfl; have hcz15_2 : w12.cell? ⟨gb102, 2, none⟩ = some (.int .i64 a1_2) := (blk_cell BK102.out 2).trans rfl; have hcz15_3 : w12.cell? ⟨gb102, 3, none⟩ = some (.string a1_3) := (blk_cell BK102.out 3).trans rfl; have hcz15_4 : w12.cell? ⟨gb102, 4, none⟩ = some (.int .i64 a1_4) := (blk_cell BK102.out 4).trans rfl; have hcz15_5 : w12.cell? ⟨gb102, 5, none⟩ = some (.int .i64 a1_5) := (blk_cell BK102.out 5).trans rfl; have hcz15_6 : w12.cell? ⟨gb102, 6, none⟩ = some (.int .i64 a1_6) := (blk_cell BK102.out 6).trans rfl; have hcz15_7 : w12.cell? ⟨gb102, 7, none⟩ = some (.string a1_7) := (blk_cell BK102.out 7).trans rfl; have hcz15_8 : w12.cell? ⟨gb102, 8, none⟩ = some (.string a1_8) := (blk_cell BK102.out 8).trans rfl; have hcz15_9 : w12.cell? ⟨gb102, 9, none⟩ = some (.int .i64 a1_9) := (blk_cell BK102.out 9).trans rfl; have hcz15_10 : w12.cell? ⟨gb102, 10, none⟩ = some (.int .i64 a1_10) := (blk_cell BK102.out 10).trans rfl; have hcz15_11 : w12.cell? ⟨gb102, 11, none⟩ = some (.slice A1_11 l1_11.length c1_11) := (blk_cell BK102.out 11).trans rfl; have hfz15_0 := blk_frozen BK102.out 0; have hfz15_1 := blk_frozen BK102.out 1; have hfz15_2 := blk_frozen BK102.out 2; have hfz15_3 := blk_frozen BK102.out 3; have hfz15_4 := blk_frozen BK102.out 4; have hfz15_5 := blk_frozen BK102.out 5; have hfz15_6 := blk_frozen BK102.out 6; have hfz15_7 := blk_frozen BK102.out 7; have hfz15_8 := blk_frozen BK102.out 8; have hfz15_9 := blk_frozen BK102.out 9; have hfz15_10 := blk_frozen BK102.out 10; have hfz15_11 := blk_frozen BK102.out 11))
  go_ret
  exact ⟨by first | rfl | (simp [errW_none, errW_some] <;> rfl) | (simp [*, errW_none, errW_some] <;> rfl), by repeat (first | (with_reducible first | exact HB.out | apply below_alloc | apply pw_below_drewN | apply below_drew1 | refine below_set ?_ GE101.out | refine below_set ?_ GE102.out) | exact HB.out)⟩

end Go.Proofs.YtlfeijjilndljaaDoor.All
end
section
namespace Go.Proofs.YtlfeijjilndljaaDoor.All
open Go.RowKit Go.Proofs.YtlfeijjilndljaaDoorW.PrintWords Go.Proofs.YtlfeijjilndljaaDoorW.PrintLast Go.Proofs.YtlfeijjilndljaaDoorW.PrintMore
open Go.Proofs.YtlfeijjilndljaaDoorW.Mine
attribute [local go_sem] gtr_string leq_string geq_string
attribute [local go_sem] max2_int min2_int max_two min_two max_three min_three max_four min_four   -- for this text's walks alone
set_option linter.unusedVariables false
set_option linter.unusedSimpArgs false

/-! ### tree_Check: function 36 -/
open Go.Proofs.YtlfeijjilndljaaDoorW.MapOwn
/-- is the path behind the last one no greater? -/
def tree_Check.two (k : Nat) (l : List S56) (x : S56) (n : Nat) : Option Bool := if 0 < n then (path_Compare.f k (rd_T56 l ((n - 1 : Nat) : Int)).f0 x.f0).bind fun c => some (decide (0 ≤ c)) else some false
/-- is what it is in no directory ahead of it? -/
def tree_Check.up (k : Nat) (l : List S56) (x : S56) (n : Nat) : Option Bool := (path_Up.f x.f0).bind fun up => if up.toList = ([] : List UInt8) then some false else (tree_Find.f k (l.take n) up).bind fun r => if r.2 = 0 then (if 0 ≤ r.1 ∧ r.1 < (l.length : Int) then some ((rd_T56 l r.1).f1 != 2) else none) else some true
def tree_Check.alike (y x : S56) : Option Bool := tree_alike.f (y).f0 (y).f1 (y).f2 (y).f3 (y).f4.f0 (y).f4.f1 (y).f4.f2 (y).f4.f3 (y).f4.f4 (y).f4.f5 (y).f4.f6 (y).f5 (x).f0 (x).f1 (x).f2 (x).f3 (x).f4.f0 (x).f4.f1 (x).f4.f2 (x).f4.f3 (x).f4.f4 (x).f4.f5 (x).f4.f6 (x).f5
def tree_Check.right (k : Nat) (x : S56) : Option Int := tree_Right.f k (x).f0 (x).f1 (x).f2 (x).f3 (x).f4.f0 (x).f4.f1 (x).f4.f2 (x).f4.f3 (x).f4.f4 (x).f4.f5 (x).f4.f6 (x).f5
/-- the files met so far, and this one -/
def tree_Check.same (m : List (Int × S56)) (x : S56) : Option (Int × List (Int × S56)) := if x.f2 = 0 then some (0, m) else if (Lit.int .i64 x.f2).wf = true then (match get m x.f2 with
 | some y => (tree_Check.alike y x).bind fun b => if b = true then some (0, m) else some (11, m)
 | none => some (0, (x.f2, x) :: m)) else none
def tree_Check.step (k : Nat) (l : List S56) (m : List (Int × S56)) (x : S56) (n : Nat) : Option (Int × List (Int × S56)) := (tree_Check.right k x).bind fun e => if e = 0 then ((tree_Check.two k l x n).bind fun t => if t = true then some (6, m) else (tree_Check.up k l x n).bind fun u => if u = true then some (10, m) else tree_Check.same m x) else some (e, m)
def tree_Check.l0 : Nat → List S56 → List (Int × S56) → Nat → Option Int
 | 0, _, _, _ => none
 | k + 1, l, m, n => if n < l.length then (tree_Check.step k l m (rd_T56 l (n : Int)) n).bind fun r => if r.1 = 0 then tree_Check.l0 k l r.2 (n + 1) else some r.1 else some 0
def tree_Check.f (k : Nat) (l0 : List S56) : Option Int := if 40 < l0.length then some 1 else tree_Check.l0 k l0 [] 0
theorem tree_Check.mono_two : ∀ l x n k, LeO (tree_Check.two k l x n) (tree_Check.two (k + 1) l x n) := by
 intro l x n k
 unfold tree_Check.two
 repeat' first
   | (with_reducible exact ih0 _ _ _ _)
   | (with_reducible exact LeO.refl _)
   | (with_reducible exact LeO.none _)
   | (with_reducible refine LeO.ite ?_ ?_)
   | (with_reducible refine LeO.bind ?_ (fun _ => ?_))
   | exact path_Compare.mono _ _ _
theorem tree_Check.mono_up : ∀ l x n k, LeO (tree_Check.up k l x n) (tree_Check.up (k + 1) l x n) := by
 intro l x n k
 unfold tree_Check.up
 repeat' first
   | (with_reducible exact ih0 _ _ _ _)
   | (with_reducible exact LeO.refl _)
   | (with_reducible exact LeO.none _)
   | (with_reducible refine LeO.ite ?_ ?_)
   | (with_reducible refine LeO.bind ?_ (fun _ => ?_))
   | exact tree_Find.mono _ _ _
theorem tree_Check.mono_step : ∀ l m x n k, LeO (tree_Check.step k l m x n) (tree_Check.step (k + 1) l m x n) := by
 intro l m x n k
 unfold tree_Check.step tree_Check.right
 repeat' first
   | (with_reducible exact ih0 _ _ _ _)
   | (with_reducible exact LeO.refl _)
   | (with_reducible exact LeO.none _)
   | (with_reducible refine LeO.ite ?_ ?_)
   | (with_reducible refine LeO.bind ?_ (fun _ => ?_))
   | exact tree_Check.mono_two _ _ _ _
   | exact tree_Check.mono_up _ _ _ _
   | exact tree_Right.mono _ _ _ _ _ _ _ _ _ _ _ _ _
theorem tree_Check.mono_l : ∀ k, (∀ y0 y1 y2, LeO (tree_Check.l0 k y0 y1 y2) (tree_Check.l0 (k + 1) y0 y1 y2))
 | 0 => fun _ _ _ r h => by simp [tree_Check.l0] at h
 | k + 1 => by
  have ih0 := tree_Check.mono_l k
  intro y0 y1 y2
  unfold tree_Check.l0
  repeat' first
   | (with_reducible exact ih0 _ _ _)
   | (with_reducible exact LeO.refl _)
   | (with_reducible exact LeO.none _)
   | (with_reducible refine LeO.ite ?_ ?_)
   | (with_reducible refine LeO.bind ?_ (fun _ => ?_))
   | exact tree_Check.mono_step _ _ _ _ _
theorem tree_Check.mono : ∀ a0 k, LeO (tree_Check.f k a0) (tree_Check.f (k + 1) a0) := by
 intro a0 k
 have ih0 := tree_Check.mono_l k
 unfold tree_Check.f
 repeat' first
   | (with_reducible exact ih0 _ _ _)
   | (with_reducible exact LeO.refl _)
   | (with_reducible exact LeO.none _)
   | (with_reducible refine LeO.ite ?_ ?_)
   | (with_reducible refine LeO.bind ?_ (fun _ => ?_))
theorem tree_Check.zeroE (w : World) : (zeroValue 56).run Tryd.prog w = .ok (.agg #[.string (⟨#[]⟩ : ByteArray), .int .i64 0, .int .i64 0, .string (⟨#[]⟩ : ByteArray), .int .i64 0, .int .i64 0, .int .i64 0, .string (⟨#[]⟩ : ByteArray), .string (⟨#[]⟩ : ByteArray), .int .i64 0, .int .i64 0, .slice none 0 0]) w := by kernel_rfl
/-- a node as the map keeps it -/
def tree_Check.Rep (w : World) (y : S56) (v : Value) : Prop := ∃ cs : Array Value, v = .agg cs ∧ k56.K w y cs.toList
/-- what the loop holds -/
def tree_Check.Inv (w W : World) (bm n : Nat) (m : List (Int × S56)) : Prop := MapAt (Lit.int .i64) Tryd.prog 3 (tree_Check.Rep w) W bm n m ∧ w.heap.size ≤ bm ∧ Below w.heap.size w W
theorem tree_Check.Inv.step {w W W' : World} {bm n : Nat} {m : List (Int × S56)} (h : tree_Check.Inv w W bm n m) (hb : Below W.heap.size W W') : tree_Check.Inv w W' bm n m := ⟨h.1.below hb, h.2.1, below_step h.2.2 hb⟩
theorem tree_Check.szN : (Tryd.prog.info? 56).map (·.size) = some 12 := by kernel_rfl
theorem tree_Check.elem {w : World} {A : Option Addr} {l : List S56} (h : Kd.C k56 w A l.length l) (n : Nat) (hn : n < l.length) : ∃ ad A11 c11, A = some ad ∧ (∀ j v, ([.string (rd_T56 l (n : Int)).f0, .int .i64 (rd_T56 l (n : Int)).f1, .int .i64 (rd_T56 l (n : Int)).f2, .string (rd_T56 l (n : Int)).f3, .int .i64 (rd_T56 l (n : Int)).f4.f0, .int .i64 (rd_T56 l (n : Int)).f4.f1, .int .i64 (rd_T56 l (n : Int)).f4.f2, .string (rd_T56 l (n : Int)).f4.f3, .string (rd_T56 l (n : Int)).f4.f4, .int .i64 (rd_T56 l (n : Int)).f4.f5, .int .i64 (rd_T56 l (n : Int)).f4.f6, .slice A11 (rd_T56 l (n : Int)).f5.length c11] : List Value)[j]? = some v → w.cell? ((ad.add (n * 12)).add j) = some v) ∧ (rd_T56 l (n : Int)).f5.length ≤ c11 ∧ (Kd.int .u8).C w A11 (rd_T56 l (n : Int)).f5.length (rd_T56 l (n : Int)).f5 := by
 obtain ⟨ad, c, e, _, hK, hc0⟩ := Kd.C_get h z56 (n : Int) (Int.natCast_nonneg _) (by omega)
 obtain ⟨A11, c11, rfl, l11, g11⟩ := k56_open hK
 refine ⟨ad, A11, c11, e, fun j v hv => ?_, l11, g11⟩
 have := hc0 j v hv
 rw [Int.toNat_natCast] at this
 rw [← this]
 congr 1
 show (ad.add (n * 12)).add j = ad.add (n * 12 + j)
 unfold Addr.add
 by_cases h1 : j = 0
 ·subst h1; simp
 ·by_cases h2 : n * 12 = 0
  ·simp [h1, h2]
  ·rw [if_neg h1, if_neg h2, if_neg (by omega)]; simp [Nat.add_assoc]
theorem tree_Check.Inv.drewN {w W : World} {bm n : Nat} {m : List (Int × S56)} (h : tree_Check.Inv w W bm n m) (q : Nat) : tree_Check.Inv w (W.drewN q) bm n m := h.step (pw_below_drewN (Below.refl _ _) q)
/-- the loop's own state and the node's own copy -/
def tree_Check.St (w W : World) (bm n : Nat) (m : List (Int × S56)) (gb : Nat) (cs : Array Value) : Prop := tree_Check.Inv w W bm n m ∧ w.heap.size ≤ gb ∧ gb ≠ bm ∧ W.heap[gb]? = some (.cells cs 56 (0, 0))
theorem tree_Check.St.step {w W W' : World} {bm n gb : Nat} {m : List (Int × S56)} {cs : Array Value} (h : tree_Check.St w W bm n m gb cs) (hb : Below W.heap.size W W') : tree_Check.St w W' bm n m gb cs := ⟨h.1.step hb, h.2.1, h.2.2.1, blk_below h.2.2.2 hb⟩
theorem tree_Check.St.drewN {w W : World} {bm n gb : Nat} {m : List (Int × S56)} {cs : Array Value} (h : tree_Check.St w W bm n m gb cs) (q : Nat) : tree_Check.St w (W.drewN q) bm n m gb cs := h.step (pw_below_drewN (Below.refl _ _) q)
theorem tree_Check.St.drew {w W : World} {bm n gb : Nat} {m : List (Int × S56)} {cs : Array Value} (h : tree_Check.St w W bm n m gb cs) : tree_Check.St w W.drew bm n m gb cs := h.step (below_drew1 (Below.refl _ _))
theorem tree_Check.Inv.box {w W W' : World} {bm n gb : Nat} {m : List (Int × S56)} {cs : Array Value} (h : tree_Check.Inv w W bm n m) (hg : gb = W.heap.size) (hk : W'.heap[gb]? = some (.cells cs 56 (0, 0))) (hb : Below W.heap.size W W') : tree_Check.St w W' bm n m gb cs := ⟨h.step hb, by rw [hg]; exact h.2.2.size, by have := h.1.lt; omega, hk⟩
theorem tree_Check.St.put {w W W' : World} {bm n gb : Nat} {m : List (Int × S56)} {cs cs' : Array Value} (h : tree_Check.St w W bm n m gb cs) (hk : W'.heap[gb]? = some (.cells cs' 56 (0, 0))) (hg : W.grownBy W' (some gb)) : tree_Check.St w W' bm n m gb cs' := ⟨⟨h.1.1.kept hg (fun e => h.2.2.1 (by injection e with e; exact e.symm)), h.1.2.1, below_grown h.1.2.2 hg h.2.1 (blk_lt h.2.2.2)⟩, h.2.1, h.2.2.1, hk⟩
theorem tree_Check.Inv.next {w W : World} {bm n : Nat} {m : List (Int × S56)} (h : tree_Check.Inv w W bm n m) : tree_Check.Inv w W bm (n + 1) m := ⟨h.1.mono (Nat.le_succ n), h.2⟩
theorem tree_Check.Inv.putM {w W W' : World} {bm n : Nat} {m m' : List (Int × S56)} (h : tree_Check.Inv w W bm n m) (hm : MapAt (Lit.int .i64) Tryd.prog 3 (tree_Check.Rep w) W' bm (n + 1) m') (hg : W.grownBy W' (some bm)) : tree_Check.Inv w W' bm (n + 1) m' := ⟨hm, h.2.1, below_grown h.2.2 hg h.2.1 h.1.lt⟩
theorem tree_Check.St.apart {w W : World} {bm n gb g2 : Nat} {m : List (Int × S56)} {cs : Array Value} (h : tree_Check.St w W bm n m gb cs) (hg : g2 = W.heap.size) : w.heap.size ≤ g2 ∧ gb ≠ g2 ∧ bm ≠ g2 := ⟨by rw [hg]; exact h.1.2.2.size, by have := blk_lt h.2.2.2; omega, by have := h.1.1.lt; omega⟩
theorem tree_Check.St.other {w W W' : World} {bm n gb g2 : Nat} {m : List (Int × S56)} {cs : Array Value} (h : tree_Check.St w W bm n m gb cs) (hg : W.grownBy W' (some g2)) (ha : w.heap.size ≤ g2 ∧ gb ≠ g2 ∧ bm ≠ g2) (hl : g2 < W.heap.size) : tree_Check.St w W' bm n m gb cs := ⟨⟨h.1.1.kept hg (fun e => ha.2.2 (by injection e)), h.1.2.1, below_grown h.1.2.2 hg ha.1 hl⟩, h.2.1, h.2.2.1, blk_grown h.2.2.2 hg (fun e => ha.2.1 (by injection e))⟩
set_option maxHeartbeats 8000000 in
set_option maxRecDepth 100000 in
theorem tree_Check.calls (k : Nat) (A0 : Option Addr) (c0 : Nat) (l0 : List (S56)) (r : Int) (w : World) (hr0 : Kd.C k56 w A0 l0.length l0) (hc0 : l0.length ≤ c0) (h : tree_Check.f k l0 = some r) :
  Calls Tryd.prog 36 #[.slice A0 l0.length c0] w fun e w' => e = .returned (.int .i64 r) ∧ Below w.heap.size w w' := by
 have hu56 := Tryd.underlying56
 have HR0 := Aside0.mk hr0
 have HC0 := Aside0.mk hc0
 clear hr0 hc0
 by_cases c1 : 40 < l0.length
 ·have H : (if 40 < l0.length then some 1 else tree_Check.l0 k l0 [] 0) = some r := h
  rw [if_pos c1] at H
  obtain rfl := Option.some.inj H
  clear h H
  have c1b : decide ((40 : Int) < (l0.length : Int)) = true := decide_eq_true (by omega)
  clear c1
  go_enter Tryd.func36, Tryd.ntmps36
  go_wp2
  go_ret
  exact ⟨rfl, by first | exact Below.refl _ _ | exact below_drew1 (Below.refl _ _)⟩
 ·have H : (if 40 < l0.length then some 1 else tree_Check.l0 k l0 [] 0) = some r := h
  rw [if_neg c1] at H
  have H' := Aside0.mk H
  have HN := Aside0.mk (Nat.not_lt.1 c1)
  have c1b : decide ((40 : Int) < (l0.length : Int)) = false := decide_eq_false (by omega)
  clear h H c1
  have hmm := @run_makeMap Tryd.prog
  go_enter Tryd.func36, Tryd.ntmps36
  go_wp2
  go_loopg [18] k (fun kq v18 wx => ∃ (n : Nat) (m : List (Int × S56)), v18 = .int .i64 (n : Int) ∧ Aside0 (n ≤ l0.length) ∧ Aside0 (tree_Check.l0 kq l0 m n = some r) ∧ Aside0 (kq ≤ k) ∧ Aside0 (tree_Check.Inv w wx w.heap.size n m))
  case atStart => exact ⟨0, [], rfl, ⟨Nat.zero_le _⟩, H', ⟨Nat.le_refl _⟩, ⟨⟨MapAt.made _ _ _ _ _, Nat.le_refl _, below_alloc (Below.refl _ _) _⟩⟩⟩
  case round =>
   clear H'
   obtain ⟨n, m, rfl, HN1, HA, HK1, HI⟩ := hrel
   cases gk with
   | zero => exact absurd HA.out (by simp [tree_Check.l0])
   | succ k1 =>
    have H := HA.out
    clear HA
    simp only [tree_Check.l0] at H
    by_cases c3 : n < l0.length
    ·rw [if_pos c3] at H
     have c3b : decide ((n : Int) < (l0.length : Int)) = true := decide_eq_true (by omega)
     replace H := Option.bind_eq_some_iff.mp H
     obtain ⟨⟨e0, m1⟩, AS, H⟩ := H
     obtain ⟨ad, A11, c11, e, hx, hl11, hi11⟩ := tree_Check.elem HR0.out n c3
     cases e
     have HXC := Aside0.mk hx
     clear hx
     have p3 : ((n : Int) < (l0.length : Int)) = True := eq_true (by omega)
     have p4 : (0 ≤ (n : Int)) = True := eq_true (by omega)
     have HX := Aside0.mk hi11
     have HL := Aside0.mk hl11
     have HLT := Aside0.mk c3
     clear hi11 hl11 c3
     generalize hx : rd_T56 l0 (n : Int) = x at *
     clear hx
     obtain ⟨e1, AR, AS⟩ := Option.bind_eq_some_iff.mp (show ((tree_Check.right k1 x).bind fun e => if e = 0 then ((tree_Check.two k1 l0 x n).bind fun t => if t = true then some (6, m) else (tree_Check.up k1 l0 x n).bind fun u => if u = true then some (10, m) else tree_Check.same m x) else some (e, m)) = some (e0, m1) from AS)
     have HAR := Aside0.mk (show tree_Right.f k1 (x).f0 (x).f1 (x).f2 (x).f3 (x).f4.f0 (x).f4.f1 (x).f4.f2 (x).f4.f3 (x).f4.f4 (x).f4.f5 (x).f4.f6 (x).f5 = some e1 from AR)
     clear AR
     by_cases c6 : e1 = 0
     ·rw [if_pos c6] at AS
      obtain ⟨t, AT, AS⟩ := Option.bind_eq_some_iff.mp AS
      have HAT := Aside0.mk AT
      have HQ := Aside0.mk AS
      have HH := Aside0.mk H
      have c6a : (e1 == 0) = true := beq_iff_eq.mpr c6
      have c6b : (e1 != 0) = false := bne_eq_false_iff_eq.mpr c6
      clear AS H AT c6
      go_upto_region 10 with (first | ((with_reducible refine gate_dst (N := 22) rfl ?_); refine load_event (ad := ad.add (n * 12)) rfl rfl hu56 rfl rfl (cs := [.string (x).f0, .int .i64 (x).f1, .int .i64 (x).f2, .string (x).f3, .int .i64 (x).f4.f0, .int .i64 (x).f4.f1, .int .i64 (x).f4.f2, .string (x).f4.f3, .string (x).f4.f4, .int .i64 (x).f4.f5, .int .i64 (x).f4.f6, .slice A11 (x).f5.length c11]) tree_Check.szN (fun j v hv => (HI.out.2.2.cell (World.block_lt_of_cell? w _ (HXC.out j v hv))).trans (HXC.out j v hv)) ?_) | ((with_reducible refine gate_dst (N := 5) rfl ?_); refine box_event ?hg (N := 5) ?hd (cs := #[.string (⟨#[]⟩ : ByteArray), .int .i64 0, .int .i64 0, .string (⟨#[]⟩ : ByteArray), .int .i64 0, .int .i64 0, .int .i64 0, .string (⟨#[]⟩ : ByteArray), .string (⟨#[]⟩ : ByteArray), .int .i64 0, .int .i64 0, .slice none 0 0]) (t := 56) ?hr ?_; (case hd => rfl); (case hg => rfl); (case hr => first | (go_simp; done) | (go_simp; rfl)); intro gb hg w2 hbox hb2; have HS := Aside0.mk (HI.out.box hg hbox hb2); clear hg hbox hb2 HI) | ((with_reducible refine gate_store (t := 56) (p := 5) rfl ?_); refine put_event rfl rfl rfl rfl rfl HS.out.2.2.2 (tree_Check.szN) rfl rfl ?_; intro w3 hk3 hg3; have HS3 := Aside0.mk (HS.out.put hk3 hg3); clear HS hk3 hg3; have HS := HS3; clear HS3) | ((with_reducible refine gate_dst (N := 23) rfl ?_); refine load_event rfl rfl hu56 rfl rfl (cs := [.string (x).f0, .int .i64 (x).f1, .int .i64 (x).f2, .string (x).f3, .int .i64 (x).f4.f0, .int .i64 (x).f4.f1, .int .i64 (x).f4.f2, .string (x).f4.f3, .string (x).f4.f4, .int .i64 (x).f4.f5, .int .i64 (x).f4.f6, .slice A11 (x).f5.length c11]) tree_Check.szN (cells_of_blk HS.out.2.2.2) ?_) | (go_at_call 72; refine (tree_Right.calls k1 (x).f0 (x).f1 (x).f2 (x).f3 (x).f4.f0 (x).f4.f1 (x).f4.f2 (x).f4.f3 (x).f4.f4 (x).f4.f5 (x).f4.f6 A11 c11 (x).f5 e1 _ (Kd.C_below HX.out HS.out.1.2.2) HL.out HAR.out).mono ?_; rintro e w3 ⟨rfl, hb3⟩; have HS3 := Aside0.mk (HS.out.step hb3); clear HS hb3; have HS := HS3; clear HS3))
      (try simp only [Act.put, List.setIfInBounds_toArray, List.set_cons_zero, List.set_cons_succ])
      go_cut [41] (fun v41 wc => v41 = .bool t ∧ Aside0 (tree_Check.St w wc w.heap.size n m gb #[.string (x).f0, .int .i64 (x).f1, .int .i64 (x).f2, .string (x).f3, .int .i64 (x).f4.f0, .int .i64 (x).f4.f1, .int .i64 (x).f4.f2, .string (x).f4.f3, .string (x).f4.f4, .int .i64 (x).f4.f5, .int .i64 (x).f4.f6, .slice A11 (x).f5.length c11]))
      case first =>
       by_cases c7 : 0 < n
       ·have AT := HAT.out
        clear HAT
        unfold tree_Check.two at AT
        rw [if_pos c7] at AT
        obtain ⟨c, AC, AT⟩ := Option.bind_eq_some_iff.mp AT
        obtain rfl := Option.some.inj AT
        have HAC := Aside0.mk AC
        clear AC AT
        obtain ⟨ad', A11', c11', e', hx', _, _⟩ := tree_Check.elem HR0.out (n - 1) (by have := HN1.out; omega)
        cases e'
        have h0 : w.cell? (ad.add ((n - 1) * 12)) = some (.string (rd_T56 l0 ((n - 1 : Nat) : Int)).f0) := hx' 0 _ rfl
        have HP := Aside0.mk ((HS.out.1.2.2.cell (World.block_lt_of_cell? w _ h0)).trans h0)
        have HPL := Aside0.mk (Nat.lt_of_lt_of_le (World.block_lt_of_cell? w _ h0) HS.out.1.2.2.size)
        clear hx' h0
        have hw : IntKind.i64.wrap ((n : Int) - 1) = ((n - 1 : Nat) : Int) := by have := HN.out; have := HN1.out; rw [IntWalk.i64_in _ (by omega)]; omega
        have hp : w.heap.size ≤ gb := HS.out.2.1
        have hn' : ((n - 1 : Nat) : Int) < (l0.length : Int) := by have := HN1.out; omega
        have hc0 := HP.out
        have hc1 := blk_cell HS.out.2.2.2 0
        have hg0 : decide ((0 : Int) < (n : Int)) = true := decide_eq_true (by omega)
        have hg1 : (0 < n) = True := eq_true c7
        go_region_held3 (fun w' => w'.cell? (ad.add ((n - 1) * 12)) = some (.string (rd_T56 l0 ((n - 1 : Nat) : Int)).f0) ∧ w'.cell? ⟨gb, 0, none⟩ = some (.string x.f0)) (first | go_keep | (go_split_ands; exact ⟨(hb3.cell (World.block_lt_of_cell? _ _ (by assumption))).trans (by assumption), (hb3.cell (World.block_lt_of_cell? _ _ (by assumption))).trans (by assumption)⟩)) ((go_at_call 57; refine (path_Compare.calls k1 _ _ c _ HAC.out).mono ?_; rintro e w3 ⟨rfl, hb3⟩))
        go_wp2
        go_meet
        case rel => exact ⟨rfl, ⟨by first | exact HS.out.step hb3 | exact (HS.out.drewN _).step hb3 | exact HS.out.drew.step hb3⟩⟩
       ·have AT := HAT.out
        clear HAT
        unfold tree_Check.two at AT
        rw [if_neg c7] at AT
        obtain rfl := Option.some.inj AT
        clear AT
        have hg0 : decide ((0 : Int) < (n : Int)) = false := decide_eq_false (by omega)
        have hg1 : (0 < n) = False := eq_false c7
        go_quiet (fail)
        go_wp2
        go_meet
        case rel => exact ⟨rfl, ⟨by first | exact HS.out | exact HS.out.drewN _ | exact HS.out.drew⟩⟩
      case rest =>
       obtain ⟨rfl, HS⟩ := hcut
       cases t with
       | true =>
        have AS := HQ.out
        have H := HH.out
        rw [if_pos rfl] at AS
        simp only [Option.some.injEq, Prod.mk.injEq] at AS
        obtain ⟨rfl, rfl⟩ := AS
        rw [if_neg (by decide)] at H
        obtain rfl := Option.some.inj H
        clear HQ HH H HAT
        go_wp2
        go_ret
        exact ⟨rfl, HS.out.1.2.2⟩
       | false =>
        have AS := HQ.out
        rw [if_neg (by decide)] at AS
        obtain ⟨u, AU, AS⟩ := Option.bind_eq_some_iff.mp AS
        have HQ2 := Aside0.mk AS
        obtain ⟨up, AP, AU⟩ := Option.bind_eq_some_iff.mp (show ((path_Up.f x.f0).bind fun up => if up.toList = ([] : List UInt8) then some false else (tree_Find.f k1 (l0.take n) up).bind fun r => if r.2 = 0 then (if 0 ≤ r.1 ∧ r.1 < (l0.length : Int) then some ((rd_T56 l0 r.1).f1 != 2) else none) else some true) = some u from AU)
        have HAP := Aside0.mk AP
        have HAU := Aside0.mk AU
        clear AS AU AP HQ HAT
        have hc0 := blk_cell HS.out.2.2.2 0
        go_upto_if 46 with (go_at_call 69; refine (path_Up.calls x.f0 up _ HAP.out).mono ?_; rintro e w4 ⟨rfl, nd, rfl⟩)
        (try simp only [Act.put, List.setIfInBounds_toArray, List.set_cons_zero, List.set_cons_succ])
        have HS2 := Aside0.mk (HS.out.drewN nd)
        clear HS hc0
        have HS := HS2
        clear HS2
        go_cut [] (fun wc => Aside0 (u = false) ∧ Aside0 (tree_Check.St w wc w.heap.size n m gb #[.string (x).f0, .int .i64 (x).f1, .int .i64 (x).f2, .string (x).f3, .int .i64 (x).f4.f0, .int .i64 (x).f4.f1, .int .i64 (x).f4.f2, .string (x).f4.f3, .string (x).f4.f4, .int .i64 (x).f4.f5, .int .i64 (x).f4.f6, .slice A11 (x).f5.length c11]))
        case first =>
         have AU := HAU.out
         by_cases c8 : up.toList = ([] : List UInt8)
         ·rw [if_pos c8] at AU
          have HU := Aside0.mk (Option.some.inj AU).symm
          have c8a : up.toList.isEmpty = true := by rw [c8]; rfl
          clear AU c8
          rw [c8a]
          go_wp2
          go_meet
          case rel => exact ⟨HU, ⟨by first | exact HS.out | exact HS.out.drewN _ | exact HS.out.drew⟩⟩
         ·rw [if_neg c8] at AU
          obtain ⟨⟨j1, j2⟩, AF, AU⟩ := Option.bind_eq_some_iff.mp AU
          have c8a : up.toList.isEmpty = false := by cases h : up.toList with | nil => exact absurd h c8 | cons a b => rfl
          have HF : Aside0 (∀ W, Below w.heap.size w W → Calls Tryd.prog 37 #[.slice (some ad) n c0, .string up] W fun e w' => e = .returned (.tuple #[.int .i64 j1, .int .i64 j2]) ∧ Below W.heap.size W w') := ⟨fun W hb => by
           have hlen : (l0.take n).length = n := by have := HN1.out; simp; omega
           have := tree_Find.calls k1 (some ad) c0 (l0.take n) up j1 j2 W (Kd.C_below (Kd.C_take HR0.out HN1.out) hb) (by have := HC0.out; have := HN1.out; omega) AF
           rw [hlen] at this
           exact this⟩
          have hnc : (n : Int) ≤ (c0 : Int) := by have := HC0.out; have := HN1.out; omega
          have hnc' : n ≤ c0 := by omega
          clear c8 AF
          rw [c8a]
          by_cases c9 : j2 = 0
          ·rw [if_pos c9] at AU
           by_cases c10 : 0 ≤ j1 ∧ j1 < (l0.length : Int)
           ·rw [if_pos c10] at AU
            obtain rfl := Option.some.inj AU
            clear AU
            have c9a : (j2 == 0) = true := beq_iff_eq.mpr c9
            have c9b : (j2 != 0) = false := bne_eq_false_iff_eq.mpr c9
            clear c9
            obtain ⟨ad', A11', c11', e', hq0, hq1, hq2, hq3, hq4, hq5, hq6, hq7, hq8, hq9, hq10, hq11, _, _⟩ := at_T56 HR0.out j1 c10.1 c10.2
            cases e'
            have HQ1 := Aside0.mk hq1
            have HQL := Aside0.mk (World.block_lt_of_cell? w _ hq1)
            clear hq0 hq1 hq2 hq3 hq4 hq5 hq6 hq7 hq8 hq9 hq10 hq11
            have c10a := eq_true c10.1
            have c10b := eq_true c10.2
            by_cases c11 : (rd_T56 l0 j1).f1 = 2
            ·have c11a : ((rd_T56 l0 j1).f1 != 2) = false := bne_eq_false_iff_eq.mpr c11
             have c11b : ((rd_T56 l0 j1).f1 == 2) = true := beq_iff_eq.mpr c11
             have HU := Aside0.mk c11a
             clear c11
             go_wp2_with (go_at_call 37; refine (HF.out _ HS.out.1.2.2).mono ?_; rintro e w5 ⟨rfl, hb5⟩; have HS5 := Aside0.mk (HS.out.step hb5); clear HS hb5; have HS := HS5; clear HS5; have hq1 : _ = _ := (HS.out.1.2.2.cell HQL.out).trans HQ1.out)
             go_meet
             case rel => exact ⟨HU, ⟨by first | exact HS.out | exact HS.out.drewN _ | exact HS.out.drew⟩⟩
            ·have c11a : ((rd_T56 l0 j1).f1 != 2) = true := bne_iff_ne.mpr c11
             have c11b : ((rd_T56 l0 j1).f1 == 2) = false := beq_eq_false_iff_ne.mpr c11
             have AS := HQ2.out
             rw [c11a, if_pos rfl] at AS
             simp only [Option.some.injEq, Prod.mk.injEq] at AS
             obtain ⟨rfl, rfl⟩ := AS
             have H := HH.out
             rw [if_neg (by decide)] at H
             obtain rfl := Option.some.inj H
             clear c11 H HH HQ2
             go_wp2_with (go_at_call 37; refine (HF.out _ HS.out.1.2.2).mono ?_; rintro e w5 ⟨rfl, hb5⟩; have HS5 := Aside0.mk (HS.out.step hb5); clear HS hb5; have HS := HS5; clear HS5; have hq1 : _ = _ := (HS.out.1.2.2.cell HQL.out).trans HQ1.out)
             go_ret
             exact ⟨rfl, HS.out.1.2.2⟩
           ·rw [if_neg c10] at AU
            cases AU
          ·rw [if_neg c9] at AU
           obtain rfl := Option.some.inj AU
           have c9a : (j2 == 0) = false := beq_eq_false_iff_ne.mpr c9
           have c9b : (j2 != 0) = true := bne_iff_ne.mpr c9
           have AS := HQ2.out
           rw [if_pos rfl] at AS
           simp only [Option.some.injEq, Prod.mk.injEq] at AS
           obtain ⟨rfl, rfl⟩ := AS
           have H := HH.out
           rw [if_neg (by decide)] at H
           obtain rfl := Option.some.inj H
           clear c9 H HH HQ2
           go_wp2_with (go_at_call 37; refine (HF.out _ HS.out.1.2.2).mono ?_; rintro e w5 ⟨rfl, hb5⟩; have HS5 := Aside0.mk (HS.out.step hb5); clear HS hb5; have HS := HS5; clear HS5)
           go_ret
           exact ⟨rfl, HS.out.1.2.2⟩
        case rest =>
         obtain ⟨HU, HS⟩ := hcut
         obtain rfl := HU.out
         have AS := HQ2.out
         rw [if_neg (by decide)] at AS
         clear HQ2 HAU HU
         have H := HH.out
         clear HH
         have hc2 := blk_cell HS.out.2.2.2 2
         by_cases c12 : x.f2 = 0
         ·simp only [tree_Check.same, if_pos c12, Option.some.injEq, Prod.mk.injEq] at AS
          obtain ⟨rfl, rfl⟩ := AS
          rw [if_pos rfl] at H
          have H' := Aside0.mk H
          have c12b : (x.f2 == 0) = true := beq_iff_eq.mpr c12
          have h40 : (n : Int) < 40 := by have := HLT.out; have := HN.out; omega
          clear H c12
          go_wp2
          go_roundg k1
          case measure => have := HK1.out; omega
          case rel => exact ⟨n + 1, m, by go_num, ⟨HLT.out⟩, H', ⟨by have := HK1.out; omega⟩, ⟨(by first | exact HS.out.1.next | exact HS.out.drew.1.next)⟩⟩
         ·by_cases c13 : (Lit.int .i64 x.f2).wf = true
          ·simp only [tree_Check.same, if_neg c12, if_pos c13] at AS
           have c12b : (x.f2 == 0) = false := beq_eq_false_iff_ne.mpr c12
           have HWF := Aside0.mk c13
           clear c12 c13
           cases hget : get m x.f2 with
           | none =>
            rw [hget] at AS
            simp only [Option.some.injEq, Prod.mk.injEq] at AS
            obtain ⟨rfl, rfl⟩ := AS
            rw [if_pos rfl] at H
            have H' := Aside0.mk H
            have HGET := Aside0.mk hget
            have h40 : (n : Int) < 40 := by have := HLT.out; have := HN.out; omega
            clear H hget
            go_wp2_with (first | (at_lookup; refine wp_look_ok_miss _ rfl _ _ 88 rfl 56 (Maps.int_keyed Tryd.underlying3) Tryd.underlying88 (tree_Check.zeroE _) w.heap.size n rfl HS.out.1.1 _ rfl (Maps.keyOf_int_mk Tryd.underlying3 HWF.out) HGET.out ?_) | ((with_reducible refine gate_dst (N := 10) rfl ?_); refine box_event ?hg (N := 10) ?hd (cs := #[.string (⟨#[]⟩ : ByteArray), .int .i64 0, .int .i64 0, .string (⟨#[]⟩ : ByteArray), .int .i64 0, .int .i64 0, .int .i64 0, .string (⟨#[]⟩ : ByteArray), .string (⟨#[]⟩ : ByteArray), .int .i64 0, .int .i64 0, .slice none 0 0]) (t := 56) ?hr ?_; (case hd => rfl); (case hg => rfl); (case hr => first | (go_simp; done) | (go_simp; rfl)); intro gb2 hg w2 hbox hb2; have HG2 := Aside0.mk (HS.out.apart hg); have HS2 := Aside0.mk (HS.out.step hb2); have HK2 := Aside0.mk hbox; clear hg hbox hb2 HS; have HS := HS2; clear HS2) | ((with_reducible refine gate_store (t := 56) (p := 10) rfl ?_); refine put_event rfl rfl rfl rfl rfl HK2.out (tree_Check.szN) rfl rfl ?_; intro w3 hk3 hg3; have HS3 := Aside0.mk (HS.out.other hg3 HG2.out (blk_lt HK2.out)); clear HS HK2; have HK2 := Aside0.mk hk3; have HS := HS3; have hc2 := blk_cell HS.out.2.2.2 2; clear HS3 hk3 hg3) | ((with_reducible refine gate_dst (N := 87) rfl ?_); refine load_event rfl rfl hu56 rfl rfl (cs := [.string (x).f0, .int .i64 (x).f1, .int .i64 (x).f2, .string (x).f3, .int .i64 (x).f4.f0, .int .i64 (x).f4.f1, .int .i64 (x).f4.f2, .string (x).f4.f3, .string (x).f4.f4, .int .i64 (x).f4.f5, .int .i64 (x).f4.f6, .slice A11 (x).f5.length c11]) tree_Check.szN (cells_of_blk HS.out.2.2.2) ?_) | (at_mapUpdate; refine wp_put _ (fun a b h => by injection h) rfl _ _ _ 88 rfl 56 (Maps.int_keyed Tryd.underlying3) Tryd.underlying88 w.heap.size n rfl HS.out.1.1 (by have := HN.out; have := HN1.out; unfold maxLen; omega) _ _ rfl rfl (Maps.keyOf_int_mk Tryd.underlying3 HWF.out) (y := x) ⟨_, rfl, k56_mk w x HL.out HX.out⟩ ?_; intro w4 hm4 hg4; have HI4 := Aside0.mk (HS.out.1.putM hm4 hg4); clear hm4 hg4))
            go_roundg k1
            case measure => have := HK1.out; omega
            case rel => exact ⟨n + 1, _, by go_num, ⟨HLT.out⟩, H', ⟨by have := HK1.out; omega⟩, HI4⟩
           | some y =>
            rw [hget] at AS
            obtain ⟨b, AA, AS⟩ := Option.bind_eq_some_iff.mp AS
            have HAA := Aside0.mk (show tree_alike.f (y).f0 (y).f1 (y).f2 (y).f3 (y).f4.f0 (y).f4.f1 (y).f4.f2 (y).f4.f3 (y).f4.f4 (y).f4.f5 (y).f4.f6 (y).f5 (x).f0 (x).f1 (x).f2 (x).f3 (x).f4.f0 (x).f4.f1 (x).f4.f2 (x).f4.f3 (x).f4.f4 (x).f4.f5 (x).f4.f6 (x).f5 = some b from AA)
            have HGET := Aside0.mk hget
            clear AA hget
            cases b with
            | true =>
             rw [if_pos rfl] at AS
             simp only [Option.some.injEq, Prod.mk.injEq] at AS
             obtain ⟨rfl, rfl⟩ := AS
             rw [if_pos rfl] at H
             have H' := Aside0.mk H
             have h40 : (n : Int) < 40 := by have := HLT.out; have := HN.out; omega
             clear H
             go_wp2_with (first | (at_lookup; refine wp_look_ok_hit _ rfl _ _ 88 rfl 56 (Maps.int_keyed Tryd.underlying3) Tryd.underlying88 (tree_Check.zeroE _) w.heap.size n rfl HS.out.1.1 _ rfl (Maps.keyOf_int_mk Tryd.underlying3 HWF.out) HGET.out ?_; rintro v ⟨cs, rfl, hKy⟩; obtain ⟨A11y, c11y, hcs, l11y, g11y⟩ := k56_open hKy; obtain rfl : cs = #[.string (y).f0, .int .i64 (y).f1, .int .i64 (y).f2, .string (y).f3, .int .i64 (y).f4.f0, .int .i64 (y).f4.f1, .int .i64 (y).f4.f2, .string (y).f4.f3, .string (y).f4.f4, .int .i64 (y).f4.f5, .int .i64 (y).f4.f6, .slice A11y (y).f5.length c11y] := Array.toList_inj.mp hcs; have HYL := Aside0.mk l11y; have HYG := Aside0.mk g11y; clear hKy hcs l11y g11y) | ((with_reducible refine gate_dst (N := 10) rfl ?_); refine box_event ?hg (N := 10) ?hd (cs := #[.string (⟨#[]⟩ : ByteArray), .int .i64 0, .int .i64 0, .string (⟨#[]⟩ : ByteArray), .int .i64 0, .int .i64 0, .int .i64 0, .string (⟨#[]⟩ : ByteArray), .string (⟨#[]⟩ : ByteArray), .int .i64 0, .int .i64 0, .slice none 0 0]) (t := 56) ?hr ?_; (case hd => rfl); (case hg => rfl); (case hr => first | (go_simp; done) | (go_simp; rfl)); intro gb2 hg w2 hbox hb2; have HG2 := Aside0.mk (HS.out.apart hg); have HS2 := Aside0.mk (HS.out.step hb2); have HK2 := Aside0.mk hbox; clear hg hbox hb2 HS; have HS := HS2; clear HS2) | ((with_reducible refine gate_store (t := 56) (p := 10) rfl ?_); refine put_event rfl rfl rfl rfl rfl HK2.out (tree_Check.szN) rfl rfl ?_; intro w3 hk3 hg3; have HS3 := Aside0.mk (HS.out.other hg3 HG2.out (blk_lt HK2.out)); clear HS HK2; have HK2 := Aside0.mk hk3; have HS := HS3; have hc2 := blk_cell HS.out.2.2.2 2; clear HS3 hk3 hg3) | ((with_reducible refine gate_dst (N := 77) rfl ?_); refine load_event rfl rfl hu56 rfl rfl (cs := [.string (y).f0, .int .i64 (y).f1, .int .i64 (y).f2, .string (y).f3, .int .i64 (y).f4.f0, .int .i64 (y).f4.f1, .int .i64 (y).f4.f2, .string (y).f4.f3, .string (y).f4.f4, .int .i64 (y).f4.f5, .int .i64 (y).f4.f6, .slice A11y (y).f5.length c11y]) tree_Check.szN (cells_of_blk HK2.out) ?_) | ((with_reducible refine gate_dst (N := 78) rfl ?_); refine load_event rfl rfl hu56 rfl rfl (cs := [.string (x).f0, .int .i64 (x).f1, .int .i64 (x).f2, .string (x).f3, .int .i64 (x).f4.f0, .int .i64 (x).f4.f1, .int .i64 (x).f4.f2, .string (x).f4.f3, .string (x).f4.f4, .int .i64 (x).f4.f5, .int .i64 (x).f4.f6, .slice A11 (x).f5.length c11]) tree_Check.szN (cells_of_blk HS.out.2.2.2) ?_) | (go_at_call 73; refine (tree_alike.calls (y).f0 (y).f1 (y).f2 (y).f3 (y).f4.f0 (y).f4.f1 (y).f4.f2 (y).f4.f3 (y).f4.f4 (y).f4.f5 (y).f4.f6 A11y c11y (y).f5 (x).f0 (x).f1 (x).f2 (x).f3 (x).f4.f0 (x).f4.f1 (x).f4.f2 (x).f4.f3 (x).f4.f4 (x).f4.f5 (x).f4.f6 A11 c11 (x).f5 _ _ (Kd.C_below HYG.out HS.out.1.2.2) HYL.out (Kd.C_below HX.out HS.out.1.2.2) HL.out HAA.out).mono ?_; rintro e w5 ⟨rfl, hb5⟩; have HS5 := Aside0.mk (HS.out.step hb5); clear HS hb5; have HS := HS5; clear HS5))
             go_roundg k1
             case measure => have := HK1.out; omega
             case rel => exact ⟨n + 1, m, by go_num, ⟨HLT.out⟩, H', ⟨by have := HK1.out; omega⟩, ⟨HS.out.1.next⟩⟩
            | false =>
             rw [if_neg (by decide)] at AS
             simp only [Option.some.injEq, Prod.mk.injEq] at AS
             obtain ⟨rfl, rfl⟩ := AS
             rw [if_neg (by decide)] at H
             obtain rfl := Option.some.inj H
             clear H
             go_wp2_with (first | (at_lookup; refine wp_look_ok_hit _ rfl _ _ 88 rfl 56 (Maps.int_keyed Tryd.underlying3) Tryd.underlying88 (tree_Check.zeroE _) w.heap.size n rfl HS.out.1.1 _ rfl (Maps.keyOf_int_mk Tryd.underlying3 HWF.out) HGET.out ?_; rintro v ⟨cs, rfl, hKy⟩; obtain ⟨A11y, c11y, hcs, l11y, g11y⟩ := k56_open hKy; obtain rfl : cs = #[.string (y).f0, .int .i64 (y).f1, .int .i64 (y).f2, .string (y).f3, .int .i64 (y).f4.f0, .int .i64 (y).f4.f1, .int .i64 (y).f4.f2, .string (y).f4.f3, .string (y).f4.f4, .int .i64 (y).f4.f5, .int .i64 (y).f4.f6, .slice A11y (y).f5.length c11y] := Array.toList_inj.mp hcs; have HYL := Aside0.mk l11y; have HYG := Aside0.mk g11y; clear hKy hcs l11y g11y) | ((with_reducible refine gate_dst (N := 10) rfl ?_); refine box_event ?hg (N := 10) ?hd (cs := #[.string (⟨#[]⟩ : ByteArray), .int .i64 0, .int .i64 0, .string (⟨#[]⟩ : ByteArray), .int .i64 0, .int .i64 0, .int .i64 0, .string (⟨#[]⟩ : ByteArray), .string (⟨#[]⟩ : ByteArray), .int .i64 0, .int .i64 0, .slice none 0 0]) (t := 56) ?hr ?_; (case hd => rfl); (case hg => rfl); (case hr => first | (go_simp; done) | (go_simp; rfl)); intro gb2 hg w2 hbox hb2; have HG2 := Aside0.mk (HS.out.apart hg); have HS2 := Aside0.mk (HS.out.step hb2); have HK2 := Aside0.mk hbox; clear hg hbox hb2 HS; have HS := HS2; clear HS2) | ((with_reducible refine gate_store (t := 56) (p := 10) rfl ?_); refine put_event rfl rfl rfl rfl rfl HK2.out (tree_Check.szN) rfl rfl ?_; intro w3 hk3 hg3; have HS3 := Aside0.mk (HS.out.other hg3 HG2.out (blk_lt HK2.out)); clear HS HK2; have HK2 := Aside0.mk hk3; have HS := HS3; have hc2 := blk_cell HS.out.2.2.2 2; clear HS3 hk3 hg3) | ((with_reducible refine gate_dst (N := 77) rfl ?_); refine load_event rfl rfl hu56 rfl rfl (cs := [.string (y).f0, .int .i64 (y).f1, .int .i64 (y).f2, .string (y).f3, .int .i64 (y).f4.f0, .int .i64 (y).f4.f1, .int .i64 (y).f4.f2, .string (y).f4.f3, .string (y).f4.f4, .int .i64 (y).f4.f5, .int .i64 (y).f4.f6, .slice A11y (y).f5.length c11y]) tree_Check.szN (cells_of_blk HK2.out) ?_) | ((with_reducible refine gate_dst (N := 78) rfl ?_); refine load_event rfl rfl hu56 rfl rfl (cs := [.string (x).f0, .int .i64 (x).f1, .int .i64 (x).f2, .string (x).f3, .int .i64 (x).f4.f0, .int .i64 (x).f4.f1, .int .i64 (x).f4.f2, .string (x).f4.f3, .string (x).f4.f4, .int .i64 (x).f4.f5, .int .i64 (x).f4.f6, .slice A11 (x).f5.length c11]) tree_Check.szN (cells_of_blk HS.out.2.2.2) ?_) | (go_at_call 73; refine (tree_alike.calls (y).f0 (y).f1 (y).f2 (y).f3 (y).f4.f0 (y).f4.f1 (y).f4.f2 (y).f4.f3 (y).f4.f4 (y).f4.f5 (y).f4.f6 A11y c11y (y).f5 (x).f0 (x).f1 (x).f2 (x).f3 (x).f4.f0 (x).f4.f1 (x).f4.f2 (x).f4.f3 (x).f4.f4 (x).f4.f5 (x).f4.f6 A11 c11 (x).f5 _ _ (Kd.C_below HYG.out HS.out.1.2.2) HYL.out (Kd.C_below HX.out HS.out.1.2.2) HL.out HAA.out).mono ?_; rintro e w5 ⟨rfl, hb5⟩; have HS5 := Aside0.mk (HS.out.step hb5); clear HS hb5; have HS := HS5; clear HS5))
             go_ret
             exact ⟨rfl, HS.out.1.2.2⟩
          ·simp only [tree_Check.same, if_neg c12, if_neg c13] at AS
           cases AS
     ·rw [if_neg c6] at AS
      simp only [Option.some.injEq, Prod.mk.injEq] at AS
      obtain ⟨rfl, rfl⟩ := AS
      rw [if_neg c6] at H
      obtain rfl := Option.some.inj H
      have c6a : (e1 == 0) = false := beq_eq_false_iff_ne.mpr c6
      have c6b : (e1 != 0) = true := bne_iff_ne.mpr c6
      clear c6 H
      go_wp2_with (first | ((with_reducible refine gate_dst (N := 22) rfl ?_); refine load_event (ad := ad.add (n * 12)) rfl rfl hu56 rfl rfl (cs := [.string (x).f0, .int .i64 (x).f1, .int .i64 (x).f2, .string (x).f3, .int .i64 (x).f4.f0, .int .i64 (x).f4.f1, .int .i64 (x).f4.f2, .string (x).f4.f3, .string (x).f4.f4, .int .i64 (x).f4.f5, .int .i64 (x).f4.f6, .slice A11 (x).f5.length c11]) tree_Check.szN (fun j v hv => (HI.out.2.2.cell (World.block_lt_of_cell? w _ (HXC.out j v hv))).trans (HXC.out j v hv)) ?_) | ((with_reducible refine gate_dst (N := 5) rfl ?_); refine box_event ?hg (N := 5) ?hd (cs := #[.string (⟨#[]⟩ : ByteArray), .int .i64 0, .int .i64 0, .string (⟨#[]⟩ : ByteArray), .int .i64 0, .int .i64 0, .int .i64 0, .string (⟨#[]⟩ : ByteArray), .string (⟨#[]⟩ : ByteArray), .int .i64 0, .int .i64 0, .slice none 0 0]) (t := 56) ?hr ?_; (case hd => rfl); (case hg => rfl); (case hr => first | (go_simp; done) | (go_simp; rfl)); intro gb hg w2 hbox hb2; have HS := Aside0.mk (HI.out.box hg hbox hb2); clear hg hbox hb2 HI) | ((with_reducible refine gate_store (t := 56) (p := 5) rfl ?_); refine put_event rfl rfl rfl rfl rfl HS.out.2.2.2 (tree_Check.szN) rfl rfl ?_; intro w3 hk3 hg3; have HS3 := Aside0.mk (HS.out.put hk3 hg3); clear HS hk3 hg3; have HS := HS3; clear HS3) | ((with_reducible refine gate_dst (N := 23) rfl ?_); refine load_event rfl rfl hu56 rfl rfl (cs := [.string (x).f0, .int .i64 (x).f1, .int .i64 (x).f2, .string (x).f3, .int .i64 (x).f4.f0, .int .i64 (x).f4.f1, .int .i64 (x).f4.f2, .string (x).f4.f3, .string (x).f4.f4, .int .i64 (x).f4.f5, .int .i64 (x).f4.f6, .slice A11 (x).f5.length c11]) tree_Check.szN (cells_of_blk HS.out.2.2.2) ?_) | (go_at_call 72; refine (tree_Right.calls k1 (x).f0 (x).f1 (x).f2 (x).f3 (x).f4.f0 (x).f4.f1 (x).f4.f2 (x).f4.f3 (x).f4.f4 (x).f4.f5 (x).f4.f6 A11 c11 (x).f5 e1 _ (Kd.C_below HX.out HS.out.1.2.2) HL.out HAR.out).mono ?_; rintro e w3 ⟨rfl, hb3⟩; have HS3 := Aside0.mk (HS.out.step hb3); clear HS hb3; have HS := HS3; clear HS3))
      go_ret
      exact ⟨rfl, HS.out.1.2.2⟩
    ·rw [if_neg c3] at H
     obtain rfl := Option.some.inj H
     have c3b : decide ((n : Int) < (l0.length : Int)) = false := decide_eq_false (by omega)
     have c3c : decide (n < l0.length) = false := decide_eq_false c3
     have c3d := eq_false c3
     clear c3 H
     go_wp2
     go_ret
     exact ⟨rfl, HI.out.2.2⟩


end Go.Proofs.YtlfeijjilndljaaDoor.All
end
section
namespace Go.Proofs.YtlfeijjilndljaaDoor.All
open Go.RowKit Go.Proofs.YtlfeijjilndljaaDoorW.PrintWords Go.Proofs.YtlfeijjilndljaaDoorW.PrintLast Go.Proofs.YtlfeijjilndljaaDoorW.PrintMore
open Go.Proofs.YtlfeijjilndljaaDoorW.Mine
attribute [local go_sem] gtr_string leq_string geq_string
attribute [local go_sem] max2_int min2_int max_two min_two max_three min_three max_four min_four   -- for this text's walks alone
set_option linter.unusedVariables false
set_option linter.unusedSimpArgs false

/-! ### strings_HasPrefix: function 76 -/
def strings_HasPrefix.f (a0 : ByteArray) (a1 : ByteArray) : Option Bool := some (Lib.hasPrefix a0.data.toList a1.data.toList)
theorem strings_HasPrefix.calls (a0 : ByteArray) (a1 : ByteArray) (r : Bool) (w : World) (h : strings_HasPrefix.f a0 a1 = some r) :
  Calls Tryd.prog 76 #[.string a0, .string a1] w fun e w' => e = .returned (.bool r) ∧ Drawn0 w w' := by
 obtain rfl := Option.some.inj h
 exact (Tryd.strings_HasPrefix a0 a1 w).mono fun e w' ⟨he, hw⟩ => ⟨he, by rw [hw]; exact Drawn0.refl _⟩


end Go.Proofs.YtlfeijjilndljaaDoor.All
end
section
namespace Go.Proofs.YtlfeijjilndljaaDoor.All
open Go.RowKit Go.Proofs.YtlfeijjilndljaaDoorW.PrintWords Go.Proofs.YtlfeijjilndljaaDoorW.PrintLast Go.Proofs.YtlfeijjilndljaaDoorW.PrintMore
open Go.Proofs.YtlfeijjilndljaaDoorW.Mine
attribute [local go_sem] gtr_string leq_string geq_string
attribute [local go_sem] max2_int min2_int max_two min_two max_three min_three max_four min_four   -- for this text's walks alone
set_option linter.unusedVariables false
set_option linter.unusedSimpArgs false

/-! ### path_In: function 40 -/
def path_In.f (a0 : ByteArray) (a1 : ByteArray) : Option (Bool) := if a1.toList = ([] : List UInt8) then (if a0.toList = ([] : List UInt8) then (if a1.size + 1 ≤ 9223372036854775807 then ((strings_HasPrefix.f a0 (a1 ++ (⟨#[47]⟩ : ByteArray))).bind fun t101 => (some t101)) else (none)) else (some true)) else (if a1.size + 1 ≤ 9223372036854775807 then ((strings_HasPrefix.f a0 (a1 ++ (⟨#[47]⟩ : ByteArray))).bind fun t102 => (some t102)) else (none))
set_option maxHeartbeats 8000000 in
set_option maxRecDepth 100000 in
theorem path_In.calls (a0 : ByteArray) (a1 : ByteArray) (r : Bool) (w : World) (h : path_In.f a0 a1 = some r) :
  Calls Tryd.prog 40 #[.string a0, .string a1] w fun e w' => e = .returned (.bool r) ∧ Drawn0 w w' := by
 have H : (if a1.toList = ([] : List UInt8) then (if a0.toList = ([] : List UInt8) then (if a1.size + 1 ≤ 9223372036854775807 then ((strings_HasPrefix.f a0 (a1 ++ (⟨#[47]⟩ : ByteArray))).bind fun t101 => (some t101)) else (none)) else (some true)) else (if a1.size + 1 ≤ 9223372036854775807 then ((strings_HasPrefix.f a0 (a1 ++ (⟨#[47]⟩ : ByteArray))).bind fun t102 => (some t102)) else (none))) = some r := h
 clear h
 by_cases c3 : a1.toList = ([] : List UInt8)
 ·rw [if_pos c3] at H
  have c3b0 : (a1.toList == ([] : List UInt8)) = true := beq_iff_eq.mpr c3
  have c3b1 : (a1.toList != ([] : List UInt8)) = false := bne_eq_false_iff_eq.mpr c3
  clear c3
  by_cases c4 : a0.toList = ([] : List UInt8)
  ·rw [if_pos c4] at H
   have c4b0 : (a0.toList == ([] : List UInt8)) = true := beq_iff_eq.mpr c4
   have c4b1 : (a0.toList != ([] : List UInt8)) = false := bne_eq_false_iff_eq.mpr c4
   clear c4
   by_cases c5 : a1.size + 1 ≤ 9223372036854775807
   ·rw [if_pos c5] at H
    have c5b0 := eq_true c5
    have c5b1 : decide (a1.size + 1 ≤ 9223372036854775807) = true := decide_eq_true c5
    try have c5b2 : (9223372036854775807 < a1.size + 1) = False := eq_false (Nat.not_lt.2 c5)
    replace H := Option.bind_eq_some_iff.mp H
    obtain ⟨t101, A60, H⟩ := H
    replace H : (some t101) = some r := H
    have A6 := Aside0.mk A60
    clear A60
    obtain rfl := Option.some.inj H
    go_enter Tryd.func40, Tryd.ntmps40
    go_wp2_with (first | (go_at_call 76; (with_reducible refine (strings_HasPrefix.calls a0 (a1 ++ (⟨#[47]⟩ : ByteArray)) t101 _ A6.out).mono ?_); rintro e w' ⟨rfl, ⟨nd, rfl⟩⟩))
    go_ret
    exact ⟨by first | rfl | (simp; done) | (simp [*]; done), by repeat (first | exact Drawn0.refl _ | apply Drawn0.step)⟩
   ·rw [if_neg c5] at H
    exact absurd H (by simp)
  ·rw [if_neg c4] at H
   have c4b0 : (a0.toList == ([] : List UInt8)) = false := beq_eq_false_iff_ne.mpr c4
   have c4b1 : (a0.toList != ([] : List UInt8)) = true := bne_iff_ne.mpr c4
   obtain rfl := Option.some.inj H
   go_enter Tryd.func40, Tryd.ntmps40
   go_wp2
   go_ret
   exact ⟨by first | rfl | (simp; done) | (simp [*]; done), by repeat (first | exact Drawn0.refl _ | apply Drawn0.step)⟩
 ·rw [if_neg c3] at H
  have c3b0 : (a1.toList == ([] : List UInt8)) = false := beq_eq_false_iff_ne.mpr c3
  have c3b1 : (a1.toList != ([] : List UInt8)) = true := bne_iff_ne.mpr c3
  by_cases c7 : a1.size + 1 ≤ 9223372036854775807
  ·rw [if_pos c7] at H
   have c7b0 := eq_true c7
   have c7b1 : decide (a1.size + 1 ≤ 9223372036854775807) = true := decide_eq_true c7
   try have c7b2 : (9223372036854775807 < a1.size + 1) = False := eq_false (Nat.not_lt.2 c7)
   replace H := Option.bind_eq_some_iff.mp H
   obtain ⟨t102, A80, H⟩ := H
   replace H : (some t102) = some r := H
   have A8 := Aside0.mk A80
   clear A80
   obtain rfl := Option.some.inj H
   go_enter Tryd.func40, Tryd.ntmps40
   go_wp2_with (first | (go_at_call 76; (with_reducible refine (strings_HasPrefix.calls a0 (a1 ++ (⟨#[47]⟩ : ByteArray)) t102 _ A8.out).mono ?_); rintro e w' ⟨rfl, ⟨nd, rfl⟩⟩))
   go_ret
   exact ⟨by first | rfl | (simp; done) | (simp [*]; done), by repeat (first | exact Drawn0.refl _ | apply Drawn0.step)⟩
  ·rw [if_neg c7] at H
   exact absurd H (by simp)

end Go.Proofs.YtlfeijjilndljaaDoor.All
end
section
namespace Go.Proofs.YtlfeijjilndljaaDoor.All
open Go.RowKit Go.Proofs.YtlfeijjilndljaaDoorW.PrintWords Go.Proofs.YtlfeijjilndljaaDoorW.PrintLast Go.Proofs.YtlfeijjilndljaaDoorW.PrintMore
open Go.Proofs.YtlfeijjilndljaaDoorW.Mine
attribute [local go_sem] gtr_string leq_string geq_string
attribute [local go_sem] max2_int min2_int max_two min_two max_three min_three max_four min_four   -- for this text's walks alone
set_option linter.unusedVariables false
set_option linter.unusedSimpArgs false

/-! ### tree_Remove: function 13 -/
-- SH N:0
open Go.Proofs.YtlfeijjilndljaaDoorW.MapOwn
/-- What goes: the path itself, and what lies in it. -/
def tree_Remove.tst (s x : ByteArray) : Option Bool := if x.toList = s.toList then some true else path_In.f x s
set_option maxHeartbeats 4000000 in
set_option maxRecDepth 100000 in
theorem tree_Remove.del (s : ByteArray) (gs : Nat) (cells : Array Value) (x : ByteArray) (b : Bool) (w : World) (hx : cells[0]? = some (.string x)) (hn : cells.size = 12) (hs : w.heap[gs]? = some (.cells #[.string s] 9 (0, 0))) (h : tree_Remove.tst s x = some b) :
  Calls Tryd.prog 39 #[.agg cells, .pointer (some ⟨gs, 0, none⟩)] w fun e w' => e = .returned (.bool b) ∧ Below w.heap.size w w' := by
 have hlt := (Array.getElem?_eq_some_iff.1 hs).1
 have HB0 := Aside0.mk (Below.refl w.heap.size w)
 have HS := Aside0.mk hs
 have HX := Aside0.mk hx
 have HL := Aside0.mk hlt
 clear hs hx hlt
 unfold tree_Remove.tst at h
 by_cases c : x.toList = s.toList
 ·rw [if_pos c] at h
  obtain rfl := Option.some.inj h
  have cb : (x.toList == s.toList) = true := beq_iff_eq.mpr c
  clear c h
  go_enter Tryd.func39, Tryd.ntmps39
  go_wp2_with (((with_reducible refine gate_dst (N := 2) rfl ?_); refine box_event ?hg (N := 2) ?hd (cs := cells) (t := 56) ?hr ?_; (case hd => rfl); (case hg => rfl); (case hr => first | (go_simp; done) | (go_simp; rfl)); intro gb hg w2 hbox hb2; have HG := Aside0.mk hg; have HB2 := Aside0.mk hb2; have h0 : w2.cell? ⟨gb, 0, none⟩ = some (.string x) := (blk_cell hbox 0).trans HX.out; have h1 : w2.cell? ⟨gs, 0, none⟩ = some (.string s) := (by rw [Lib.cell_of_heap ((hb2.block gs HL.out).trans HS.out)]; rfl); clear hg hb2 hbox))
  go_ret
  exact ⟨rfl, HB2.out⟩
 ·rw [if_neg c] at h
  have HP := Aside0.mk h
  have cb : (x.toList == s.toList) = false := beq_eq_false_iff_ne.mpr c
  clear c h
  go_enter Tryd.func39, Tryd.ntmps39
  go_wp2_with (first | ((with_reducible refine gate_dst (N := 2) rfl ?_); refine box_event ?hg (N := 2) ?hd (cs := cells) (t := 56) ?hr ?_; (case hd => rfl); (case hg => rfl); (case hr => first | (go_simp; done) | (go_simp; rfl)); intro gb hg w2 hbox hb2; have HG := Aside0.mk hg; have HB2 := Aside0.mk hb2; have h0 : w2.cell? ⟨gb, 0, none⟩ = some (.string x) := (blk_cell hbox 0).trans HX.out; have h1 : w2.cell? ⟨gs, 0, none⟩ = some (.string s) := (by rw [Lib.cell_of_heap ((hb2.block gs HL.out).trans HS.out)]; rfl); clear hg hb2 hbox) | (go_at_call 40; (with_reducible refine (path_In.calls x s b _ HP.out).mono ?_); rintro e w' ⟨rfl, ⟨nd, rfl⟩⟩))
  go_ret
  exact ⟨rfl, by first | exact HB2.out | (repeat (first | exact HB2.out | apply pw_below_drewN))⟩
def tree_Remove.l0 : Nat → List (S56) → ByteArray → Int → Option Int
 | 0, _, _, _ => none
 | k + 1, x0, s, i => if i < (x0.length : Int) then (if 0 ≤ i then (tree_Remove.tst s (rd_T56 x0 i).f0).bind fun b => (if b = true then (some i) else (tree_Remove.l0 k x0 s (wrap64 (i + 1)))) else none) else (some (-1))
theorem tree_Remove.mono_l : ∀ k, (∀ y0 y1 y2, LeO (tree_Remove.l0 k y0 y1 y2) (tree_Remove.l0 (k + 1) y0 y1 y2))
 | 0 => fun _ _ _ r h => by simp [tree_Remove.l0] at h
 | k + 1 => by
  have ih0 := tree_Remove.mono_l k
  intro y0 y1 y2
  unfold tree_Remove.l0
  exact LeO.ite (LeO.ite (LeO.bind (LeO.refl _) (fun _ => LeO.ite (LeO.refl _) (ih0 _ _ _))) (LeO.refl _)) (LeO.refl _)
set_option maxHeartbeats 8000000 in
set_option maxRecDepth 100000 in
theorem tree_Remove.index (k : Nat) (A0 : Option Addr) (c0 : Nat) (l0 : List (S56)) (s : ByteArray) (gs : Nat) (r : Int) (w : World) (hr0 : Kd.C k56 w A0 l0.length l0) (hc0 : l0.length ≤ c0) (hs : w.heap[gs]? = some (.cells #[.string s] 9 (0, 0))) (h : tree_Remove.l0 k l0 s 0 = some r) :
  Calls Tryd.prog 74 #[.slice A0 l0.length c0, .func (.func 39) #[] #[.pointer (some ⟨gs, 0, none⟩)]] w fun e w' => e = .returned (.int .i64 r) ∧ Below w.heap.size w w' := by
 have HR0 := Aside0.mk hr0
 have HC0 := Aside0.mk hc0
 have HS := Aside0.mk hs
 have HL := Aside0.mk (Array.getElem?_eq_some_iff.1 hs).1
 have H' := Aside0.mk h
 have HB0 := Aside0.mk (Below.refl w.heap.size w)
 clear hr0 hc0 hs h
 go_enter Tryd.func74, Tryd.ntmps74
 go_wp2
 go_loopg [5, 8] k (fun kq _ v8 wx => ∃ (i : Int), v8 = .int .i64 i ∧ Aside0 (tree_Remove.l0 kq l0 s i = some r) ∧ Aside0 (kq ≤ k) ∧ Aside0 (Below w.heap.size w wx))
 case atStart => exact ⟨0, rfl, H', ⟨Nat.le_refl _⟩, HB0⟩
 case round =>
  clear H' HB0
  obtain ⟨i, rfl, HA, HK1, HB⟩ := hrel
  cases gk with
  | zero => exact absurd HA.out (by simp [tree_Remove.l0])
  | succ k1 =>
   have H := HA.out
   clear HA
   simp only [tree_Remove.l0] at H
   by_cases c3 : i < (l0.length : Int)
   ·rw [if_pos c3] at H
    by_cases c4 : 0 ≤ i
    ·rw [if_pos c4] at H
     obtain ⟨ad, A11, c11, e, hx0, hx1, hx2, hx3, hx4, hx5, hx6, hx7, hx8, hx9, hx10, hx11, hl11, hi11⟩ := at_T56 HR0.out i c4 c3
     cases e
     have hb := HB.out
     have hy0 := (hb.cell (World.block_lt_of_cell? w _ hx0)).trans hx0
     have hy1 := (hb.cell (World.block_lt_of_cell? w _ hx1)).trans hx1
     have hy2 := (hb.cell (World.block_lt_of_cell? w _ hx2)).trans hx2
     have hy3 := (hb.cell (World.block_lt_of_cell? w _ hx3)).trans hx3
     have hy4 := (hb.cell (World.block_lt_of_cell? w _ hx4)).trans hx4
     have hy5 := (hb.cell (World.block_lt_of_cell? w _ hx5)).trans hx5
     have hy6 := (hb.cell (World.block_lt_of_cell? w _ hx6)).trans hx6
     have hy7 := (hb.cell (World.block_lt_of_cell? w _ hx7)).trans hx7
     have hy8 := (hb.cell (World.block_lt_of_cell? w _ hx8)).trans hx8
     have hy9 := (hb.cell (World.block_lt_of_cell? w _ hx9)).trans hx9
     have hy10 := (hb.cell (World.block_lt_of_cell? w _ hx10)).trans hx10
     have hy11 := (hb.cell (World.block_lt_of_cell? w _ hx11)).trans hx11
     clear hb hx0 hx1 hx2 hx3 hx4 hx5 hx6 hx7 hx8 hx9 hx10 hx11 hl11 hi11
     have hS1 := Aside0.mk ((HB.out.block gs HL.out).trans HS.out)
     obtain ⟨b5, hb5, H⟩ := Option.bind_eq_some_iff.mp H
     have HT := Aside0.mk hb5
     clear hb5
     by_cases c5 : b5 = true
     ·rw [if_pos c5] at H
      obtain rfl := Option.some.inj H
      subst c5
      replace c3 := eq_true c3
      replace c4 := eq_true c4
      go_wp2_with (go_at_call 39; refine (tree_Remove.del s gs _ (rd_T56 l0 i).f0 _ _ rfl rfl hS1.out HT.out).mono ?_; rintro e w3 ⟨rfl, hb3⟩; have HB3 := Aside0.mk (below_step HB.out hb3); clear hb3)
      go_ret
      exact ⟨rfl, HB3.out⟩
     ·rw [if_neg c5] at H
      have H' := Aside0.mk H
      obtain rfl : b5 = false := Bool.eq_false_iff.mpr c5
      replace c3 := eq_true c3
      replace c4 := eq_true c4
      clear c5 H
      go_wp2_with (go_at_call 39; refine (tree_Remove.del s gs _ (rd_T56 l0 i).f0 _ _ rfl rfl hS1.out HT.out).mono ?_; rintro e w3 ⟨rfl, hb3⟩; have HB3 := Aside0.mk (below_step HB.out hb3); clear hb3)
      go_roundg k1
      case measure => have := HK1.out; omega
      case rel => exact ⟨wrap64 (i + 1), rfl, H', ⟨by have := HK1.out; omega⟩, HB3⟩
    ·rw [if_neg c4] at H
     cases H
   ·rw [if_neg c3] at H
    obtain rfl := Option.some.inj H
    have c3b := decide_eq_false c3
    clear c3 H
    go_wp2
    go_ret
    exact ⟨rfl, HB.out⟩
theorem tree_Remove.idx_in (l : List (S56)) (s : ByteArray) : ∀ k i r, 0 ≤ i → (l.length : Int) < 9000000000000000000 → tree_Remove.l0 k l s i = some r → r = -1 ∨ (0 ≤ r ∧ r < (l.length : Int)) := by
 intro k
 induction k with
 | zero => intro i r _ _ h; simp [tree_Remove.l0] at h
 | succ k ih =>
  intro i r h0 hn h
  simp only [tree_Remove.l0] at h
  by_cases c : i < (l.length : Int)
  ·rw [if_pos c, if_pos h0] at h
   obtain ⟨b, _, h⟩ := Option.bind_eq_some_iff.mp h
   by_cases d : b = true
   ·rw [if_pos d] at h
    obtain rfl := Option.some.inj h
    exact Or.inr ⟨h0, c⟩
   ·rw [if_neg d] at h
    have hw : wrap64 (i + 1) = i + 1 := by unfold wrap64; omega
    rw [hw] at h
    exact ih _ _ (by omega) hn h
  ·rw [if_neg c] at h
   obtain rfl := Option.some.inj h
   exact Or.inl rfl
theorem tree_Remove.off_at (g j : Nat) : (⟨g, 0, none⟩ : Addr).add (j * 12) = ⟨g, j * 12, none⟩ := by
 by_cases h : j * 12 = 0
 ·simp [Addr.add, h]
 ·simp [Addr.add, h]
def tree_Remove.run (s : ByteArray) : Nat → Nat → Nat → List (S56) → Option (Nat × List (S56))
 | 0, i, _, M => some (i, M)
 | d + 1, i, j, M => (tree_Remove.tst s (rd_T56 M (j : Int)).f0).bind fun b => if b = true then tree_Remove.run s d i (j + 1) M else tree_Remove.run s d (i + 1) (j + 1) (M.set i (rd_T56 M (j : Int)))
theorem tree_Remove.run_in (s : ByteArray) : ∀ d i j M q, tree_Remove.run s d i j M = some q → q.1 ≤ i + d ∧ q.2.length = M.length
 | 0, i, j, M, q, h => by
  obtain rfl := Option.some.inj h
  exact ⟨Nat.le_refl _, rfl⟩
 | d + 1, i, j, M, q, h => by
  simp only [tree_Remove.run] at h
  obtain ⟨b, _, h⟩ := Option.bind_eq_some_iff.mp h
  by_cases c : b = true
  ·rw [if_pos c] at h
   have := tree_Remove.run_in s d _ _ _ _ h
   exact ⟨by omega, this.2⟩
  ·rw [if_neg c] at h
   have := tree_Remove.run_in s d _ _ _ _ h
   rw [List.length_set] at this
   exact ⟨by omega, this.2⟩
def tree_Remove.rm (k : Nat) (l : List (S56)) (s : ByteArray) : Option (List (S56)) := if l.length ≤ 1000000 then (tree_Remove.l0 k l s 0).bind fun i => if i = -1 then some l else (tree_Remove.run s (l.length - (i.toNat + 1)) i.toNat (i.toNat + 1) l).bind fun q => some (q.2.take q.1) else none
theorem tree_Remove.rm_mono (l : List (S56)) (s : ByteArray) (k : Nat) : LeO (tree_Remove.rm k l s) (tree_Remove.rm (k + 1) l s) := by
 unfold tree_Remove.rm
 exact LeO.ite (LeO.bind (tree_Remove.mono_l k _ _ _) (fun _ => LeO.refl _)) (LeO.refl _)
theorem tree_Remove.own_at {α : Type} {d : Kd α} {e base n c : Nat} {ok : Nat → Prop} {W : World} {A : Option Addr} {xs : List α} (h : Kd.N d e W base ok (.slice A n c) xs) (hn : 0 < n) : ∃ g, A = some ⟨g, 0, none⟩ := by
 obtain ⟨_, rows, hl, ⟨_, inner, hown, hr⟩, hf⟩ := h
 rcases hown.2 with ⟨e1, e2⟩ | ⟨g, cap, cur, e1, _⟩
 ·injection e1 with _ e1
  omega
 ·injection e1 with e1
  exact ⟨g, e1⟩
theorem tree_Remove.elemN {w : World} {base : Nat} {ok : Nat → Prop} {A : Option Addr} {n c : Nat} {l : List (S56)} (h : Kd.N k56 56 w base ok (.slice A n c) l) (j : Nat) (hj : j < l.length) (x : S56) (hx : rd_T56 l (j : Int) = x) : ∃ ad A11 c11, A = some ad ∧ (∀ q v, ([.string (x).f0, .int .i64 (x).f1, .int .i64 (x).f2, .string (x).f3, .int .i64 (x).f4.f0, .int .i64 (x).f4.f1, .int .i64 (x).f4.f2, .string (x).f4.f3, .string (x).f4.f4, .int .i64 (x).f4.f5, .int .i64 (x).f4.f6, .slice A11 (x).f5.length c11])[q]? = some v → w.cell? ((ad.add (j * 12)).add q) = some v) ∧ Kd.FK k56 w (fun k => ok k ∧ some k ≠ (Value.slice A n c).ownBlock) x [.string (x).f0, .int .i64 (x).f1, .int .i64 (x).f2, .string (x).f3, .int .i64 (x).f4.f0, .int .i64 (x).f4.f1, .int .i64 (x).f4.f2, .string (x).f4.f3, .string (x).f4.f4, .int .i64 (x).f4.f5, .int .i64 (x).f4.f6, .slice A11 (x).f5.length c11] := by
 obtain ⟨h0, rows, hl, hR, hf⟩ := h
 obtain ⟨hn, hc, hC⟩ := Kd.R_reads' hR
 have hjr : j < rows.length := by omega
 obtain ⟨ad, he, hcell⟩ := hC.2.2 (by omega)
 obtain ⟨c', hcl, hk, hcc⟩ := hcell j _ (List.getElem?_eq_getElem hjr)
 have e' : c' = rows[j] := hk.1
 have hxl : l[j]? = some x := by
  rw [List.getElem?_eq_getElem hj, ← hx]
  unfold rd_T56
  rw [Int.toNat_natCast, List.getD_eq_getElem?_getD, List.getElem?_eq_getElem hj]; rfl
 have hfk := hf j x c' hxl (by rw [e']; exact List.getElem?_eq_getElem hjr)
 obtain ⟨A11, c11, rfl, l11, hF⟩ := k56_openF hfk
 refine ⟨ad, A11, c11, he, fun q v hv => ?_, hfk⟩
 have := hcc q v hv
 rw [← this]
 congr 1
 show (ad.add (j * 12)).add q = ad.add (j * 12 + q)
 exact Go.Proofs.YtlfeijjilndljaaDoorW.MapOwn.add_add ad (j * 12) q
theorem tree_Remove.elemG {w : World} {base g : Nat} {ok : Nat → Prop} {n c : Nat} {l : List (S56)} (h : Kd.N k56 56 w base ok (.slice (some ⟨g, 0, none⟩) n c) l) (j : Nat) (hj : j < l.length) (x : S56) (hx : rd_T56 l (j : Int) = x) : ∃ A11 c11, (∀ q v, ([.string (x).f0, .int .i64 (x).f1, .int .i64 (x).f2, .string (x).f3, .int .i64 (x).f4.f0, .int .i64 (x).f4.f1, .int .i64 (x).f4.f2, .string (x).f4.f3, .string (x).f4.f4, .int .i64 (x).f4.f5, .int .i64 (x).f4.f6, .slice A11 (x).f5.length c11])[q]? = some v → w.cell? ((⟨g, j * 12, none⟩ : Addr).add q) = some v) ∧ (∀ q v, ([.string (x).f0, .int .i64 (x).f1, .int .i64 (x).f2, .string (x).f3, .int .i64 (x).f4.f0, .int .i64 (x).f4.f1, .int .i64 (x).f4.f2, .string (x).f4.f3, .string (x).f4.f4, .int .i64 (x).f4.f5, .int .i64 (x).f4.f6, .slice A11 (x).f5.length c11])[q]? = some v → w.cell? ⟨g, j * 12 + q, none⟩ = some v) ∧ Kd.FK k56 w (fun k => ok k ∧ some k ≠ (Value.slice (some ⟨g, 0, none⟩) n c).ownBlock) x [.string (x).f0, .int .i64 (x).f1, .int .i64 (x).f2, .string (x).f3, .int .i64 (x).f4.f0, .int .i64 (x).f4.f1, .int .i64 (x).f4.f2, .string (x).f4.f3, .string (x).f4.f4, .int .i64 (x).f4.f5, .int .i64 (x).f4.f6, .slice A11 (x).f5.length c11] := by
 obtain ⟨ad, A11, c11, e, hxc, hfk⟩ := tree_Remove.elemN h j hj x hx
 have ead : ad = ⟨g, 0, none⟩ := (Option.some.inj e).symm
 subst ead
 have h1 : ∀ q v, ([.string (x).f0, .int .i64 (x).f1, .int .i64 (x).f2, .string (x).f3, .int .i64 (x).f4.f0, .int .i64 (x).f4.f1, .int .i64 (x).f4.f2, .string (x).f4.f3, .string (x).f4.f4, .int .i64 (x).f4.f5, .int .i64 (x).f4.f6, .slice A11 (x).f5.length c11])[q]? = some v → w.cell? ((⟨g, j * 12, none⟩ : Addr).add q) = some v := fun q v hv => by rw [← hxc q v hv, tree_Remove.off_at g j]
 refine ⟨A11, c11, h1, fun q v hv => ?_, hfk⟩
 rw [← h1 q v hv]
 congr 1
 by_cases q0 : q = 0
 ·simp [Addr.add, q0]
 ·simp [Addr.add, q0]
theorem tree_Remove.cleared {α : Type} {d : Kd α} {e base g m c o : Nat} {ok : Nat → Prop} {W : World} {xs : List α} (h : Kd.N d e W base ok (.slice (some ⟨g, 0, none⟩) m c) xs) (seg : List Value) (ho : xs.length * d.sz ≤ o) (hs : o + seg.length ≤ c * d.sz) : Kd.N d e (W.setCells g o seg) base ok (.slice (some ⟨g, 0, none⟩) m c) xs ∧ W.grownBy (W.setCells g o seg) (some g) := by
 have hg : W.grownBy (W.setCells g o seg) (some g) := by
  obtain ⟨h1, h2, h3, h4⟩ := setCells_same g seg o W
  exact ⟨h1, h2, h3, Nat.le_of_eq h4.symm, fun k _ hk => setCells_far seg o k (fun e_ => hk (by rw [e_]))⟩
 refine ⟨?_, hg⟩
 obtain ⟨h0, rows, hl, ⟨hR0, inner, ⟨hil, hor⟩, hr⟩, hf⟩ := h
 have hor' : ∃ cur, base ≤ g ∧ W.heap[g]? = some (.cells cur e (0, 0)) ∧ rows.length ≤ c ∧ c ≤ maxLen ∧ cur.size = c * d.sz ∧ cur.toList.take (rows.length * d.sz) = inner ∧ m = rows.length := by
  rcases hor with ⟨e1, _⟩ | ⟨g1, cap, cur, e1, q1, q2, q3, q4, q5, q6⟩
  ·cases e1
  ·injection e1 with e1 e2 e3
   injection e1 with e1
   injection e1 with e1
   subst e1; subst e3
   exact ⟨cur, q1, q2, q3, q4, q5, q6, e2⟩
 obtain ⟨cur, q1, q2, q3, q4, q5, q6, q7⟩ := hor'
 obtain ⟨cur', s1, s2, s3⟩ := setCells_row seg o W cur q2 (by rw [q5]; exact hs)
 refine ⟨h0, rows, hl, ⟨hR0, inner, ⟨hil, Or.inr ⟨g, c, cur', by rw [q7], q1, s1, q3, q4, by rw [s2, q5]; rfl, ?_⟩⟩, hr.imp_ (fun _ _ hp => Kd.M_grown hp hg (fun k hk => hk.2))⟩, fun j x cc hx hc => Kd.FK_step (hf j x cc hx hc) (fun k hk _ => setCells_far seg o k (fun e_ => hk.2 (by rw [e_]; rfl)))⟩
 have hle : rows.length * d.sz ≤ (cur.toList.take o).length := by
  rw [List.length_take, Array.length_toList (xs := cur), q5, hl]
  have : xs.length * d.sz ≤ c * d.sz := by omega
  omega
 show cur'.toList.take (rows.length * d.sz) = inner
 rw [s3, List.append_assoc, List.take_append_of_le_length hle, List.take_take, Nat.min_eq_left (by rw [hl]; exact ho), q6]
theorem tree_Remove.own_cells {α : Type} {d : Kd α} {e base g m c : Nat} {ok : Nat → Prop} {W : World} {xs : List α} (h : Kd.N d e W base ok (.slice (some ⟨g, 0, none⟩) m c) xs) : ∃ cur, W.heap[g]? = some (.cells cur e (0, 0)) ∧ cur.size = c * d.sz ∧ base ≤ g := by
 obtain ⟨h0, rows, hl, ⟨hR0, inner, ⟨hil, hor⟩, hr⟩, hf⟩ := h
 rcases hor with ⟨e1, _⟩ | ⟨g1, cap, cur, e1, q1, q2, q3, q4, q5, q6⟩
 ·cases e1
 ·injection e1 with e1 e2 e3
  injection e1 with e1
  injection e1 with e1
  subst e1; subst e3
  exact ⟨cur, q2, q5, q1⟩
theorem tree_Remove.run_clear {P : Program} (w : World) (t e ty : TypeId) (z : Value) (seg : List Value) (ht : P.underlying t = some (.slice e)) (hv : ∀ w, (zeroValue e).run P w = .ok z w) (b o n c : Nat) (hn : 0 < n) (hz : (Builtin.zeroCells z.cells n).toList = seg) (h1 : ∀ v ∈ seg, v.oneCell' = true)
  (hc : ∀ j, j < seg.length → (w.cell? ⟨b, o + j, none⟩).isSome = true) (hf : ∀ j, j < seg.length → w.frozen? ⟨b, o + j, none⟩ = false) :
  (Builtin.clear_ #[t] ty #[.slice (some ⟨b, o, none⟩) n c]).run P w = .ok (.tuple #[]) (w.setCells b o seg) := by
 have hst := run_storeCells_cells (P := P) b o seg 0 w hc hf h1
 simp only [Nat.add_zero] at hst
 obtain ⟨m, rfl⟩ : ∃ m, n = m + 1 := ⟨n - 1, by omega⟩
 simp [Builtin.clear_, run_underlying ht, hv, hz, hst]
theorem tree_Remove.clear_event {P : Program} {ops : Array Oper} {rest : List Oper} {o : Oper} {a : Act} {Q : Exit → Act → World → Prop} {W : World} (hgd : o.guard = none) (x : Operand) (t : TypeId) (ho : o.op = .call { callee := .builtin .clear, args := #[x], argTypes := #[t] }) {v v' : Value} {w' : World} (hx : a.eval x = v) (hr : (Builtin.clear_ #[t] o.type #[v]).run P W = .ok v' w') (h : wpList P ops Q rest (a.put o.dst v') w') : wpList P ops Q (o :: rest) a W := by
 refine wpList_plain hgd fun K hK => ?_
 unfold Oper.wp execOp
 simp only [ho, resolve, invoke, builtin, Sem.run_bind, Sem.run_pure, Result.andThen_ok, List.map_toArray, List.map_cons, List.map_nil, hx, hr]
 exact hK _ _ h
theorem tree_Remove.zseg (n : Nat) : ∃ seg : List Value, (Builtin.zeroCells (Value.agg #[.string (⟨#[]⟩ : ByteArray), .int .i64 0, .int .i64 0, .string (⟨#[]⟩ : ByteArray), .int .i64 0, .int .i64 0, .int .i64 0, .string (⟨#[]⟩ : ByteArray), .string (⟨#[]⟩ : ByteArray), .int .i64 0, .int .i64 0, .slice none 0 0]).cells n).toList = seg ∧ seg.length = n * 12 ∧ ∀ v ∈ seg, v.oneCell' = true := by
 refine ⟨_, rfl, by simp [Builtin.zeroCells, Value.cells], fun v hv => ?_⟩
 simp only [Builtin.zeroCells, Array.toList_map, List.mem_map] at hv
 obtain ⟨i, _, rfl⟩ := hv
 have hi : i % 12 < 12 := Nat.mod_lt _ (by decide)
 show (Value.oneCell' (#[_, _, _, _, _, _, _, _, _, _, _, _][i % 12]!)) = true
 generalize i % 12 = q at *
 rcases q with _ | _ | _ | _ | _ | _ | _ | _ | _ | _ | _ | _ | q <;> first | rfl | omega
set_option maxHeartbeats 16000000 in
set_option maxRecDepth 100000 in
theorem tree_Remove.cut (k : Nat) (A : Option Addr) (c : Nat) (l : List (S56)) (s : ByteArray) (gs base : Nat) (ok : Nat → Prop) (r : List (S56)) (w : World) (hn : Kd.N k56 56 w base ok (.slice A l.length c) l) (hbase : base ≤ w.heap.size) (hs : w.heap[gs]? = some (.cells #[.string s] 9 (0, 0))) (h : tree_Remove.rm k l s = some r) :
  Calls Tryd.prog 38 #[.slice A l.length c, .func (.func 39) #[] #[.pointer (some ⟨gs, 0, none⟩)]] w fun e w' => ∃ v, e = .returned v ∧ Kd.N k56 56 w' base ok v r ∧ Below base w w' := by
 have hu56 := Tryd.underlying56
 unfold tree_Remove.rm at h
 by_cases cl : l.length ≤ 1000000
 ·rw [if_pos cl] at h
  obtain ⟨i0, h0, h⟩ := Option.bind_eq_some_iff.mp h
  have HL := Aside0.mk cl
  have HI := Aside0.mk (tree_Remove.idx_in l s k 0 i0 (by omega) (by omega) h0)
  have H0 := Aside0.mk h0
  have HO := Aside0.mk hn
  have HB := Aside0.mk (Below.refl base w)
  have HS := Aside0.mk hs
  have HBA := Aside0.mk hbase
  have HGS := Aside0.mk (Kd.N_ne hn hs (by decide))
  clear cl h0 hn hs hbase
  by_cases ci : i0 = -1
  ·rw [if_pos ci] at h
   obtain rfl := Option.some.inj h
   subst ci
   clear h
   go_enter Tryd.func38, Tryd.ntmps38
   go_wp2_with (go_at_call 74; refine (tree_Remove.index k A c l s gs (-1) _ (Kd.N_reads' HO.out).2.2 (Kd.N_reads' HO.out).2.1 HS.out H0.out).mono ?_; rintro e w1 ⟨rfl, hb1⟩; have HX1 := Aside0.mk hb1; have HO9 := Aside0.mk (Kd.N_below HO.out HX1.out); have HB9 := Aside0.mk (below_then HB.out (Nat.le_trans HBA.out HB.out.size) HX1.out); have HS9 := Aside0.mk ((HX1.out.block gs (blk_lt HS.out)).trans HS.out); clear HO HB HS; have HO := HO9; have HB := HB9; have HS := HS9; clear HO9 HB9 HS9; clear hb1)
   go_ret
   exact ⟨_, rfl, HO.out, HB.out⟩
  ·rw [if_neg ci] at h
   have hi := HI.out.resolve_left ci
   obtain ⟨i1, rfl⟩ := Int.eq_ofNat_of_zero_le hi.1
   rw [Int.toNat_natCast] at h
   obtain ⟨q, hq, h⟩ := Option.bind_eq_some_iff.mp h
   obtain rfl := Option.some.inj h
   have HQ := Aside0.mk hq
   have HQI := Aside0.mk (tree_Remove.run_in s _ _ _ _ _ hq)
   have HI1 := Aside0.mk (show i1 < l.length by omega)
   have cib : ((i1 : Int) == -1) = false := beq_eq_false_iff_ne.mpr ci
   have hw : wrap64 ((i1 : Int) + 1) = ((i1 + 1 : Nat) : Int) := by have := HL.out; unfold wrap64; omega
   obtain ⟨g, rfl⟩ := tree_Remove.own_at HO.out (by omega)
   clear h hq HI ci hi
   go_enter Tryd.func38, Tryd.ntmps38
   go_wp2_with (go_at_call 74; refine (tree_Remove.index k _ c l s gs (i1 : Int) _ (Kd.N_reads' HO.out).2.2 (Kd.N_reads' HO.out).2.1 HS.out H0.out).mono ?_; rintro e w1 ⟨rfl, hb1⟩; have HX1 := Aside0.mk hb1; have HO9 := Aside0.mk (Kd.N_below HO.out HX1.out); have HB9 := Aside0.mk (below_then HB.out (Nat.le_trans HBA.out HB.out.size) HX1.out); have HS9 := Aside0.mk ((HX1.out.block gs (blk_lt HS.out)).trans HS.out); clear HO HB HS; have HO := HO9; have HB := HB9; have HS := HS9; clear HO9 HB9 HS9; clear hb1)
   go_loopg [5, 6] (l.length - (i1 + 1)) (fun kq v5 v6 wx => ∃ (i j : Nat) (M : List (S56)), v5 = .int .i64 (i : Int) ∧ v6 = .int .i64 (j : Int) ∧ Aside0 (kq + j = l.length) ∧ Aside0 (i < j) ∧ Aside0 (M.length = l.length) ∧ Aside0 (tree_Remove.run s kq i j M = some q) ∧ Aside0 (wx.heap[gs]? = some (.cells #[.string s] 9 (0, 0))) ∧ Aside0 (Kd.N k56 56 wx base ok (.slice (some ⟨g, 0, none⟩) l.length c) M) ∧ Aside0 (Below base w wx))
   case atStart => exact ⟨i1, i1 + 1, l, rfl, (by first | rfl | rw [hw]), ⟨by have := HI1.out; omega⟩, ⟨Nat.lt_succ_self _⟩, ⟨rfl⟩, HQ, HS, HO, HB⟩
   case round =>
    clear HQ HS HO HB H0 hw cib
    obtain ⟨i, j, M, rfl, rfl, HJ, HIJ, HML, HR, HS, HO, HB⟩ := hrel
    cases gk with
    | zero =>
     obtain rfl : j = l.length := by have := HJ.out; omega
     obtain rfl : q = (i, M) := (Option.some.inj HR.out).symm
     clear HR
     have c3b : decide (((l.length : Nat) : Int) < (l.length : Int)) = false := decide_eq_false (by omega)
     have p3 : (((l.length : Nat) : Int) < (l.length : Int)) = False := eq_false (by omega)
     have p5 : (0 ≤ (i : Int)) = True := eq_true (by omega)
     have p6 : ((i : Int) ≤ (l.length : Int)) = True := eq_true (by have := HIJ.out; omega)
     have p7 : ((i : Int) ≤ (c : Int)) = True := eq_true (by have := HIJ.out; have := (Kd.N_reads' HO.out).2.1; omega)
     have p8 : (c = i) = False := eq_false (by have := HIJ.out; have := (Kd.N_reads' HO.out).2.1; omega)
     obtain ⟨cur, hcur, hsz, hbg⟩ := tree_Remove.own_cells HO.out
     obtain ⟨seg, hz, hsl, hs1⟩ := tree_Remove.zseg (l.length - i)
     have hlc := (Kd.N_reads' HO.out).2.1
     have hil := HIJ.out
     have hsz' : cur.size = c * 12 := hsz
     have hrun := tree_Remove.run_clear (P := Tryd.prog) _ 23 56 0 _ seg Tryd.underlying23 zero56 g (i * 12) (l.length - i) (c - i) (by omega) hz hs1 (fun q hq => by rw [blk_cell hcur, Array.getElem?_eq_getElem (by omega)]; rfl) (fun q _ => blk_frozen hcur _)
     obtain ⟨hn2, hg2⟩ := tree_Remove.cleared (o := i * 12) (Kd.N_take HO.out (m := i) (by rw [HML.out]; omega)) seg (by rw [List.length_take]; show min i M.length * 12 ≤ i * 12; exact Nat.mul_le_mul_right _ (Nat.min_le_left _ _)) (by show i * 12 + seg.length ≤ c * 12; omega)
     have HN2 := Aside0.mk hn2
     have HB2 := Aside0.mk (pw_below_grown HB.out (some g) (Nat.le_trans HBA.out HB.out.size) hg2 (fun k hk => by injection hk with hk; rw [← hk]; exact hbg))
     clear hcur hsz hsz' hbg hz hsl hs1 hlc hil hn2 hg2
     go_wp2
     go_ret
     exact ⟨_, rfl, HN2.out, HB2.out⟩
    | succ d =>
     have hj : j < l.length := by have := HJ.out; omega
     have H := HR.out
     simp only [tree_Remove.run] at H
     clear HR
     obtain ⟨b, hb0, H⟩ := Option.bind_eq_some_iff.mp H
     have HT0 := Aside0.mk hb0
     have HJL := Aside0.mk hj
     have c3b : decide ((j : Int) < (l.length : Int)) = true := decide_eq_true (by omega)
     have p3 : ((j : Int) < (l.length : Int)) = True := eq_true (by omega)
     have p4 : (0 ≤ (j : Int)) = True := eq_true (by omega)
     have wj : wrap64 ((j : Int) + 1) = ((j + 1 : Nat) : Int) := by have := HL.out; unfold wrap64; omega
     have wi : wrap64 ((i : Int) + 1) = ((i + 1 : Nat) : Int) := by have := HL.out; have := HIJ.out; unfold wrap64; omega
     have WJ := Aside0.mk wj
     have WI := Aside0.mk wi
     clear hb0 wj wi
     obtain ⟨x, hx⟩ : ∃ x, rd_T56 M (j : Int) = x := ⟨_, rfl⟩
     obtain ⟨A11, c11, hxc, _, hfk⟩ := tree_Remove.elemG HO.out j (by rw [HML.out]; exact hj) x hx
     rw [hx] at H
     have HT := Aside0.mk (show tree_Remove.tst s x.f0 = some b by rw [← hx]; exact HT0.out)
     have HXR := Aside0.mk hx
     have HXC := Aside0.mk hxc
     have HFX := Aside0.mk hfk
     clear hfk hx hj HT0 hxc
     by_cases cb : b = true
     ·subst cb
      rw [if_pos rfl] at H
      have H' := Aside0.mk H
      clear H
      go_wp2_with (first | ((with_reducible refine gate_dst (N := 25) rfl ?_); refine load_event (ad := (⟨g, j * 12, none⟩ : Addr)) rfl rfl hu56 rfl rfl (cs := [.string (x).f0, .int .i64 (x).f1, .int .i64 (x).f2, .string (x).f3, .int .i64 (x).f4.f0, .int .i64 (x).f4.f1, .int .i64 (x).f4.f2, .string (x).f4.f3, .string (x).f4.f4, .int .i64 (x).f4.f5, .int .i64 (x).f4.f6, .slice A11 (x).f5.length c11]) sz56 (fun q v hv => HXC.out q v hv) ?_) | ((with_reducible refine gate_dst (N := 7) rfl ?_); refine box_event ?hg (N := 7) ?hd (cs := #[.string (⟨#[]⟩ : ByteArray), .int .i64 0, .int .i64 0, .string (⟨#[]⟩ : ByteArray), .int .i64 0, .int .i64 0, .int .i64 0, .string (⟨#[]⟩ : ByteArray), .string (⟨#[]⟩ : ByteArray), .int .i64 0, .int .i64 0, .slice none 0 0]) (t := 56) ?hr ?_; (case hd => rfl); (case hg => rfl); (case hr => first | (go_simp; done) | (go_simp; rfl)); intro gx hg w2 hbox hb2; have HX2 := Aside0.mk hb2; have HGE := Aside0.mk hg; have HK := Aside0.mk hbox; clear hg hbox hb2) | ((with_reducible refine gate_store (t := 56) (p := 7) rfl ?_); refine put_event rfl rfl rfl rfl rfl HK.out sz56 rfl rfl ?_; intro w3 hk3 hg3; have HX3 := Aside0.mk (below_grown HX2.out hg3 (Nat.le_of_eq HGE.out.symm) (blk_lt HK.out)); have HO9 := Aside0.mk (Kd.N_below HO.out HX3.out); have HB9 := Aside0.mk (below_then HB.out (Nat.le_trans HBA.out HB.out.size) HX3.out); have HS9 := Aside0.mk ((HX3.out.block gs (blk_lt HS.out)).trans HS.out); have HFX9 := Aside0.mk (Kd.FK_below HFX.out HX3.out); clear HO HB HS HFX; have HO := HO9; have HB := HB9; have HS := HS9; have HFX := HFX9; clear HO9 HB9 HS9 HFX9; have HKX := Aside0.mk hk3; clear HK HX2 HGE HX3; clear hk3 hg3) | ((with_reducible refine gate_dst (N := 27) rfl ?_); refine load_event rfl rfl hu56 rfl rfl (cs := [.string (x).f0, .int .i64 (x).f1, .int .i64 (x).f2, .string (x).f3, .int .i64 (x).f4.f0, .int .i64 (x).f4.f1, .int .i64 (x).f4.f2, .string (x).f4.f3, .string (x).f4.f4, .int .i64 (x).f4.f5, .int .i64 (x).f4.f6, .slice A11 (x).f5.length c11]) sz56 (cells_of_blk (cs := [.string (x).f0, .int .i64 (x).f1, .int .i64 (x).f2, .string (x).f3, .int .i64 (x).f4.f0, .int .i64 (x).f4.f1, .int .i64 (x).f4.f2, .string (x).f4.f3, .string (x).f4.f4, .int .i64 (x).f4.f5, .int .i64 (x).f4.f6, .slice A11 (x).f5.length c11]) HKX.out) ?_) | (go_at_call 39; refine (tree_Remove.del s gs _ x.f0 _ _ rfl rfl HS.out HT.out).mono ?_; rintro e w4 ⟨rfl, hb4⟩; have HX4 := Aside0.mk hb4; have HKY := Aside0.mk ((hb4.block gx (blk_lt HKX.out)).trans HKX.out); have HO9 := Aside0.mk (Kd.N_below HO.out HX4.out); have HB9 := Aside0.mk (below_then HB.out (Nat.le_trans HBA.out HB.out.size) HX4.out); have HS9 := Aside0.mk ((HX4.out.block gs (blk_lt HS.out)).trans HS.out); have HFX9 := Aside0.mk (Kd.FK_below HFX.out HX4.out); clear HO HB HS HFX; have HO := HO9; have HB := HB9; have HS := HS9; have HFX := HFX9; clear HO9 HB9 HS9 HFX9; clear hb4 HKX; have HKX := HKY; clear HKY))
      have wj := WJ.out
      go_roundg d
      case measure => exact Nat.lt_succ_self _
      case rel => exact ⟨i, j + 1, M, rfl, (by first | rfl | rw [wj]), ⟨by have := HJ.out; omega⟩, ⟨by have := HIJ.out; omega⟩, HML, H', HS, HO, HB⟩
     ·obtain rfl : b = false := Bool.eq_false_iff.mpr cb
      rw [if_neg cb] at H
      have H' := Aside0.mk H
      clear H cb
      go_upto_region 9 with (first | ((with_reducible refine gate_dst (N := 25) rfl ?_); refine load_event (ad := (⟨g, j * 12, none⟩ : Addr)) rfl rfl hu56 rfl rfl (cs := [.string (x).f0, .int .i64 (x).f1, .int .i64 (x).f2, .string (x).f3, .int .i64 (x).f4.f0, .int .i64 (x).f4.f1, .int .i64 (x).f4.f2, .string (x).f4.f3, .string (x).f4.f4, .int .i64 (x).f4.f5, .int .i64 (x).f4.f6, .slice A11 (x).f5.length c11]) sz56 (fun q v hv => HXC.out q v hv) ?_) | ((with_reducible refine gate_dst (N := 7) rfl ?_); refine box_event ?hg (N := 7) ?hd (cs := #[.string (⟨#[]⟩ : ByteArray), .int .i64 0, .int .i64 0, .string (⟨#[]⟩ : ByteArray), .int .i64 0, .int .i64 0, .int .i64 0, .string (⟨#[]⟩ : ByteArray), .string (⟨#[]⟩ : ByteArray), .int .i64 0, .int .i64 0, .slice none 0 0]) (t := 56) ?hr ?_; (case hd => rfl); (case hg => rfl); (case hr => first | (go_simp; done) | (go_simp; rfl)); intro gx hg w2 hbox hb2; have HX2 := Aside0.mk hb2; have HGE := Aside0.mk hg; have HK := Aside0.mk hbox; clear hg hbox hb2) | ((with_reducible refine gate_store (t := 56) (p := 7) rfl ?_); refine put_event rfl rfl rfl rfl rfl HK.out sz56 rfl rfl ?_; intro w3 hk3 hg3; have HX3 := Aside0.mk (below_grown HX2.out hg3 (Nat.le_of_eq HGE.out.symm) (blk_lt HK.out)); have HO9 := Aside0.mk (Kd.N_below HO.out HX3.out); have HB9 := Aside0.mk (below_then HB.out (Nat.le_trans HBA.out HB.out.size) HX3.out); have HS9 := Aside0.mk ((HX3.out.block gs (blk_lt HS.out)).trans HS.out); have HFX9 := Aside0.mk (Kd.FK_below HFX.out HX3.out); clear HO HB HS HFX; have HO := HO9; have HB := HB9; have HS := HS9; have HFX := HFX9; clear HO9 HB9 HS9 HFX9; have HKX := Aside0.mk hk3; clear HK HX2 HGE HX3; clear hk3 hg3) | ((with_reducible refine gate_dst (N := 27) rfl ?_); refine load_event rfl rfl hu56 rfl rfl (cs := [.string (x).f0, .int .i64 (x).f1, .int .i64 (x).f2, .string (x).f3, .int .i64 (x).f4.f0, .int .i64 (x).f4.f1, .int .i64 (x).f4.f2, .string (x).f4.f3, .string (x).f4.f4, .int .i64 (x).f4.f5, .int .i64 (x).f4.f6, .slice A11 (x).f5.length c11]) sz56 (cells_of_blk (cs := [.string (x).f0, .int .i64 (x).f1, .int .i64 (x).f2, .string (x).f3, .int .i64 (x).f4.f0, .int .i64 (x).f4.f1, .int .i64 (x).f4.f2, .string (x).f4.f3, .string (x).f4.f4, .int .i64 (x).f4.f5, .int .i64 (x).f4.f6, .slice A11 (x).f5.length c11]) HKX.out) ?_) | (go_at_call 39; refine (tree_Remove.del s gs _ x.f0 _ _ rfl rfl HS.out HT.out).mono ?_; rintro e w4 ⟨rfl, hb4⟩; have HX4 := Aside0.mk hb4; have HKY := Aside0.mk ((hb4.block gx (blk_lt HKX.out)).trans HKX.out); have HO9 := Aside0.mk (Kd.N_below HO.out HX4.out); have HB9 := Aside0.mk (below_then HB.out (Nat.le_trans HBA.out HB.out.size) HX4.out); have HS9 := Aside0.mk ((HX4.out.block gs (blk_lt HS.out)).trans HS.out); have HFX9 := Aside0.mk (Kd.FK_below HFX.out HX4.out); clear HO HB HS HFX; have HO := HO9; have HB := HB9; have HS := HS9; have HFX := HFX9; clear HO9 HB9 HS9 HFX9; clear hb4 HKX; have HKX := HKY; clear HKY))
      obtain ⟨y, hy⟩ : ∃ y, rd_T56 M (i : Int) = y := ⟨_, rfl⟩
      obtain ⟨B11, d11, _, hyc, _⟩ := tree_Remove.elemG HO.out i (by have := HML.out; have := HIJ.out; have := HJL.out; omega) y hy
      have HYC := Aside0.mk hyc
      have p5 : (0 ≤ (i : Int)) = True := eq_true (by omega)
      have p6 : ((i : Int) < (l.length : Int)) = True := eq_true (by have := HIJ.out; have := HJL.out; omega)
      clear hy hyc
      go_wp2_with (first | ((with_reducible refine gate_dst (N := 32) rfl ?_); refine load_event rfl rfl hu56 rfl rfl (cs := [.string (x).f0, .int .i64 (x).f1, .int .i64 (x).f2, .string (x).f3, .int .i64 (x).f4.f0, .int .i64 (x).f4.f1, .int .i64 (x).f4.f2, .string (x).f4.f3, .string (x).f4.f4, .int .i64 (x).f4.f5, .int .i64 (x).f4.f6, .slice A11 (x).f5.length c11]) sz56 (cells_of_blk (cs := [.string (x).f0, .int .i64 (x).f1, .int .i64 (x).f2, .string (x).f3, .int .i64 (x).f4.f0, .int .i64 (x).f4.f1, .int .i64 (x).f4.f2, .string (x).f4.f3, .string (x).f4.f4, .int .i64 (x).f4.f5, .int .i64 (x).f4.f6, .slice A11 (x).f5.length c11]) HKX.out) ?_) | ((with_reducible refine gate_store (t := 56) (p := 33) rfl ?_); refine Kd.N_store k56 (w0 := w) base rfl rfl _ _ _ rfl 56 (i : Int) 0 M x (.agg #[.string (x).f0, .int .i64 (x).f1, .int .i64 (x).f2, .string (x).f3, .int .i64 (x).f4.f0, .int .i64 (x).f4.f1, .int .i64 (x).f4.f2, .string (x).f4.f3, .string (x).f4.f4, .int .i64 (x).f4.f5, .int .i64 (x).f4.f6, .slice A11 (x).f5.length c11]) [.string (x).f0, .int .i64 (x).f1, .int .i64 (x).f2, .string (x).f3, .int .i64 (x).f4.f0, .int .i64 (x).f4.f1, .int .i64 (x).f4.f2, .string (x).f4.f3, .string (x).f4.f4, .int .i64 (x).f4.f5, .int .i64 (x).f4.f6, .slice A11 (x).f5.length c11] [.string (y).f0, .int .i64 (y).f1, .int .i64 (y).f2, .string (y).f3, .int .i64 (y).f4.f0, .int .i64 (y).f4.f1, .int .i64 (y).f4.f2, .string (y).f4.f3, .string (y).f4.f4, .int .i64 (y).f4.f5, .int .i64 (y).f4.f6, .slice B11 (y).f5.length d11] ok (fun k => ok k ∧ some k ≠ (Value.slice (some ⟨g, 0, none⟩) l.length c).ownBlock) rfl rfl rfl rfl sz56 (by simp [Value.oneCell']) HO.out (by omega) (by have := HIJ.out; have := HJL.out; omega) rfl HYC.out (Nat.le_refl _) HFX.out (fun k hk => ⟨hk.1, fun e => hk.2 (by rw [e]; rfl)⟩) HB.out ?_; intro w6 hn6 hb6 hg6; have HN6 := Aside0.mk hn6; have HB6 := Aside0.mk hb6; have HS6 := Aside0.mk (blk_grown HS.out hg6 (fun e => HGS.out e)); clear hn6 hb6 hg6))
      have wj := WJ.out
      have wi := WI.out
      go_roundg d
      case measure => exact Nat.lt_succ_self _
      case rel => exact ⟨i + 1, j + 1, M.set i x, (by first | rfl | rw [wi]), (by first | rfl | rw [wj]), ⟨by have := HJ.out; omega⟩, ⟨by have := HIJ.out; omega⟩, ⟨by rw [List.length_set]; exact HML.out⟩, H', HS6, HN6, HB6⟩
 ·rw [if_neg cl] at h
  cases h
def tree_Remove.f (k : Nat) (l0 : List (S56)) (a1 : ByteArray) : Option (List (S56) × Int) := (tree_Check.f k l0).bind fun e => if e = 0 then (tree_Find.f k l0 a1).bind fun q => if q.2 = 0 then (tree_Copy.f l0).bind fun o => (tree_Remove.rm k o a1).bind fun r => some (r, 0) else some ([], q.2) else some ([], e)
theorem tree_Remove.mono : ∀ a0 a1 k, LeO (tree_Remove.f k a0 a1) (tree_Remove.f (k + 1) a0 a1) := fun a0 a1 k => by
 unfold tree_Remove.f
 exact LeO.bind (tree_Check.mono _ _) (fun _ => LeO.ite (LeO.bind (tree_Find.mono _ _ _) (fun _ => LeO.ite (LeO.bind (LeO.refl _) (fun _ => LeO.bind (tree_Remove.rm_mono _ _ _) (fun _ => LeO.refl _))) (LeO.refl _))) (LeO.refl _))
set_option maxHeartbeats 8000000 in
set_option maxRecDepth 100000 in
theorem tree_Remove.calls (k : Nat) (A0 : Option Addr) (c0 : Nat) (l0 : List (S56)) (a1 : ByteArray) (r1 : List (S56)) (r2 : Int) (w : World) (hr0 : Kd.C k56 w A0 l0.length l0) (hc0 : l0.length ≤ c0) (h : tree_Remove.f k l0 a1 = some (r1, r2)) :
  Calls Tryd.prog 13 #[.slice A0 l0.length c0, .string a1] w fun e w' => ∃ v0_ : Value, e = .returned (.tuple #[v0_, .int .i64 r2]) ∧ Kd.N k56 56 w' w.heap.size (fun k_ => (w.heap.size ≤ k_)) v0_ r1 ∧ Below w.heap.size w w' := by
 have HR0 := Aside0.mk hr0
 have HC0 := Aside0.mk hc0
 clear hr0 hc0
 unfold tree_Remove.f at h
 obtain ⟨e1, h1, h⟩ := Option.bind_eq_some_iff.1 h
 have H1 := Aside0.mk h1
 clear h1
 by_cases c1 : e1 = 0
 ·subst c1
  rw [if_pos rfl] at h
  obtain ⟨⟨i, e2⟩, h2, h⟩ := Option.bind_eq_some_iff.1 h
  have H2 := Aside0.mk h2
  clear h2
  by_cases c2 : e2 = 0
  ·subst c2
   rw [if_pos rfl] at h
   obtain ⟨o1, h3, h⟩ := Option.bind_eq_some_iff.1 h
   obtain ⟨o2, h4, h⟩ := Option.bind_eq_some_iff.1 h
   obtain ⟨rfl, rfl⟩ := Prod.mk.inj (Option.some.inj h)
   have H3 := Aside0.mk h3
   have H4 := Aside0.mk h4
   clear h h3 h4
   go_enter Tryd.func13, Tryd.ntmps13
   go_wp2_with (first | ((with_reducible refine gate_dst (N := 3) rfl ?_); refine box_event ?hg (N := 3) ?hd (cs := #[.string a1]) (t := 9) ?hr ?_; (case hd => rfl); (case hg => rfl); (case hr => first | (go_simp; done) | (go_simp; rfl)); intro gs hg w2 hbox hb2; have HS := Aside0.mk hbox; have HB := Aside0.mk hb2; clear hg hb2 hbox) | (go_at_call 36; refine (tree_Check.calls k A0 c0 l0 0 _ (Kd.C_below HR0.out HB.out) HC0.out H1.out).mono ?_; rintro e w1 ⟨rfl, hb1⟩; have HX1 := Aside0.mk hb1; have HB9 := Aside0.mk (below_step HB.out HX1.out); have HS9 := Aside0.mk ((HX1.out.block gs (blk_lt HS.out)).trans HS.out); clear HB HS; have HB := HB9; have HS := HS9; clear HB9 HS9; clear hb1; have hs0 := blk_cell HS.out 0) | (go_at_call 37; refine (tree_Find.calls k A0 c0 l0 a1 i 0 _ (Kd.C_below HR0.out HB.out) HC0.out H2.out).mono ?_; rintro e w3 ⟨rfl, hb3⟩; have HX3 := Aside0.mk hb3; have HB9 := Aside0.mk (below_step HB.out HX3.out); have HS9 := Aside0.mk ((HX3.out.block gs (blk_lt HS.out)).trans HS.out); clear HB HS; have HB := HB9; have HS := HS9; clear HB9 HS9; clear hb3 hs0) | (go_at_call 30; refine (tree_Copy.calls A0 c0 l0 o1 _ (Kd.C_below HR0.out HB.out) HC0.out H3.out).mono ?_; rintro e w4 ⟨v4, rfl, hS4, hb4⟩; obtain ⟨A4, c4, rfl⟩ := Kd.S_slice hS4; have HN4 := Aside0.mk (Kd.N_lower (Kd.N_mono (Kd.R_N (Kd.R_mono (Kd.R_bound (Kd.S_R hS4)) (fun k_ hk_ => hk_.2.1))) (fun k_ hk_ => Nat.le_trans (below_size HB.out) hk_)) (below_size HB.out)); have HX4 := Aside0.mk hb4; have HB9 := Aside0.mk (below_step HB.out HX4.out); have HS9 := Aside0.mk ((HX4.out.block gs (blk_lt HS.out)).trans HS.out); clear HB HS; have HB := HB9; have HS := HS9; clear HB9 HS9; clear hb4 hS4) | (go_at_call 38; refine (tree_Remove.cut k A4 c4 o1 a1 gs w.heap.size (fun k_ => w.heap.size ≤ k_) o2 _ HN4.out (below_size HB.out) HS.out H4.out).mono ?_; rintro e w5 ⟨v5, rfl, hN5, hb5⟩; have HN5 := Aside0.mk hN5; have HB5 := Aside0.mk (HB.out.trans hb5); clear hN5 hb5))
   go_ret2
   exact ⟨_, rfl, HN5.out, HB5.out⟩
  ·rw [if_neg c2] at h
   obtain ⟨rfl, rfl⟩ := Prod.mk.inj (Option.some.inj h)
   have c2b : (e2 != 0) = true := bne_iff_ne.mpr c2
   have c2c : (e2 == 0) = false := beq_eq_false_iff_ne.mpr c2
   clear h c2
   go_enter Tryd.func13, Tryd.ntmps13
   go_wp2_with (first | ((with_reducible refine gate_dst (N := 3) rfl ?_); refine box_event ?hg (N := 3) ?hd (cs := #[.string a1]) (t := 9) ?hr ?_; (case hd => rfl); (case hg => rfl); (case hr => first | (go_simp; done) | (go_simp; rfl)); intro gs hg w2 hbox hb2; have HS := Aside0.mk hbox; have HB := Aside0.mk hb2; clear hg hb2 hbox) | (go_at_call 36; refine (tree_Check.calls k A0 c0 l0 0 _ (Kd.C_below HR0.out HB.out) HC0.out H1.out).mono ?_; rintro e w1 ⟨rfl, hb1⟩; have HX1 := Aside0.mk hb1; have HB9 := Aside0.mk (below_step HB.out HX1.out); have HS9 := Aside0.mk ((HX1.out.block gs (blk_lt HS.out)).trans HS.out); clear HB HS; have HB := HB9; have HS := HS9; clear HB9 HS9; clear hb1; have hs0 := blk_cell HS.out 0) | (go_at_call 37; refine (tree_Find.calls k A0 c0 l0 a1 i e2 _ (Kd.C_below HR0.out HB.out) HC0.out H2.out).mono ?_; rintro e w3 ⟨rfl, hb3⟩; have HX3 := Aside0.mk hb3; have HB9 := Aside0.mk (below_step HB.out HX3.out); have HS9 := Aside0.mk ((HX3.out.block gs (blk_lt HS.out)).trans HS.out); clear HB HS; have HB := HB9; have HS := HS9; clear HB9 HS9; clear hb3 hs0))
   go_ret2
   exact ⟨_, rfl, Kd.N_nil _ _ _ _ _, HB.out⟩
 ·rw [if_neg c1] at h
  obtain ⟨rfl, rfl⟩ := Prod.mk.inj (Option.some.inj h)
  have c1b : (e1 != 0) = true := bne_iff_ne.mpr c1
  have c1c : (e1 == 0) = false := beq_eq_false_iff_ne.mpr c1
  clear h c1
  go_enter Tryd.func13, Tryd.ntmps13
  go_wp2_with (first | ((with_reducible refine gate_dst (N := 3) rfl ?_); refine box_event ?hg (N := 3) ?hd (cs := #[.string a1]) (t := 9) ?hr ?_; (case hd => rfl); (case hg => rfl); (case hr => first | (go_simp; done) | (go_simp; rfl)); intro gs hg w2 hbox hb2; have HS := Aside0.mk hbox; have HB := Aside0.mk hb2; clear hg hb2 hbox) | (go_at_call 36; refine (tree_Check.calls k A0 c0 l0 e1 _ (Kd.C_below HR0.out HB.out) HC0.out H1.out).mono ?_; rintro e w1 ⟨rfl, hb1⟩; have HX1 := Aside0.mk hb1; have HB9 := Aside0.mk (below_step HB.out HX1.out); have HS9 := Aside0.mk ((HX1.out.block gs (blk_lt HS.out)).trans HS.out); clear HB HS; have HB := HB9; have HS := HS9; clear HB9 HS9; clear hb1; have hs0 := blk_cell HS.out 0))
  go_ret2
  exact ⟨_, rfl, Kd.N_nil _ _ _ _ _, HB.out⟩


end Go.Proofs.YtlfeijjilndljaaDoor.All
end
