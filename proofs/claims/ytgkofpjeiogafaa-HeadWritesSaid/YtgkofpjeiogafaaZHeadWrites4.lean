/- Made by programs of the prover: walks of Go functions, the words that they use, and plain laws, each text in a section of its own; no condition of its own. -/
import Derived.Deep.Slices
import Derived.SizedLaws
import Derived.ChangeSlices
import Derived.ChangeArms
import Derived.ChangeSame
import Derived.ProofKit
import Derived.Lib.Bytealg
import Derived.Lib.IndexAny
import Derived.Lib.IndexLaws
import Derived.Test.YtgkofpjeiogafaaZHeadWrites1
import Derived.Test.YtgkofpjeiogafaaZHeadWrites2
import Derived.Test.YtgkofpjeiogafaaZHeadWrites3
section
namespace Go.Proofs.Ytgkofpjeiogafaa.All
open Go.RowKit Go.Proofs.YtgkofpjeiogafaaW.PrintWords Go.Proofs.YtgkofpjeiogafaaW.PrintLast Go.Proofs.YtgkofpjeiogafaaW.PrintMore
open Go.Proofs.YtgkofpjeiogafaaW.Mine
attribute [local go_sem] gtr_string leq_string geq_string
attribute [local go_sem] max2_int min2_int max_two min_two max_three min_three max_four min_four   -- for this text's walks alone
set_option linter.unusedVariables false
set_option linter.unusedSimpArgs false

/-! ### creellaw_HeadWrites: function 3 -/
def creellaw_HeadWrites.f (k : Nat) (a0_0 : ByteArray) (a0_1 : ByteArray) (a0_2 : ByteArray) (a0_3 : Int) (a0_4 : Int) (a0_5 : Int) (a0_6 : Int) (a0_7 : Int) (a0_8 : Int) (a0_9 : ByteArray) (a0_10 : ByteArray) : Option (Bool) := (head_Check.f k a0_0 a0_1 a0_2 a0_3 a0_4 a0_5 a0_6 a0_7 a0_8 a0_9 a0_10).bind fun t102 => ((head_Write.f k a0_0 a0_1 a0_2 a0_3 a0_4 a0_5 a0_6 a0_7 a0_8 a0_9 a0_10).bind fun bt103 => ((creelref_HeadText.f k a0_0 a0_1 a0_2 a0_3 a0_4 a0_5 a0_6 a0_7 a0_8 a0_9 a0_10).bind fun bt105 => (if t102 = bt105.2 then (if bt103.1.toList = bt105.1.toList then (some (bt103.2 == bt105.2)) else (some false)) else (some false))))
theorem creellaw_HeadWrites.mono : ∀ a0 a1 a2 a3 a4 a5 a6 a7 a8 a9 a10 k, LeO (creellaw_HeadWrites.f k a0 a1 a2 a3 a4 a5 a6 a7 a8 a9 a10) (creellaw_HeadWrites.f (k + 1) a0 a1 a2 a3 a4 a5 a6 a7 a8 a9 a10) := by
 intro a0 a1 a2 a3 a4 a5 a6 a7 a8 a9 a10 k
 unfold creellaw_HeadWrites.f
 repeat' first
   | (with_reducible exact creelref_HeadText.mono _ _ _ _ _ _ _ _ _ _ _ _)
   | (with_reducible exact head_Check.mono _ _ _ _ _ _ _ _ _ _ _ _)
   | (with_reducible exact head_Write.mono _ _ _ _ _ _ _ _ _ _ _ _)
   | (with_reducible exact LeO.refl _)
   | (with_reducible exact LeO.none _)
   | (with_reducible refine LeO.ite ?_ ?_)
   | (with_reducible refine LeO.bind ?_ (fun _ => ?_))
   | exact creelref_HeadText.mono _ _ _ _ _ _ _ _ _ _ _ _
   | exact head_Check.mono _ _ _ _ _ _ _ _ _ _ _ _
   | exact head_Write.mono _ _ _ _ _ _ _ _ _ _ _ _
   | exact LeO.none _
   | refine LeO.ite ?_ ?_
   | refine LeO.bind ?_ (fun _ => ?_)
set_option maxHeartbeats 8000000 in
set_option maxRecDepth 100000 in
theorem creellaw_HeadWrites.calls (k : Nat) (a0_0 : ByteArray) (a0_1 : ByteArray) (a0_2 : ByteArray) (a0_3 : Int) (a0_4 : Int) (a0_5 : Int) (a0_6 : Int) (a0_7 : Int) (a0_8 : Int) (a0_9 : ByteArray) (a0_10 : ByteArray) (r : Bool) (w : World) (h : creellaw_HeadWrites.f k a0_0 a0_1 a0_2 a0_3 a0_4 a0_5 a0_6 a0_7 a0_8 a0_9 a0_10 = some r) :
  Calls Try.prog 3 #[.agg #[.string a0_0, .string a0_1, .string a0_2, .int .i64 a0_3, .int .i64 a0_4, .int .i64 a0_5, .int .i64 a0_6, .int .i64 a0_7, .int .u8 a0_8, .string a0_9, .string a0_10]] w fun e w' => e = .returned (.bool r) ∧ Below w.heap.size w w' := by
 have hu23 := Try.underlying23
 have HB := Aside0.mk (Below.refl w.heap.size w)
 have H : ((head_Check.f k a0_0 a0_1 a0_2 a0_3 a0_4 a0_5 a0_6 a0_7 a0_8 a0_9 a0_10).bind fun t102 => ((head_Write.f k a0_0 a0_1 a0_2 a0_3 a0_4 a0_5 a0_6 a0_7 a0_8 a0_9 a0_10).bind fun bt103 => ((creelref_HeadText.f k a0_0 a0_1 a0_2 a0_3 a0_4 a0_5 a0_6 a0_7 a0_8 a0_9 a0_10).bind fun bt105 => (if t102 = bt105.2 then (if bt103.1.toList = bt105.1.toList then (some (bt103.2 == bt105.2)) else (some false)) else (some false))))) = some r := h
 clear h
 replace H := Option.bind_eq_some_iff.mp H
 obtain ⟨t102, A20, H⟩ := H
 replace H : ((head_Write.f k a0_0 a0_1 a0_2 a0_3 a0_4 a0_5 a0_6 a0_7 a0_8 a0_9 a0_10).bind fun bt103 => ((creelref_HeadText.f k a0_0 a0_1 a0_2 a0_3 a0_4 a0_5 a0_6 a0_7 a0_8 a0_9 a0_10).bind fun bt105 => (if t102 = bt105.2 then (if bt103.1.toList = bt105.1.toList then (some (bt103.2 == bt105.2)) else (some false)) else (some false)))) = some r := H
 have A2 := Aside0.mk A20
 clear A20
 replace H := Option.bind_eq_some_iff.mp H
 obtain ⟨⟨t103, t104⟩, A30, H⟩ := H
 replace H : ((creelref_HeadText.f k a0_0 a0_1 a0_2 a0_3 a0_4 a0_5 a0_6 a0_7 a0_8 a0_9 a0_10).bind fun bt105 => (if t102 = bt105.2 then (if t103.toList = bt105.1.toList then (some (t104 == bt105.2)) else (some false)) else (some false))) = some r := H
 have A3 := Aside0.mk A30
 clear A30
 replace H := Option.bind_eq_some_iff.mp H
 obtain ⟨⟨t105, t106⟩, A40, H⟩ := H
 replace H : (if t102 = t106 then (if t103.toList = t105.toList then (some (t104 == t106)) else (some false)) else (some false)) = some r := H
 have A4 := Aside0.mk A40
 clear A40
 by_cases c5 : t102 = t106
 ·rw [if_pos c5] at H
  have c5b0 : (t102 == t106) = true := beq_iff_eq.mpr c5
  have c5b1 : (t102 != t106) = false := bne_eq_false_iff_eq.mpr c5
  clear c5
  by_cases c6 : t103.toList = t105.toList
  ·rw [if_pos c6] at H
   have c6b0 : (t103.toList == t105.toList) = true := beq_iff_eq.mpr c6
   have c6b1 : (t103.toList != t105.toList) = false := bne_eq_false_iff_eq.mpr c6
   clear c6
   obtain rfl := Option.some.inj H
   go_enter Try.func3, Try.ntmps3
   go_wp2_with (first | ((with_reducible refine gate_dst (N := 1) rfl ?_); refine box_event ?hg (N := 1) ?hd (cs := #[.string a0_0, .string a0_1, .string a0_2, .int .i64 a0_3, .int .i64 a0_4, .int .i64 a0_5, .int .i64 a0_6, .int .i64 a0_7, .int .u8 a0_8, .string a0_9, .string a0_10]) (t := 23) ?hr ?_; (case hd => rfl); (case hg => rfl); (case hr => first | (go_simp; done) | (go_simp; rfl)); intro gb101 hg w7 hbox hb; have n0_ := Aside0.mk (below_step (by repeat (first | (with_reducible first | exact HB.out | apply below_alloc | apply pw_below_drewN | apply below_drew1) | exact HB.out)) hb); have n1_ := Aside0.mk (hbox); have n2_ := Aside0.mk ((by rw [hg]; exact (below_size (by repeat (first | (with_reducible first | exact HB.out | apply below_alloc | apply pw_below_drewN | apply below_drew1) | exact HB.out))) : w.heap.size ≤ gb101)); have n3_ := Aside0.mk ((by rw [hg]; exact (below_size (by repeat (first | (with_reducible first | exact HB.out | apply below_alloc | apply pw_below_drewN | apply below_drew1) | exact HB.out))) : w.heap.size ≤ gb101)); clear HB; have HB := n0_; have BK101 := n1_; have GW101 := n2_; have GE101 := n3_; clear n0_ n1_ n2_ n3_; clear hb hbox hg; have hcz8_0 : w7.cell? ⟨gb101, 0, none⟩ = some (.string a0_0) := (blk_cell BK101.out 0).trans rfl; have hcz8_1 : w7.cell? ⟨gb101, 1, none⟩ = some (.string a0_1) := (blk_cell BK101.out 1).trans rfl; have hcz8_2 : w7.cell? ⟨gb101, 2, none⟩ = some (.string a0_2) := (blk_cell BK101.out 2).trans rfl; have hcz8_3 : w7.cell? ⟨gb101, 3, none⟩ = some (.int .i64 a0_3) := (blk_cell BK101.out 3).trans rfl; have hcz8_4 : w7.cell? ⟨gb101, 4, none⟩ = some (.int .i64 a0_4) := (blk_cell BK101.out 4).trans rfl; have hcz8_5 : w7.cell? ⟨gb101, 5, none⟩ = some (.int .i64 a0_5) := (blk_cell BK101.out 5).trans rfl; have hcz8_6 : w7.cell? ⟨gb101, 6, none⟩ = some (.int .i64 a0_6) := (blk_cell BK101.out 6).trans rfl; have hcz8_7 : w7.cell? ⟨gb101, 7, none⟩ = some (.int .i64 a0_7) := (blk_cell BK101.out 7).trans rfl; have hcz8_8 : w7.cell? ⟨gb101, 8, none⟩ = some (.int .u8 a0_8) := (blk_cell BK101.out 8).trans rfl; have hcz8_9 : w7.cell? ⟨gb101, 9, none⟩ = some (.string a0_9) := (blk_cell BK101.out 9).trans rfl; have hcz8_10 : w7.cell? ⟨gb101, 10, none⟩ = some (.string a0_10) := (blk_cell BK101.out 10).trans rfl; have hfz8_0 := blk_frozen BK101.out 0; have hfz8_1 := blk_frozen BK101.out 1; have hfz8_2 := blk_frozen BK101.out 2; have hfz8_3 := blk_frozen BK101.out 3; have hfz8_4 := blk_frozen BK101.out 4; have hfz8_5 := blk_frozen BK101.out 5; have hfz8_6 := blk_frozen BK101.out 6; have hfz8_7 := blk_frozen BK101.out 7; have hfz8_8 := blk_frozen BK101.out 8; have hfz8_9 := blk_frozen BK101.out 9; have hfz8_10 := blk_frozen BK101.out 10) | ((with_reducible refine gate_callee (f := 4) rfl ?_); refine goesL_ (some 9) rfl rfl Try.func4 (by kernel_rfl) rfl #[.agg #[.string a0_0, .string a0_1, .string a0_2, .int .i64 a0_3, .int .i64 a0_4, .int .i64 a0_5, .int .i64 a0_6, .int .i64 a0_7, .int .u8 a0_8, .string a0_9, .string a0_10]] rfl (by (try simp only [List.map_toArray, List.map_cons, List.map_nil]); first | done | rfl | (simp only [List.length_drop, List.length_take]; rfl)) ?_; (with_reducible refine (head_Check.calls k a0_0 a0_1 a0_2 a0_3 a0_4 a0_5 a0_6 a0_7 a0_8 a0_9 a0_10 t102 _ A2.out).mono ?_); rintro e w9 ⟨rfl, hb⟩; refine ⟨_, rfl, ?_⟩; have n0_ := Aside0.mk (blk_below (g := gb101) (o := .cells #[.string a0_0, .string a0_1, .string a0_2, .int .i64 a0_3, .int .i64 a0_4, .int .i64 a0_5, .int .i64 a0_6, .int .i64 a0_7, .int .u8 a0_8, .string a0_9, .string a0_10] 23 (0, 0)) (by (with_reducible repeat (first | refine blk_drewN ?_ _ | refine blk_drew ?_ | refine blk_alloc ?_ _)); exact BK101.out) hb); have n1_ := Aside0.mk (below_step (by repeat (first | (with_reducible first | exact HB.out | apply below_alloc | apply pw_below_drewN | apply below_drew1 | refine below_set ?_ GE101.out) | exact HB.out)) hb); clear BK101; clear HB; have BK101 := n0_; have HB := n1_; clear n0_ n1_; (try clear hb); (try clear hb2); (try clear hk); (try clear hi); have hcz10_0 : w9.cell? ⟨gb101, 0, none⟩ = some (.string a0_0) := (blk_cell BK101.out 0).trans rfl; have hcz10_1 : w9.cell? ⟨gb101, 1, none⟩ = some (.string a0_1) := (blk_cell BK101.out 1).trans rfl; have hcz10_2 : w9.cell? ⟨gb101, 2, none⟩ = some (.string a0_2) := (blk_cell BK101.out 2).trans rfl; have hcz10_3 : w9.cell? ⟨gb101, 3, none⟩ = some (.int .i64 a0_3) := (blk_cell BK101.out 3).trans rfl; have hcz10_4 : w9.cell? ⟨gb101, 4, none⟩ = some (.int .i64 a0_4) := (blk_cell BK101.out 4).trans rfl; have hcz10_5 : w9.cell? ⟨gb101, 5, none⟩ = some (.int .i64 a0_5) := (blk_cell BK101.out 5).trans rfl; have hcz10_6 : w9.cell? ⟨gb101, 6, none⟩ = some (.int .i64 a0_6) := (blk_cell BK101.out 6).trans rfl; have hcz10_7 : w9.cell? ⟨gb101, 7, none⟩ = some (.int .i64 a0_7) := (blk_cell BK101.out 7).trans rfl; have hcz10_8 : w9.cell? ⟨gb101, 8, none⟩ = some (.int .u8 a0_8) := (blk_cell BK101.out 8).trans rfl; have hcz10_9 : w9.cell? ⟨gb101, 9, none⟩ = some (.string a0_9) := (blk_cell BK101.out 9).trans rfl; have hcz10_10 : w9.cell? ⟨gb101, 10, none⟩ = some (.string a0_10) := (blk_cell BK101.out 10).trans rfl; have hfz10_0 := blk_frozen BK101.out 0; have hfz10_1 := blk_frozen BK101.out 1; have hfz10_2 := blk_frozen BK101.out 2; have hfz10_3 := blk_frozen BK101.out 3; have hfz10_4 := blk_frozen BK101.out 4; have hfz10_5 := blk_frozen BK101.out 5; have hfz10_6 := blk_frozen BK101.out 6; have hfz10_7 := blk_frozen BK101.out 7; have hfz10_8 := blk_frozen BK101.out 8; have hfz10_9 := blk_frozen BK101.out 9; have hfz10_10 := blk_frozen BK101.out 10) | ((with_reducible refine gate_callee (f := 5) rfl ?_); refine goesL_ (some 12) rfl rfl Try.func5 (by kernel_rfl) rfl #[.agg #[.string a0_0, .string a0_1, .string a0_2, .int .i64 a0_3, .int .i64 a0_4, .int .i64 a0_5, .int .i64 a0_6, .int .i64 a0_7, .int .u8 a0_8, .string a0_9, .string a0_10]] rfl (by (try simp only [List.map_toArray, List.map_cons, List.map_nil]); first | done | rfl | (simp only [List.length_drop, List.length_take]; rfl)) ?_; (with_reducible refine (head_Write.calls k a0_0 a0_1 a0_2 a0_3 a0_4 a0_5 a0_6 a0_7 a0_8 a0_9 a0_10 t103 t104 _ A3.out).mono ?_); rintro e w11 ⟨rfl, hb⟩; refine ⟨_, rfl, ?_⟩; have n0_ := Aside0.mk (blk_below (g := gb101) (o := .cells #[.string a0_0, .string a0_1, .string a0_2, .int .i64 a0_3, .int .i64 a0_4, .int .i64 a0_5, .int .i64 a0_6, .int .i64 a0_7, .int .u8 a0_8, .string a0_9, .string a0_10] 23 (0, 0)) (by (with_reducible repeat (first | refine blk_drewN ?_ _ | refine blk_drew ?_ | refine blk_alloc ?_ _)); exact BK101.out) hb); have n1_ := Aside0.mk (below_step (by repeat (first | (with_reducible first | exact HB.out | apply below_alloc | apply pw_below_drewN | apply below_drew1 | refine below_set ?_ GE101.out) | exact HB.out)) hb); clear BK101; clear HB; have BK101 := n0_; have HB := n1_; clear n0_ n1_; (try clear hb); (try clear hb2); (try clear hk); (try clear hi); have hcz12_0 : w11.cell? ⟨gb101, 0, none⟩ = some (.string a0_0) := (blk_cell BK101.out 0).trans rfl; have hcz12_1 : w11.cell? ⟨gb101, 1, none⟩ = some (.string a0_1) := (blk_cell BK101.out 1).trans rfl; have hcz12_2 : w11.cell? ⟨gb101, 2, none⟩ = some (.string a0_2) := (blk_cell BK101.out 2).trans rfl; have hcz12_3 : w11.cell? ⟨gb101, 3, none⟩ = some (.int .i64 a0_3) := (blk_cell BK101.out 3).trans rfl; have hcz12_4 : w11.cell? ⟨gb101, 4, none⟩ = some (.int .i64 a0_4) := (blk_cell BK101.out 4).trans rfl; have hcz12_5 : w11.cell? ⟨gb101, 5, none⟩ = some (.int .i64 a0_5) := (blk_cell BK101.out 5).trans rfl; have hcz12_6 : w11.cell? ⟨gb101, 6, none⟩ = some (.int .i64 a0_6) := (blk_cell BK101.out 6).trans rfl; have hcz12_7 : w11.cell? ⟨gb101, 7, none⟩ = some (.int .i64 a0_7) := (blk_cell BK101.out 7).trans rfl; have hcz12_8 : w11.cell? ⟨gb101, 8, none⟩ = some (.int .u8 a0_8) := (blk_cell BK101.out 8).trans rfl; have hcz12_9 : w11.cell? ⟨gb101, 9, none⟩ = some (.string a0_9) := (blk_cell BK101.out 9).trans rfl; have hcz12_10 : w11.cell? ⟨gb101, 10, none⟩ = some (.string a0_10) := (blk_cell BK101.out 10).trans rfl; have hfz12_0 := blk_frozen BK101.out 0; have hfz12_1 := blk_frozen BK101.out 1; have hfz12_2 := blk_frozen BK101.out 2; have hfz12_3 := blk_frozen BK101.out 3; have hfz12_4 := blk_frozen BK101.out 4; have hfz12_5 := blk_frozen BK101.out 5; have hfz12_6 := blk_frozen BK101.out 6; have hfz12_7 := blk_frozen BK101.out 7; have hfz12_8 := blk_frozen BK101.out 8; have hfz12_9 := blk_frozen BK101.out 9; have hfz12_10 := blk_frozen BK101.out 10) | ((with_reducible refine gate_callee (f := 6) rfl ?_); refine goesL_ (some 17) rfl rfl Try.func6 (by kernel_rfl) rfl #[.agg #[.string a0_0, .string a0_1, .string a0_2, .int .i64 a0_3, .int .i64 a0_4, .int .i64 a0_5, .int .i64 a0_6, .int .i64 a0_7, .int .u8 a0_8, .string a0_9, .string a0_10]] rfl (by (try simp only [List.map_toArray, List.map_cons, List.map_nil]); first | done | rfl | (simp only [List.length_drop, List.length_take]; rfl)) ?_; (with_reducible refine (creelref_HeadText.calls k a0_0 a0_1 a0_2 a0_3 a0_4 a0_5 a0_6 a0_7 a0_8 a0_9 a0_10 t105 t106 _ A4.out).mono ?_); rintro e w13 ⟨rfl, hb⟩; refine ⟨_, rfl, ?_⟩; have n0_ := Aside0.mk (blk_below (g := gb101) (o := .cells #[.string a0_0, .string a0_1, .string a0_2, .int .i64 a0_3, .int .i64 a0_4, .int .i64 a0_5, .int .i64 a0_6, .int .i64 a0_7, .int .u8 a0_8, .string a0_9, .string a0_10] 23 (0, 0)) (by (with_reducible repeat (first | refine blk_drewN ?_ _ | refine blk_drew ?_ | refine blk_alloc ?_ _)); exact BK101.out) hb); have n1_ := Aside0.mk (below_step (by repeat (first | (with_reducible first | exact HB.out | apply below_alloc | apply pw_below_drewN | apply below_drew1 | refine below_set ?_ GE101.out) | exact HB.out)) hb); clear BK101; clear HB; have BK101 := n0_; have HB := n1_; clear n0_ n1_; (try clear hb); (try clear hb2); (try clear hk); (try clear hi)))
   go_ret
   exact ⟨by first | rfl | (simp [errW_none, errW_some] <;> rfl) | (simp [*, errW_none, errW_some] <;> rfl), by repeat (first | (with_reducible first | exact HB.out | apply below_alloc | apply pw_below_drewN | apply below_drew1 | refine below_set ?_ GE101.out) | exact HB.out)⟩
  ·rw [if_neg c6] at H
   have c6b0 : (t103.toList == t105.toList) = false := beq_eq_false_iff_ne.mpr c6
   have c6b1 : (t103.toList != t105.toList) = true := bne_iff_ne.mpr c6
   obtain rfl := Option.some.inj H
   go_enter Try.func3, Try.ntmps3
   go_wp2_with (first | ((with_reducible refine gate_dst (N := 1) rfl ?_); refine box_event ?hg (N := 1) ?hd (cs := #[.string a0_0, .string a0_1, .string a0_2, .int .i64 a0_3, .int .i64 a0_4, .int .i64 a0_5, .int .i64 a0_6, .int .i64 a0_7, .int .u8 a0_8, .string a0_9, .string a0_10]) (t := 23) ?hr ?_; (case hd => rfl); (case hg => rfl); (case hr => first | (go_simp; done) | (go_simp; rfl)); intro gb101 hg w14 hbox hb; have n0_ := Aside0.mk (below_step (by repeat (first | (with_reducible first | exact HB.out | apply below_alloc | apply pw_below_drewN | apply below_drew1) | exact HB.out)) hb); have n1_ := Aside0.mk (hbox); have n2_ := Aside0.mk ((by rw [hg]; exact (below_size (by repeat (first | (with_reducible first | exact HB.out | apply below_alloc | apply pw_below_drewN | apply below_drew1) | exact HB.out))) : w.heap.size ≤ gb101)); have n3_ := Aside0.mk ((by rw [hg]; exact (below_size (by repeat (first | (with_reducible first | exact HB.out | apply below_alloc | apply pw_below_drewN | apply below_drew1) | exact HB.out))) : w.heap.size ≤ gb101)); clear HB; have HB := n0_; have BK101 := n1_; have GW101 := n2_; have GE101 := n3_; clear n0_ n1_ n2_ n3_; clear hb hbox hg; have hcz15_0 : w14.cell? ⟨gb101, 0, none⟩ = some (.string a0_0) := (blk_cell BK101.out 0).trans rfl; have hcz15_1 : w14.cell? ⟨gb101, 1, none⟩ = some (.string a0_1) := (blk_cell BK101.out 1).trans rfl; have hcz15_2 : w14.cell? ⟨gb101, 2, none⟩ = some (.string a0_2) := (blk_cell BK101.out 2).trans rfl; have hcz15_3 : w14.cell? ⟨gb101, 3, none⟩ = some (.int .i64 a0_3) := (blk_cell BK101.out 3).trans rfl; have hcz15_4 : w14.cell? ⟨gb101, 4, none⟩ = some (.int .i64 a0_4) := (blk_cell BK101.out 4).trans rfl; have hcz15_5 : w14.cell? ⟨gb101, 5, none⟩ = some (.int .i64 a0_5) := (blk_cell BK101.out 5).trans rfl; have hcz15_6 : w14.cell? ⟨gb101, 6, none⟩ = some (.int .i64 a0_6) := (blk_cell BK101.out 6).trans rfl; have hcz15_7 : w14.cell? ⟨gb101, 7, none⟩ = some (.int .i64 a0_7) := (blk_cell BK101.out 7).trans rfl; have hcz15_8 : w14.cell? ⟨gb101, 8, none⟩ = some (.int .u8 a0_8) := (blk_cell BK101.out 8).trans rfl; have hcz15_9 : w14.cell? ⟨gb101, 9, none⟩ = some (.string a0_9) := (blk_cell BK101.out 9).trans rfl; have hcz15_10 : w14.cell? ⟨gb101, 10, none⟩ = some (.string a0_10) := (blk_cell BK101.out 10).trans rfl; have hfz15_0 := blk_frozen BK101.out 0; have hfz15_1 := blk_frozen BK101.out 1; have hfz15_2 := blk_frozen BK101.out 2; have hfz15_3 := blk_frozen BK101.out 3; have hfz15_4 := blk_frozen BK101.out 4; have hfz15_5 := blk_frozen BK101.out 5; have hfz15_6 := blk_frozen BK101.out 6; have hfz15_7 := blk_frozen BK101.out 7; have hfz15_8 := blk_frozen BK101.out 8; have hfz15_9 := blk_frozen BK101.out 9; have hfz15_10 := blk_frozen BK101.out 10) | ((with_reducible refine gate_callee (f := 4) rfl ?_); refine goesL_ (some 9) rfl rfl Try.func4 (by kernel_rfl) rfl #[.agg #[.string a0_0, .string a0_1, .string a0_2, .int .i64 a0_3, .int .i64 a0_4, .int .i64 a0_5, .int .i64 a0_6, .int .i64 a0_7, .int .u8 a0_8, .string a0_9, .string a0_10]] rfl (by (try simp only [List.map_toArray, List.map_cons, List.map_nil]); first | done | rfl | (simp only [List.length_drop, List.length_take]; rfl)) ?_; (with_reducible refine (head_Check.calls k a0_0 a0_1 a0_2 a0_3 a0_4 a0_5 a0_6 a0_7 a0_8 a0_9 a0_10 t102 _ A2.out).mono ?_); rintro e w16 ⟨rfl, hb⟩; refine ⟨_, rfl, ?_⟩; have n0_ := Aside0.mk (blk_below (g := gb101) (o := .cells #[.string a0_0, .string a0_1, .string a0_2, .int .i64 a0_3, .int .i64 a0_4, .int .i64 a0_5, .int .i64 a0_6, .int .i64 a0_7, .int .u8 a0_8, .string a0_9, .string a0_10] 23 (0, 0)) (by (with_reducible repeat (first | refine blk_drewN ?_ _ | refine blk_drew ?_ | refine blk_alloc ?_ _)); exact BK101.out) hb); have n1_ := Aside0.mk (below_step (by repeat (first | (with_reducible first | exact HB.out | apply below_alloc | apply pw_below_drewN | apply below_drew1 | refine below_set ?_ GE101.out) | exact HB.out)) hb); clear BK101; clear HB; have BK101 := n0_; have HB := n1_; clear n0_ n1_; (try clear hb); (try clear hb2); (try clear hk); (try clear hi); have hcz17_0 : w16.cell? ⟨gb101, 0, none⟩ = some (.string a0_0) := (blk_cell BK101.out 0).trans rfl; have hcz17_1 : w16.cell? ⟨gb101, 1, none⟩ = some (.string a0_1) := (blk_cell BK101.out 1).trans rfl; have hcz17_2 : w16.cell? ⟨gb101, 2, none⟩ = some (.string a0_2) := (blk_cell BK101.out 2).trans rfl; have hcz17_3 : w16.cell? ⟨gb101, 3, none⟩ = some (.int .i64 a0_3) := (blk_cell BK101.out 3).trans rfl; have hcz17_4 : w16.cell? ⟨gb101, 4, none⟩ = some (.int .i64 a0_4) := (blk_cell BK101.out 4).trans rfl; have hcz17_5 : w16.cell? ⟨gb101, 5, none⟩ = some (.int .i64 a0_5) := (blk_cell BK101.out 5).trans rfl; have hcz17_6 : w16.cell? ⟨gb101, 6, none⟩ = some (.int .i64 a0_6) := (blk_cell BK101.out 6).trans rfl; have hcz17_7 : w16.cell? ⟨gb101, 7, none⟩ = some (.int .i64 a0_7) := (blk_cell BK101.out 7).trans rfl; have hcz17_8 : w16.cell? ⟨gb101, 8, none⟩ = some (.int .u8 a0_8) := (blk_cell BK101.out 8).trans rfl; have hcz17_9 : w16.cell? ⟨gb101, 9, none⟩ = some (.string a0_9) := (blk_cell BK101.out 9).trans rfl; have hcz17_10 : w16.cell? ⟨gb101, 10, none⟩ = some (.string a0_10) := (blk_cell BK101.out 10).trans rfl; have hfz17_0 := blk_frozen BK101.out 0; have hfz17_1 := blk_frozen BK101.out 1; have hfz17_2 := blk_frozen BK101.out 2; have hfz17_3 := blk_frozen BK101.out 3; have hfz17_4 := blk_frozen BK101.out 4; have hfz17_5 := blk_frozen BK101.out 5; have hfz17_6 := blk_frozen BK101.out 6; have hfz17_7 := blk_frozen BK101.out 7; have hfz17_8 := blk_frozen BK101.out 8; have hfz17_9 := blk_frozen BK101.out 9; have hfz17_10 := blk_frozen BK101.out 10) | ((with_reducible refine gate_callee (f := 5) rfl ?_); refine goesL_ (some 12) rfl rfl Try.func5 (by kernel_rfl) rfl #[.agg #[.string a0_0, .string a0_1, .string a0_2, .int .i64 a0_3, .int .i64 a0_4, .int .i64 a0_5, .int .i64 a0_6, .int .i64 a0_7, .int .u8 a0_8, .string a0_9, .string a0_10]] rfl (by (try simp only [List.map_toArray, List.map_cons, List.map_nil]); first | done | rfl | (simp only [List.length_drop, List.length_take]; rfl)) ?_; (with_reducible refine (head_Write.calls k a0_0 a0_1 a0_2 a0_3 a0_4 a0_5 a0_6 a0_7 a0_8 a0_9 a0_10 t103 t104 _ A3.out).mono ?_); rintro e w18 ⟨rfl, hb⟩; refine ⟨_, rfl, ?_⟩; have n0_ := Aside0.mk (blk_below (g := gb101) (o := .cells #[.string a0_0, .string a0_1, .string a0_2, .int .i64 a0_3, .int .i64 a0_4, .int .i64 a0_5, .int .i64 a0_6, .int .i64 a0_7, .int .u8 a0_8, .string a0_9, .string a0_10] 23 (0, 0)) (by (with_reducible repeat (first | refine blk_drewN ?_ _ | refine blk_drew ?_ | refine blk_alloc ?_ _)); exact BK101.out) hb); have n1_ := Aside0.mk (below_step (by repeat (first | (with_reducible first | exact HB.out | apply below_alloc | apply pw_below_drewN | apply below_drew1 | refine below_set ?_ GE101.out) | exact HB.out)) hb); clear BK101; clear HB; have BK101 := n0_; have HB := n1_; clear n0_ n1_; (try clear hb); (try clear hb2); (try clear hk); (try clear hi); have hcz19_0 : w18.cell? ⟨gb101, 0, none⟩ = some (.string a0_0) := (blk_cell BK101.out 0).trans rfl; have hcz19_1 : w18.cell? ⟨gb101, 1, none⟩ = some (.string a0_1) := (blk_cell BK101.out 1).trans rfl; have hcz19_2 : w18.cell? ⟨gb101, 2, none⟩ = some (.string a0_2) := (blk_cell BK101.out 2).trans rfl; have hcz19_3 : w18.cell? ⟨gb101, 3, none⟩ = some (.int .i64 a0_3) := (blk_cell BK101.out 3).trans rfl; have hcz19_4 : w18.cell? ⟨gb101, 4, none⟩ = some (.int .i64 a0_4) := (blk_cell BK101.out 4).trans rfl; have hcz19_5 : w18.cell? ⟨gb101, 5, none⟩ = some (.int .i64 a0_5) := (blk_cell BK101.out 5).trans rfl; have hcz19_6 : w18.cell? ⟨gb101, 6, none⟩ = some (.int .i64 a0_6) := (blk_cell BK101.out 6).trans rfl; have hcz19_7 : w18.cell? ⟨gb101, 7, none⟩ = some (.int .i64 a0_7) := (blk_cell BK101.out 7).trans rfl; have hcz19_8 : w18.cell? ⟨gb101, 8, none⟩ = some (.int .u8 a0_8) := (blk_cell BK101.out 8).trans rfl; have hcz19_9 : w18.cell? ⟨gb101, 9, none⟩ = some (.string a0_9) := (blk_cell BK101.out 9).trans rfl; have hcz19_10 : w18.cell? ⟨gb101, 10, none⟩ = some (.string a0_10) := (blk_cell BK101.out 10).trans rfl; have hfz19_0 := blk_frozen BK101.out 0; have hfz19_1 := blk_frozen BK101.out 1; have hfz19_2 := blk_frozen BK101.out 2; have hfz19_3 := blk_frozen BK101.out 3; have hfz19_4 := blk_frozen BK101.out 4; have hfz19_5 := blk_frozen BK101.out 5; have hfz19_6 := blk_frozen BK101.out 6; have hfz19_7 := blk_frozen BK101.out 7; have hfz19_8 := blk_frozen BK101.out 8; have hfz19_9 := blk_frozen BK101.out 9; have hfz19_10 := blk_frozen BK101.out 10) | ((with_reducible refine gate_callee (f := 6) rfl ?_); refine goesL_ (some 17) rfl rfl Try.func6 (by kernel_rfl) rfl #[.agg #[.string a0_0, .string a0_1, .string a0_2, .int .i64 a0_3, .int .i64 a0_4, .int .i64 a0_5, .int .i64 a0_6, .int .i64 a0_7, .int .u8 a0_8, .string a0_9, .string a0_10]] rfl (by (try simp only [List.map_toArray, List.map_cons, List.map_nil]); first | done | rfl | (simp only [List.length_drop, List.length_take]; rfl)) ?_; (with_reducible refine (creelref_HeadText.calls k a0_0 a0_1 a0_2 a0_3 a0_4 a0_5 a0_6 a0_7 a0_8 a0_9 a0_10 t105 t106 _ A4.out).mono ?_); rintro e w20 ⟨rfl, hb⟩; refine ⟨_, rfl, ?_⟩; have n0_ := Aside0.mk (blk_below (g := gb101) (o := .cells #[.string a0_0, .string a0_1, .string a0_2, .int .i64 a0_3, .int .i64 a0_4, .int .i64 a0_5, .int .i64 a0_6, .int .i64 a0_7, .int .u8 a0_8, .string a0_9, .string a0_10] 23 (0, 0)) (by (with_reducible repeat (first | refine blk_drewN ?_ _ | refine blk_drew ?_ | refine blk_alloc ?_ _)); exact BK101.out) hb); have n1_ := Aside0.mk (below_step (by repeat (first | (with_reducible first | exact HB.out | apply below_alloc | apply pw_below_drewN | apply below_drew1 | refine below_set ?_ GE101.out) | exact HB.out)) hb); clear BK101; clear HB; have BK101 := n0_; have HB := n1_; clear n0_ n1_; (try clear hb); (try clear hb2); (try clear hk); (try clear hi)))
   go_ret
   exact ⟨by first | rfl | (simp [errW_none, errW_some] <;> rfl) | (simp [*, errW_none, errW_some] <;> rfl), by repeat (first | (with_reducible first | exact HB.out | apply below_alloc | apply pw_below_drewN | apply below_drew1 | refine below_set ?_ GE101.out) | exact HB.out)⟩
 ·rw [if_neg c5] at H
  have c5b0 : (t102 == t106) = false := beq_eq_false_iff_ne.mpr c5
  have c5b1 : (t102 != t106) = true := bne_iff_ne.mpr c5
  obtain rfl := Option.some.inj H
  go_enter Try.func3, Try.ntmps3
  go_wp2_with (first | ((with_reducible refine gate_dst (N := 1) rfl ?_); refine box_event ?hg (N := 1) ?hd (cs := #[.string a0_0, .string a0_1, .string a0_2, .int .i64 a0_3, .int .i64 a0_4, .int .i64 a0_5, .int .i64 a0_6, .int .i64 a0_7, .int .u8 a0_8, .string a0_9, .string a0_10]) (t := 23) ?hr ?_; (case hd => rfl); (case hg => rfl); (case hr => first | (go_simp; done) | (go_simp; rfl)); intro gb101 hg w21 hbox hb; have n0_ := Aside0.mk (below_step (by repeat (first | (with_reducible first | exact HB.out | apply below_alloc | apply pw_below_drewN | apply below_drew1) | exact HB.out)) hb); have n1_ := Aside0.mk (hbox); have n2_ := Aside0.mk ((by rw [hg]; exact (below_size (by repeat (first | (with_reducible first | exact HB.out | apply below_alloc | apply pw_below_drewN | apply below_drew1) | exact HB.out))) : w.heap.size ≤ gb101)); have n3_ := Aside0.mk ((by rw [hg]; exact (below_size (by repeat (first | (with_reducible first | exact HB.out | apply below_alloc | apply pw_below_drewN | apply below_drew1) | exact HB.out))) : w.heap.size ≤ gb101)); clear HB; have HB := n0_; have BK101 := n1_; have GW101 := n2_; have GE101 := n3_; clear n0_ n1_ n2_ n3_; clear hb hbox hg; have hcz22_0 : w21.cell? ⟨gb101, 0, none⟩ = some (.string a0_0) := (blk_cell BK101.out 0).trans rfl; have hcz22_1 : w21.cell? ⟨gb101, 1, none⟩ = some (.string a0_1) := (blk_cell BK101.out 1).trans rfl; have hcz22_2 : w21.cell? ⟨gb101, 2, none⟩ = some (.string a0_2) := (blk_cell BK101.out 2).trans rfl; have hcz22_3 : w21.cell? ⟨gb101, 3, none⟩ = some (.int .i64 a0_3) := (blk_cell BK101.out 3).trans rfl; have hcz22_4 : w21.cell? ⟨gb101, 4, none⟩ = some (.int .i64 a0_4) := (blk_cell BK101.out 4).trans rfl; have hcz22_5 : w21.cell? ⟨gb101, 5, none⟩ = some (.int .i64 a0_5) := (blk_cell BK101.out 5).trans rfl; have hcz22_6 : w21.cell? ⟨gb101, 6, none⟩ = some (.int .i64 a0_6) := (blk_cell BK101.out 6).trans rfl; have hcz22_7 : w21.cell? ⟨gb101, 7, none⟩ = some (.int .i64 a0_7) := (blk_cell BK101.out 7).trans rfl; have hcz22_8 : w21.cell? ⟨gb101, 8, none⟩ = some (.int .u8 a0_8) := (blk_cell BK101.out 8).trans rfl; have hcz22_9 : w21.cell? ⟨gb101, 9, none⟩ = some (.string a0_9) := (blk_cell BK101.out 9).trans rfl; have hcz22_10 : w21.cell? ⟨gb101, 10, none⟩ = some (.string a0_10) := (blk_cell BK101.out 10).trans rfl; have hfz22_0 := blk_frozen BK101.out 0; have hfz22_1 := blk_frozen BK101.out 1; have hfz22_2 := blk_frozen BK101.out 2; have hfz22_3 := blk_frozen BK101.out 3; have hfz22_4 := blk_frozen BK101.out 4; have hfz22_5 := blk_frozen BK101.out 5; have hfz22_6 := blk_frozen BK101.out 6; have hfz22_7 := blk_frozen BK101.out 7; have hfz22_8 := blk_frozen BK101.out 8; have hfz22_9 := blk_frozen BK101.out 9; have hfz22_10 := blk_frozen BK101.out 10) | ((with_reducible refine gate_callee (f := 4) rfl ?_); refine goesL_ (some 9) rfl rfl Try.func4 (by kernel_rfl) rfl #[.agg #[.string a0_0, .string a0_1, .string a0_2, .int .i64 a0_3, .int .i64 a0_4, .int .i64 a0_5, .int .i64 a0_6, .int .i64 a0_7, .int .u8 a0_8, .string a0_9, .string a0_10]] rfl (by (try simp only [List.map_toArray, List.map_cons, List.map_nil]); first | done | rfl | (simp only [List.length_drop, List.length_take]; rfl)) ?_; (with_reducible refine (head_Check.calls k a0_0 a0_1 a0_2 a0_3 a0_4 a0_5 a0_6 a0_7 a0_8 a0_9 a0_10 t102 _ A2.out).mono ?_); rintro e w23 ⟨rfl, hb⟩; refine ⟨_, rfl, ?_⟩; have n0_ := Aside0.mk (blk_below (g := gb101) (o := .cells #[.string a0_0, .string a0_1, .string a0_2, .int .i64 a0_3, .int .i64 a0_4, .int .i64 a0_5, .int .i64 a0_6, .int .i64 a0_7, .int .u8 a0_8, .string a0_9, .string a0_10] 23 (0, 0)) (by (with_reducible repeat (first | refine blk_drewN ?_ _ | refine blk_drew ?_ | refine blk_alloc ?_ _)); exact BK101.out) hb); have n1_ := Aside0.mk (below_step (by repeat (first | (with_reducible first | exact HB.out | apply below_alloc | apply pw_below_drewN | apply below_drew1 | refine below_set ?_ GE101.out) | exact HB.out)) hb); clear BK101; clear HB; have BK101 := n0_; have HB := n1_; clear n0_ n1_; (try clear hb); (try clear hb2); (try clear hk); (try clear hi); have hcz24_0 : w23.cell? ⟨gb101, 0, none⟩ = some (.string a0_0) := (blk_cell BK101.out 0).trans rfl; have hcz24_1 : w23.cell? ⟨gb101, 1, none⟩ = some (.string a0_1) := (blk_cell BK101.out 1).trans rfl; have hcz24_2 : w23.cell? ⟨gb101, 2, none⟩ = some (.string a0_2) := (blk_cell BK101.out 2).trans rfl; have hcz24_3 : w23.cell? ⟨gb101, 3, none⟩ = some (.int .i64 a0_3) := (blk_cell BK101.out 3).trans rfl; have hcz24_4 : w23.cell? ⟨gb101, 4, none⟩ = some (.int .i64 a0_4) := (blk_cell BK101.out 4).trans rfl; have hcz24_5 : w23.cell? ⟨gb101, 5, none⟩ = some (.int .i64 a0_5) := (blk_cell BK101.out 5).trans rfl; have hcz24_6 : w23.cell? ⟨gb101, 6, none⟩ = some (.int .i64 a0_6) := (blk_cell BK101.out 6).trans rfl; have hcz24_7 : w23.cell? ⟨gb101, 7, none⟩ = some (.int .i64 a0_7) := (blk_cell BK101.out 7).trans rfl; have hcz24_8 : w23.cell? ⟨gb101, 8, none⟩ = some (.int .u8 a0_8) := (blk_cell BK101.out 8).trans rfl; have hcz24_9 : w23.cell? ⟨gb101, 9, none⟩ = some (.string a0_9) := (blk_cell BK101.out 9).trans rfl; have hcz24_10 : w23.cell? ⟨gb101, 10, none⟩ = some (.string a0_10) := (blk_cell BK101.out 10).trans rfl; have hfz24_0 := blk_frozen BK101.out 0; have hfz24_1 := blk_frozen BK101.out 1; have hfz24_2 := blk_frozen BK101.out 2; have hfz24_3 := blk_frozen BK101.out 3; have hfz24_4 := blk_frozen BK101.out 4; have hfz24_5 := blk_frozen BK101.out 5; have hfz24_6 := blk_frozen BK101.out 6; have hfz24_7 := blk_frozen BK101.out 7; have hfz24_8 := blk_frozen BK101.out 8; have hfz24_9 := blk_frozen BK101.out 9; have hfz24_10 := blk_frozen BK101.out 10) | ((with_reducible refine gate_callee (f := 5) rfl ?_); refine goesL_ (some 12) rfl rfl Try.func5 (by kernel_rfl) rfl #[.agg #[.string a0_0, .string a0_1, .string a0_2, .int .i64 a0_3, .int .i64 a0_4, .int .i64 a0_5, .int .i64 a0_6, .int .i64 a0_7, .int .u8 a0_8, .string a0_9, .string a0_10]] rfl (by (try simp only [List.map_toArray, List.map_cons, List.map_nil]); first | done | rfl | (simp only [List.length_drop, List.length_take]; rfl)) ?_; (with_reducible refine (head_Write.calls k a0_0 a0_1 a0_2 a0_3 a0_4 a0_5 a0_6 a0_7 a0_8 a0_9 a0_10 t103 t104 _ A3.out).mono ?_); rintro e w25 ⟨rfl, hb⟩; refine ⟨_, rfl, ?_⟩; have n0_ := Aside0.mk (blk_below (g := gb101) (o := .cells #[.string a0_0, .string a0_1, .string a0_2, .int .i64 a0_3, .int .i64 a0_4, .int .i64 a0_5, .int .i64 a0_6, .int .i64 a0_7, .int .u8 a0_8, .string a0_9, .string a0_10] 23 (0, 0)) (by (with_reducible repeat (first | refine blk_drewN ?_ _ | refine blk_drew ?_ | refine blk_alloc ?_ _)); exact BK101.out) hb); have n1_ := Aside0.mk (below_step (by repeat (first | (with_reducible first | exact HB.out | apply below_alloc | apply pw_below_drewN | apply below_drew1 | refine below_set ?_ GE101.out) | exact HB.out)) hb); clear BK101; clear HB; have BK101 := n0_; have HB := n1_; clear n0_ n1_; (try clear hb); (try clear hb2); (try clear hk); (try clear hi); have hcz26_0 : w25.cell? ⟨gb101, 0, none⟩ = some (.string a0_0) := (blk_cell BK101.out 0).trans rfl; have hcz26_1 : w25.cell? ⟨gb101, 1, none⟩ = some (.string a0_1) := (blk_cell BK101.out 1).trans rfl; have hcz26_2 : w25.cell? ⟨gb101, 2, none⟩ = some (.string a0_2) := (blk_cell BK101.out 2).trans rfl; have hcz26_3 : w25.cell? ⟨gb101, 3, none⟩ = some (.int .i64 a0_3) := (blk_cell BK101.out 3).trans rfl; have hcz26_4 : w25.cell? ⟨gb101, 4, none⟩ = some (.int .i64 a0_4) := (blk_cell BK101.out 4).trans rfl; have hcz26_5 : w25.cell? ⟨gb101, 5, none⟩ = some (.int .i64 a0_5) := (blk_cell BK101.out 5).trans rfl; have hcz26_6 : w25.cell? ⟨gb101, 6, none⟩ = some (.int .i64 a0_6) := (blk_cell BK101.out 6).trans rfl; have hcz26_7 : w25.cell? ⟨gb101, 7, none⟩ = some (.int .i64 a0_7) := (blk_cell BK101.out 7).trans rfl; have hcz26_8 : w25.cell? ⟨gb101, 8, none⟩ = some (.int .u8 a0_8) := (blk_cell BK101.out 8).trans rfl; have hcz26_9 : w25.cell? ⟨gb101, 9, none⟩ = some (.string a0_9) := (blk_cell BK101.out 9).trans rfl; have hcz26_10 : w25.cell? ⟨gb101, 10, none⟩ = some (.string a0_10) := (blk_cell BK101.out 10).trans rfl; have hfz26_0 := blk_frozen BK101.out 0; have hfz26_1 := blk_frozen BK101.out 1; have hfz26_2 := blk_frozen BK101.out 2; have hfz26_3 := blk_frozen BK101.out 3; have hfz26_4 := blk_frozen BK101.out 4; have hfz26_5 := blk_frozen BK101.out 5; have hfz26_6 := blk_frozen BK101.out 6; have hfz26_7 := blk_frozen BK101.out 7; have hfz26_8 := blk_frozen BK101.out 8; have hfz26_9 := blk_frozen BK101.out 9; have hfz26_10 := blk_frozen BK101.out 10) | ((with_reducible refine gate_callee (f := 6) rfl ?_); refine goesL_ (some 17) rfl rfl Try.func6 (by kernel_rfl) rfl #[.agg #[.string a0_0, .string a0_1, .string a0_2, .int .i64 a0_3, .int .i64 a0_4, .int .i64 a0_5, .int .i64 a0_6, .int .i64 a0_7, .int .u8 a0_8, .string a0_9, .string a0_10]] rfl (by (try simp only [List.map_toArray, List.map_cons, List.map_nil]); first | done | rfl | (simp only [List.length_drop, List.length_take]; rfl)) ?_; (with_reducible refine (creelref_HeadText.calls k a0_0 a0_1 a0_2 a0_3 a0_4 a0_5 a0_6 a0_7 a0_8 a0_9 a0_10 t105 t106 _ A4.out).mono ?_); rintro e w27 ⟨rfl, hb⟩; refine ⟨_, rfl, ?_⟩; have n0_ := Aside0.mk (blk_below (g := gb101) (o := .cells #[.string a0_0, .string a0_1, .string a0_2, .int .i64 a0_3, .int .i64 a0_4, .int .i64 a0_5, .int .i64 a0_6, .int .i64 a0_7, .int .u8 a0_8, .string a0_9, .string a0_10] 23 (0, 0)) (by (with_reducible repeat (first | refine blk_drewN ?_ _ | refine blk_drew ?_ | refine blk_alloc ?_ _)); exact BK101.out) hb); have n1_ := Aside0.mk (below_step (by repeat (first | (with_reducible first | exact HB.out | apply below_alloc | apply pw_below_drewN | apply below_drew1 | refine below_set ?_ GE101.out) | exact HB.out)) hb); clear BK101; clear HB; have BK101 := n0_; have HB := n1_; clear n0_ n1_; (try clear hb); (try clear hb2); (try clear hk); (try clear hi)))
  go_ret
  exact ⟨by first | rfl | (simp [errW_none, errW_some] <;> rfl) | (simp [*, errW_none, errW_some] <;> rfl), by repeat (first | (with_reducible first | exact HB.out | apply below_alloc | apply pw_below_drewN | apply below_drew1 | refine below_set ?_ GE101.out) | exact HB.out)⟩

end Go.Proofs.Ytgkofpjeiogafaa.All
end
section
namespace Go.Proofs.YtgkofpjeiogafaaW.Opens
open Go.RowKit Go.ChangeShapes Go.WideShapes Go.Proofs.YtgkofpjeiogafaaW.PrintWords

/-- Whatever reads as a datum of type t is a y of kind d, and good. -/
def Opens {α : Type} (P : Program) (t : TypeId) (d : Kd α) (g : α → Prop) : Prop :=
  ∀ (H : Type) (enc : TypeId × Value → H) (w : World) (fuel : Nat) (cs : List Value) (x : DataW H × List MemPlace),
    DataW.trod enc P w 0 (fun _ => true) true fuel t cs = some x → (∀ n ∈ x.1.weights P t, n ≤ reachBytes) → ∃ y, d.K w y cs ∧ g y

theorem opens_int {P : Program} {t : TypeId} {k : IntKind} (ht : P.underlying t = some (.int k)) : Opens P t (Kd.int k) (fun a => (Lit.int k a).wf = true) := by
  intro H enc w fuel cs x h _
  obtain ⟨a, e, _, wa⟩ := DataW.trod_int ht h
  exact ⟨a, e, wa⟩
theorem opens_string {P : Program} {t : TypeId} (ht : P.underlying t = some .string) : Opens P t Kd.string (fun s => s.size ≤ 140737488351232) := by
  intro H enc w fuel cs x h hw
  obtain ⟨a, e, hx, _⟩ := DataW.trod_string ht h
  refine ⟨a, e, ?_⟩
  have := hw a.data.toList.length (by rw [hx]; simp [DataW.weights])
  rw [Array.length_toList] at this
  exact this

/-- The fields of a struct, from one of them on. -/
def OpensF {α : Type} (P : Program) (fs : List Field) (off : Nat) (d : Kd α) (g : α → Prop) : Prop :=
  ∀ (H : Type) (enc : TypeId × Value → H) (w : World) (n : Nat) (cs : List Value) (xs : List (DataW H × List MemPlace)),
    cs.length = off + d.sz → xs.length = fs.length → (∀ (i : Nat) (f : Field), fs[i]? = some f → DataW.trod enc P w 0 (fun _ => true) true n f.type ((cs.drop f.offset).take (P.cellsOf f.type)) = xs[i]?) →
    (∀ m ∈ DataW.weightsEach P (fs.map (·.type)) (xs.map (·.1)), m ≤ reachBytes) → ∃ y, d.K w y (cs.drop off) ∧ g y

theorem opensF_one {α : Type} {P : Program} {f : Field} {off : Nat} {d : Kd α} {g : α → Prop} (hoff : f.offset = off) (hc : P.cellsOf f.type = d.sz) (ho : Opens P f.type d g) : OpensF P [f] off d g := by
  intro H enc w n cs xs hl hx hf hw
  match xs, hx with
  | [x], _ =>
    have h := hf 0 f rfl
    rw [hoff, hc, List.take_of_length_le (by rw [List.length_drop]; omega)] at h
    exact ho H enc w n (cs.drop off) x h (fun m hm => hw m (by simp only [List.map_cons, List.map_nil, DataW.weightsEach, List.append_nil]; exact hm))

theorem opensF_cons {α β : Type} {P : Program} {f : Field} {fs : List Field} {off off2 : Nat} {d1 : Kd α} {d2 : Kd β} {g1 : α → Prop} {g2 : β → Prop} (hoff : f.offset = off) (hc : P.cellsOf f.type = d1.sz) (ho : Opens P f.type d1 g1)
    (h2 : off + d1.sz = off2) (hr : OpensF P fs off2 d2 g2) : OpensF P (f :: fs) off (Kd.pair d1 d2) (fun p => g1 p.1 ∧ g2 p.2) := by
  intro H enc w n cs xs hl hx hf hw
  match xs, hx with
  | x :: xs, hx =>
    subst h2
    have hl' : cs.length = off + (d1.sz + d2.sz) := hl
    have h := hf 0 f rfl
    rw [hoff, hc] at h
    obtain ⟨y1, k1, q1⟩ := ho H enc w n _ x h (fun m hm => hw m (by simp only [List.map_cons, DataW.weightsEach, List.mem_append]; exact .inl hm))
    obtain ⟨y2, k2, q2⟩ := hr H enc w n cs xs (by omega) (by simpa using hx) (fun i f' hi => by simpa using hf (i + 1) f' (by simpa using hi)) (fun m hm => hw m (by simp only [List.map_cons, DataW.weightsEach, List.mem_append]; exact .inr hm))
    refine ⟨(y1, y2), ⟨_, _, ?_, k1, k2⟩, q1, q2⟩
    rw [← List.drop_drop, List.take_append_drop]

theorem opens_struct {α : Type} {P : Program} {t : TypeId} {fs : Array Field} {d : Kd α} {g : α → Prop} (ht : P.underlying t = some (.struct fs)) (hc : P.cellsOf t = d.sz) (hF : OpensF P fs.toList 0 d g) : Opens P t d g := by
  intro H enc w fuel cs x h hw
  obtain ⟨xs, n, _, rfl, hl, hlen, hf⟩ := DataW.trod_struct ht h
  have := hF H enc w n cs xs (by omega) (by simpa using hlen) (fun i f hi => hf i f (by simpa using hi)) (fun m hm => hw m (by simpa only [DataW.weights, ht] using hm))
  simpa using this

theorem opens_iso {α β : Type} {P : Program} {t : TypeId} {d : Kd α} {g : α → Prop} {f : β → α} (inv : α → β) (hinv : ∀ y, f (inv y) = y) (ho : Opens P t d g) : Opens P t (Kd.iso d f) (fun x => g (f x)) := by
  intro H enc w fuel cs x h hw
  obtain ⟨y, hK, hg⟩ := ho H enc w fuel cs x h hw
  exact ⟨inv y, by show d.K w (f (inv y)) cs; rw [hinv]; exact hK, by show g (f (inv y)); rw [hinv]; exact hg⟩

/-- At a row's place. -/
theorem opens_at {α : Type} {P : Program} {t : TypeId} {d : Kd α} {g : α → Prop} (ho : Opens P t d g) {H : Type} {enc : TypeId × Value → H} {w : World} {v : Value} {x : DataW H} {ps : List MemPlace} {ts : List TypeId} {ds : List (DataW H)} {j : Nat}
    (hsz : (DataW.weightsEach P ts ds).all (· ≤ reachBytes) = true) (ht : ts[j]? = some t) (hd : ds[j]? = some x) (h : DataW.Trod enc P w 0 (fun _ => true) true t v x ps) : ∃ y, d.K w y v.cells.toList ∧ g y := by
  obtain ⟨fuel, hf⟩ := h
  exact ho H enc w fuel _ (x, ps) hf (fun n hn => by simpa using List.all_eq_true.1 hsz n (DataW.weights_mem_each ht hd n hn))
end Go.Proofs.YtgkofpjeiogafaaW.Opens
end
section
namespace Go.Proofs.Ytgkofpjeiogafaa.GHeadWrites
open Go.RowKit Go.Proofs.Ytgkofpjeiogafaa.All Go.Proofs.YtgkofpjeiogafaaW.PrintWords Go.Proofs.YtgkofpjeiogafaaW.PrintLast Go.Proofs.YtgkofpjeiogafaaW.Opens
set_option linter.unusedVariables false
def good23 (x : S23) : Prop := (x.f0.size ≤ 140737488351232) ∧ (x.f1.size ≤ 140737488351232) ∧ (x.f2.size ≤ 140737488351232) ∧ ((Lit.int .i64 x.f3).wf = true) ∧ ((Lit.int .i64 x.f4).wf = true) ∧ ((Lit.int .i64 x.f5).wf = true) ∧ ((Lit.int .i64 x.f6).wf = true) ∧ ((Lit.int .i64 x.f7).wf = true) ∧ ((Lit.int .u8 x.f8).wf = true) ∧ (x.f9.size ≤ 140737488351232) ∧ (x.f10.size ≤ 140737488351232)
theorem opens23 : Opens Try.prog 23 k23 good23 := opens_iso (f := (fun x : S23 => (x.f0, x.f1, x.f2, x.f3, x.f4, x.f5, x.f6, x.f7, x.f8, x.f9, x.f10))) (fun p => ⟨p.1, p.2.1, p.2.2.1, p.2.2.2.1, p.2.2.2.2.1, p.2.2.2.2.2.1, p.2.2.2.2.2.2.1, p.2.2.2.2.2.2.2.1, p.2.2.2.2.2.2.2.2.1, p.2.2.2.2.2.2.2.2.2.1, p.2.2.2.2.2.2.2.2.2.2⟩) (fun _ => rfl) (opens_struct Try.underlying23 (by kernel_rfl) (opensF_cons (off2 := 1) rfl (by kernel_rfl) (opens_string Try.underlying9) rfl (opensF_cons (off2 := 2) rfl (by kernel_rfl) (opens_string Try.underlying9) rfl (opensF_cons (off2 := 3) rfl (by kernel_rfl) (opens_string Try.underlying9) rfl (opensF_cons (off2 := 4) rfl (by kernel_rfl) (opens_int Try.underlying3) rfl (opensF_cons (off2 := 5) rfl (by kernel_rfl) (opens_int Try.underlying3) rfl (opensF_cons (off2 := 6) rfl (by kernel_rfl) (opens_int Try.underlying3) rfl (opensF_cons (off2 := 7) rfl (by kernel_rfl) (opens_int Try.underlying3) rfl (opensF_cons (off2 := 8) rfl (by kernel_rfl) (opens_int Try.underlying3) rfl (opensF_cons (off2 := 9) rfl (by kernel_rfl) (opens_int Try.underlying5) rfl (opensF_cons (off2 := 10) rfl (by kernel_rfl) (opens_string Try.underlying9) rfl (opensF_one rfl (by kernel_rfl) (opens_string Try.underlying9)))))))))))))

/-- What is to be proved of the plain functions. -/
def Pure : Prop := ∀ (a0 : S23), (good23 a0) → ∃ k, creellaw_HeadWrites.f k a0.f0 a0.f1 a0.f2 a0.f3 a0.f4 a0.f5 a0.f6 a0.f7 a0.f8 a0.f9 a0.f10 = some true
theorem walk (P : Pure) (a0 : S23) (w : World) (g0 : good23 a0)  :
    Calls Try.prog 3 #[.agg #[.string a0.f0, .string a0.f1, .string a0.f2, .int .i64 a0.f3, .int .i64 a0.f4, .int .i64 a0.f5, .int .i64 a0.f6, .int .i64 a0.f7, .int .u8 a0.f8, .string a0.f9, .string a0.f10]] w fun e w' => e = .returned (.bool true) ∧ Below w.heap.size w w' := by
  obtain ⟨k, h⟩ := P a0 g0
  refine (creellaw_HeadWrites.calls k a0.f0 a0.f1 a0.f2 a0.f3 a0.f4 a0.f5 a0.f6 a0.f7 a0.f8 a0.f9 a0.f10 true w h).mono ?_
  rintro e w' ⟨rfl, hd⟩
  exact ⟨rfl, hd⟩
end Go.Proofs.Ytgkofpjeiogafaa.GHeadWrites
end
section
namespace Go.Proofs.YtgkofpjeiogafaaW.PureBase
open Go.RowKit Go.Proofs.YtgkofpjeiogafaaW.PrintWords

theorem wrap_is {x : Int} (h0 : -9223372036854775808 ≤ x) (h : x ≤ 9223372036854775807) : wrap64 x = x := by unfold wrap64; omega
/-- The byte at a place, as a list's. -/
theorem bt_get (s : ByteArray) (i : Nat) (h : i < s.size) : bt s i = ((s.data.toList[i]'(by simpa using h)).toNat : Int) := by
  unfold bt
  rw [dif_pos (by simpa using h)]
  simp
  rfl
theorem bt_eq_iff (s : ByteArray) (i : Nat) (h : i < s.size) (c : Int) (c0 : 0 ≤ c) (c1 : c ≤ 255) : bt s i = c ↔ s.data.toList[i]? = some c.toNat.toUInt8 := by
  rw [bt_get s i h, List.getElem?_eq_getElem (by simpa using h)]
  simp only [Option.some.injEq]
  constructor
  · intro e
    rw [← e]
    simp
  · intro e
    rw [e]
    simp
    omega
theorem of_list (s : ByteArray) : (⟨s.data.toList.toArray⟩ : ByteArray) = s := by simp
theorem ext_list {s t : ByteArray} (h : s.data.toList = t.data.toList) : s = t := by
  rw [← of_list s, ← of_list t, h]
/-- Is a byte among a string's bytes? -/
theorem mem_bt (s : ByteArray) (c : Int) (c0 : 0 ≤ c) (c1 : c ≤ 255) : (∃ j : Int, 0 ≤ j ∧ j < s.size ∧ bt s j = c) ↔ s.data.toList.contains c.toNat.toUInt8 = true := by
  rw [List.contains_iff_mem]
  constructor
  · rintro ⟨j, h0, h1, h2⟩
    obtain ⟨i, rfl⟩ := Int.eq_ofNat_of_zero_le h0
    have := (bt_eq_iff s i (by omega) c c0 c1).1 h2
    exact List.mem_of_getElem? this
  · intro h
    obtain ⟨i, hi, he⟩ := List.mem_iff_getElem.1 h
    have hs : i < s.size := by simpa using hi
    refine ⟨i, by omega, by omega, ?_⟩
    rw [bt_eq_iff s i hs c c0 c1, List.getElem?_eq_getElem hi, he]

theorem index_ge (l : List UInt8) (c : UInt8) : decide (Lib.indexByte l c ≥ 0) = l.contains c := by
  rw [Lib.contains_iff_indexByte]

theorem Ev.const {α : Type} {o : Option α} {r : α} (h : o = some r) : Ev (fun _ => o) r := ⟨0, fun _ _ => h⟩
theorem Ev.ifp {α : Type} {c : Prop} [Decidable c] {g f : Nat → Option α} {r : α} (hc : c) (h : Ev g r) : Ev (fun k => if c then g k else f k) r := by
  obtain ⟨K, hk⟩ := h
  exact ⟨K, fun k h => (if_pos hc).trans (hk k h)⟩
theorem Ev.ifn {α : Type} {c : Prop} [Decidable c] {g f : Nat → Option α} {r : α} (hc : ¬ c) (h : Ev f r) : Ev (fun k => if c then g k else f k) r := by
  obtain ⟨K, hk⟩ := h
  exact ⟨K, fun k h => (if_neg hc).trans (hk k h)⟩
end Go.Proofs.YtgkofpjeiogafaaW.PureBase
end
section
namespace Go.Proofs.Ytgkofpjeiogafaa.Q
set_option linter.unusedVariables false
set_option linter.unusedSimpArgs false
open Go.RowKit Go.Proofs.Ytgkofpjeiogafaa.All Go.Proofs.YtgkofpjeiogafaaW.PrintWords Go.Proofs.YtgkofpjeiogafaaW.PrintLast Go.Proofs.YtgkofpjeiogafaaW.PrintMore Go.Proofs.YtgkofpjeiogafaaW.PureBase

-- FN creelref_has
theorem has_from (s : ByteArray) (c : Int) (hb : s.size ≤ 140737488351232) (d : Nat) : ∀ (k : Nat) (i : Int), 0 ≤ i → i ≤ s.size → (s.size : Int) - i = d → d < k →
    ∃ b, creelref_has.l0 k s c i = some b ∧ (b = true ↔ ∃ j : Int, i ≤ j ∧ j < s.size ∧ bt s j = c) := by
  induction d with
  | zero =>
    intro k i h0 h1 hd hk
    obtain ⟨k, rfl⟩ : ∃ m, k = m + 1 := ⟨k - 1, by omega⟩
    refine ⟨false, ?_, ?_⟩
    · simp only [creelref_has.l0]; rw [if_neg (by omega)]
    · constructor
      · intro h; cases h
      · rintro ⟨j, h1, h2, _⟩; omega
  | succ d ih =>
    intro k i h0 h1 hd hk
    obtain ⟨k, rfl⟩ : ∃ m, k = m + 1 := ⟨k - 1, by omega⟩
    have hlt : i < (s.size : Int) := by omega
    have hw : wrap64 (i + 1) = i + 1 := by unfold wrap64; omega
    by_cases e : bt s i = c
    · refine ⟨true, ?_, ?_⟩
      · simp only [creelref_has.l0]; rw [if_pos hlt, if_pos h0, if_pos e]
      · exact ⟨fun _ => ⟨i, by omega, hlt, e⟩, fun _ => rfl⟩
    · obtain ⟨b, hb1, hb2⟩ := ih k (i + 1) (by omega) (by omega) (by omega) (by omega)
      refine ⟨b, ?_, ?_⟩
      · simp only [creelref_has.l0]; rw [if_pos hlt, if_pos h0, hw, if_neg e]; exact hb1
      · rw [hb2]
        constructor
        · rintro ⟨j, h1, h2, h3⟩; exact ⟨j, by omega, h2, h3⟩
        · rintro ⟨j, h1, h2, h3⟩
          have : j ≠ i := by rintro rfl; exact e h3
          exact ⟨j, by omega, h2, h3⟩
theorem has_ev (s : ByteArray) (c : Int) (c0 : 0 ≤ c) (c1 : c ≤ 255) (hb : s.size ≤ 140737488351232) : Ev (fun k => creelref_has.f k s c) (s.data.toList.contains c.toNat.toUInt8) := by
  refine ⟨s.size + 1, fun k hk => ?_⟩
  obtain ⟨b, h1, h2⟩ := has_from s c hb s.size k 0 (by omega) (by omega) (by omega) (by omega)
  show creelref_has.l0 k s c 0 = _
  rw [h1]
  congr 1
  rw [Bool.eq_iff_iff, h2]
  exact mem_bt s c c0 c1
end Go.Proofs.Ytgkofpjeiogafaa.Q
end
section
namespace Go.Proofs.Ytgkofpjeiogafaa.Q
set_option linter.unusedVariables false
set_option linter.unusedSimpArgs false
open Go.RowKit Go.Proofs.Ytgkofpjeiogafaa.All Go.Proofs.YtgkofpjeiogafaaW.PrintWords Go.Proofs.YtgkofpjeiogafaaW.PrintLast Go.Proofs.YtgkofpjeiogafaaW.PrintMore Go.Proofs.YtgkofpjeiogafaaW.PureBase

-- FN creelref_zeros
/-- So many bytes 0. -/
def zs (n : Nat) : ByteArray := ⟨(List.replicate n (0 : UInt8)).toArray⟩
theorem zs_size (n : Nat) : (zs n).size = n := by simp [zs, ByteArray.size]
theorem zs_snoc (n : Nat) : zs n ++ (⟨#[0]⟩ : ByteArray) = zs (n + 1) := by
  apply ext_list
  simp [zs, List.replicate_succ']
theorem zeros_loop (d : Nat) : ∀ (k : Nat) (n i : Nat), n - i = d → i ≤ n → n ≤ 140737488355328 → d < k → creelref_zeros.l0 k (n : Int) (zs i) (i : Int) = some (zs n) := by
  induction d with
  | zero =>
    intro k n i hd hi hn hk
    obtain ⟨k, rfl⟩ : ∃ m, k = m + 1 := ⟨k - 1, by omega⟩
    simp only [creelref_zeros.l0]
    rw [if_neg (by omega), show i = n from by omega]
  | succ d ih =>
    intro k n i hd hi hn hk
    obtain ⟨k, rfl⟩ : ∃ m, k = m + 1 := ⟨k - 1, by omega⟩
    simp only [creelref_zeros.l0]
    have hw : wrap64 ((i : Int) + 1) = ((i + 1 : Nat) : Int) := by rw [wrap_is (by omega) (by omega)]; omega
    rw [if_pos (by omega), if_pos (by rw [zs_size]; omega), zs_snoc, hw]
    exact ih k n (i + 1) (by omega) (by omega) hn (by omega)
theorem zeros_is (n k : Nat) (hn : n ≤ 140737488355328) (hk : n < k) : creelref_zeros.f k (n : Int) = some (zs n) := by
  unfold creelref_zeros.f
  exact zeros_loop n k n 0 (by omega) (by omega) hn hk
end Go.Proofs.Ytgkofpjeiogafaa.Q
end
section
namespace Go.Proofs.Ytgkofpjeiogafaa.Q
set_option linter.unusedVariables false
set_option linter.unusedSimpArgs false
open Go.RowKit Go.Proofs.Ytgkofpjeiogafaa.All Go.Proofs.YtgkofpjeiogafaaW.PrintWords Go.Proofs.YtgkofpjeiogafaaW.PrintLast Go.Proofs.YtgkofpjeiogafaaW.PrintMore Go.Proofs.YtgkofpjeiogafaaW.PureBase

-- USES Has Zeros
-- FN field_Write creelref_FieldText strings_IndexByte strings_Repeat
theorem idx0w (t : ByteArray) : (Lib.indexByte t.data.toList ((0 : Int).toNat.toUInt8) ≥ 0) ↔ t.data.toList.contains 0 = true := by
  have := index_ge t.data.toList ((0 : Int).toNat.toUInt8)
  rw [← decide_eq_true_iff (p := Lib.indexByte t.data.toList ((0 : Int).toNat.toUInt8) ≥ 0), this]; rfl
theorem rep_zero (n : Nat) : Lib.repeatL [(0 : UInt8)] n = List.replicate n 0 := by
  induction n with
  | zero => rfl
  | succ n ih => rw [List.replicate_succ, ← ih]; rfl
theorem rep_is (n : Nat) (hn : n ≤ 512) : strings_Repeat.f (⟨#[0]⟩ : ByteArray) (n : Int) = some (zs n) := by
  unfold strings_Repeat.f
  rw [if_pos (by
    refine ⟨by omega, by omega, ?_⟩
    have : ((⟨#[0]⟩ : ByteArray)).size = 1 := rfl
    rw [this]; omega)]
  have : Lib.repeatL (⟨#[0]⟩ : ByteArray).data.toList (n : Int).toNat = List.replicate n 0 := rep_zero n
  rw [this]; rfl
def fieldR (s : ByteArray) (w : Int) (b : Bool) : ByteArray × Int :=
  if w < 1 ∨ 512 < w then (⟨#[]⟩, 4) else if (s.size : Int) > w ∨ (b = false ∧ (s.size : Int) = w) then (⟨#[]⟩, 1) else if s.data.toList.contains 0 = true then (⟨#[]⟩, 3) else (s ++ zs (w - s.size).toNat, 0)
theorem write_j1 (k : Nat) (s : ByteArray) (w m : Int) (b : Bool) (h1 : 1 ≤ w) (h2 : w ≤ 512) (hm : (s.size : Int) > m ↔ ((s.size : Int) > w ∨ (b = false ∧ (s.size : Int) = w))) : field_Write.j1 (k + 1) s w m = some (fieldR s w b) := by
  unfold fieldR
  simp only [field_Write.j1]
  rw [if_neg (show ¬ (w < 1 ∨ 512 < w) by omega)]
  by_cases c : (s.size : Int) > m
  · rw [if_pos c, if_pos (hm.1 c)]
  · have c' := fun h => c (hm.2 h)
    have hle : ¬ (s.size : Int) > w := fun h => c' (Or.inl h)
    rw [if_neg c, if_neg c']
    simp only [strings_IndexByte.f, Option.bind_some]
    by_cases z : s.data.toList.contains 0 = true
    · rw [if_pos ((idx0w s).2 z), if_pos z]
    · rw [if_neg (fun h => z ((idx0w s).1 h)), if_neg z]
      obtain ⟨n, hn⟩ : ∃ n : Nat, w - (s.size : Int) = (n : Int) := ⟨(w - (s.size : Int)).toNat, by omega⟩
      rw [hn, wrap_is (by omega) (by omega), rep_is n (by omega)]
      simp only [Option.bind_some]
      rw [if_pos (by rw [zs_size]; omega)]
      rfl
theorem write_is (s : ByteArray) (w : Int) (b : Bool) (k : Nat) (hk : 3 < k) : field_Write.f k s w b = some (fieldR s w b) := by
  obtain ⟨k, rfl⟩ : ∃ m, k = m + 2 := ⟨k - 2, by omega⟩
  unfold field_Write.f
  by_cases h1 : w < 1
  · rw [if_pos h1]
    simp only [field_Write.j0, if_true]
    unfold fieldR
    rw [if_pos (Or.inl h1)]
  · rw [if_neg h1]
    simp only [field_Write.j0]
    by_cases h2 : w > 512
    · rw [decide_eq_true h2, if_pos rfl]
      unfold fieldR
      rw [if_pos (Or.inr h2)]
    · rw [decide_eq_false h2, if_neg (show ¬ (false = true) by simp)]
      cases b with
      | true =>
        rw [if_pos rfl]
        exact write_j1 k s w w true (by omega) (by omega) (by simp)
      | false =>
        rw [if_neg (show ¬ (false = true) by simp), wrap_is (by omega) (by omega)]
        refine write_j1 k s w (w - 1) false (by omega) (by omega) ⟨fun h => ?_, fun h => ?_⟩
        · have : (s.size : Int) > w ∨ (s.size : Int) = w := by omega
          exact this.imp id (fun e => ⟨rfl, e⟩)
        · rcases h with h | ⟨_, h⟩ <;> omega
theorem text_j1 (k : Nat) (s : ByteArray) (w : Int) (x b : Bool) (hk : 600 < k) (h1 : 1 ≤ w) (h2 : w ≤ 512) (hh : creelref_has.f k s 0 = some (s.data.toList.contains 0)) (hx : x = true ↔ ((s.size : Int) > w ∨ (b = false ∧ (s.size : Int) = w))) : creelref_FieldText.j1 (k + 1) s w x = some (fieldR s w b) := by
  unfold fieldR
  simp only [creelref_FieldText.j1]
  rw [if_neg (show ¬ (w < 1 ∨ 512 < w) by omega)]
  by_cases c : x = true
  · rw [if_pos c, if_pos (hx.1 c)]
  · have c' := fun h => c (hx.2 h)
    have hle : ¬ (s.size : Int) > w := fun h => c' (Or.inl h)
    rw [if_neg c, if_neg c', hh]
    simp only [Option.bind_some]
    by_cases z : s.data.toList.contains 0 = true
    · rw [if_pos z, if_pos z]
    · rw [if_neg z, if_neg z]
      obtain ⟨n, hn⟩ : ∃ n : Nat, w - (s.size : Int) = (n : Int) := ⟨(w - (s.size : Int)).toNat, by omega⟩
      rw [hn, wrap_is (by omega) (by omega), zeros_is n k (by omega) (by omega)]
      simp only [Option.bind_some]
      rw [if_pos (by rw [zs_size]; omega)]
      rfl
theorem text_is (s : ByteArray) (w : Int) (b : Bool) (k : Nat) (hk : 700 < k) (hh : ∀ q, k ≤ q + 5 → creelref_has.f q s 0 = some (s.data.toList.contains 0)) : creelref_FieldText.f k s w b = some (fieldR s w b) := by
  obtain ⟨k, rfl⟩ : ∃ m, k = m + 2 := ⟨k - 2, by omega⟩
  have hh := hh k (by omega)
  unfold creelref_FieldText.f
  by_cases h1 : w < 1
  · rw [if_pos h1]
    simp only [creelref_FieldText.j0, if_true]
    unfold fieldR
    rw [if_pos (Or.inl h1)]
  · rw [if_neg h1]
    simp only [creelref_FieldText.j0]
    by_cases h2 : w > 512
    · rw [decide_eq_true h2, if_pos rfl]
      unfold fieldR
      rw [if_pos (Or.inr h2)]
    · rw [decide_eq_false h2, if_neg (show ¬ (false = true) by simp)]
      by_cases g : (s.size : Int) > w
      · rw [if_pos g]
        exact text_j1 k s w true b (by omega) (by omega) (by omega) hh ⟨fun _ => Or.inl g, fun _ => rfl⟩
      · rw [if_neg g]
        cases b with
        | true =>
          rw [if_pos rfl]
          exact text_j1 k s w false true (by omega) (by omega) (by omega) hh (by simp; omega)
        | false =>
          rw [if_neg (show ¬ (false = true) by simp)]
          refine text_j1 k s w _ false (by omega) (by omega) (by omega) hh ⟨fun h => Or.inr ⟨rfl, beq_iff_eq.mp h⟩, fun h => ?_⟩
          rcases h with h | ⟨_, h⟩
          · exact absurd h g
          · exact beq_iff_eq.mpr h
theorem fieldR_size (s : ByteArray) (w : Int) (b : Bool) (h : (fieldR s w b).2 = 0) : ((fieldR s w b).1.size : Int) = w := by
  unfold fieldR at h ⊢
  split at h
  · cases h
  · rename_i h1
    split at h
    · cases h
    · rename_i h2
      split at h
      · cases h
      · rename_i h3
        rw [if_neg h1, if_neg h2, if_neg h3]
        have h4 : ¬ (s.size : Int) > w := fun h => h2 (Or.inl h)
        show ((s ++ zs (w - s.size).toNat).size : Int) = w
        rw [ByteArray.size_append, zs_size]
        omega
theorem fieldR_le (s : ByteArray) (w : Int) (b : Bool) : (fieldR s w b).1.size ≤ 512 := by
  by_cases h : (fieldR s w b).2 = 0
  · have h1 := fieldR_size s w b h
    unfold fieldR at h
    split at h
    · cases h
    · omega
  · have : (fieldR s w b).1 = (⟨#[]⟩ : ByteArray) := by
      unfold fieldR at h ⊢
      split
      · rfl
      · rename_i h1
        rw [if_neg h1] at h
        split
        · rfl
        · rename_i h2
          rw [if_neg h2] at h
          split
          · rfl
          · rename_i h3
            rw [if_neg h3] at h
            exact absurd rfl h
    rw [this]
    show 0 ≤ 512
    omega
theorem field_ev (s : ByteArray) (w : Int) (b : Bool) : Ev (fun k => field_Write.f k s w b) (fieldR s w b) := ⟨4, fun k hk => write_is s w b k (by omega)⟩
theorem fieldT_ev (s : ByteArray) (w : Int) (b : Bool) (hs : s.size ≤ 140737488351232) : Ev (fun k => creelref_FieldText.f k s w b) (fieldR s w b) := by
  obtain ⟨K, hK⟩ := has_ev s 0 (by omega) (by omega) hs
  exact ⟨K + 800, fun k hk => text_is s w b k (by omega) (fun q hq => hK q (by omega))⟩
end Go.Proofs.Ytgkofpjeiogafaa.Q
end
section
namespace Go.Proofs.Ytgkofpjeiogafaa.Q
set_option linter.unusedVariables false
set_option linter.unusedSimpArgs false
open Go.RowKit Go.Proofs.Ytgkofpjeiogafaa.All Go.Proofs.YtgkofpjeiogafaaW.PrintWords Go.Proofs.YtgkofpjeiogafaaW.PrintLast Go.Proofs.YtgkofpjeiogafaaW.PrintMore Go.Proofs.YtgkofpjeiogafaaW.PureBase

-- FN octal_Most octal_Write creelref_OctalMost creelref_power creelref_OctalText
theorem oct_wrap {x : Int} (h0 : 0 ≤ x) (h : x ≤ 1000000000000) : wrap64 x = x := by unfold wrap64; omega

theorem wid (w : Int) (h2 : 2 ≤ w) (h12 : w ≤ 12) : w = 2 ∨ w = 3 ∨ w = 4 ∨ w = 5 ∨ w = 6 ∨ w = 7 ∨ w = 8 ∨ w = 9 ∨ w = 10 ∨ w = 11 ∨ w = 12 := by omega

theorem most_same (w : Int) (h2 : 2 ≤ w) (h12 : w ≤ 12) : ∃ m, octal_Most.f w = some (m, 0) ∧ creelref_OctalMost.f 30 w = some (m, 0) ∧ 0 ≤ m ∧ m ≤ 8589934592 := by
  rcases wid w h2 h12 with rfl | rfl | rfl | rfl | rfl | rfl | rfl | rfl | rfl | rfl | rfl 
  · exact ⟨7, by decide +kernel, by decide +kernel, by decide, by decide⟩
  · exact ⟨63, by decide +kernel, by decide +kernel, by decide, by decide⟩
  · exact ⟨511, by decide +kernel, by decide +kernel, by decide, by decide⟩
  · exact ⟨4095, by decide +kernel, by decide +kernel, by decide, by decide⟩
  · exact ⟨32767, by decide +kernel, by decide +kernel, by decide, by decide⟩
  · exact ⟨262143, by decide +kernel, by decide +kernel, by decide, by decide⟩
  · exact ⟨2097151, by decide +kernel, by decide +kernel, by decide, by decide⟩
  · exact ⟨16777215, by decide +kernel, by decide +kernel, by decide, by decide⟩
  · exact ⟨134217727, by decide +kernel, by decide +kernel, by decide, by decide⟩
  · exact ⟨1073741823, by decide +kernel, by decide +kernel, by decide, by decide⟩
  · exact ⟨8589934591, by decide +kernel, by decide +kernel, by decide, by decide⟩

theorem digit_is (d : Int) (h0 : 0 ≤ d) (h7 : d ≤ 7) : (⟨#[48, 49, 50, 51, 52, 53, 54, 55]⟩ : ByteArray).extract d.toNat (d + 1).toNat = strOfNums [48 + d] := by
  have : d = 0 ∨ d = 1 ∨ d = 2 ∨ d = 3 ∨ d = 4 ∨ d = 5 ∨ d = 6 ∨ d = 7 := by omega
  rcases this with rfl | rfl | rfl | rfl | rfl | rfl | rfl | rfl <;> decide +kernel

theorem size_strOf (D : List Int) : (strOfNums D).size = D.length := by simp [strOfNums, ByteArray.size]

theorem app_strOf (D E : List Int) : strOfNums D ++ strOfNums E = strOfNums (D ++ E) := by
  apply ByteArray.ext
  simp [strOfNums]

theorem set_last (m : Nat) (D : List Int) (v : Int) : (List.replicate (m + 1) (0 : Int) ++ D).set m v = List.replicate m 0 ++ v :: D := by
  rw [List.replicate_succ', List.append_assoc, List.set_append_right _ _ (by simp)]
  simp

theorem writes_same (w : Int) (h2 : 2 ≤ w) (h12 : w ≤ 12) (m : Nat) : ∀ (k : Nat) (n : Int) (D : List Int), 0 ≤ n → n ≤ 8589934592 → (m : Int) + D.length = w - 1 → m < k →
    ∃ r : ByteArray, (r.size : Int) = w ∧ octal_Write.l0 k n (List.replicate m 0 ++ (D ++ [0])) ((m : Int) - 1) = some (r, 0) ∧ creelref_OctalText.l0 k n w (strOfNums D) = some (r, 0) := by
  have hw1 : wrap64 (w - 1) = w - 1 := oct_wrap (by omega) (by omega)
  induction m with
  | zero =>
    intro k n D h0 hn hm hk
    obtain ⟨k, rfl⟩ : ∃ m, k = m + 1 := ⟨k - 1, by omega⟩
    refine ⟨strOfNums (D ++ [0]), by rw [size_strOf, List.length_append, List.length_singleton]; omega, ?_, ?_⟩
    · simp only [octal_Write.l0]; rw [if_neg (by omega)]; simp
    · simp only [creelref_OctalText.l0]; rw [size_strOf, hw1, if_neg (by omega), if_pos (by omega)]
      rw [show (⟨#[0]⟩ : ByteArray) = strOfNums [0] from rfl, app_strOf]
  | succ m ih =>
    intro k n D h0 hn hm hk
    obtain ⟨k, rfl⟩ : ∃ m, k = m + 1 := ⟨k - 1, by omega⟩
    have hd0 : 0 ≤ n % 8 := by omega
    have hd7 : n % 8 ≤ 7 := by omega
    have ht : Int.tmod n 8 = n % 8 := Int.tmod_eq_emod_of_nonneg h0
    have hq : Int.tdiv n 8 = n / 8 := Int.tdiv_eq_ediv_of_nonneg h0
    obtain ⟨r, hz, h, h'⟩ := ih k (n / 8) ((48 + n % 8) :: D) (by omega) (by omega) (by simp only [List.length_cons]; omega) (by omega)
    refine ⟨r, hz, ?_, ?_⟩
    · simp only [octal_Write.l0]
      rw [if_pos (by omega), if_pos (by omega), if_pos (by simp only [List.length_append, List.length_replicate]; omega), ht, hq, oct_wrap (by omega) (by omega)]
      rw [show (((m + 1 : Nat) : Int) - 1).toNat = m from by omega, set_last, show (48 + n % 8 % 256) % 256 = 48 + n % 8 from by omega]
      have e : wrap64 (((m + 1 : Nat) : Int) - 1 - 1) = (m : Int) - 1 := by unfold wrap64; omega
      rw [e]; exact h
    · simp only [creelref_OctalText.l0]
      rw [ht, hq, size_strOf, hw1, oct_wrap (x := n % 8 + 1) (by omega) (by omega), oct_wrap (x := n / 8) (by omega) (by omega), digit_is _ hd0 hd7, if_pos (by omega), if_pos hd0, if_pos (by omega), if_pos (by omega), if_pos (by rw [size_strOf]; simp only [List.length_cons, List.length_nil]; omega), app_strOf]
      exact h'


theorem oct_up {α : Type} {g : Nat → Option α} {r : α} (hg : ∀ k, LeO (g k) (g (k + 1))) {k : Nat} (h : g k = some r) : Ev g r := Ev.of hg h
theorem octal_both (n w : Int) : ∃ r : ByteArray × Int, Ev (fun k => octal_Write.f k n w) r ∧ Ev (fun k => creelref_OctalText.f k n w) r ∧ (r.2 = 0 → (r.1.size : Int) = w) ∧ r.1.size ≤ 12 := by
  have u1 : ∀ k, LeO (octal_Write.f k n w) (octal_Write.f (k + 1) n w) := fun k => octal_Write.mono n w k
  have u2 : ∀ k, LeO (creelref_OctalText.f k n w) (creelref_OctalText.f (k + 1) n w) := fun k => creelref_OctalText.mono n w k
  by_cases c : 2 ≤ w ∧ w ≤ 12
  · obtain ⟨c2, c12⟩ := c
    obtain ⟨m, hm, hm', hm0, hm1⟩ := most_same w c2 c12
    by_cases cn : 0 ≤ n ∧ n ≤ m
    · obtain ⟨r, hz, h, h'⟩ := writes_same w c2 c12 (w - 1).toNat 29 n [] (by omega) (by omega) (by simp only [List.length_nil]; omega) (by omega)
      have e1 : octal_Write.f 30 n w = some (r, 0) := by
        unfold octal_Write.f
        rw [hm]; simp only [Option.bind_some, if_true]
        rw [if_neg (by omega), decide_eq_false (show ¬ n > m by omega)]
        simp only [octal_Write.j0]
        rw [if_neg (by simp), if_pos (by omega), if_pos (by omega), oct_wrap (by omega) (by omega)]
        have e : List.replicate w.toNat (0 : Int) = List.replicate (w - 1).toNat 0 ++ ([] ++ [0]) := by
          rw [show w.toNat = (w - 1).toNat + 1 from by omega, List.replicate_succ']; rfl
        rw [e, show w - 2 = ((w - 1).toNat : Int) - 1 from by omega]; exact h
      have e2 : creelref_OctalText.f 30 n w = some (r, 0) := by
        unfold creelref_OctalText.f
        rw [hm']; simp only [Option.bind_some, if_true]
        rw [if_neg (by omega), decide_eq_false (show ¬ n > m by omega)]
        simp only [creelref_OctalText.j0]
        rw [if_neg (by simp)]; exact h'
      exact ⟨(r, 0), oct_up u1 e1, oct_up u2 e2, fun _ => hz, by show r.size ≤ 12; omega⟩
    · have e1 : octal_Write.f 30 n w = some ((⟨#[]⟩ : ByteArray), 4) := by
        unfold octal_Write.f
        rw [hm]; simp only [Option.bind_some, if_true]
        by_cases cz : n < 0
        · rw [if_pos cz]; rfl
        · rw [if_neg cz, decide_eq_true (show n > m by omega)]; rfl
      have e2 : creelref_OctalText.f 30 n w = some ((⟨#[]⟩ : ByteArray), 4) := by
        unfold creelref_OctalText.f
        rw [hm']; simp only [Option.bind_some, if_true]
        by_cases cz : n < 0
        · rw [if_pos cz]; rfl
        · rw [if_neg cz, decide_eq_true (show n > m by omega)]; rfl
      exact ⟨((⟨#[]⟩ : ByteArray), 4), oct_up u1 e1, oct_up u2 e2, fun h => (by cases h), (by show 0 ≤ 12; omega)⟩
  · have hm : octal_Most.f w = some (0, 4) := by
      unfold octal_Most.f
      by_cases c2 : w < 2
      · rw [if_pos c2]
      · rw [if_neg c2, if_pos (by omega)]
    have hm' : creelref_OctalMost.f 30 w = some (0, 4) := by
      unfold creelref_OctalMost.f
      by_cases c2 : w < 2
      · rw [if_pos c2]
      · rw [if_neg c2, if_pos (by omega)]
    have e1 : octal_Write.f 30 n w = some ((⟨#[]⟩ : ByteArray), 4) := by unfold octal_Write.f; rw [hm]; rfl
    have e2 : creelref_OctalText.f 30 n w = some ((⟨#[]⟩ : ByteArray), 4) := by unfold creelref_OctalText.f; rw [hm']; rfl
    exact ⟨((⟨#[]⟩ : ByteArray), 4), oct_up u1 e1, oct_up u2 e2, fun h => (by cases h), (by show 0 ≤ 12; omega)⟩
end Go.Proofs.Ytgkofpjeiogafaa.Q
end
section
namespace Go.Proofs.Ytgkofpjeiogafaa.Q
set_option linter.unusedVariables false
set_option linter.unusedSimpArgs false
open Go.RowKit Go.Proofs.Ytgkofpjeiogafaa.All Go.Proofs.YtgkofpjeiogafaaW.PrintWords Go.Proofs.YtgkofpjeiogafaaW.PrintLast Go.Proofs.YtgkofpjeiogafaaW.PrintMore Go.Proofs.YtgkofpjeiogafaaW.PureBase

-- FN head_Sum creelref_HeadSum
/-- How many bytes of the sum's own field are behind. -/
def past (i : Int) : Int := if i < 148 then 0 else if i < 156 then i - 148 else 8

theorem sum_wrap {x : Int} (h0 : 0 ≤ x) (h : x ≤ 1000000) : wrap64 x = x := by unfold wrap64; omega

theorem heads_same (s : ByteArray) (hs : s.size = 512) (d : Nat) : ∀ (k : Nat) (x i : Int), 0 ≤ i → i ≤ 512 → (512 : Int) - i = d → d < k → 256 ≤ x → x ≤ 256 + 255 * i →
    ∃ r, head_Sum.l0 k s x 512 i = some (r, 0) ∧ creelref_HeadSum.l0 k s (x - 256 + 32 * past i) i = some (r, 0) := by
  induction d with
  | zero =>
    intro k x i h0 h1 hd hk hx hx'
    obtain ⟨k, rfl⟩ : ∃ m, k = m + 1 := ⟨k - 1, by omega⟩
    obtain rfl : i = 512 := by omega
    refine ⟨x, ?_, ?_⟩
    · simp only [head_Sum.l0]; rw [if_neg (by omega)]
    · simp only [creelref_HeadSum.l0]; rw [if_neg (by omega)]
      have e : x - 256 + 32 * past 512 = x := by simp [past]
      rw [e]
  | succ d ih =>
    intro k x i h0 h1 hd hk hx hx'
    obtain ⟨k, rfl⟩ : ∃ m, k = m + 1 := ⟨k - 1, by omega⟩
    have hlt : i < 512 := by omega
    have hsz : i < (s.size : Int) := by omega
    have hw : wrap64 (i + 1) = i + 1 := sum_wrap (by omega) (by omega)
    have hb := bt_range s i
    have hbw : wrap64 (bt s i) = bt s i := sum_wrap (by omega) (by omega)
    by_cases c1 : i < 148
    · obtain ⟨r, h, h'⟩ := ih k (x + bt s i) (i + 1) (by omega) (by omega) (by omega) (by omega) (by omega) (by omega)
      refine ⟨r, ?_, ?_⟩
      · simp only [head_Sum.l0]; rw [if_pos hlt, if_pos c1, if_pos h0, if_pos hsz, hw, hbw, sum_wrap (by omega) (by omega)]; exact h
      · simp only [creelref_HeadSum.l0]; rw [if_pos hlt, if_neg (by omega), if_pos h0, if_pos hsz, hw, hbw, sum_wrap (by unfold past; split <;> (try split) <;> omega) (by unfold past; split <;> (try split) <;> omega)]
        rw [← h']; congr 1; unfold past; split <;> split <;> (try split) <;> omega
    · by_cases c2 : i < 156
      · obtain ⟨r, h, h'⟩ := ih k x (i + 1) (by omega) (by omega) (by omega) (by omega) (by omega) (by omega)
        refine ⟨r, ?_, ?_⟩
        · simp only [head_Sum.l0]; rw [if_pos hlt, if_neg c1, if_neg (by omega), hw]; exact h
        · simp only [creelref_HeadSum.l0]; rw [if_pos hlt, if_pos (by omega), if_pos c2, hw, sum_wrap (by unfold past; split <;> (try split) <;> omega) (by unfold past; split <;> (try split) <;> omega)]
          rw [← h']; congr 1; unfold past; split <;> (try split) <;> (try split) <;> (try split) <;> omega
      · obtain ⟨r, h, h'⟩ := ih k (x + bt s i) (i + 1) (by omega) (by omega) (by omega) (by omega) (by omega) (by omega)
        refine ⟨r, ?_, ?_⟩
        · simp only [head_Sum.l0]; rw [if_pos hlt, if_neg c1, if_pos (by omega), if_pos h0, if_pos hsz, hw, hbw, sum_wrap (by omega) (by omega)]; exact h
        · simp only [creelref_HeadSum.l0]; rw [if_pos hlt, if_pos (by omega), if_neg c2, if_pos h0, if_pos hsz, hw, hbw, sum_wrap (by unfold past; split <;> (try split) <;> omega) (by unfold past; split <;> (try split) <;> omega)]
          rw [← h']; congr 1; unfold past; split <;> (try split) <;> (try split) <;> (try split) <;> omega


theorem sum_both (s : ByteArray) : ∃ r : Int × Int, Ev (fun k => head_Sum.f k s) r ∧ Ev (fun k => creelref_HeadSum.f k s) r := by
  have u1 : ∀ k, LeO (head_Sum.f k s) (head_Sum.f (k + 1) s) := fun k => head_Sum.mono s k
  have u2 : ∀ k, LeO (creelref_HeadSum.f k s) (creelref_HeadSum.f (k + 1) s) := fun k => creelref_HeadSum.mono s k
  by_cases hs : s.size = 512
  · obtain ⟨r, h, h'⟩ := heads_same s hs 512 513 256 0 (by omega) (by omega) (by omega) (by omega) (by omega) (by omega)
    have e : (256 : Int) - 256 + 32 * past 0 = 0 := by simp [past]
    rw [e] at h'
    have hi : (s.size : Int) = 512 := by omega
    refine ⟨(r, 0), Ev.of u1 (k := 513) ?_, Ev.of u2 (k := 513) ?_⟩
    · unfold head_Sum.f
      rw [if_pos hi, hi]; exact h
    · unfold creelref_HeadSum.f
      rw [if_pos hi]; exact h'
  · refine ⟨(0, 1), ⟨0, fun k _ => ?_⟩, ⟨0, fun k _ => ?_⟩⟩
    · show head_Sum.f k s = _
      unfold head_Sum.f
      rw [if_neg (by omega)]
    · show creelref_HeadSum.f k s = _
      unfold creelref_HeadSum.f
      rw [if_neg (by omega)]
end Go.Proofs.Ytgkofpjeiogafaa.Q
end
