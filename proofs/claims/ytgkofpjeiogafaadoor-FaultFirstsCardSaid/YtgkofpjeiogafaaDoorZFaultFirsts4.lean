/- Made by programs of the prover: walks of Go functions, the words that they use, and plain laws, each text in a section of its own; no condition of its own. -/
import Derived.Test.YtgkofpjeiogafaaDoorZFaultFirsts2
import Derived.Test.YtgkofpjeiogafaaDoorZFaultFirsts3
section
namespace Go.Proofs.YtgkofpjeiogafaaDoor.All
open Go.RowKit Go.Proofs.YtgkofpjeiogafaaDoorW.PrintWords Go.Proofs.YtgkofpjeiogafaaDoorW.PrintLast Go.Proofs.YtgkofpjeiogafaaDoorW.PrintMore
open Go.Proofs.YtgkofpjeiogafaaDoorW.Mine
attribute [local go_sem] gtr_string leq_string geq_string
attribute [local go_sem] max2_int min2_int max_two min_two max_three min_three max_four min_four   -- for this text's walks alone
set_option linter.unusedVariables false
set_option linter.unusedSimpArgs false

/-! ### plan_Right: function 50 -/
mutual
def plan_Right.j0 : Nat → Bool → ByteArray → Int → ByteArray → Int → Int → Int → ByteArray → ByteArray → Int → Int → List Int → Option (Int)
 | 0, _, _, _, _, _, _, _, _, _, _, _, _ => none
 | k + 1, x24, x102000, x102001, x102002, x102003, x102004, x102005, x102006, x102007, x102008, x102009, x102010 => if x24 = true then (some 2) else (if x102001 = 1 then (plan_Right.j1 k ((x102002.toList != ([] : List UInt8)) != (decide (x102001 ≥ 3))) x102000 x102001 x102002 x102003 x102004 x102005 x102006 x102007 x102008 x102009 x102010) else (if (x102010.length : Int) > 0 then (plan_Right.j1 k true x102000 x102001 x102002 x102003 x102004 x102005 x102006 x102007 x102008 x102009 x102010) else (plan_Right.j1 k ((x102002.toList != ([] : List UInt8)) != (decide (x102001 ≥ 3))) x102000 x102001 x102002 x102003 x102004 x102005 x102006 x102007 x102008 x102009 x102010)))
def plan_Right.j1 : Nat → Bool → ByteArray → Int → ByteArray → Int → Int → Int → ByteArray → ByteArray → Int → Int → List Int → Option (Int)
 | 0, _, _, _, _, _, _, _, _, _, _, _, _ => none
 | k + 1, x42, x102000, x102001, x102002, x102003, x102004, x102005, x102006, x102007, x102008, x102009, x102010 => if x42 = true then (some 3) else (if (x102010.length : Int) > 2000 then (plan_Right.j2 k true x102000 x102001 x102002 x102003 x102004 x102005 x102006 x102007 x102008 x102009 x102010) else (plan_Right.j2 k (decide ((x102002.size : Int) > 400)) x102000 x102001 x102002 x102003 x102004 x102005 x102006 x102007 x102008 x102009 x102010))
def plan_Right.j2 : Nat → Bool → ByteArray → Int → ByteArray → Int → Int → Int → ByteArray → ByteArray → Int → Int → List Int → Option (Int)
 | 0, _, _, _, _, _, _, _, _, _, _, _, _ => none
 | k + 1, x52, x102000, x102001, x102002, x102003, x102004, x102005, x102006, x102007, x102008, x102009, x102010 => if x52 = true then (some 1) else (if x102001 = 4 then ((path_Check.f k x102002).bind fun t104 => (some t104)) else ((strings_IndexByte.f x102002 0).bind fun t105 => (if t105 ≥ 0 then (some 3) else (some 0))))
end
def plan_Right.f (k : Nat) (a0_0 : ByteArray) (a0_1 : Int) (a0_2 : ByteArray) (a0_3 : Int) (a0_4 : Int) (a0_5 : Int) (a0_6 : ByteArray) (a0_7 : ByteArray) (a0_8 : Int) (a0_9 : Int) (l0_10 : List Int) : Option (Int) := (path_Check.f k a0_0).bind fun t102 => (if t102 = 0 then ((meta_Check.f k a0_3 a0_4 a0_5 a0_6 a0_7 a0_8 a0_9).bind fun t103 => (if t103 = 0 then (if a0_1 < 1 then (plan_Right.j0 k true a0_0 a0_1 a0_2 a0_3 a0_4 a0_5 a0_6 a0_7 a0_8 a0_9 l0_10) else (plan_Right.j0 k (decide (a0_1 > 4)) a0_0 a0_1 a0_2 a0_3 a0_4 a0_5 a0_6 a0_7 a0_8 a0_9 l0_10)) else (some t103))) else (some t102))
theorem plan_Right.mono_l : ∀ k, (∀ y0 y1 y2 y3 y4 y5 y6 y7 y8 y9 y10 y11, LeO (plan_Right.j0 k y0 y1 y2 y3 y4 y5 y6 y7 y8 y9 y10 y11) (plan_Right.j0 (k + 1) y0 y1 y2 y3 y4 y5 y6 y7 y8 y9 y10 y11)) ∧ (∀ y0 y1 y2 y3 y4 y5 y6 y7 y8 y9 y10 y11, LeO (plan_Right.j1 k y0 y1 y2 y3 y4 y5 y6 y7 y8 y9 y10 y11) (plan_Right.j1 (k + 1) y0 y1 y2 y3 y4 y5 y6 y7 y8 y9 y10 y11)) ∧ (∀ y0 y1 y2 y3 y4 y5 y6 y7 y8 y9 y10 y11, LeO (plan_Right.j2 k y0 y1 y2 y3 y4 y5 y6 y7 y8 y9 y10 y11) (plan_Right.j2 (k + 1) y0 y1 y2 y3 y4 y5 y6 y7 y8 y9 y10 y11))
 | 0 => ⟨fun _ _ _ _ _ _ _ _ _ _ _ _ r h => by simp [plan_Right.j0] at h, fun _ _ _ _ _ _ _ _ _ _ _ _ r h => by simp [plan_Right.j1] at h, fun _ _ _ _ _ _ _ _ _ _ _ _ r h => by simp [plan_Right.j2] at h⟩
 | k + 1 => by
  obtain ⟨ih0, ih1, ih2⟩ := plan_Right.mono_l k
  refine ⟨?_, ?_, ?_⟩
  ·intro y0 y1 y2 y3 y4 y5 y6 y7 y8 y9 y10 y11
   unfold plan_Right.j0
   repeat' first
   | (with_reducible exact ih0 _ _ _ _ _ _ _ _ _ _ _ _)
   | (with_reducible exact ih1 _ _ _ _ _ _ _ _ _ _ _ _)
   | (with_reducible exact ih2 _ _ _ _ _ _ _ _ _ _ _ _)
   | (with_reducible exact meta_Check.mono _ _ _ _ _ _ _ _)
   | (with_reducible exact path_Check.mono _ _)
   | (with_reducible exact LeO.refl _)
   | (with_reducible exact LeO.none _)
   | (with_reducible refine LeO.ite ?_ ?_)
   | (with_reducible refine LeO.bind ?_ (fun _ => ?_))
   | exact ih0 _ _ _ _ _ _ _ _ _ _ _ _
   | exact ih1 _ _ _ _ _ _ _ _ _ _ _ _
   | exact ih2 _ _ _ _ _ _ _ _ _ _ _ _
   | exact meta_Check.mono _ _ _ _ _ _ _ _
   | exact path_Check.mono _ _
   | exact LeO.none _
   | refine LeO.ite ?_ ?_
   | refine LeO.bind ?_ (fun _ => ?_)
  ·intro y0 y1 y2 y3 y4 y5 y6 y7 y8 y9 y10 y11
   unfold plan_Right.j1
   repeat' first
   | (with_reducible exact ih0 _ _ _ _ _ _ _ _ _ _ _ _)
   | (with_reducible exact ih1 _ _ _ _ _ _ _ _ _ _ _ _)
   | (with_reducible exact ih2 _ _ _ _ _ _ _ _ _ _ _ _)
   | (with_reducible exact meta_Check.mono _ _ _ _ _ _ _ _)
   | (with_reducible exact path_Check.mono _ _)
   | (with_reducible exact LeO.refl _)
   | (with_reducible exact LeO.none _)
   | (with_reducible refine LeO.ite ?_ ?_)
   | (with_reducible refine LeO.bind ?_ (fun _ => ?_))
   | exact ih0 _ _ _ _ _ _ _ _ _ _ _ _
   | exact ih1 _ _ _ _ _ _ _ _ _ _ _ _
   | exact ih2 _ _ _ _ _ _ _ _ _ _ _ _
   | exact meta_Check.mono _ _ _ _ _ _ _ _
   | exact path_Check.mono _ _
   | exact LeO.none _
   | refine LeO.ite ?_ ?_
   | refine LeO.bind ?_ (fun _ => ?_)
  ·intro y0 y1 y2 y3 y4 y5 y6 y7 y8 y9 y10 y11
   unfold plan_Right.j2
   repeat' first
   | (with_reducible exact ih0 _ _ _ _ _ _ _ _ _ _ _ _)
   | (with_reducible exact ih1 _ _ _ _ _ _ _ _ _ _ _ _)
   | (with_reducible exact ih2 _ _ _ _ _ _ _ _ _ _ _ _)
   | (with_reducible exact meta_Check.mono _ _ _ _ _ _ _ _)
   | (with_reducible exact path_Check.mono _ _)
   | (with_reducible exact LeO.refl _)
   | (with_reducible exact LeO.none _)
   | (with_reducible refine LeO.ite ?_ ?_)
   | (with_reducible refine LeO.bind ?_ (fun _ => ?_))
   | exact ih0 _ _ _ _ _ _ _ _ _ _ _ _
   | exact ih1 _ _ _ _ _ _ _ _ _ _ _ _
   | exact ih2 _ _ _ _ _ _ _ _ _ _ _ _
   | exact meta_Check.mono _ _ _ _ _ _ _ _
   | exact path_Check.mono _ _
   | exact LeO.none _
   | refine LeO.ite ?_ ?_
   | refine LeO.bind ?_ (fun _ => ?_)
theorem plan_Right.mono : ∀ a0 a1 a2 a3 a4 a5 a6 a7 a8 a9 a10 k, LeO (plan_Right.f k a0 a1 a2 a3 a4 a5 a6 a7 a8 a9 a10) (plan_Right.f (k + 1) a0 a1 a2 a3 a4 a5 a6 a7 a8 a9 a10) := by
 intro a0 a1 a2 a3 a4 a5 a6 a7 a8 a9 a10 k
 obtain ⟨ih0, ih1, ih2⟩ := plan_Right.mono_l k
 unfold plan_Right.f
 repeat' first
   | (with_reducible exact ih0 _ _ _ _ _ _ _ _ _ _ _ _)
   | (with_reducible exact ih1 _ _ _ _ _ _ _ _ _ _ _ _)
   | (with_reducible exact ih2 _ _ _ _ _ _ _ _ _ _ _ _)
   | (with_reducible exact meta_Check.mono _ _ _ _ _ _ _ _)
   | (with_reducible exact path_Check.mono _ _)
   | (with_reducible exact LeO.refl _)
   | (with_reducible exact LeO.none _)
   | (with_reducible refine LeO.ite ?_ ?_)
   | (with_reducible refine LeO.bind ?_ (fun _ => ?_))
   | exact ih0 _ _ _ _ _ _ _ _ _ _ _ _
   | exact ih1 _ _ _ _ _ _ _ _ _ _ _ _
   | exact ih2 _ _ _ _ _ _ _ _ _ _ _ _
   | exact meta_Check.mono _ _ _ _ _ _ _ _
   | exact path_Check.mono _ _
   | exact LeO.none _
   | refine LeO.ite ?_ ?_
   | refine LeO.bind ?_ (fun _ => ?_)
set_option maxHeartbeats 8000000 in
set_option maxRecDepth 100000 in
theorem plan_Right.calls (k : Nat) (a0_0 : ByteArray) (a0_1 : Int) (a0_2 : ByteArray) (a0_3 : Int) (a0_4 : Int) (a0_5 : Int) (a0_6 : ByteArray) (a0_7 : ByteArray) (a0_8 : Int) (a0_9 : Int) (A0_10 : Option Addr) (c0_10 : Nat) (l0_10 : List Int) (r : Int) (w : World) (hr0_10 : Kd.C (Kd.int .u8) w A0_10 l0_10.length l0_10) (hc0_10 : l0_10.length ≤ c0_10) (h : plan_Right.f k a0_0 a0_1 a0_2 a0_3 a0_4 a0_5 a0_6 a0_7 a0_8 a0_9 l0_10 = some r) :
  Calls Tryd.prog 50 #[.agg #[.string a0_0, .int .i64 a0_1, .string a0_2, .int .i64 a0_3, .int .i64 a0_4, .int .i64 a0_5, .string a0_6, .string a0_7, .int .i64 a0_8, .int .i64 a0_9, .slice A0_10 l0_10.length c0_10]] w fun e w' => e = .returned (.int .i64 r) ∧ Below w.heap.size w w' := by
 have hu80 := Tryd.underlying80
 have hu65 := Tryd.underlying65
 have HR0_10 := Aside0.mk hr0_10
 have HC0_10 := Aside0.mk hc0_10
 clear hr0_10 hc0_10
 have HB := Aside0.mk (Below.refl w.heap.size w)
 have H : ((path_Check.f k a0_0).bind fun t102 => (if t102 = 0 then ((meta_Check.f k a0_3 a0_4 a0_5 a0_6 a0_7 a0_8 a0_9).bind fun t103 => (if t103 = 0 then (if a0_1 < 1 then (plan_Right.j0 k true a0_0 a0_1 a0_2 a0_3 a0_4 a0_5 a0_6 a0_7 a0_8 a0_9 l0_10) else (plan_Right.j0 k (decide (a0_1 > 4)) a0_0 a0_1 a0_2 a0_3 a0_4 a0_5 a0_6 a0_7 a0_8 a0_9 l0_10)) else (some t103))) else (some t102))) = some r := h
 clear h
 replace H := Option.bind_eq_some_iff.mp H
 obtain ⟨t102, A20, H⟩ := H
 replace H : (if t102 = 0 then ((meta_Check.f k a0_3 a0_4 a0_5 a0_6 a0_7 a0_8 a0_9).bind fun t103 => (if t103 = 0 then (if a0_1 < 1 then (plan_Right.j0 k true a0_0 a0_1 a0_2 a0_3 a0_4 a0_5 a0_6 a0_7 a0_8 a0_9 l0_10) else (plan_Right.j0 k (decide (a0_1 > 4)) a0_0 a0_1 a0_2 a0_3 a0_4 a0_5 a0_6 a0_7 a0_8 a0_9 l0_10)) else (some t103))) else (some t102)) = some r := H
 have A2 := Aside0.mk A20
 clear A20
 by_cases c3 : t102 = 0
 ·rw [if_pos c3] at H
  have c3b0 : (t102 == 0) = true := beq_iff_eq.mpr c3
  have c3b1 : (t102 != 0) = false := bne_eq_false_iff_eq.mpr c3
  clear c3
  replace H := Option.bind_eq_some_iff.mp H
  obtain ⟨t103, A40, H⟩ := H
  replace H : (if t103 = 0 then (if a0_1 < 1 then (plan_Right.j0 k true a0_0 a0_1 a0_2 a0_3 a0_4 a0_5 a0_6 a0_7 a0_8 a0_9 l0_10) else (plan_Right.j0 k (decide (a0_1 > 4)) a0_0 a0_1 a0_2 a0_3 a0_4 a0_5 a0_6 a0_7 a0_8 a0_9 l0_10)) else (some t103)) = some r := H
  have A4 := Aside0.mk A40
  clear A40
  by_cases c5 : t103 = 0
  ·rw [if_pos c5] at H
   have c5b0 : (t103 == 0) = true := beq_iff_eq.mpr c5
   have c5b1 : (t103 != 0) = false := bne_eq_false_iff_eq.mpr c5
   clear c5
   have HC6 := Aside0.mk H
   clear H
   go_enter Tryd.func50, Tryd.ntmps50
   go_upto_region 7 with (first | ((with_reducible refine gate_dst (N := 1) rfl ?_); (try (refine gate_guard (by rfl) ?_; dsimp only)); refine box_event ?hg (N := 1) ?hd (cs := #[.string a0_0, .int .i64 a0_1, .string a0_2, .int .i64 a0_3, .int .i64 a0_4, .int .i64 a0_5, .string a0_6, .string a0_7, .int .i64 a0_8, .int .i64 a0_9, .slice A0_10 l0_10.length c0_10]) (t := 80) ?hr ?_; (case hd => rfl); (case hg => rfl); (case hr => first | (go_simp; done) | (go_simp; rfl)); intro gb101 hg w7 hbox hb; have n0_ := Aside0.mk (below_step (by repeat (first | (with_reducible first | exact HB.out | apply below_alloc | apply pw_below_drewN | apply below_drew1) | exact HB.out)) hb); have n1_ := Aside0.mk (hbox); have n2_ := Aside0.mk ((by rw [hg]; exact (below_size (by repeat (first | (with_reducible first | exact HB.out | apply below_alloc | apply pw_below_drewN | apply below_drew1) | exact HB.out))) : w.heap.size ≤ gb101)); have n3_ := Aside0.mk ((by rw [hg]; exact (below_size (by repeat (first | (with_reducible first | exact HB.out | apply below_alloc | apply pw_below_drewN | apply below_drew1) | exact HB.out))) : w.heap.size ≤ gb101)); clear HB; have HB := n0_; have BK101 := n1_; have GW101 := n2_; have GE101 := n3_; clear n0_ n1_ n2_ n3_; clear hb hbox hg; have hcz8_0 : w7.cell? ⟨gb101, 0, none⟩ = some (.string a0_0) := (blk_cell BK101.out 0).trans rfl; have hcz8_1 : w7.cell? ⟨gb101, 1, none⟩ = some (.int .i64 a0_1) := (blk_cell BK101.out 1).trans rfl; have hcz8_2 : w7.cell? ⟨gb101, 2, none⟩ = some (.string a0_2) := (blk_cell BK101.out 2).trans rfl; have hcz8_3 : w7.cell? ⟨gb101, 3, none⟩ = some (.int .i64 a0_3) := (blk_cell BK101.out 3).trans rfl; have hcz8_4 : w7.cell? ⟨gb101, 4, none⟩ = some (.int .i64 a0_4) := (blk_cell BK101.out 4).trans rfl; have hcz8_5 : w7.cell? ⟨gb101, 5, none⟩ = some (.int .i64 a0_5) := (blk_cell BK101.out 5).trans rfl; have hcz8_6 : w7.cell? ⟨gb101, 6, none⟩ = some (.string a0_6) := (blk_cell BK101.out 6).trans rfl; have hcz8_7 : w7.cell? ⟨gb101, 7, none⟩ = some (.string a0_7) := (blk_cell BK101.out 7).trans rfl; have hcz8_8 : w7.cell? ⟨gb101, 8, none⟩ = some (.int .i64 a0_8) := (blk_cell BK101.out 8).trans rfl; have hcz8_9 : w7.cell? ⟨gb101, 9, none⟩ = some (.int .i64 a0_9) := (blk_cell BK101.out 9).trans rfl; have hcz8_10 : w7.cell? ⟨gb101, 10, none⟩ = some (.slice A0_10 l0_10.length c0_10) := (blk_cell BK101.out 10).trans rfl; have hfz8_0 := blk_frozen BK101.out 0; have hfz8_1 := blk_frozen BK101.out 1; have hfz8_2 := blk_frozen BK101.out 2; have hfz8_3 := blk_frozen BK101.out 3; have hfz8_4 := blk_frozen BK101.out 4; have hfz8_5 := blk_frozen BK101.out 5; have hfz8_6 := blk_frozen BK101.out 6; have hfz8_7 := blk_frozen BK101.out 7; have hfz8_8 := blk_frozen BK101.out 8; have hfz8_9 := blk_frozen BK101.out 9; have hfz8_10 := blk_frozen BK101.out 10) | ((with_reducible refine gate_callee (f := 53) rfl ?_); refine goesL_ (some 7) rfl rfl Tryd.func53 (by kernel_rfl) rfl #[.string a0_0] rfl (by (try simp only [List.map_toArray, List.map_cons, List.map_nil]); first | done | rfl | (simp only [List.length_drop, List.length_take]; rfl)) ?_; (with_reducible refine (path_Check.calls k a0_0 t102 _ A2.out).mono ?_); rintro e w9 ⟨rfl, hb⟩; refine ⟨_, rfl, ?_⟩; have n0_ := Aside0.mk (blk_below (g := gb101) (o := .cells #[.string a0_0, .int .i64 a0_1, .string a0_2, .int .i64 a0_3, .int .i64 a0_4, .int .i64 a0_5, .string a0_6, .string a0_7, .int .i64 a0_8, .int .i64 a0_9, .slice A0_10 l0_10.length c0_10] 80 (0, 0)) (by (with_reducible repeat (first | refine blk_drewN ?_ _ | refine blk_drew ?_ | refine blk_alloc ?_ _)); exact BK101.out) hb); have n1_ := Aside0.mk (below_step (by repeat (first | (with_reducible first | exact HB.out | apply below_alloc | apply pw_below_drewN | apply below_drew1 | refine below_set ?_ GE101.out) | exact HB.out)) hb); clear BK101; clear HB; have BK101 := n0_; have HB := n1_; clear n0_ n1_; (try clear hb); (try clear hb2); (try clear hk); (try clear hi); have hcz10_0 : w9.cell? ⟨gb101, 0, none⟩ = some (.string a0_0) := (blk_cell BK101.out 0).trans rfl; have hcz10_1 : w9.cell? ⟨gb101, 1, none⟩ = some (.int .i64 a0_1) := (blk_cell BK101.out 1).trans rfl; have hcz10_2 : w9.cell? ⟨gb101, 2, none⟩ = some (.string a0_2) := (blk_cell BK101.out 2).trans rfl; have hcz10_3 : w9.cell? ⟨gb101, 3, none⟩ = some (.int .i64 a0_3) := (blk_cell BK101.out 3).trans rfl; have hcz10_4 : w9.cell? ⟨gb101, 4, none⟩ = some (.int .i64 a0_4) := (blk_cell BK101.out 4).trans rfl; have hcz10_5 : w9.cell? ⟨gb101, 5, none⟩ = some (.int .i64 a0_5) := (blk_cell BK101.out 5).trans rfl; have hcz10_6 : w9.cell? ⟨gb101, 6, none⟩ = some (.string a0_6) := (blk_cell BK101.out 6).trans rfl; have hcz10_7 : w9.cell? ⟨gb101, 7, none⟩ = some (.string a0_7) := (blk_cell BK101.out 7).trans rfl; have hcz10_8 : w9.cell? ⟨gb101, 8, none⟩ = some (.int .i64 a0_8) := (blk_cell BK101.out 8).trans rfl; have hcz10_9 : w9.cell? ⟨gb101, 9, none⟩ = some (.int .i64 a0_9) := (blk_cell BK101.out 9).trans rfl; have hcz10_10 : w9.cell? ⟨gb101, 10, none⟩ = some (.slice A0_10 l0_10.length c0_10) := (blk_cell BK101.out 10).trans rfl; have hfz10_0 := blk_frozen BK101.out 0; have hfz10_1 := blk_frozen BK101.out 1; have hfz10_2 := blk_frozen BK101.out 2; have hfz10_3 := blk_frozen BK101.out 3; have hfz10_4 := blk_frozen BK101.out 4; have hfz10_5 := blk_frozen BK101.out 5; have hfz10_6 := blk_frozen BK101.out 6; have hfz10_7 := blk_frozen BK101.out 7; have hfz10_8 := blk_frozen BK101.out 8; have hfz10_9 := blk_frozen BK101.out 9; have hfz10_10 := blk_frozen BK101.out 10) | ((with_reducible refine gate_callee (f := 71) rfl ?_); refine goesL_ (some 13) rfl rfl Tryd.func71 (by kernel_rfl) rfl #[.agg #[.int .i64 a0_3, .int .i64 a0_4, .int .i64 a0_5, .string a0_6, .string a0_7, .int .i64 a0_8, .int .i64 a0_9]] rfl (by (try simp only [List.map_toArray, List.map_cons, List.map_nil]); first | done | rfl | (simp only [List.length_drop, List.length_take]; rfl)) ?_; (with_reducible refine (meta_Check.calls k a0_3 a0_4 a0_5 a0_6 a0_7 a0_8 a0_9 t103 _ A4.out).mono ?_); rintro e w11 ⟨rfl, hb⟩; refine ⟨_, rfl, ?_⟩; have n0_ := Aside0.mk (blk_below (g := gb101) (o := .cells #[.string a0_0, .int .i64 a0_1, .string a0_2, .int .i64 a0_3, .int .i64 a0_4, .int .i64 a0_5, .string a0_6, .string a0_7, .int .i64 a0_8, .int .i64 a0_9, .slice A0_10 l0_10.length c0_10] 80 (0, 0)) (by (with_reducible repeat (first | refine blk_drewN ?_ _ | refine blk_drew ?_ | refine blk_alloc ?_ _)); exact BK101.out) hb); have n1_ := Aside0.mk (below_step (by repeat (first | (with_reducible first | exact HB.out | apply below_alloc | apply pw_below_drewN | apply below_drew1 | refine below_set ?_ GE101.out) | exact HB.out)) hb); clear BK101; clear HB; have BK101 := n0_; have HB := n1_; clear n0_ n1_; (try clear hb); (try clear hb2); (try clear hk); (try clear hi)))
   (try simp only [Act.put, List.setIfInBounds_toArray, List.set_cons_zero, List.set_cons_succ])
   go_cut [24] (fun v24 wc => ∃ (kq : Nat) (x24_5 : Bool), v24 = .bool x24_5 ∧ Aside0 (plan_Right.j0 kq x24_5 a0_0 a0_1 a0_2 a0_3 a0_4 a0_5 a0_6 a0_7 a0_8 a0_9 l0_10 = some r) ∧ Aside0 (kq ≤ k) ∧ Aside0 (wc.heap[gb101]? = some (.cells #[.string a0_0, .int .i64 a0_1, .string a0_2, .int .i64 a0_3, .int .i64 a0_4, .int .i64 a0_5, .string a0_6, .string a0_7, .int .i64 a0_8, .int .i64 a0_9, (.slice A0_10 l0_10.length c0_10)] 80 (0, 0))) ∧ Aside0 (Below w.heap.size w wc))
   case first =>
    have H := HC6.out
    clear HC6
    by_cases c12 : a0_1 < 1
    ·rw [if_pos c12] at H
     have c12b0 : decide (a0_1 < 1) = true := decide_eq_true c12
     clear c12
     (first | rw [c12b0] | (simp only [i64_w, i32_w]; rw [c12b0]) | skip)
     have H' := Aside0.mk H
     clear H
     have hcz13_0 : w11.cell? ⟨gb101, 0, none⟩ = some (.string a0_0) := (blk_cell BK101.out 0).trans rfl
     have hcz13_1 : w11.cell? ⟨gb101, 1, none⟩ = some (.int .i64 a0_1) := (blk_cell BK101.out 1).trans rfl
     have hcz13_2 : w11.cell? ⟨gb101, 2, none⟩ = some (.string a0_2) := (blk_cell BK101.out 2).trans rfl
     have hcz13_3 : w11.cell? ⟨gb101, 3, none⟩ = some (.int .i64 a0_3) := (blk_cell BK101.out 3).trans rfl
     have hcz13_4 : w11.cell? ⟨gb101, 4, none⟩ = some (.int .i64 a0_4) := (blk_cell BK101.out 4).trans rfl
     have hcz13_5 : w11.cell? ⟨gb101, 5, none⟩ = some (.int .i64 a0_5) := (blk_cell BK101.out 5).trans rfl
     have hcz13_6 : w11.cell? ⟨gb101, 6, none⟩ = some (.string a0_6) := (blk_cell BK101.out 6).trans rfl
     have hcz13_7 : w11.cell? ⟨gb101, 7, none⟩ = some (.string a0_7) := (blk_cell BK101.out 7).trans rfl
     have hcz13_8 : w11.cell? ⟨gb101, 8, none⟩ = some (.int .i64 a0_8) := (blk_cell BK101.out 8).trans rfl
     have hcz13_9 : w11.cell? ⟨gb101, 9, none⟩ = some (.int .i64 a0_9) := (blk_cell BK101.out 9).trans rfl
     have hcz13_10 : w11.cell? ⟨gb101, 10, none⟩ = some (.slice A0_10 l0_10.length c0_10) := (blk_cell BK101.out 10).trans rfl
     have hfz13_0 := blk_frozen BK101.out 0
     have hfz13_1 := blk_frozen BK101.out 1
     have hfz13_2 := blk_frozen BK101.out 2
     have hfz13_3 := blk_frozen BK101.out 3
     have hfz13_4 := blk_frozen BK101.out 4
     have hfz13_5 := blk_frozen BK101.out 5
     have hfz13_6 := blk_frozen BK101.out 6
     have hfz13_7 := blk_frozen BK101.out 7
     have hfz13_8 := blk_frozen BK101.out 8
     have hfz13_9 := blk_frozen BK101.out 9
     have hfz13_10 := blk_frozen BK101.out 10
     go_wp2
     go_meet
     case rel => exact ⟨_, (true), (by first | rfl | (simp; done) | (simp [*]; done) | (simp [bne]; done) | (cases a0_2.toList <;> simp [bne]; done)), H', ⟨by first | omega | exact Nat.le_refl _⟩, ⟨by (with_reducible repeat (first | refine blk_drewN ?_ _ | refine blk_drew ?_ | refine blk_alloc ?_ _)); exact BK101.out⟩, ⟨by repeat (first | (with_reducible first | exact HB.out | apply below_alloc | apply pw_below_drewN | apply below_drew1 | refine below_set ?_ GE101.out) | exact HB.out)⟩⟩
    ·rw [if_neg c12] at H
     have c12b0 : decide (a0_1 < 1) = false := decide_eq_false c12
     clear c12
     (first | rw [c12b0] | (simp only [i64_w, i32_w]; rw [c12b0]) | skip)
     have H' := Aside0.mk H
     clear H
     have hcz14_0 : w11.cell? ⟨gb101, 0, none⟩ = some (.string a0_0) := (blk_cell BK101.out 0).trans rfl
     have hcz14_1 : w11.cell? ⟨gb101, 1, none⟩ = some (.int .i64 a0_1) := (blk_cell BK101.out 1).trans rfl
     have hcz14_2 : w11.cell? ⟨gb101, 2, none⟩ = some (.string a0_2) := (blk_cell BK101.out 2).trans rfl
     have hcz14_3 : w11.cell? ⟨gb101, 3, none⟩ = some (.int .i64 a0_3) := (blk_cell BK101.out 3).trans rfl
     have hcz14_4 : w11.cell? ⟨gb101, 4, none⟩ = some (.int .i64 a0_4) := (blk_cell BK101.out 4).trans rfl
     have hcz14_5 : w11.cell? ⟨gb101, 5, none⟩ = some (.int .i64 a0_5) := (blk_cell BK101.out 5).trans rfl
     have hcz14_6 : w11.cell? ⟨gb101, 6, none⟩ = some (.string a0_6) := (blk_cell BK101.out 6).trans rfl
     have hcz14_7 : w11.cell? ⟨gb101, 7, none⟩ = some (.string a0_7) := (blk_cell BK101.out 7).trans rfl
     have hcz14_8 : w11.cell? ⟨gb101, 8, none⟩ = some (.int .i64 a0_8) := (blk_cell BK101.out 8).trans rfl
     have hcz14_9 : w11.cell? ⟨gb101, 9, none⟩ = some (.int .i64 a0_9) := (blk_cell BK101.out 9).trans rfl
     have hcz14_10 : w11.cell? ⟨gb101, 10, none⟩ = some (.slice A0_10 l0_10.length c0_10) := (blk_cell BK101.out 10).trans rfl
     have hfz14_0 := blk_frozen BK101.out 0
     have hfz14_1 := blk_frozen BK101.out 1
     have hfz14_2 := blk_frozen BK101.out 2
     have hfz14_3 := blk_frozen BK101.out 3
     have hfz14_4 := blk_frozen BK101.out 4
     have hfz14_5 := blk_frozen BK101.out 5
     have hfz14_6 := blk_frozen BK101.out 6
     have hfz14_7 := blk_frozen BK101.out 7
     have hfz14_8 := blk_frozen BK101.out 8
     have hfz14_9 := blk_frozen BK101.out 9
     have hfz14_10 := blk_frozen BK101.out 10
     go_wp2
     go_meet
     case rel => exact ⟨_, (decide (a0_1 > 4)), (by first | rfl | (simp; done) | (simp [*]; done) | (simp [bne]; done) | (cases a0_2.toList <;> simp [bne]; done)), H', ⟨by first | omega | exact Nat.le_refl _⟩, ⟨by (with_reducible repeat (first | refine blk_drewN ?_ _ | refine blk_drew ?_ | refine blk_alloc ?_ _)); exact BK101.out⟩, ⟨by repeat (first | (with_reducible first | exact HB.out | apply below_alloc | apply pw_below_drewN | apply below_drew1 | refine below_set ?_ GE101.out) | exact HB.out)⟩⟩
   case rest =>
    clear HC6
    try clear c1
    try clear p2
    try clear c3
    try clear c3b0
    try clear c3b1
    try clear c5
    try clear c5b0
    try clear c5b1
    try clear c7
    try clear c12
    try clear c12b0
    try clear hcz10_0
    try clear hcz10_1
    try clear hcz10_10
    try clear hcz10_2
    try clear hcz10_3
    try clear hcz10_4
    try clear hcz10_5
    try clear hcz10_6
    try clear hcz10_7
    try clear hcz10_8
    try clear hcz10_9
    try clear hcz13_0
    try clear hcz13_1
    try clear hcz13_10
    try clear hcz13_2
    try clear hcz13_3
    try clear hcz13_4
    try clear hcz13_5
    try clear hcz13_6
    try clear hcz13_7
    try clear hcz13_8
    try clear hcz13_9
    try clear hcz14_0
    try clear hcz14_1
    try clear hcz14_10
    try clear hcz14_2
    try clear hcz14_3
    try clear hcz14_4
    try clear hcz14_5
    try clear hcz14_6
    try clear hcz14_7
    try clear hcz14_8
    try clear hcz14_9
    try clear hcz8_0
    try clear hcz8_1
    try clear hcz8_10
    try clear hcz8_2
    try clear hcz8_3
    try clear hcz8_4
    try clear hcz8_5
    try clear hcz8_6
    try clear hcz8_7
    try clear hcz8_8
    try clear hcz8_9
    try clear hfz10_0
    try clear hfz10_1
    try clear hfz10_10
    try clear hfz10_2
    try clear hfz10_3
    try clear hfz10_4
    try clear hfz10_5
    try clear hfz10_6
    try clear hfz10_7
    try clear hfz10_8
    try clear hfz10_9
    try clear hfz13_0
    try clear hfz13_1
    try clear hfz13_10
    try clear hfz13_2
    try clear hfz13_3
    try clear hfz13_4
    try clear hfz13_5
    try clear hfz13_6
    try clear hfz13_7
    try clear hfz13_8
    try clear hfz13_9
    try clear hfz14_0
    try clear hfz14_1
    try clear hfz14_10
    try clear hfz14_2
    try clear hfz14_3
    try clear hfz14_4
    try clear hfz14_5
    try clear hfz14_6
    try clear hfz14_7
    try clear hfz14_8
    try clear hfz14_9
    try clear hfz8_0
    try clear hfz8_1
    try clear hfz8_10
    try clear hfz8_2
    try clear hfz8_3
    try clear hfz8_4
    try clear hfz8_5
    try clear hfz8_6
    try clear hfz8_7
    try clear hfz8_8
    try clear hfz8_9
    obtain ⟨kq, x24_5, rfl, HA, HJ5, BK101, HB⟩ := hcut
    cases kq with
    | zero => exact absurd HA.out (by simp [plan_Right.j0])
    | succ kj5 =>
     have H := HA.out
     clear HA
     simp only [plan_Right.j0] at H
     by_cases c15 : x24_5 = true
     ·subst c15
      have H1 : (some 2) = some r := by rw [if_pos rfl] at H; exact H
      clear H
      have H := H1
      clear H1
      obtain rfl := Option.some.inj H
      go_wp2
      go_ret
      exact ⟨by first | rfl | (simp [errW_none, errW_some] <;> rfl) | (simp [*, errW_none, errW_some] <;> rfl), by repeat (first | (with_reducible first | exact HB.out | apply below_alloc | apply pw_below_drewN | apply below_drew1 | refine below_set ?_ GE101.out) | exact HB.out)⟩
     ·replace c15 := Bool.eq_false_iff.mpr c15
      subst c15
      have H1 : (if a0_1 = 1 then (plan_Right.j1 kj5 ((a0_2.toList != ([] : List UInt8)) != (decide (a0_1 ≥ 3))) a0_0 a0_1 a0_2 a0_3 a0_4 a0_5 a0_6 a0_7 a0_8 a0_9 l0_10) else (if (l0_10.length : Int) > 0 then (plan_Right.j1 kj5 true a0_0 a0_1 a0_2 a0_3 a0_4 a0_5 a0_6 a0_7 a0_8 a0_9 l0_10) else (plan_Right.j1 kj5 ((a0_2.toList != ([] : List UInt8)) != (decide (a0_1 ≥ 3))) a0_0 a0_1 a0_2 a0_3 a0_4 a0_5 a0_6 a0_7 a0_8 a0_9 l0_10))) = some r := by rw [if_neg (show ¬ (false = true) by decide)] at H; exact H
      clear H
      have H := H1
      clear H1
      have HC16 := Aside0.mk H
      clear H
      go_upto_region 9 with (fail)
      go_cut [42] (fun v42 wc => ∃ (kq : Nat) (x42_15 : Bool), v42 = .bool x42_15 ∧ Aside0 (plan_Right.j1 kq x42_15 a0_0 a0_1 a0_2 a0_3 a0_4 a0_5 a0_6 a0_7 a0_8 a0_9 l0_10 = some r) ∧ Aside0 (kq ≤ kj5) ∧ Aside0 (wc.heap[gb101]? = some (.cells #[.string a0_0, .int .i64 a0_1, .string a0_2, .int .i64 a0_3, .int .i64 a0_4, .int .i64 a0_5, .string a0_6, .string a0_7, .int .i64 a0_8, .int .i64 a0_9, (.slice A0_10 l0_10.length c0_10)] 80 (0, 0))) ∧ Aside0 (Below w.heap.size w wc))
      case first =>
       have H := HC16.out
       clear HC16
       by_cases c17 : a0_1 = 1
       ·rw [if_pos c17] at H
        have c17b0 : (a0_1 == 1) = true := beq_iff_eq.mpr c17
        have c17b1 : (a0_1 != 1) = false := bne_eq_false_iff_eq.mpr c17
        clear c17
        (first | rw [c17b0] | (simp only [i64_w, i32_w]; rw [c17b0]) | skip)
        have H' := Aside0.mk H
        clear H
        have hcz18_0 : wc.cell? ⟨gb101, 0, none⟩ = some (.string a0_0) := (blk_cell BK101.out 0).trans rfl
        have hcz18_1 : wc.cell? ⟨gb101, 1, none⟩ = some (.int .i64 a0_1) := (blk_cell BK101.out 1).trans rfl
        have hcz18_2 : wc.cell? ⟨gb101, 2, none⟩ = some (.string a0_2) := (blk_cell BK101.out 2).trans rfl
        have hcz18_3 : wc.cell? ⟨gb101, 3, none⟩ = some (.int .i64 a0_3) := (blk_cell BK101.out 3).trans rfl
        have hcz18_4 : wc.cell? ⟨gb101, 4, none⟩ = some (.int .i64 a0_4) := (blk_cell BK101.out 4).trans rfl
        have hcz18_5 : wc.cell? ⟨gb101, 5, none⟩ = some (.int .i64 a0_5) := (blk_cell BK101.out 5).trans rfl
        have hcz18_6 : wc.cell? ⟨gb101, 6, none⟩ = some (.string a0_6) := (blk_cell BK101.out 6).trans rfl
        have hcz18_7 : wc.cell? ⟨gb101, 7, none⟩ = some (.string a0_7) := (blk_cell BK101.out 7).trans rfl
        have hcz18_8 : wc.cell? ⟨gb101, 8, none⟩ = some (.int .i64 a0_8) := (blk_cell BK101.out 8).trans rfl
        have hcz18_9 : wc.cell? ⟨gb101, 9, none⟩ = some (.int .i64 a0_9) := (blk_cell BK101.out 9).trans rfl
        have hcz18_10 : wc.cell? ⟨gb101, 10, none⟩ = some (.slice A0_10 l0_10.length c0_10) := (blk_cell BK101.out 10).trans rfl
        have hfz18_0 := blk_frozen BK101.out 0
        have hfz18_1 := blk_frozen BK101.out 1
        have hfz18_2 := blk_frozen BK101.out 2
        have hfz18_3 := blk_frozen BK101.out 3
        have hfz18_4 := blk_frozen BK101.out 4
        have hfz18_5 := blk_frozen BK101.out 5
        have hfz18_6 := blk_frozen BK101.out 6
        have hfz18_7 := blk_frozen BK101.out 7
        have hfz18_8 := blk_frozen BK101.out 8
        have hfz18_9 := blk_frozen BK101.out 9
        have hfz18_10 := blk_frozen BK101.out 10
        go_wp2
        go_meet
        case rel => exact ⟨_, (((a0_2.toList != ([] : List UInt8)) != (decide (a0_1 ≥ 3)))), (by first | rfl | (simp; done) | (simp [*]; done) | (simp [bne]; done) | (cases a0_2.toList <;> simp [bne]; done)), H', ⟨by have := HJ5.out; first | omega | exact Nat.le_refl _⟩, ⟨by (with_reducible repeat (first | refine blk_drewN ?_ _ | refine blk_drew ?_ | refine blk_alloc ?_ _)); exact BK101.out⟩, ⟨by repeat (first | (with_reducible first | exact HB.out | apply below_alloc | apply pw_below_drewN | apply below_drew1 | refine below_set ?_ GE101.out) | exact HB.out)⟩⟩
       ·rw [if_neg c17] at H
        have c17b0 : (a0_1 == 1) = false := beq_eq_false_iff_ne.mpr c17
        have c17b1 : (a0_1 != 1) = true := bne_iff_ne.mpr c17
        (first | rw [c17b0] | (simp only [i64_w, i32_w]; rw [c17b0]) | skip)
        by_cases c19 : (l0_10.length : Int) > 0
        ·rw [if_pos c19] at H
         have c19b0 : decide (0 < (l0_10.length : Int)) = true := decide_eq_true c19
         have c19b1 : decide (0 < l0_10.length) = true := decide_eq_true (by omega)
         clear c19
         have H' := Aside0.mk H
         clear H
         have hcz20_0 : wc.cell? ⟨gb101, 0, none⟩ = some (.string a0_0) := (blk_cell BK101.out 0).trans rfl
         have hcz20_1 : wc.cell? ⟨gb101, 1, none⟩ = some (.int .i64 a0_1) := (blk_cell BK101.out 1).trans rfl
         have hcz20_2 : wc.cell? ⟨gb101, 2, none⟩ = some (.string a0_2) := (blk_cell BK101.out 2).trans rfl
         have hcz20_3 : wc.cell? ⟨gb101, 3, none⟩ = some (.int .i64 a0_3) := (blk_cell BK101.out 3).trans rfl
         have hcz20_4 : wc.cell? ⟨gb101, 4, none⟩ = some (.int .i64 a0_4) := (blk_cell BK101.out 4).trans rfl
         have hcz20_5 : wc.cell? ⟨gb101, 5, none⟩ = some (.int .i64 a0_5) := (blk_cell BK101.out 5).trans rfl
         have hcz20_6 : wc.cell? ⟨gb101, 6, none⟩ = some (.string a0_6) := (blk_cell BK101.out 6).trans rfl
         have hcz20_7 : wc.cell? ⟨gb101, 7, none⟩ = some (.string a0_7) := (blk_cell BK101.out 7).trans rfl
         have hcz20_8 : wc.cell? ⟨gb101, 8, none⟩ = some (.int .i64 a0_8) := (blk_cell BK101.out 8).trans rfl
         have hcz20_9 : wc.cell? ⟨gb101, 9, none⟩ = some (.int .i64 a0_9) := (blk_cell BK101.out 9).trans rfl
         have hcz20_10 : wc.cell? ⟨gb101, 10, none⟩ = some (.slice A0_10 l0_10.length c0_10) := (blk_cell BK101.out 10).trans rfl
         have hfz20_0 := blk_frozen BK101.out 0
         have hfz20_1 := blk_frozen BK101.out 1
         have hfz20_2 := blk_frozen BK101.out 2
         have hfz20_3 := blk_frozen BK101.out 3
         have hfz20_4 := blk_frozen BK101.out 4
         have hfz20_5 := blk_frozen BK101.out 5
         have hfz20_6 := blk_frozen BK101.out 6
         have hfz20_7 := blk_frozen BK101.out 7
         have hfz20_8 := blk_frozen BK101.out 8
         have hfz20_9 := blk_frozen BK101.out 9
         have hfz20_10 := blk_frozen BK101.out 10
         go_wp2
         go_meet
         case rel => exact ⟨_, (true), (by first | rfl | (simp; done) | (simp [*]; done) | (simp [bne]; done) | (cases a0_2.toList <;> simp [bne]; done)), H', ⟨by have := HJ5.out; first | omega | exact Nat.le_refl _⟩, ⟨by (with_reducible repeat (first | refine blk_drewN ?_ _ | refine blk_drew ?_ | refine blk_alloc ?_ _)); exact BK101.out⟩, ⟨by repeat (first | (with_reducible first | exact HB.out | apply below_alloc | apply pw_below_drewN | apply below_drew1 | refine below_set ?_ GE101.out) | exact HB.out)⟩⟩
        ·rw [if_neg c19] at H
         have c19b0 : decide (0 < (l0_10.length : Int)) = false := decide_eq_false c19
         have c19b1 : decide (0 < l0_10.length) = false := decide_eq_false (by omega)
         clear c19
         have H' := Aside0.mk H
         clear H
         have hcz21_0 : wc.cell? ⟨gb101, 0, none⟩ = some (.string a0_0) := (blk_cell BK101.out 0).trans rfl
         have hcz21_1 : wc.cell? ⟨gb101, 1, none⟩ = some (.int .i64 a0_1) := (blk_cell BK101.out 1).trans rfl
         have hcz21_2 : wc.cell? ⟨gb101, 2, none⟩ = some (.string a0_2) := (blk_cell BK101.out 2).trans rfl
         have hcz21_3 : wc.cell? ⟨gb101, 3, none⟩ = some (.int .i64 a0_3) := (blk_cell BK101.out 3).trans rfl
         have hcz21_4 : wc.cell? ⟨gb101, 4, none⟩ = some (.int .i64 a0_4) := (blk_cell BK101.out 4).trans rfl
         have hcz21_5 : wc.cell? ⟨gb101, 5, none⟩ = some (.int .i64 a0_5) := (blk_cell BK101.out 5).trans rfl
         have hcz21_6 : wc.cell? ⟨gb101, 6, none⟩ = some (.string a0_6) := (blk_cell BK101.out 6).trans rfl
         have hcz21_7 : wc.cell? ⟨gb101, 7, none⟩ = some (.string a0_7) := (blk_cell BK101.out 7).trans rfl
         have hcz21_8 : wc.cell? ⟨gb101, 8, none⟩ = some (.int .i64 a0_8) := (blk_cell BK101.out 8).trans rfl
         have hcz21_9 : wc.cell? ⟨gb101, 9, none⟩ = some (.int .i64 a0_9) := (blk_cell BK101.out 9).trans rfl
         have hcz21_10 : wc.cell? ⟨gb101, 10, none⟩ = some (.slice A0_10 l0_10.length c0_10) := (blk_cell BK101.out 10).trans rfl
         have hfz21_0 := blk_frozen BK101.out 0
         have hfz21_1 := blk_frozen BK101.out 1
         have hfz21_2 := blk_frozen BK101.out 2
         have hfz21_3 := blk_frozen BK101.out 3
         have hfz21_4 := blk_frozen BK101.out 4
         have hfz21_5 := blk_frozen BK101.out 5
         have hfz21_6 := blk_frozen BK101.out 6
         have hfz21_7 := blk_frozen BK101.out 7
         have hfz21_8 := blk_frozen BK101.out 8
         have hfz21_9 := blk_frozen BK101.out 9
         have hfz21_10 := blk_frozen BK101.out 10
         go_wp2
         go_meet
         case rel => exact ⟨_, (((a0_2.toList != ([] : List UInt8)) != (decide (a0_1 ≥ 3)))), (by first | rfl | (simp; done) | (simp [*]; done) | (simp [bne]; done) | (cases a0_2.toList <;> simp [bne]; done)), H', ⟨by have := HJ5.out; first | omega | exact Nat.le_refl _⟩, ⟨by (with_reducible repeat (first | refine blk_drewN ?_ _ | refine blk_drew ?_ | refine blk_alloc ?_ _)); exact BK101.out⟩, ⟨by repeat (first | (with_reducible first | exact HB.out | apply below_alloc | apply pw_below_drewN | apply below_drew1 | refine below_set ?_ GE101.out) | exact HB.out)⟩⟩
      case rest =>
       clear HC16
       try clear c1
       try clear p2
       try clear c3
       try clear c3b0
       try clear c3b1
       try clear c5
       try clear c5b0
       try clear c5b1
       try clear c7
       try clear c12
       try clear c12b0
       try clear c15
       try clear c17
       try clear c17b0
       try clear c17b1
       try clear c19
       try clear c19b0
       try clear c19b1
       try clear hcz10_0
       try clear hcz10_1
       try clear hcz10_10
       try clear hcz10_2
       try clear hcz10_3
       try clear hcz10_4
       try clear hcz10_5
       try clear hcz10_6
       try clear hcz10_7
       try clear hcz10_8
       try clear hcz10_9
       try clear hcz13_0
       try clear hcz13_1
       try clear hcz13_10
       try clear hcz13_2
       try clear hcz13_3
       try clear hcz13_4
       try clear hcz13_5
       try clear hcz13_6
       try clear hcz13_7
       try clear hcz13_8
       try clear hcz13_9
       try clear hcz14_0
       try clear hcz14_1
       try clear hcz14_10
       try clear hcz14_2
       try clear hcz14_3
       try clear hcz14_4
       try clear hcz14_5
       try clear hcz14_6
       try clear hcz14_7
       try clear hcz14_8
       try clear hcz14_9
       try clear hcz18_0
       try clear hcz18_1
       try clear hcz18_10
       try clear hcz18_2
       try clear hcz18_3
       try clear hcz18_4
       try clear hcz18_5
       try clear hcz18_6
       try clear hcz18_7
       try clear hcz18_8
       try clear hcz18_9
       try clear hcz20_0
       try clear hcz20_1
       try clear hcz20_10
       try clear hcz20_2
       try clear hcz20_3
       try clear hcz20_4
       try clear hcz20_5
       try clear hcz20_6
       try clear hcz20_7
       try clear hcz20_8
       try clear hcz20_9
       try clear hcz21_0
       try clear hcz21_1
       try clear hcz21_10
       try clear hcz21_2
       try clear hcz21_3
       try clear hcz21_4
       try clear hcz21_5
       try clear hcz21_6
       try clear hcz21_7
       try clear hcz21_8
       try clear hcz21_9
       try clear hcz8_0
       try clear hcz8_1
       try clear hcz8_10
       try clear hcz8_2
       try clear hcz8_3
       try clear hcz8_4
       try clear hcz8_5
       try clear hcz8_6
       try clear hcz8_7
       try clear hcz8_8
       try clear hcz8_9
       try clear hfz10_0
       try clear hfz10_1
       try clear hfz10_10
       try clear hfz10_2
       try clear hfz10_3
       try clear hfz10_4
       try clear hfz10_5
       try clear hfz10_6
       try clear hfz10_7
       try clear hfz10_8
       try clear hfz10_9
       try clear hfz13_0
       try clear hfz13_1
       try clear hfz13_10
       try clear hfz13_2
       try clear hfz13_3
       try clear hfz13_4
       try clear hfz13_5
       try clear hfz13_6
       try clear hfz13_7
       try clear hfz13_8
       try clear hfz13_9
       try clear hfz14_0
       try clear hfz14_1
       try clear hfz14_10
       try clear hfz14_2
       try clear hfz14_3
       try clear hfz14_4
       try clear hfz14_5
       try clear hfz14_6
       try clear hfz14_7
       try clear hfz14_8
       try clear hfz14_9
       try clear hfz18_0
       try clear hfz18_1
       try clear hfz18_10
       try clear hfz18_2
       try clear hfz18_3
       try clear hfz18_4
       try clear hfz18_5
       try clear hfz18_6
       try clear hfz18_7
       try clear hfz18_8
       try clear hfz18_9
       try clear hfz20_0
       try clear hfz20_1
       try clear hfz20_10
       try clear hfz20_2
       try clear hfz20_3
       try clear hfz20_4
       try clear hfz20_5
       try clear hfz20_6
       try clear hfz20_7
       try clear hfz20_8
       try clear hfz20_9
       try clear hfz21_0
       try clear hfz21_1
       try clear hfz21_10
       try clear hfz21_2
       try clear hfz21_3
       try clear hfz21_4
       try clear hfz21_5
       try clear hfz21_6
       try clear hfz21_7
       try clear hfz21_8
       try clear hfz21_9
       try clear hfz8_0
       try clear hfz8_1
       try clear hfz8_10
       try clear hfz8_2
       try clear hfz8_3
       try clear hfz8_4
       try clear hfz8_5
       try clear hfz8_6
       try clear hfz8_7
       try clear hfz8_8
       try clear hfz8_9
       try clear p2
       obtain ⟨kq, x42_15, rfl, HA, HJ15, BK101, HB⟩ := hcut
       cases kq with
       | zero => exact absurd HA.out (by simp [plan_Right.j1])
       | succ kj15 =>
        have H := HA.out
        clear HA
        simp only [plan_Right.j1] at H
        by_cases c22 : x42_15 = true
        ·subst c22
         have H1 : (some 3) = some r := by rw [if_pos rfl] at H; exact H
         clear H
         have H := H1
         clear H1
         obtain rfl := Option.some.inj H
         go_wp2
         go_ret
         exact ⟨by first | rfl | (simp [errW_none, errW_some] <;> rfl) | (simp [*, errW_none, errW_some] <;> rfl), by repeat (first | (with_reducible first | exact HB.out | apply below_alloc | apply pw_below_drewN | apply below_drew1 | refine below_set ?_ GE101.out) | exact HB.out)⟩
        ·replace c22 := Bool.eq_false_iff.mpr c22
         subst c22
         have H1 : (if (l0_10.length : Int) > 2000 then (plan_Right.j2 kj15 true a0_0 a0_1 a0_2 a0_3 a0_4 a0_5 a0_6 a0_7 a0_8 a0_9 l0_10) else (plan_Right.j2 kj15 (decide ((a0_2.size : Int) > 400)) a0_0 a0_1 a0_2 a0_3 a0_4 a0_5 a0_6 a0_7 a0_8 a0_9 l0_10)) = some r := by rw [if_neg (show ¬ (false = true) by decide)] at H; exact H
         clear H
         have H := H1
         clear H1
         have HC23 := Aside0.mk H
         clear H
         go_upto_region 11 with (fail)
         go_cut [52] (fun v52 wc => ∃ (kq : Nat) (x52_22 : Bool), v52 = .bool x52_22 ∧ Aside0 (plan_Right.j2 kq x52_22 a0_0 a0_1 a0_2 a0_3 a0_4 a0_5 a0_6 a0_7 a0_8 a0_9 l0_10 = some r) ∧ Aside0 (kq ≤ kj15) ∧ Aside0 (wc.heap[gb101]? = some (.cells #[.string a0_0, .int .i64 a0_1, .string a0_2, .int .i64 a0_3, .int .i64 a0_4, .int .i64 a0_5, .string a0_6, .string a0_7, .int .i64 a0_8, .int .i64 a0_9, (.slice A0_10 l0_10.length c0_10)] 80 (0, 0))) ∧ Aside0 (Below w.heap.size w wc))
         case first =>
          have H := HC23.out
          clear HC23
          by_cases c24 : (l0_10.length : Int) > 2000
          ·rw [if_pos c24] at H
           have c24b0 : decide (2000 < (l0_10.length : Int)) = true := decide_eq_true c24
           have c24b1 : decide (2000 < l0_10.length) = true := decide_eq_true (by omega)
           clear c24
           (first | rw [c24b0] | (simp only [i64_w, i32_w]; rw [c24b0]) | skip)
           have H' := Aside0.mk H
           clear H
           have hcz25_0 : wc.cell? ⟨gb101, 0, none⟩ = some (.string a0_0) := (blk_cell BK101.out 0).trans rfl
           have hcz25_1 : wc.cell? ⟨gb101, 1, none⟩ = some (.int .i64 a0_1) := (blk_cell BK101.out 1).trans rfl
           have hcz25_2 : wc.cell? ⟨gb101, 2, none⟩ = some (.string a0_2) := (blk_cell BK101.out 2).trans rfl
           have hcz25_3 : wc.cell? ⟨gb101, 3, none⟩ = some (.int .i64 a0_3) := (blk_cell BK101.out 3).trans rfl
           have hcz25_4 : wc.cell? ⟨gb101, 4, none⟩ = some (.int .i64 a0_4) := (blk_cell BK101.out 4).trans rfl
           have hcz25_5 : wc.cell? ⟨gb101, 5, none⟩ = some (.int .i64 a0_5) := (blk_cell BK101.out 5).trans rfl
           have hcz25_6 : wc.cell? ⟨gb101, 6, none⟩ = some (.string a0_6) := (blk_cell BK101.out 6).trans rfl
           have hcz25_7 : wc.cell? ⟨gb101, 7, none⟩ = some (.string a0_7) := (blk_cell BK101.out 7).trans rfl
           have hcz25_8 : wc.cell? ⟨gb101, 8, none⟩ = some (.int .i64 a0_8) := (blk_cell BK101.out 8).trans rfl
           have hcz25_9 : wc.cell? ⟨gb101, 9, none⟩ = some (.int .i64 a0_9) := (blk_cell BK101.out 9).trans rfl
           have hcz25_10 : wc.cell? ⟨gb101, 10, none⟩ = some (.slice A0_10 l0_10.length c0_10) := (blk_cell BK101.out 10).trans rfl
           have hfz25_0 := blk_frozen BK101.out 0
           have hfz25_1 := blk_frozen BK101.out 1
           have hfz25_2 := blk_frozen BK101.out 2
           have hfz25_3 := blk_frozen BK101.out 3
           have hfz25_4 := blk_frozen BK101.out 4
           have hfz25_5 := blk_frozen BK101.out 5
           have hfz25_6 := blk_frozen BK101.out 6
           have hfz25_7 := blk_frozen BK101.out 7
           have hfz25_8 := blk_frozen BK101.out 8
           have hfz25_9 := blk_frozen BK101.out 9
           have hfz25_10 := blk_frozen BK101.out 10
           go_wp2
           go_meet
           case rel => exact ⟨_, (true), (by first | rfl | (simp; done) | (simp [*]; done) | (simp [bne]; done) | (cases a0_2.toList <;> simp [bne]; done)), H', ⟨by have := HJ5.out; have := HJ15.out; first | omega | exact Nat.le_refl _⟩, ⟨by (with_reducible repeat (first | refine blk_drewN ?_ _ | refine blk_drew ?_ | refine blk_alloc ?_ _)); exact BK101.out⟩, ⟨by repeat (first | (with_reducible first | exact HB.out | apply below_alloc | apply pw_below_drewN | apply below_drew1 | refine below_set ?_ GE101.out) | exact HB.out)⟩⟩
          ·rw [if_neg c24] at H
           have c24b0 : decide (2000 < (l0_10.length : Int)) = false := decide_eq_false c24
           have c24b1 : decide (2000 < l0_10.length) = false := decide_eq_false (by omega)
           clear c24
           (first | rw [c24b0] | (simp only [i64_w, i32_w]; rw [c24b0]) | skip)
           have H' := Aside0.mk H
           clear H
           have hcz26_0 : wc.cell? ⟨gb101, 0, none⟩ = some (.string a0_0) := (blk_cell BK101.out 0).trans rfl
           have hcz26_1 : wc.cell? ⟨gb101, 1, none⟩ = some (.int .i64 a0_1) := (blk_cell BK101.out 1).trans rfl
           have hcz26_2 : wc.cell? ⟨gb101, 2, none⟩ = some (.string a0_2) := (blk_cell BK101.out 2).trans rfl
           have hcz26_3 : wc.cell? ⟨gb101, 3, none⟩ = some (.int .i64 a0_3) := (blk_cell BK101.out 3).trans rfl
           have hcz26_4 : wc.cell? ⟨gb101, 4, none⟩ = some (.int .i64 a0_4) := (blk_cell BK101.out 4).trans rfl
           have hcz26_5 : wc.cell? ⟨gb101, 5, none⟩ = some (.int .i64 a0_5) := (blk_cell BK101.out 5).trans rfl
           have hcz26_6 : wc.cell? ⟨gb101, 6, none⟩ = some (.string a0_6) := (blk_cell BK101.out 6).trans rfl
           have hcz26_7 : wc.cell? ⟨gb101, 7, none⟩ = some (.string a0_7) := (blk_cell BK101.out 7).trans rfl
           have hcz26_8 : wc.cell? ⟨gb101, 8, none⟩ = some (.int .i64 a0_8) := (blk_cell BK101.out 8).trans rfl
           have hcz26_9 : wc.cell? ⟨gb101, 9, none⟩ = some (.int .i64 a0_9) := (blk_cell BK101.out 9).trans rfl
           have hcz26_10 : wc.cell? ⟨gb101, 10, none⟩ = some (.slice A0_10 l0_10.length c0_10) := (blk_cell BK101.out 10).trans rfl
           have hfz26_0 := blk_frozen BK101.out 0
           have hfz26_1 := blk_frozen BK101.out 1
           have hfz26_2 := blk_frozen BK101.out 2
           have hfz26_3 := blk_frozen BK101.out 3
           have hfz26_4 := blk_frozen BK101.out 4
           have hfz26_5 := blk_frozen BK101.out 5
           have hfz26_6 := blk_frozen BK101.out 6
           have hfz26_7 := blk_frozen BK101.out 7
           have hfz26_8 := blk_frozen BK101.out 8
           have hfz26_9 := blk_frozen BK101.out 9
           have hfz26_10 := blk_frozen BK101.out 10
           go_wp2
           go_meet
           case rel => exact ⟨_, (decide ((a0_2.size : Int) > 400)), (by first | rfl | (simp; done) | (simp [*]; done) | (simp [bne]; done) | (cases a0_2.toList <;> simp [bne]; done)), H', ⟨by have := HJ5.out; have := HJ15.out; first | omega | exact Nat.le_refl _⟩, ⟨by (with_reducible repeat (first | refine blk_drewN ?_ _ | refine blk_drew ?_ | refine blk_alloc ?_ _)); exact BK101.out⟩, ⟨by repeat (first | (with_reducible first | exact HB.out | apply below_alloc | apply pw_below_drewN | apply below_drew1 | refine below_set ?_ GE101.out) | exact HB.out)⟩⟩
         case rest =>
          clear HC23
          try clear c1
          try clear c2
          try clear p2
          try clear c3
          try clear c3b0
          try clear c3b1
          try clear c5
          try clear c5b0
          try clear c5b1
          try clear c7
          try clear c12
          try clear c12b0
          try clear c15
          try clear c17
          try clear c17b0
          try clear c17b1
          try clear c19
          try clear c19b0
          try clear c19b1
          try clear c22
          try clear c24
          try clear c24b0
          try clear c24b1
          try clear hcz10_0
          try clear hcz10_1
          try clear hcz10_10
          try clear hcz10_2
          try clear hcz10_3
          try clear hcz10_4
          try clear hcz10_5
          try clear hcz10_6
          try clear hcz10_7
          try clear hcz10_8
          try clear hcz10_9
          try clear hcz13_0
          try clear hcz13_1
          try clear hcz13_10
          try clear hcz13_2
          try clear hcz13_3
          try clear hcz13_4
          try clear hcz13_5
          try clear hcz13_6
          try clear hcz13_7
          try clear hcz13_8
          try clear hcz13_9
          try clear hcz14_0
          try clear hcz14_1
          try clear hcz14_10
          try clear hcz14_2
          try clear hcz14_3
          try clear hcz14_4
          try clear hcz14_5
          try clear hcz14_6
          try clear hcz14_7
          try clear hcz14_8
          try clear hcz14_9
          try clear hcz18_0
          try clear hcz18_1
          try clear hcz18_10
          try clear hcz18_2
          try clear hcz18_3
          try clear hcz18_4
          try clear hcz18_5
          try clear hcz18_6
          try clear hcz18_7
          try clear hcz18_8
          try clear hcz18_9
          try clear hcz20_0
          try clear hcz20_1
          try clear hcz20_10
          try clear hcz20_2
          try clear hcz20_3
          try clear hcz20_4
          try clear hcz20_5
          try clear hcz20_6
          try clear hcz20_7
          try clear hcz20_8
          try clear hcz20_9
          try clear hcz21_0
          try clear hcz21_1
          try clear hcz21_10
          try clear hcz21_2
          try clear hcz21_3
          try clear hcz21_4
          try clear hcz21_5
          try clear hcz21_6
          try clear hcz21_7
          try clear hcz21_8
          try clear hcz21_9
          try clear hcz25_0
          try clear hcz25_1
          try clear hcz25_10
          try clear hcz25_2
          try clear hcz25_3
          try clear hcz25_4
          try clear hcz25_5
          try clear hcz25_6
          try clear hcz25_7
          try clear hcz25_8
          try clear hcz25_9
          try clear hcz26_0
          try clear hcz26_1
          try clear hcz26_10
          try clear hcz26_2
          try clear hcz26_3
          try clear hcz26_4
          try clear hcz26_5
          try clear hcz26_6
          try clear hcz26_7
          try clear hcz26_8
          try clear hcz26_9
          try clear hcz8_0
          try clear hcz8_1
          try clear hcz8_10
          try clear hcz8_2
          try clear hcz8_3
          try clear hcz8_4
          try clear hcz8_5
          try clear hcz8_6
          try clear hcz8_7
          try clear hcz8_8
          try clear hcz8_9
          try clear hfz10_0
          try clear hfz10_1
          try clear hfz10_10
          try clear hfz10_2
          try clear hfz10_3
          try clear hfz10_4
          try clear hfz10_5
          try clear hfz10_6
          try clear hfz10_7
          try clear hfz10_8
          try clear hfz10_9
          try clear hfz13_0
          try clear hfz13_1
          try clear hfz13_10
          try clear hfz13_2
          try clear hfz13_3
          try clear hfz13_4
          try clear hfz13_5
          try clear hfz13_6
          try clear hfz13_7
          try clear hfz13_8
          try clear hfz13_9
          try clear hfz14_0
          try clear hfz14_1
          try clear hfz14_10
          try clear hfz14_2
          try clear hfz14_3
          try clear hfz14_4
          try clear hfz14_5
          try clear hfz14_6
          try clear hfz14_7
          try clear hfz14_8
          try clear hfz14_9
          try clear hfz18_0
          try clear hfz18_1
          try clear hfz18_10
          try clear hfz18_2
          try clear hfz18_3
          try clear hfz18_4
          try clear hfz18_5
          try clear hfz18_6
          try clear hfz18_7
          try clear hfz18_8
          try clear hfz18_9
          try clear hfz20_0
          try clear hfz20_1
          try clear hfz20_10
          try clear hfz20_2
          try clear hfz20_3
          try clear hfz20_4
          try clear hfz20_5
          try clear hfz20_6
          try clear hfz20_7
          try clear hfz20_8
          try clear hfz20_9
          try clear hfz21_0
          try clear hfz21_1
          try clear hfz21_10
          try clear hfz21_2
          try clear hfz21_3
          try clear hfz21_4
          try clear hfz21_5
          try clear hfz21_6
          try clear hfz21_7
          try clear hfz21_8
          try clear hfz21_9
          try clear hfz25_0
          try clear hfz25_1
          try clear hfz25_10
          try clear hfz25_2
          try clear hfz25_3
          try clear hfz25_4
          try clear hfz25_5
          try clear hfz25_6
          try clear hfz25_7
          try clear hfz25_8
          try clear hfz25_9
          try clear hfz26_0
          try clear hfz26_1
          try clear hfz26_10
          try clear hfz26_2
          try clear hfz26_3
          try clear hfz26_4
          try clear hfz26_5
          try clear hfz26_6
          try clear hfz26_7
          try clear hfz26_8
          try clear hfz26_9
          try clear hfz8_0
          try clear hfz8_1
          try clear hfz8_10
          try clear hfz8_2
          try clear hfz8_3
          try clear hfz8_4
          try clear hfz8_5
          try clear hfz8_6
          try clear hfz8_7
          try clear hfz8_8
          try clear hfz8_9
          try clear p2
          obtain ⟨kq, x52_22, rfl, HA, HJ22, BK101, HB⟩ := hcut
          cases kq with
          | zero => exact absurd HA.out (by simp [plan_Right.j2])
          | succ kj22 =>
           have H := HA.out
           clear HA
           simp only [plan_Right.j2] at H
           by_cases c27 : x52_22 = true
           ·subst c27
            have H1 : (some 1) = some r := by rw [if_pos rfl] at H; exact H
            clear H
            have H := H1
            clear H1
            obtain rfl := Option.some.inj H
            go_wp2
            go_ret
            exact ⟨by first | rfl | (simp [errW_none, errW_some] <;> rfl) | (simp [*, errW_none, errW_some] <;> rfl), by repeat (first | (with_reducible first | exact HB.out | apply below_alloc | apply pw_below_drewN | apply below_drew1 | refine below_set ?_ GE101.out) | exact HB.out)⟩
           ·replace c27 := Bool.eq_false_iff.mpr c27
            subst c27
            have H1 : (if a0_1 = 4 then ((path_Check.f kj22 a0_2).bind fun t104 => (some t104)) else ((strings_IndexByte.f a0_2 0).bind fun t105 => (if t105 ≥ 0 then (some 3) else (some 0)))) = some r := by rw [if_neg (show ¬ (false = true) by decide)] at H; exact H
            clear H
            have H := H1
            clear H1
            by_cases c28 : a0_1 = 4
            ·rw [if_pos c28] at H
             have c28b0 : (a0_1 == 4) = true := beq_iff_eq.mpr c28
             have c28b1 : (a0_1 != 4) = false := bne_eq_false_iff_eq.mpr c28
             clear c28
             replace H := Option.bind_eq_some_iff.mp H
             obtain ⟨t104, A290, H⟩ := H
             replace H : (some t104) = some r := H
             have A29 := Aside0.mk A290
             clear A290
             obtain rfl := Option.some.inj H
             have hcz30_0 : wc.cell? ⟨gb101, 0, none⟩ = some (.string a0_0) := (blk_cell BK101.out 0).trans rfl
             have hcz30_1 : wc.cell? ⟨gb101, 1, none⟩ = some (.int .i64 a0_1) := (blk_cell BK101.out 1).trans rfl
             have hcz30_2 : wc.cell? ⟨gb101, 2, none⟩ = some (.string a0_2) := (blk_cell BK101.out 2).trans rfl
             have hcz30_3 : wc.cell? ⟨gb101, 3, none⟩ = some (.int .i64 a0_3) := (blk_cell BK101.out 3).trans rfl
             have hcz30_4 : wc.cell? ⟨gb101, 4, none⟩ = some (.int .i64 a0_4) := (blk_cell BK101.out 4).trans rfl
             have hcz30_5 : wc.cell? ⟨gb101, 5, none⟩ = some (.int .i64 a0_5) := (blk_cell BK101.out 5).trans rfl
             have hcz30_6 : wc.cell? ⟨gb101, 6, none⟩ = some (.string a0_6) := (blk_cell BK101.out 6).trans rfl
             have hcz30_7 : wc.cell? ⟨gb101, 7, none⟩ = some (.string a0_7) := (blk_cell BK101.out 7).trans rfl
             have hcz30_8 : wc.cell? ⟨gb101, 8, none⟩ = some (.int .i64 a0_8) := (blk_cell BK101.out 8).trans rfl
             have hcz30_9 : wc.cell? ⟨gb101, 9, none⟩ = some (.int .i64 a0_9) := (blk_cell BK101.out 9).trans rfl
             have hcz30_10 : wc.cell? ⟨gb101, 10, none⟩ = some (.slice A0_10 l0_10.length c0_10) := (blk_cell BK101.out 10).trans rfl
             have hfz30_0 := blk_frozen BK101.out 0
             have hfz30_1 := blk_frozen BK101.out 1
             have hfz30_2 := blk_frozen BK101.out 2
             have hfz30_3 := blk_frozen BK101.out 3
             have hfz30_4 := blk_frozen BK101.out 4
             have hfz30_5 := blk_frozen BK101.out 5
             have hfz30_6 := blk_frozen BK101.out 6
             have hfz30_7 := blk_frozen BK101.out 7
             have hfz30_8 := blk_frozen BK101.out 8
             have hfz30_9 := blk_frozen BK101.out 9
             have hfz30_10 := blk_frozen BK101.out 10
             go_wp2_with (first | ((with_reducible refine gate_callee (f := 53) rfl ?_); refine goesL_ (some 58) rfl rfl Tryd.func53 (by kernel_rfl) rfl #[.string a0_2] rfl (by (try simp only [List.map_toArray, List.map_cons, List.map_nil]); first | done | rfl | (simp only [List.length_drop, List.length_take]; rfl)) ?_; (with_reducible refine (path_Check.calls kj22 a0_2 t104 _ A29.out).mono ?_); rintro e w31 ⟨rfl, hb⟩; refine ⟨_, rfl, ?_⟩; have n0_ := Aside0.mk (blk_below (g := gb101) (o := .cells #[.string a0_0, .int .i64 a0_1, .string a0_2, .int .i64 a0_3, .int .i64 a0_4, .int .i64 a0_5, .string a0_6, .string a0_7, .int .i64 a0_8, .int .i64 a0_9, .slice A0_10 l0_10.length c0_10] 80 (0, 0)) (by (with_reducible repeat (first | refine blk_drewN ?_ _ | refine blk_drew ?_ | refine blk_alloc ?_ _)); exact BK101.out) hb); have n1_ := Aside0.mk (below_step (by repeat (first | (with_reducible first | exact HB.out | apply below_alloc | apply pw_below_drewN | apply below_drew1 | refine below_set ?_ GE101.out) | exact HB.out)) hb); clear BK101; clear HB; have BK101 := n0_; have HB := n1_; clear n0_ n1_; (try clear hb); (try clear hb2); (try clear hk); (try clear hi)))
             go_ret
             exact ⟨by first | rfl | (simp [errW_none, errW_some] <;> rfl) | (simp [*, errW_none, errW_some] <;> rfl), by repeat (first | (with_reducible first | exact HB.out | apply below_alloc | apply pw_below_drewN | apply below_drew1 | refine below_set ?_ GE101.out) | exact HB.out)⟩
            ·rw [if_neg c28] at H
             have c28b0 : (a0_1 == 4) = false := beq_eq_false_iff_ne.mpr c28
             have c28b1 : (a0_1 != 4) = true := bne_iff_ne.mpr c28
             replace H := Option.bind_eq_some_iff.mp H
             obtain ⟨t105, A320, H⟩ := H
             replace H : (if t105 ≥ 0 then (some 3) else (some 0)) = some r := H
             have A32 := Aside0.mk A320
             clear A320
             by_cases c33 : t105 ≥ 0
             ·rw [if_pos c33] at H
              have c33b0 : decide (0 ≤ t105) = true := decide_eq_true c33
              clear c33
              obtain rfl := Option.some.inj H
              have hcz34_0 : wc.cell? ⟨gb101, 0, none⟩ = some (.string a0_0) := (blk_cell BK101.out 0).trans rfl
              have hcz34_1 : wc.cell? ⟨gb101, 1, none⟩ = some (.int .i64 a0_1) := (blk_cell BK101.out 1).trans rfl
              have hcz34_2 : wc.cell? ⟨gb101, 2, none⟩ = some (.string a0_2) := (blk_cell BK101.out 2).trans rfl
              have hcz34_3 : wc.cell? ⟨gb101, 3, none⟩ = some (.int .i64 a0_3) := (blk_cell BK101.out 3).trans rfl
              have hcz34_4 : wc.cell? ⟨gb101, 4, none⟩ = some (.int .i64 a0_4) := (blk_cell BK101.out 4).trans rfl
              have hcz34_5 : wc.cell? ⟨gb101, 5, none⟩ = some (.int .i64 a0_5) := (blk_cell BK101.out 5).trans rfl
              have hcz34_6 : wc.cell? ⟨gb101, 6, none⟩ = some (.string a0_6) := (blk_cell BK101.out 6).trans rfl
              have hcz34_7 : wc.cell? ⟨gb101, 7, none⟩ = some (.string a0_7) := (blk_cell BK101.out 7).trans rfl
              have hcz34_8 : wc.cell? ⟨gb101, 8, none⟩ = some (.int .i64 a0_8) := (blk_cell BK101.out 8).trans rfl
              have hcz34_9 : wc.cell? ⟨gb101, 9, none⟩ = some (.int .i64 a0_9) := (blk_cell BK101.out 9).trans rfl
              have hcz34_10 : wc.cell? ⟨gb101, 10, none⟩ = some (.slice A0_10 l0_10.length c0_10) := (blk_cell BK101.out 10).trans rfl
              have hfz34_0 := blk_frozen BK101.out 0
              have hfz34_1 := blk_frozen BK101.out 1
              have hfz34_2 := blk_frozen BK101.out 2
              have hfz34_3 := blk_frozen BK101.out 3
              have hfz34_4 := blk_frozen BK101.out 4
              have hfz34_5 := blk_frozen BK101.out 5
              have hfz34_6 := blk_frozen BK101.out 6
              have hfz34_7 := blk_frozen BK101.out 7
              have hfz34_8 := blk_frozen BK101.out 8
              have hfz34_9 := blk_frozen BK101.out 9
              have hfz34_10 := blk_frozen BK101.out 10
              go_wp2_with (first | ((with_reducible refine gate_callee (f := 27) rfl ?_); refine goesL_ (some 61) rfl rfl Tryd.func27 (by kernel_rfl) rfl #[.string a0_2, .int .u8 0] rfl (by (try simp only [List.map_toArray, List.map_cons, List.map_nil]); first | done | rfl | (simp only [List.length_drop, List.length_take]; rfl)) ?_; (with_reducible refine (strings_IndexByte.calls a0_2 0 t105 _ A32.out).mono ?_); rintro e w' ⟨rfl, ⟨nd, rfl⟩⟩; refine ⟨_, rfl, ?_⟩))
              go_ret
              exact ⟨by first | rfl | (simp [errW_none, errW_some] <;> rfl) | (simp [*, errW_none, errW_some] <;> rfl), by repeat (first | (with_reducible first | exact HB.out | apply below_alloc | apply pw_below_drewN | apply below_drew1 | refine below_set ?_ GE101.out) | exact HB.out)⟩
             ·rw [if_neg c33] at H
              have c33b0 : decide (0 ≤ t105) = false := decide_eq_false c33
              clear c33
              obtain rfl := Option.some.inj H
              have hcz35_0 : wc.cell? ⟨gb101, 0, none⟩ = some (.string a0_0) := (blk_cell BK101.out 0).trans rfl
              have hcz35_1 : wc.cell? ⟨gb101, 1, none⟩ = some (.int .i64 a0_1) := (blk_cell BK101.out 1).trans rfl
              have hcz35_2 : wc.cell? ⟨gb101, 2, none⟩ = some (.string a0_2) := (blk_cell BK101.out 2).trans rfl
              have hcz35_3 : wc.cell? ⟨gb101, 3, none⟩ = some (.int .i64 a0_3) := (blk_cell BK101.out 3).trans rfl
              have hcz35_4 : wc.cell? ⟨gb101, 4, none⟩ = some (.int .i64 a0_4) := (blk_cell BK101.out 4).trans rfl
              have hcz35_5 : wc.cell? ⟨gb101, 5, none⟩ = some (.int .i64 a0_5) := (blk_cell BK101.out 5).trans rfl
              have hcz35_6 : wc.cell? ⟨gb101, 6, none⟩ = some (.string a0_6) := (blk_cell BK101.out 6).trans rfl
              have hcz35_7 : wc.cell? ⟨gb101, 7, none⟩ = some (.string a0_7) := (blk_cell BK101.out 7).trans rfl
              have hcz35_8 : wc.cell? ⟨gb101, 8, none⟩ = some (.int .i64 a0_8) := (blk_cell BK101.out 8).trans rfl
              have hcz35_9 : wc.cell? ⟨gb101, 9, none⟩ = some (.int .i64 a0_9) := (blk_cell BK101.out 9).trans rfl
              have hcz35_10 : wc.cell? ⟨gb101, 10, none⟩ = some (.slice A0_10 l0_10.length c0_10) := (blk_cell BK101.out 10).trans rfl
              have hfz35_0 := blk_frozen BK101.out 0
              have hfz35_1 := blk_frozen BK101.out 1
              have hfz35_2 := blk_frozen BK101.out 2
              have hfz35_3 := blk_frozen BK101.out 3
              have hfz35_4 := blk_frozen BK101.out 4
              have hfz35_5 := blk_frozen BK101.out 5
              have hfz35_6 := blk_frozen BK101.out 6
              have hfz35_7 := blk_frozen BK101.out 7
              have hfz35_8 := blk_frozen BK101.out 8
              have hfz35_9 := blk_frozen BK101.out 9
              have hfz35_10 := blk_frozen BK101.out 10
              go_wp2_with (first | ((with_reducible refine gate_callee (f := 27) rfl ?_); refine goesL_ (some 61) rfl rfl Tryd.func27 (by kernel_rfl) rfl #[.string a0_2, .int .u8 0] rfl (by (try simp only [List.map_toArray, List.map_cons, List.map_nil]); first | done | rfl | (simp only [List.length_drop, List.length_take]; rfl)) ?_; (with_reducible refine (strings_IndexByte.calls a0_2 0 t105 _ A32.out).mono ?_); rintro e w' ⟨rfl, ⟨nd, rfl⟩⟩; refine ⟨_, rfl, ?_⟩))
              go_ret
              exact ⟨by first | rfl | (simp [errW_none, errW_some] <;> rfl) | (simp [*, errW_none, errW_some] <;> rfl), by repeat (first | (with_reducible first | exact HB.out | apply below_alloc | apply pw_below_drewN | apply below_drew1 | refine below_set ?_ GE101.out) | exact HB.out)⟩
  ·rw [if_neg c5] at H
   have c5b0 : (t103 == 0) = false := beq_eq_false_iff_ne.mpr c5
   have c5b1 : (t103 != 0) = true := bne_iff_ne.mpr c5
   obtain rfl := Option.some.inj H
   go_enter Tryd.func50, Tryd.ntmps50
   go_wp2_with (first | ((with_reducible refine gate_dst (N := 1) rfl ?_); (try (refine gate_guard (by rfl) ?_; dsimp only)); refine box_event ?hg (N := 1) ?hd (cs := #[.string a0_0, .int .i64 a0_1, .string a0_2, .int .i64 a0_3, .int .i64 a0_4, .int .i64 a0_5, .string a0_6, .string a0_7, .int .i64 a0_8, .int .i64 a0_9, .slice A0_10 l0_10.length c0_10]) (t := 80) ?hr ?_; (case hd => rfl); (case hg => rfl); (case hr => first | (go_simp; done) | (go_simp; rfl)); intro gb101 hg w36 hbox hb; have n0_ := Aside0.mk (below_step (by repeat (first | (with_reducible first | exact HB.out | apply below_alloc | apply pw_below_drewN | apply below_drew1) | exact HB.out)) hb); have n1_ := Aside0.mk (hbox); have n2_ := Aside0.mk ((by rw [hg]; exact (below_size (by repeat (first | (with_reducible first | exact HB.out | apply below_alloc | apply pw_below_drewN | apply below_drew1) | exact HB.out))) : w.heap.size ≤ gb101)); have n3_ := Aside0.mk ((by rw [hg]; exact (below_size (by repeat (first | (with_reducible first | exact HB.out | apply below_alloc | apply pw_below_drewN | apply below_drew1) | exact HB.out))) : w.heap.size ≤ gb101)); clear HB; have HB := n0_; have BK101 := n1_; have GW101 := n2_; have GE101 := n3_; clear n0_ n1_ n2_ n3_; clear hb hbox hg; have hcz37_0 : w36.cell? ⟨gb101, 0, none⟩ = some (.string a0_0) := (blk_cell BK101.out 0).trans rfl; have hcz37_1 : w36.cell? ⟨gb101, 1, none⟩ = some (.int .i64 a0_1) := (blk_cell BK101.out 1).trans rfl; have hcz37_2 : w36.cell? ⟨gb101, 2, none⟩ = some (.string a0_2) := (blk_cell BK101.out 2).trans rfl; have hcz37_3 : w36.cell? ⟨gb101, 3, none⟩ = some (.int .i64 a0_3) := (blk_cell BK101.out 3).trans rfl; have hcz37_4 : w36.cell? ⟨gb101, 4, none⟩ = some (.int .i64 a0_4) := (blk_cell BK101.out 4).trans rfl; have hcz37_5 : w36.cell? ⟨gb101, 5, none⟩ = some (.int .i64 a0_5) := (blk_cell BK101.out 5).trans rfl; have hcz37_6 : w36.cell? ⟨gb101, 6, none⟩ = some (.string a0_6) := (blk_cell BK101.out 6).trans rfl; have hcz37_7 : w36.cell? ⟨gb101, 7, none⟩ = some (.string a0_7) := (blk_cell BK101.out 7).trans rfl; have hcz37_8 : w36.cell? ⟨gb101, 8, none⟩ = some (.int .i64 a0_8) := (blk_cell BK101.out 8).trans rfl; have hcz37_9 : w36.cell? ⟨gb101, 9, none⟩ = some (.int .i64 a0_9) := (blk_cell BK101.out 9).trans rfl; have hcz37_10 : w36.cell? ⟨gb101, 10, none⟩ = some (.slice A0_10 l0_10.length c0_10) := (blk_cell BK101.out 10).trans rfl; have hfz37_0 := blk_frozen BK101.out 0; have hfz37_1 := blk_frozen BK101.out 1; have hfz37_2 := blk_frozen BK101.out 2; have hfz37_3 := blk_frozen BK101.out 3; have hfz37_4 := blk_frozen BK101.out 4; have hfz37_5 := blk_frozen BK101.out 5; have hfz37_6 := blk_frozen BK101.out 6; have hfz37_7 := blk_frozen BK101.out 7; have hfz37_8 := blk_frozen BK101.out 8; have hfz37_9 := blk_frozen BK101.out 9; have hfz37_10 := blk_frozen BK101.out 10) | ((with_reducible refine gate_callee (f := 53) rfl ?_); refine goesL_ (some 7) rfl rfl Tryd.func53 (by kernel_rfl) rfl #[.string a0_0] rfl (by (try simp only [List.map_toArray, List.map_cons, List.map_nil]); first | done | rfl | (simp only [List.length_drop, List.length_take]; rfl)) ?_; (with_reducible refine (path_Check.calls k a0_0 t102 _ A2.out).mono ?_); rintro e w38 ⟨rfl, hb⟩; refine ⟨_, rfl, ?_⟩; have n0_ := Aside0.mk (blk_below (g := gb101) (o := .cells #[.string a0_0, .int .i64 a0_1, .string a0_2, .int .i64 a0_3, .int .i64 a0_4, .int .i64 a0_5, .string a0_6, .string a0_7, .int .i64 a0_8, .int .i64 a0_9, .slice A0_10 l0_10.length c0_10] 80 (0, 0)) (by (with_reducible repeat (first | refine blk_drewN ?_ _ | refine blk_drew ?_ | refine blk_alloc ?_ _)); exact BK101.out) hb); have n1_ := Aside0.mk (below_step (by repeat (first | (with_reducible first | exact HB.out | apply below_alloc | apply pw_below_drewN | apply below_drew1 | refine below_set ?_ GE101.out) | exact HB.out)) hb); clear BK101; clear HB; have BK101 := n0_; have HB := n1_; clear n0_ n1_; (try clear hb); (try clear hb2); (try clear hk); (try clear hi); have hcz39_0 : w38.cell? ⟨gb101, 0, none⟩ = some (.string a0_0) := (blk_cell BK101.out 0).trans rfl; have hcz39_1 : w38.cell? ⟨gb101, 1, none⟩ = some (.int .i64 a0_1) := (blk_cell BK101.out 1).trans rfl; have hcz39_2 : w38.cell? ⟨gb101, 2, none⟩ = some (.string a0_2) := (blk_cell BK101.out 2).trans rfl; have hcz39_3 : w38.cell? ⟨gb101, 3, none⟩ = some (.int .i64 a0_3) := (blk_cell BK101.out 3).trans rfl; have hcz39_4 : w38.cell? ⟨gb101, 4, none⟩ = some (.int .i64 a0_4) := (blk_cell BK101.out 4).trans rfl; have hcz39_5 : w38.cell? ⟨gb101, 5, none⟩ = some (.int .i64 a0_5) := (blk_cell BK101.out 5).trans rfl; have hcz39_6 : w38.cell? ⟨gb101, 6, none⟩ = some (.string a0_6) := (blk_cell BK101.out 6).trans rfl; have hcz39_7 : w38.cell? ⟨gb101, 7, none⟩ = some (.string a0_7) := (blk_cell BK101.out 7).trans rfl; have hcz39_8 : w38.cell? ⟨gb101, 8, none⟩ = some (.int .i64 a0_8) := (blk_cell BK101.out 8).trans rfl; have hcz39_9 : w38.cell? ⟨gb101, 9, none⟩ = some (.int .i64 a0_9) := (blk_cell BK101.out 9).trans rfl; have hcz39_10 : w38.cell? ⟨gb101, 10, none⟩ = some (.slice A0_10 l0_10.length c0_10) := (blk_cell BK101.out 10).trans rfl; have hfz39_0 := blk_frozen BK101.out 0; have hfz39_1 := blk_frozen BK101.out 1; have hfz39_2 := blk_frozen BK101.out 2; have hfz39_3 := blk_frozen BK101.out 3; have hfz39_4 := blk_frozen BK101.out 4; have hfz39_5 := blk_frozen BK101.out 5; have hfz39_6 := blk_frozen BK101.out 6; have hfz39_7 := blk_frozen BK101.out 7; have hfz39_8 := blk_frozen BK101.out 8; have hfz39_9 := blk_frozen BK101.out 9; have hfz39_10 := blk_frozen BK101.out 10) | ((with_reducible refine gate_callee (f := 71) rfl ?_); refine goesL_ (some 13) rfl rfl Tryd.func71 (by kernel_rfl) rfl #[.agg #[.int .i64 a0_3, .int .i64 a0_4, .int .i64 a0_5, .string a0_6, .string a0_7, .int .i64 a0_8, .int .i64 a0_9]] rfl (by (try simp only [List.map_toArray, List.map_cons, List.map_nil]); first | done | rfl | (simp only [List.length_drop, List.length_take]; rfl)) ?_; (with_reducible refine (meta_Check.calls k a0_3 a0_4 a0_5 a0_6 a0_7 a0_8 a0_9 t103 _ A4.out).mono ?_); rintro e w40 ⟨rfl, hb⟩; refine ⟨_, rfl, ?_⟩; have n0_ := Aside0.mk (blk_below (g := gb101) (o := .cells #[.string a0_0, .int .i64 a0_1, .string a0_2, .int .i64 a0_3, .int .i64 a0_4, .int .i64 a0_5, .string a0_6, .string a0_7, .int .i64 a0_8, .int .i64 a0_9, .slice A0_10 l0_10.length c0_10] 80 (0, 0)) (by (with_reducible repeat (first | refine blk_drewN ?_ _ | refine blk_drew ?_ | refine blk_alloc ?_ _)); exact BK101.out) hb); have n1_ := Aside0.mk (below_step (by repeat (first | (with_reducible first | exact HB.out | apply below_alloc | apply pw_below_drewN | apply below_drew1 | refine below_set ?_ GE101.out) | exact HB.out)) hb); clear BK101; clear HB; have BK101 := n0_; have HB := n1_; clear n0_ n1_; (try clear hb); (try clear hb2); (try clear hk); (try clear hi)))
   go_ret
   exact ⟨by first | rfl | (simp [errW_none, errW_some] <;> rfl) | (simp [*, errW_none, errW_some] <;> rfl), by repeat (first | (with_reducible first | exact HB.out | apply below_alloc | apply pw_below_drewN | apply below_drew1 | refine below_set ?_ GE101.out) | exact HB.out)⟩
 ·rw [if_neg c3] at H
  have c3b0 : (t102 == 0) = false := beq_eq_false_iff_ne.mpr c3
  have c3b1 : (t102 != 0) = true := bne_iff_ne.mpr c3
  obtain rfl := Option.some.inj H
  go_enter Tryd.func50, Tryd.ntmps50
  go_wp2_with (first | ((with_reducible refine gate_dst (N := 1) rfl ?_); (try (refine gate_guard (by rfl) ?_; dsimp only)); refine box_event ?hg (N := 1) ?hd (cs := #[.string a0_0, .int .i64 a0_1, .string a0_2, .int .i64 a0_3, .int .i64 a0_4, .int .i64 a0_5, .string a0_6, .string a0_7, .int .i64 a0_8, .int .i64 a0_9, .slice A0_10 l0_10.length c0_10]) (t := 80) ?hr ?_; (case hd => rfl); (case hg => rfl); (case hr => first | (go_simp; done) | (go_simp; rfl)); intro gb101 hg w41 hbox hb; have n0_ := Aside0.mk (below_step (by repeat (first | (with_reducible first | exact HB.out | apply below_alloc | apply pw_below_drewN | apply below_drew1) | exact HB.out)) hb); have n1_ := Aside0.mk (hbox); have n2_ := Aside0.mk ((by rw [hg]; exact (below_size (by repeat (first | (with_reducible first | exact HB.out | apply below_alloc | apply pw_below_drewN | apply below_drew1) | exact HB.out))) : w.heap.size ≤ gb101)); have n3_ := Aside0.mk ((by rw [hg]; exact (below_size (by repeat (first | (with_reducible first | exact HB.out | apply below_alloc | apply pw_below_drewN | apply below_drew1) | exact HB.out))) : w.heap.size ≤ gb101)); clear HB; have HB := n0_; have BK101 := n1_; have GW101 := n2_; have GE101 := n3_; clear n0_ n1_ n2_ n3_; clear hb hbox hg; have hcz42_0 : w41.cell? ⟨gb101, 0, none⟩ = some (.string a0_0) := (blk_cell BK101.out 0).trans rfl; have hcz42_1 : w41.cell? ⟨gb101, 1, none⟩ = some (.int .i64 a0_1) := (blk_cell BK101.out 1).trans rfl; have hcz42_2 : w41.cell? ⟨gb101, 2, none⟩ = some (.string a0_2) := (blk_cell BK101.out 2).trans rfl; have hcz42_3 : w41.cell? ⟨gb101, 3, none⟩ = some (.int .i64 a0_3) := (blk_cell BK101.out 3).trans rfl; have hcz42_4 : w41.cell? ⟨gb101, 4, none⟩ = some (.int .i64 a0_4) := (blk_cell BK101.out 4).trans rfl; have hcz42_5 : w41.cell? ⟨gb101, 5, none⟩ = some (.int .i64 a0_5) := (blk_cell BK101.out 5).trans rfl; have hcz42_6 : w41.cell? ⟨gb101, 6, none⟩ = some (.string a0_6) := (blk_cell BK101.out 6).trans rfl; have hcz42_7 : w41.cell? ⟨gb101, 7, none⟩ = some (.string a0_7) := (blk_cell BK101.out 7).trans rfl; have hcz42_8 : w41.cell? ⟨gb101, 8, none⟩ = some (.int .i64 a0_8) := (blk_cell BK101.out 8).trans rfl; have hcz42_9 : w41.cell? ⟨gb101, 9, none⟩ = some (.int .i64 a0_9) := (blk_cell BK101.out 9).trans rfl; have hcz42_10 : w41.cell? ⟨gb101, 10, none⟩ = some (.slice A0_10 l0_10.length c0_10) := (blk_cell BK101.out 10).trans rfl; have hfz42_0 := blk_frozen BK101.out 0; have hfz42_1 := blk_frozen BK101.out 1; have hfz42_2 := blk_frozen BK101.out 2; have hfz42_3 := blk_frozen BK101.out 3; have hfz42_4 := blk_frozen BK101.out 4; have hfz42_5 := blk_frozen BK101.out 5; have hfz42_6 := blk_frozen BK101.out 6; have hfz42_7 := blk_frozen BK101.out 7; have hfz42_8 := blk_frozen BK101.out 8; have hfz42_9 := blk_frozen BK101.out 9; have hfz42_10 := blk_frozen BK101.out 10) | ((with_reducible refine gate_callee (f := 53) rfl ?_); refine goesL_ (some 7) rfl rfl Tryd.func53 (by kernel_rfl) rfl #[.string a0_0] rfl (by (try simp only [List.map_toArray, List.map_cons, List.map_nil]); first | done | rfl | (simp only [List.length_drop, List.length_take]; rfl)) ?_; (with_reducible refine (path_Check.calls k a0_0 t102 _ A2.out).mono ?_); rintro e w43 ⟨rfl, hb⟩; refine ⟨_, rfl, ?_⟩; have n0_ := Aside0.mk (blk_below (g := gb101) (o := .cells #[.string a0_0, .int .i64 a0_1, .string a0_2, .int .i64 a0_3, .int .i64 a0_4, .int .i64 a0_5, .string a0_6, .string a0_7, .int .i64 a0_8, .int .i64 a0_9, .slice A0_10 l0_10.length c0_10] 80 (0, 0)) (by (with_reducible repeat (first | refine blk_drewN ?_ _ | refine blk_drew ?_ | refine blk_alloc ?_ _)); exact BK101.out) hb); have n1_ := Aside0.mk (below_step (by repeat (first | (with_reducible first | exact HB.out | apply below_alloc | apply pw_below_drewN | apply below_drew1 | refine below_set ?_ GE101.out) | exact HB.out)) hb); clear BK101; clear HB; have BK101 := n0_; have HB := n1_; clear n0_ n1_; (try clear hb); (try clear hb2); (try clear hk); (try clear hi)))
  go_ret
  exact ⟨by first | rfl | (simp [errW_none, errW_some] <;> rfl) | (simp [*, errW_none, errW_some] <;> rfl), by repeat (first | (with_reducible first | exact HB.out | apply below_alloc | apply pw_below_drewN | apply below_drew1 | refine below_set ?_ GE101.out) | exact HB.out)⟩

end Go.Proofs.YtgkofpjeiogafaaDoor.All
end
section
namespace Go.Proofs.YtgkofpjeiogafaaDoor.All
open Go.RowKit Go.Proofs.YtgkofpjeiogafaaDoorW.PrintWords Go.Proofs.YtgkofpjeiogafaaDoorW.PrintLast Go.Proofs.YtgkofpjeiogafaaDoorW.PrintMore
open Go.Proofs.YtgkofpjeiogafaaDoorW.Mine
attribute [local go_sem] gtr_string leq_string geq_string
attribute [local go_sem] max2_int min2_int max_two min_two max_three min_three max_four min_four   -- for this text's walks alone
set_option linter.unusedVariables false
set_option linter.unusedSimpArgs false

/-! ### plan_Check: function 14 -/
open Go.Proofs.YtgkofpjeiogafaaDoorW.MapOwn
attribute [local go_sem high] eqK65
def plan_Check.right (k : Nat) (x : S80) : Option Int := plan_Right.f k (x).f0 (x).f1 (x).f2 (x).f3.f0 (x).f3.f1 (x).f3.f2 (x).f3.f3 (x).f3.f4 (x).f3.f5 (x).f3.f6 (x).f4
/-- is the path behind the last one no greater? -/
def plan_Check.two (k : Nat) (l : List S80) (x : S80) (n : Nat) : Option Bool := if 0 < n then (path_Compare.f k (rd_T80 l ((n - 1 : Nat) : Int)).f0 x.f0).bind fun c => some (decide (0 ≤ c)) else some false
def plan_Check.meta (y x : S80) : Bool := ((y.f3).f0 == (x.f3).f0 && ((y.f3).f1 == (x.f3).f1 && ((y.f3).f2 == (x.f3).f2 && ((y.f3).f3.toList == (x.f3).f3.toList && ((y.f3).f4.toList == (x.f3).f4.toList && ((y.f3).f5 == (x.f3).f5 && ((y.f3).f6 == (x.f3).f6)))))))
/-- is what it is in no directory met so far? -/
def plan_Check.up (m : List (List UInt8 × S80)) (x : S80) : Option Bool := (path_Up.f x.f0).bind fun up => if up.toList = ([] : List UInt8) then some false else if up.size ≤ maxLen then (match get m up.data.toList with
 | some y => some (y.f1 != 2)
 | none => some true) else none
/-- is what it is a link to no file met so far? -/
def plan_Check.link (m : List (List UInt8 × S80)) (x : S80) : Option Bool := if x.f2.size ≤ maxLen then (match get m x.f2.data.toList with
 | some y => some (if x.f1 = 4 then (if y.f1 = 1 then !plan_Check.meta y x else true) else false)
 | none => some (decide (x.f1 = 4))) else none
def plan_Check.step (k : Nat) (l : List S80) (m : List (List UInt8 × S80)) (x : S80) (n : Nat) : Option Int := (plan_Check.right k x).bind fun e => if e = 0 then ((plan_Check.two k l x n).bind fun t => if t = true then some 6 else (plan_Check.up m x).bind fun u => if u = true then some 10 else (plan_Check.link m x).bind fun v => if v = true then some 11 else if x.f0.size ≤ maxLen then some 0 else none) else some e
def plan_Check.l0 : Nat → List S80 → List (List UInt8 × S80) → Nat → Option Int
 | 0, _, _, _ => none
 | k + 1, l, m, n => if n < l.length then (plan_Check.step k l m (rd_T80 l (n : Int)) n).bind fun e => if e = 0 then plan_Check.l0 k l (((rd_T80 l (n : Int)).f0.data.toList, rd_T80 l (n : Int)) :: m) (n + 1) else some e else some 0
def plan_Check.f (k : Nat) (l0 : List S80) : Option Int := if 40 < l0.length then some 1 else plan_Check.l0 k l0 [] 0
theorem plan_Check.mono_two : ∀ l x n k, LeO (plan_Check.two k l x n) (plan_Check.two (k + 1) l x n) := by
 intro l x n k
 unfold plan_Check.two
 repeat' first
   | (with_reducible exact LeO.refl _)
   | (with_reducible exact LeO.none _)
   | (with_reducible refine LeO.ite ?_ ?_)
   | (with_reducible refine LeO.bind ?_ (fun _ => ?_))
   | exact path_Compare.mono _ _ _
theorem plan_Check.mono_step : ∀ l m x n k, LeO (plan_Check.step k l m x n) (plan_Check.step (k + 1) l m x n) := by
 intro l m x n k
 unfold plan_Check.step plan_Check.right
 repeat' first
   | (with_reducible exact LeO.refl _)
   | (with_reducible exact LeO.none _)
   | (with_reducible refine LeO.ite ?_ ?_)
   | (with_reducible refine LeO.bind ?_ (fun _ => ?_))
   | exact plan_Check.mono_two _ _ _ _
   | exact plan_Right.mono _ _ _ _ _ _ _ _ _ _ _ _
theorem plan_Check.mono_l : ∀ k, (∀ y0 y1 y2, LeO (plan_Check.l0 k y0 y1 y2) (plan_Check.l0 (k + 1) y0 y1 y2))
 | 0 => fun _ _ _ r h => by simp [plan_Check.l0] at h
 | k + 1 => by
  have ih0 := plan_Check.mono_l k
  intro y0 y1 y2
  unfold plan_Check.l0
  repeat' first
    | (with_reducible exact ih0 _ _ _)
    | (with_reducible exact LeO.refl _)
    | (with_reducible exact LeO.none _)
    | (with_reducible refine LeO.ite ?_ ?_)
    | (with_reducible refine LeO.bind ?_ (fun _ => ?_))
    | exact plan_Check.mono_step _ _ _ _ _
theorem plan_Check.mono : ∀ a0 k, LeO (plan_Check.f k a0) (plan_Check.f (k + 1) a0) := by
 intro a0 k
 have ih0 := plan_Check.mono_l k
 unfold plan_Check.f
 repeat' first
   | (with_reducible exact ih0 _ _ _)
   | (with_reducible exact LeO.refl _)
   | (with_reducible exact LeO.none _)
   | (with_reducible refine LeO.ite ?_ ?_)
   | (with_reducible refine LeO.bind ?_ (fun _ => ?_))
/-- an entry as the map keeps it -/
def plan_Check.Rep (w : World) (y : S80) (v : Value) : Prop := ∃ cs : Array Value, v = .agg cs ∧ k80.K w y cs.toList
def plan_Check.Inv (w W : World) (bm n : Nat) (m : List (List UInt8 × S80)) : Prop := MapAt Lit.string Tryd.prog 9 (plan_Check.Rep w) W bm n m ∧ w.heap.size ≤ bm ∧ Below w.heap.size w W
def plan_Check.St (w W : World) (bm n : Nat) (m : List (List UInt8 × S80)) (gb : Nat) (cs : Array Value) : Prop := plan_Check.Inv w W bm n m ∧ w.heap.size ≤ gb ∧ gb ≠ bm ∧ W.heap[gb]? = some (.cells cs 80 (0, 0))
section
variable {w W W' : World} {bm n gb g2 : Nat} {m m' : List (List UInt8 × S80)} {cs cs' : Array Value}
theorem plan_Check.Inv.step (h : plan_Check.Inv w W bm n m) (hb : Below W.heap.size W W') : plan_Check.Inv w W' bm n m := ⟨h.1.below hb, h.2.1, below_step h.2.2 hb⟩
theorem plan_Check.Inv.box (h : plan_Check.Inv w W bm n m) (hg : gb = W.heap.size) (hk : W'.heap[gb]? = some (.cells cs 80 (0, 0))) (hb : Below W.heap.size W W') : plan_Check.St w W' bm n m gb cs := ⟨h.step hb, by rw [hg]; exact h.2.2.size, by have := h.1.lt; omega, hk⟩
theorem plan_Check.Inv.putM (h : plan_Check.Inv w W bm n m) (hm : MapAt Lit.string Tryd.prog 9 (plan_Check.Rep w) W' bm (n + 1) m') (hg : W.grownBy W' (some bm)) : plan_Check.Inv w W' bm (n + 1) m' := ⟨hm, h.2.1, below_grown h.2.2 hg h.2.1 h.1.lt⟩
theorem plan_Check.St.step (h : plan_Check.St w W bm n m gb cs) (hb : Below W.heap.size W W') : plan_Check.St w W' bm n m gb cs := ⟨h.1.step hb, h.2.1, h.2.2.1, blk_below h.2.2.2 hb⟩
theorem plan_Check.St.drewN (h : plan_Check.St w W bm n m gb cs) (q : Nat) : plan_Check.St w (W.drewN q) bm n m gb cs := h.step (pw_below_drewN (Below.refl _ _) q)
theorem plan_Check.St.drew (h : plan_Check.St w W bm n m gb cs) : plan_Check.St w W.drew bm n m gb cs := h.step (below_drew1 (Below.refl _ _))
theorem plan_Check.St.put (h : plan_Check.St w W bm n m gb cs) (hk : W'.heap[gb]? = some (.cells cs' 80 (0, 0))) (hg : W.grownBy W' (some gb)) : plan_Check.St w W' bm n m gb cs' := ⟨⟨h.1.1.kept hg (fun e => h.2.2.1 (by injection e with e; exact e.symm)), h.1.2.1, below_grown h.1.2.2 hg h.2.1 (blk_lt h.2.2.2)⟩, h.2.1, h.2.2.1, hk⟩
theorem plan_Check.St.apart (h : plan_Check.St w W bm n m gb cs) (hg : g2 = W.heap.size) : w.heap.size ≤ g2 ∧ gb ≠ g2 ∧ bm ≠ g2 := ⟨by rw [hg]; exact h.1.2.2.size, by have := blk_lt h.2.2.2; omega, by have := h.1.1.lt; omega⟩
theorem plan_Check.St.other (h : plan_Check.St w W bm n m gb cs) (hg : W.grownBy W' (some g2)) (ha : w.heap.size ≤ g2 ∧ gb ≠ g2 ∧ bm ≠ g2) (hl : g2 < W.heap.size) : plan_Check.St w W' bm n m gb cs := ⟨⟨h.1.1.kept hg (fun e => ha.2.2 (by injection e)), h.1.2.1, below_grown h.1.2.2 hg ha.1 hl⟩, h.2.1, h.2.2.1, blk_grown h.2.2.2 hg (fun e => ha.2.1 (by injection e))⟩
end
theorem plan_Check.value_event {ops : Array Oper} {rest : List Oper} {o : Oper} {a : Act} {Q : Exit → Act → World → Prop} {W : World} (hw : Region.wanted o (yielded ops a.tmps) = true) (v : Value) (hrun : (execOp a.eval o).run Tryd.prog W = .ok (.value v) W) (h : wpList Tryd.prog ops Q rest (a.put o.dst v) W) : wpList Tryd.prog ops Q (o :: rest) a W := by
 refine wpList_want W hw fun K hK => ?_
 unfold Oper.wp
 rw [hrun, Oper.upon_value]
 exact hK _ _ h
set_option maxHeartbeats 8000000 in
set_option maxRecDepth 100000 in
theorem plan_Check.calls (k : Nat) (A0 : Option Addr) (c0 : Nat) (l0 : List (S80)) (r : Int) (w : World) (hr0 : Kd.C k80 w A0 l0.length l0) (hc0 : l0.length ≤ c0) (h : plan_Check.f k l0 = some r) :
  Calls Tryd.prog 14 #[.slice A0 l0.length c0] w fun e w' => e = .returned (.int .i64 r) ∧ Below w.heap.size w w' := by
 have hu80 := Tryd.underlying80
 have hu65 := Tryd.underlying65
 have HR0 := Aside0.mk hr0
 have HC0 := Aside0.mk hc0
 clear hr0 hc0
 by_cases c1 : 40 < l0.length
 ·have H : (if 40 < l0.length then some 1 else plan_Check.l0 k l0 [] 0) = some r := h
  rw [if_pos c1] at H
  obtain rfl := Option.some.inj H
  clear h H
  have c1b : decide ((40 : Int) < (l0.length : Int)) = true := decide_eq_true (by omega)
  clear c1
  go_enter Tryd.func14, Tryd.ntmps14
  go_wp2
  go_ret
  exact ⟨rfl, by first | exact Below.refl _ _ | exact below_drew1 (Below.refl _ _)⟩
 ·have H : (if 40 < l0.length then some 1 else plan_Check.l0 k l0 [] 0) = some r := h
  rw [if_neg c1] at H
  have H' := Aside0.mk H
  have HN := Aside0.mk (Nat.not_lt.1 c1)
  have c1b : decide ((40 : Int) < (l0.length : Int)) = false := decide_eq_false (by omega)
  clear h H c1
  have hmm := @run_makeMap Tryd.prog
  go_enter Tryd.func14, Tryd.ntmps14
  go_wp2
  go_loopg [15] k (fun kq v15 wx => ∃ (n : Nat) (m : List (List UInt8 × S80)), v15 = .int .i64 (n : Int) ∧ Aside0 (n ≤ l0.length) ∧ Aside0 (plan_Check.l0 kq l0 m n = some r) ∧ Aside0 (kq ≤ k) ∧ Aside0 (plan_Check.Inv w wx w.heap.size n m))
  case atStart => exact ⟨0, [], rfl, ⟨Nat.zero_le _⟩, H', ⟨Nat.le_refl _⟩, ⟨⟨MapAt.made _ _ _ _ _, Nat.le_refl _, below_alloc (Below.refl _ _) _⟩⟩⟩
  case round =>
   clear H'
   obtain ⟨n, m, rfl, HN1, HA, HK1, HI⟩ := hrel
   cases gk with
   | zero => exact absurd HA.out (by simp [plan_Check.l0])
   | succ k1 =>
    have H := HA.out
    clear HA
    simp only [plan_Check.l0] at H
    by_cases c3 : n < l0.length
    ·rw [if_pos c3] at H
     have c3b : decide ((n : Int) < (l0.length : Int)) = true := decide_eq_true (by omega)
     replace H := Option.bind_eq_some_iff.mp H
     obtain ⟨e0, AS, H⟩ := H
     obtain ⟨ad, A10, c10, e, hx, hl10, hi10⟩ := elem80 HR0.out n c3
     cases e
     have HXC := Aside0.mk hx
     clear hx
     have p3 : ((n : Int) < (l0.length : Int)) = True := eq_true (by omega)
     have p4 : (0 ≤ (n : Int)) = True := eq_true (by omega)
     have HX := Aside0.mk hi10
     have HL := Aside0.mk hl10
     have HLT := Aside0.mk c3
     clear hi10 hl10 c3
     generalize hx : rd_T80 l0 (n : Int) = x at *
     clear hx
     obtain ⟨e1, AR, AS⟩ := Option.bind_eq_some_iff.mp (show ((plan_Check.right k1 x).bind fun e => if e = 0 then ((plan_Check.two k1 l0 x n).bind fun t => if t = true then some 6 else (plan_Check.up m x).bind fun u => if u = true then some 10 else (plan_Check.link m x).bind fun v => if v = true then some 11 else if x.f0.size ≤ maxLen then some 0 else none) else some e) = some e0 from AS)
     have HAR := Aside0.mk (show plan_Right.f k1 (x).f0 (x).f1 (x).f2 (x).f3.f0 (x).f3.f1 (x).f3.f2 (x).f3.f3 (x).f3.f4 (x).f3.f5 (x).f3.f6 (x).f4 = some e1 from AR)
     clear AR
     by_cases c6 : e1 = 0
     ·rw [if_pos c6] at AS
      obtain ⟨t, AT, AS⟩ := Option.bind_eq_some_iff.mp AS
      have HAT := Aside0.mk AT
      have HQ := Aside0.mk AS
      have HH := Aside0.mk H
      have c6a : (e1 == 0) = true := beq_iff_eq.mpr c6
      have c6b : (e1 != 0) = false := bne_eq_false_iff_eq.mpr c6
      clear AS H AT c6
      go_upto_region 10 with (first | ((with_reducible refine gate_dst (N := 19) rfl ?_); refine load_event (ad := ad.add (n * 11)) rfl rfl hu80 rfl rfl (cs := [.string (x).f0, .int .i64 (x).f1, .string (x).f2, .int .i64 (x).f3.f0, .int .i64 (x).f3.f1, .int .i64 (x).f3.f2, .string (x).f3.f3, .string (x).f3.f4, .int .i64 (x).f3.f5, .int .i64 (x).f3.f6, .slice A10 (x).f4.length c10]) sz80 (fun j v hv => (HI.out.2.2.cell (World.block_lt_of_cell? w _ (HXC.out j v hv))).trans (HXC.out j v hv)) ?_) | ((with_reducible refine gate_dst (N := 5) rfl ?_); refine box_event ?hg (N := 5) ?hd (cs := #[.string (⟨#[]⟩ : ByteArray), .int .i64 0, .string (⟨#[]⟩ : ByteArray), .int .i64 0, .int .i64 0, .int .i64 0, .string (⟨#[]⟩ : ByteArray), .string (⟨#[]⟩ : ByteArray), .int .i64 0, .int .i64 0, .slice none 0 0]) (t := 80) ?hr ?_; (case hd => rfl); (case hg => rfl); (case hr => first | (go_simp; done) | (go_simp; rfl)); intro gb hg w2 hbox hb2; have HS := Aside0.mk (HI.out.box hg hbox hb2); clear hg hbox hb2 HI) | ((with_reducible refine gate_store (t := 80) (p := 5) rfl ?_); refine put_event rfl rfl rfl rfl rfl HS.out.2.2.2 sz80 rfl rfl ?_; intro w3 hk3 hg3; have HS3 := Aside0.mk (HS.out.put hk3 hg3); clear HS hk3 hg3; have HS := HS3; clear HS3) | ((with_reducible refine gate_dst (N := 20) rfl ?_); refine load_event rfl rfl hu80 rfl rfl (cs := [.string (x).f0, .int .i64 (x).f1, .string (x).f2, .int .i64 (x).f3.f0, .int .i64 (x).f3.f1, .int .i64 (x).f3.f2, .string (x).f3.f3, .string (x).f3.f4, .int .i64 (x).f3.f5, .int .i64 (x).f3.f6, .slice A10 (x).f4.length c10]) sz80 (cells_of_blk HS.out.2.2.2) ?_) | (go_at_call 50; refine (plan_Right.calls k1 (x).f0 (x).f1 (x).f2 (x).f3.f0 (x).f3.f1 (x).f3.f2 (x).f3.f3 (x).f3.f4 (x).f3.f5 (x).f3.f6 A10 c10 (x).f4 e1 _ (Kd.C_below HX.out HS.out.1.2.2) HL.out HAR.out).mono ?_; rintro e w3 ⟨rfl, hb3⟩; have HS3 := Aside0.mk (HS.out.step hb3); clear HS hb3; have HS := HS3; clear HS3))
      (try simp only [Act.put, List.setIfInBounds_toArray, List.set_cons_zero, List.set_cons_succ])
      go_cut [38] (fun v38 wc => v38 = .bool t ∧ Aside0 (plan_Check.St w wc w.heap.size n m gb #[.string (x).f0, .int .i64 (x).f1, .string (x).f2, .int .i64 (x).f3.f0, .int .i64 (x).f3.f1, .int .i64 (x).f3.f2, .string (x).f3.f3, .string (x).f3.f4, .int .i64 (x).f3.f5, .int .i64 (x).f3.f6, .slice A10 (x).f4.length c10]))
      case first =>
       by_cases c7 : 0 < n
       ·have AT := HAT.out
        clear HAT
        unfold plan_Check.two at AT
        rw [if_pos c7] at AT
        obtain ⟨c, AC, AT⟩ := Option.bind_eq_some_iff.mp AT
        obtain rfl := Option.some.inj AT
        have HAC := Aside0.mk AC
        clear AC AT
        obtain ⟨ad', A10', c10', e', hx', _, _⟩ := elem80 HR0.out (n - 1) (by have := HN1.out; omega)
        cases e'
        have h0 : w.cell? (ad.add ((n - 1) * 11)) = some (.string (rd_T80 l0 ((n - 1 : Nat) : Int)).f0) := hx' 0 _ rfl
        have hc0 := (HS.out.1.2.2.cell (World.block_lt_of_cell? w _ h0)).trans h0
        clear hx' h0
        have hw : IntKind.i64.wrap ((n : Int) - 1) = ((n - 1 : Nat) : Int) := by have := HN.out; have := HN1.out; rw [IntWalk.i64_in _ (by omega)]; omega
        have hn' : ((n - 1 : Nat) : Int) < (l0.length : Int) := by have := HN1.out; omega
        have hc1 := blk_cell HS.out.2.2.2 0
        have hg0 : decide ((0 : Int) < (n : Int)) = true := decide_eq_true (by omega)
        have hg1 : (0 < n) = True := eq_true c7
        go_region_held3 (fun w' => w'.cell? (ad.add ((n - 1) * 11)) = some (.string (rd_T80 l0 ((n - 1 : Nat) : Int)).f0) ∧ w'.cell? ⟨gb, 0, none⟩ = some (.string x.f0)) (first | go_keep | (go_split_ands; exact ⟨(hb3.cell (World.block_lt_of_cell? _ _ (by assumption))).trans (by assumption), (hb3.cell (World.block_lt_of_cell? _ _ (by assumption))).trans (by assumption)⟩)) ((go_at_call 42; refine (path_Compare.calls k1 _ _ c _ HAC.out).mono ?_; rintro e w3 ⟨rfl, hb3⟩))
        go_wp2
        go_meet
        case rel => exact ⟨rfl, ⟨by first | exact HS.out.step hb3 | exact (HS.out.drewN _).step hb3 | exact HS.out.drew.step hb3⟩⟩
       ·have AT := HAT.out
        clear HAT
        unfold plan_Check.two at AT
        rw [if_neg c7] at AT
        obtain rfl := Option.some.inj AT
        clear AT
        have hg0 : decide ((0 : Int) < (n : Int)) = false := decide_eq_false (by omega)
        have hg1 : (0 < n) = False := eq_false c7
        go_quiet (fail)
        go_wp2
        go_meet
        case rel => exact ⟨rfl, ⟨by first | exact HS.out | exact HS.out.drewN _ | exact HS.out.drew⟩⟩
      case rest =>
       obtain ⟨rfl, HS⟩ := hcut
       cases t with
       | true =>
        have AS := HQ.out
        have H := HH.out
        rw [if_pos rfl] at AS
        obtain rfl := Option.some.inj AS
        rw [if_neg (by decide)] at H
        obtain rfl := Option.some.inj H
        clear HQ HH H HAT
        go_wp2
        go_ret
        exact ⟨rfl, HS.out.1.2.2⟩
       | false =>
        have AS := HQ.out
        rw [if_neg (by decide)] at AS
        obtain ⟨u, AU, AS⟩ := Option.bind_eq_some_iff.mp AS
        have HQ2 := Aside0.mk AS
        obtain ⟨up, AP, AU⟩ := Option.bind_eq_some_iff.mp (show ((path_Up.f x.f0).bind fun up => if up.toList = ([] : List UInt8) then some false else if up.size ≤ maxLen then (match get m up.data.toList with
         | some y => some (y.f1 != 2)
         | none => some true) else none) = some u from AU)
        have HAP := Aside0.mk AP
        have HAU := Aside0.mk AU
        clear AS AU AP HQ HAT
        have hc0 := blk_cell HS.out.2.2.2 0
        go_upto_region 13 with (go_at_call 43; refine (path_Up.calls x.f0 up _ HAP.out).mono ?_; rintro e w4 ⟨rfl, nd, rfl⟩)
        have HS2 := Aside0.mk (HS.out.drewN nd)
        clear HS hc0
        have HS := HS2
        clear HS2
        (try simp only [Act.put, List.setIfInBounds_toArray, List.set_cons_zero, List.set_cons_succ])
        go_cut [50] (fun v50 wc => v50 = .bool u ∧ Aside0 (plan_Check.St w wc w.heap.size n m gb #[.string (x).f0, .int .i64 (x).f1, .string (x).f2, .int .i64 (x).f3.f0, .int .i64 (x).f3.f1, .int .i64 (x).f3.f2, .string (x).f3.f3, .string (x).f3.f4, .int .i64 (x).f3.f5, .int .i64 (x).f3.f6, .slice A10 (x).f4.length c10]))
        case first =>
         have AU := HAU.out
         clear HAU
         by_cases c8 : up.toList = ([] : List UInt8)
         ·rw [if_pos c8] at AU
          obtain rfl := Option.some.inj AU
          have c8a : up.toList.isEmpty = true := by rw [c8]; rfl
          have c8b : (!up.toList.isEmpty) = false := by rw [c8]; rfl
          clear AU c8
          go_wp2
          go_meet
          case rel => exact ⟨rfl, ⟨by first | exact HS.out | exact HS.out.drewN _ | exact HS.out.drew⟩⟩
         ·rw [if_neg c8] at AU
          have c8a : up.toList.isEmpty = false := by cases h : up.toList with | nil => exact absurd h c8 | cons a b => rfl
          have c8b : (!up.toList.isEmpty) = true := by rw [c8a]; rfl
          clear c8
          by_cases c9 : up.size ≤ maxLen
          ·rw [if_pos c9] at AU
           have HZU := Aside0.mk c9
           clear c9
           cases hget : get m up.data.toList with
           | none =>
            rw [hget] at AU
            obtain rfl := Option.some.inj AU
            have HGET := Aside0.mk hget
            clear hget AU
            go_wp2_with (first | ((with_reducible refine gate_dst (N := 47) rfl ?_); refine wp_look_miss _ rfl _ _ 78 rfl 80 (Maps.string_keyed Tryd.underlying9) Tryd.underlying78 (zero80 _) w.heap.size n rfl HS.out.1.1 _ rfl (Go.WideMaps.keyOf_string_mk Tryd.underlying9 HZU.out) HGET.out ?_) | ((with_reducible refine gate_dst (N := 48) rfl ?_); refine plan_Check.value_event rfl (.int .i64 0) (by first | (go_simp; done) | (go_simp; rfl) | rfl) ?_))
            go_meet
            case rel => exact ⟨rfl, ⟨by first | exact HS.out | exact HS.out.drewN _ | exact HS.out.drew⟩⟩
           | some y =>
            rw [hget] at AU
            obtain rfl := Option.some.inj AU
            have HGET := Aside0.mk hget
            clear hget AU
            go_wp2_with (first | ((with_reducible refine gate_dst (N := 47) rfl ?_); refine wp_look_hit _ rfl _ _ 78 rfl 80 (Maps.string_keyed Tryd.underlying9) Tryd.underlying78 (zero80 _) w.heap.size n rfl HS.out.1.1 _ rfl (Go.WideMaps.keyOf_string_mk Tryd.underlying9 HZU.out) HGET.out ?_; rintro v ⟨cs, rfl, hKy⟩; obtain ⟨Ay, cy, hcs, ly, gy⟩ := k80_open hKy; obtain rfl : cs = #[.string (y).f0, .int .i64 (y).f1, .string (y).f2, .int .i64 (y).f3.f0, .int .i64 (y).f3.f1, .int .i64 (y).f3.f2, .string (y).f3.f3, .string (y).f3.f4, .int .i64 (y).f3.f5, .int .i64 (y).f3.f6, .slice Ay (y).f4.length cy] := Array.toList_inj.mp hcs; clear hKy hcs ly gy) | ((with_reducible refine gate_dst (N := 48) rfl ?_); refine plan_Check.value_event rfl (.int .i64 (y).f1) (by first | (go_simp; done) | (go_simp; rfl) | rfl) ?_))
            go_meet
            case rel => exact ⟨rfl, ⟨by first | exact HS.out | exact HS.out.drewN _ | exact HS.out.drew⟩⟩
          ·rw [if_neg c9] at AU
           cases AU
        case rest =>
         obtain ⟨rfl, HS⟩ := hcut
         have AS := HQ2.out
         clear HQ2 HAU
         cases u with
         | true =>
          have H := HH.out
          rw [if_pos rfl] at AS
          obtain rfl := Option.some.inj AS
          rw [if_neg (by decide)] at H
          obtain rfl := Option.some.inj H
          clear H HH
          go_wp2
          go_ret
          exact ⟨rfl, HS.out.1.2.2⟩
         | false =>
          rw [if_neg (by decide)] at AS
          obtain ⟨v, AV, AS⟩ := Option.bind_eq_some_iff.mp AS
          have HAS := Aside0.mk AS
          have h40 : (n : Int) < 40 := by have := HLT.out; have := HN.out; omega
          clear AS
          have hg1 := blk_cell HS.out.2.2.2 1
          have hg2 := blk_cell HS.out.2.2.2 2
          by_cases d0 : x.f2.size ≤ maxLen
          ·simp only [plan_Check.link, if_pos d0] at AV
           have HZT := Aside0.mk d0
           clear d0
           cases hget : get m x.f2.data.toList with
           | none =>
            rw [hget] at AV
            obtain rfl := Option.some.inj AV
            have HGET := Aside0.mk hget
            clear hget AV
            by_cases d1 : x.f1 = 4
            ·have d1b : (x.f1 == 4) = true := beq_iff_eq.mpr d1
             rw [decide_eq_true d1] at HAS
             clear d1
             have AS := HAS.out
             rw [if_pos (by decide)] at AS
             obtain rfl := Option.some.inj AS
             have H := HH.out
             rw [if_neg (by decide)] at H
             obtain rfl := Option.some.inj H
             clear H AS HH HAS
             go_wp2_with (first | ((with_reducible refine gate_dst (N := 54) rfl ?_); refine wp_look_miss _ rfl _ _ 78 rfl 80 (Maps.string_keyed Tryd.underlying9) Tryd.underlying78 (zero80 _) w.heap.size n rfl HS.out.1.1 _ rfl (Go.WideMaps.keyOf_string_mk Tryd.underlying9 HZT.out) HGET.out ?_) | ((with_reducible refine gate_dst (N := 8) rfl ?_); refine box_event ?hg (N := 8) ?hd (cs := #[.string (⟨#[]⟩ : ByteArray), .int .i64 0, .string (⟨#[]⟩ : ByteArray), .int .i64 0, .int .i64 0, .int .i64 0, .string (⟨#[]⟩ : ByteArray), .string (⟨#[]⟩ : ByteArray), .int .i64 0, .int .i64 0, .slice none 0 0]) (t := 80) ?hr ?_; (case hd => rfl); (case hg => rfl); (case hr => first | (go_simp; done) | (go_simp; rfl)); intro g8 hg w2 hbox hb2; have HG2 := Aside0.mk (HS.out.apart hg); have HS2 := Aside0.mk (HS.out.step hb2); have HK2 := Aside0.mk hbox; clear hg hbox hb2 HS; have HS := HS2; clear HS2) | ((with_reducible refine gate_store (t := 80) (p := 8) rfl ?_); refine put_event rfl rfl rfl rfl rfl HK2.out sz80 rfl rfl ?_; intro w3 hk3 hg3; have HS3 := Aside0.mk (HS.out.other hg3 HG2.out (blk_lt HK2.out)); clear HS HK2; have HK2 := Aside0.mk hk3; have HS := HS3; have hm1 := blk_cell HK2.out 1; have hm3 := blk_cell HK2.out 3; have hm4 := blk_cell HK2.out 4; have hm5 := blk_cell HK2.out 5; have hm6 := blk_cell HK2.out 6; have hm7 := blk_cell HK2.out 7; have hm8 := blk_cell HK2.out 8; have hm9 := blk_cell HK2.out 9; have hn0 := blk_cell HS.out.2.2.2 0; have hn1 := blk_cell HS.out.2.2.2 1; have hn3 := blk_cell HS.out.2.2.2 3; have hn4 := blk_cell HS.out.2.2.2 4; have hn5 := blk_cell HS.out.2.2.2 5; have hn6 := blk_cell HS.out.2.2.2 6; have hn7 := blk_cell HS.out.2.2.2 7; have hn8 := blk_cell HS.out.2.2.2 8; have hn9 := blk_cell HS.out.2.2.2 9; clear HS3 hk3 hg3))
             go_ret
             exact ⟨rfl, HS.out.1.2.2⟩
            ·have d1b : (x.f1 == 4) = false := beq_eq_false_iff_ne.mpr d1
             rw [decide_eq_false d1] at HAS
             clear d1
             have AS := HAS.out
             rw [if_neg (by decide)] at AS
             by_cases dz : x.f0.size ≤ maxLen
             ·rw [if_pos dz] at AS
              obtain rfl := Option.some.inj AS
              have H := HH.out
              rw [if_pos rfl] at H
              have H' := Aside0.mk H
              have HZ0 := Aside0.mk dz
              clear H AS HH HAS dz
              go_wp2_with (first | ((with_reducible refine gate_dst (N := 54) rfl ?_); refine wp_look_miss _ rfl _ _ 78 rfl 80 (Maps.string_keyed Tryd.underlying9) Tryd.underlying78 (zero80 _) w.heap.size n rfl HS.out.1.1 _ rfl (Go.WideMaps.keyOf_string_mk Tryd.underlying9 HZT.out) HGET.out ?_) | ((with_reducible refine gate_dst (N := 8) rfl ?_); refine box_event ?hg (N := 8) ?hd (cs := #[.string (⟨#[]⟩ : ByteArray), .int .i64 0, .string (⟨#[]⟩ : ByteArray), .int .i64 0, .int .i64 0, .int .i64 0, .string (⟨#[]⟩ : ByteArray), .string (⟨#[]⟩ : ByteArray), .int .i64 0, .int .i64 0, .slice none 0 0]) (t := 80) ?hr ?_; (case hd => rfl); (case hg => rfl); (case hr => first | (go_simp; done) | (go_simp; rfl)); intro g8 hg w2 hbox hb2; have HG2 := Aside0.mk (HS.out.apart hg); have HS2 := Aside0.mk (HS.out.step hb2); have HK2 := Aside0.mk hbox; clear hg hbox hb2 HS; have HS := HS2; clear HS2) | ((with_reducible refine gate_store (t := 80) (p := 8) rfl ?_); refine put_event rfl rfl rfl rfl rfl HK2.out sz80 rfl rfl ?_; intro w3 hk3 hg3; have HS3 := Aside0.mk (HS.out.other hg3 HG2.out (blk_lt HK2.out)); clear HS HK2; have HK2 := Aside0.mk hk3; have HS := HS3; have hm1 := blk_cell HK2.out 1; have hm3 := blk_cell HK2.out 3; have hm4 := blk_cell HK2.out 4; have hm5 := blk_cell HK2.out 5; have hm6 := blk_cell HK2.out 6; have hm7 := blk_cell HK2.out 7; have hm8 := blk_cell HK2.out 8; have hm9 := blk_cell HK2.out 9; have hn0 := blk_cell HS.out.2.2.2 0; have hn1 := blk_cell HS.out.2.2.2 1; have hn3 := blk_cell HS.out.2.2.2 3; have hn4 := blk_cell HS.out.2.2.2 4; have hn5 := blk_cell HS.out.2.2.2 5; have hn6 := blk_cell HS.out.2.2.2 6; have hn7 := blk_cell HS.out.2.2.2 7; have hn8 := blk_cell HS.out.2.2.2 8; have hn9 := blk_cell HS.out.2.2.2 9; clear HS3 hk3 hg3) | ((with_reducible refine gate_dst (N := 73) rfl ?_); refine load_event rfl rfl hu80 rfl rfl (cs := [.string (x).f0, .int .i64 (x).f1, .string (x).f2, .int .i64 (x).f3.f0, .int .i64 (x).f3.f1, .int .i64 (x).f3.f2, .string (x).f3.f3, .string (x).f3.f4, .int .i64 (x).f3.f5, .int .i64 (x).f3.f6, .slice A10 (x).f4.length c10]) sz80 (cells_of_blk HS.out.2.2.2) ?_) | (at_mapUpdate; refine wp_put _ (fun a b h => by injection h) rfl _ _ _ 78 rfl 80 (Maps.string_keyed Tryd.underlying9) Tryd.underlying78 w.heap.size n rfl HS.out.1.1 (by have := HN.out; have := HN1.out; unfold maxLen; omega) _ _ rfl rfl (Go.WideMaps.keyOf_string_mk Tryd.underlying9 HZ0.out) (y := x) ⟨_, rfl, k80_mk w x HL.out HX.out⟩ ?_; intro w4 hm4 hg4; have HI4 := Aside0.mk (HS.out.1.putM hm4 hg4); clear hm4 hg4))
              go_roundg k1
              case measure => have := HK1.out; omega
              case rel => exact ⟨n + 1, _, by go_num, ⟨HLT.out⟩, H', ⟨by have := HK1.out; omega⟩, HI4⟩
             ·rw [if_neg dz] at AS
              cases AS
           | some y =>
            rw [hget] at AV
            obtain rfl := Option.some.inj AV
            have HGET := Aside0.mk hget
            clear hget AV
            by_cases d1 : x.f1 = 4
            ·have d1b : (x.f1 == 4) = true := beq_iff_eq.mpr d1
             rw [if_pos d1] at HAS
             clear d1
             by_cases d4 : y.f1 = 1
             ·rw [if_pos d4] at HAS
              have d4b : (y.f1 != 1) = false := bne_eq_false_iff_eq.mpr d4
              have d4c : (y.f1 == 1) = true := beq_iff_eq.mpr d4
              clear d4
              cases hm : plan_Check.meta y x with
              | true =>
               have d5 : ((y.f3).f0 == (x.f3).f0 && ((y.f3).f1 == (x.f3).f1 && ((y.f3).f2 == (x.f3).f2 && ((y.f3).f3.toList == (x.f3).f3.toList && ((y.f3).f4.toList == (x.f3).f4.toList && ((y.f3).f5 == (x.f3).f5 && ((y.f3).f6 == (x.f3).f6))))))) = true := hm
               rw [hm] at HAS
               clear hm
               have AS := HAS.out
               rw [if_neg (by decide)] at AS
               by_cases dz : x.f0.size ≤ maxLen
               ·rw [if_pos dz] at AS
                obtain rfl := Option.some.inj AS
                have H := HH.out
                rw [if_pos rfl] at H
                have H' := Aside0.mk H
                have HZ0 := Aside0.mk dz
                clear H AS HH HAS dz
                go_wp2_with (first | ((with_reducible refine gate_dst (N := 54) rfl ?_); refine wp_look_hit _ rfl _ _ 78 rfl 80 (Maps.string_keyed Tryd.underlying9) Tryd.underlying78 (zero80 _) w.heap.size n rfl HS.out.1.1 _ rfl (Go.WideMaps.keyOf_string_mk Tryd.underlying9 HZT.out) HGET.out ?_; rintro v ⟨cs, rfl, hKy⟩; obtain ⟨Ay, cy, hcs, ly, gy⟩ := k80_open hKy; obtain rfl : cs = #[.string (y).f0, .int .i64 (y).f1, .string (y).f2, .int .i64 (y).f3.f0, .int .i64 (y).f3.f1, .int .i64 (y).f3.f2, .string (y).f3.f3, .string (y).f3.f4, .int .i64 (y).f3.f5, .int .i64 (y).f3.f6, .slice Ay (y).f4.length cy] := Array.toList_inj.mp hcs; clear hKy hcs ly gy) | ((with_reducible refine gate_dst (N := 8) rfl ?_); refine box_event ?hg (N := 8) ?hd (cs := #[.string (⟨#[]⟩ : ByteArray), .int .i64 0, .string (⟨#[]⟩ : ByteArray), .int .i64 0, .int .i64 0, .int .i64 0, .string (⟨#[]⟩ : ByteArray), .string (⟨#[]⟩ : ByteArray), .int .i64 0, .int .i64 0, .slice none 0 0]) (t := 80) ?hr ?_; (case hd => rfl); (case hg => rfl); (case hr => first | (go_simp; done) | (go_simp; rfl)); intro g8 hg w2 hbox hb2; have HG2 := Aside0.mk (HS.out.apart hg); have HS2 := Aside0.mk (HS.out.step hb2); have HK2 := Aside0.mk hbox; clear hg hbox hb2 HS; have HS := HS2; clear HS2) | ((with_reducible refine gate_store (t := 80) (p := 8) rfl ?_); refine put_event rfl rfl rfl rfl rfl HK2.out sz80 rfl rfl ?_; intro w3 hk3 hg3; have HS3 := Aside0.mk (HS.out.other hg3 HG2.out (blk_lt HK2.out)); clear HS HK2; have HK2 := Aside0.mk hk3; have HS := HS3; have hm1 := blk_cell HK2.out 1; have hm3 := blk_cell HK2.out 3; have hm4 := blk_cell HK2.out 4; have hm5 := blk_cell HK2.out 5; have hm6 := blk_cell HK2.out 6; have hm7 := blk_cell HK2.out 7; have hm8 := blk_cell HK2.out 8; have hm9 := blk_cell HK2.out 9; have hn0 := blk_cell HS.out.2.2.2 0; have hn1 := blk_cell HS.out.2.2.2 1; have hn3 := blk_cell HS.out.2.2.2 3; have hn4 := blk_cell HS.out.2.2.2 4; have hn5 := blk_cell HS.out.2.2.2 5; have hn6 := blk_cell HS.out.2.2.2 6; have hn7 := blk_cell HS.out.2.2.2 7; have hn8 := blk_cell HS.out.2.2.2 8; have hn9 := blk_cell HS.out.2.2.2 9; clear HS3 hk3 hg3) | ((with_reducible refine gate_dst (N := 73) rfl ?_); refine load_event rfl rfl hu80 rfl rfl (cs := [.string (x).f0, .int .i64 (x).f1, .string (x).f2, .int .i64 (x).f3.f0, .int .i64 (x).f3.f1, .int .i64 (x).f3.f2, .string (x).f3.f3, .string (x).f3.f4, .int .i64 (x).f3.f5, .int .i64 (x).f3.f6, .slice A10 (x).f4.length c10]) sz80 (cells_of_blk HS.out.2.2.2) ?_) | (at_mapUpdate; refine wp_put _ (fun a b h => by injection h) rfl _ _ _ 78 rfl 80 (Maps.string_keyed Tryd.underlying9) Tryd.underlying78 w.heap.size n rfl HS.out.1.1 (by have := HN.out; have := HN1.out; unfold maxLen; omega) _ _ rfl rfl (Go.WideMaps.keyOf_string_mk Tryd.underlying9 HZ0.out) (y := x) ⟨_, rfl, k80_mk w x HL.out HX.out⟩ ?_; intro w4 hm4 hg4; have HI4 := Aside0.mk (HS.out.1.putM hm4 hg4); clear hm4 hg4))
                go_roundg k1
                case measure => have := HK1.out; omega
                case rel => exact ⟨n + 1, _, by go_num, ⟨HLT.out⟩, H', ⟨by have := HK1.out; omega⟩, HI4⟩
               ·rw [if_neg dz] at AS
                cases AS
              | false =>
               have d5 : ((y.f3).f0 == (x.f3).f0 && ((y.f3).f1 == (x.f3).f1 && ((y.f3).f2 == (x.f3).f2 && ((y.f3).f3.toList == (x.f3).f3.toList && ((y.f3).f4.toList == (x.f3).f4.toList && ((y.f3).f5 == (x.f3).f5 && ((y.f3).f6 == (x.f3).f6))))))) = false := hm
               rw [hm] at HAS
               clear hm
               have AS := HAS.out
               rw [if_pos (by decide)] at AS
               obtain rfl := Option.some.inj AS
               have H := HH.out
               rw [if_neg (by decide)] at H
               obtain rfl := Option.some.inj H
               clear H AS HH HAS
               go_wp2_with (first | ((with_reducible refine gate_dst (N := 54) rfl ?_); refine wp_look_hit _ rfl _ _ 78 rfl 80 (Maps.string_keyed Tryd.underlying9) Tryd.underlying78 (zero80 _) w.heap.size n rfl HS.out.1.1 _ rfl (Go.WideMaps.keyOf_string_mk Tryd.underlying9 HZT.out) HGET.out ?_; rintro v ⟨cs, rfl, hKy⟩; obtain ⟨Ay, cy, hcs, ly, gy⟩ := k80_open hKy; obtain rfl : cs = #[.string (y).f0, .int .i64 (y).f1, .string (y).f2, .int .i64 (y).f3.f0, .int .i64 (y).f3.f1, .int .i64 (y).f3.f2, .string (y).f3.f3, .string (y).f3.f4, .int .i64 (y).f3.f5, .int .i64 (y).f3.f6, .slice Ay (y).f4.length cy] := Array.toList_inj.mp hcs; clear hKy hcs ly gy) | ((with_reducible refine gate_dst (N := 8) rfl ?_); refine box_event ?hg (N := 8) ?hd (cs := #[.string (⟨#[]⟩ : ByteArray), .int .i64 0, .string (⟨#[]⟩ : ByteArray), .int .i64 0, .int .i64 0, .int .i64 0, .string (⟨#[]⟩ : ByteArray), .string (⟨#[]⟩ : ByteArray), .int .i64 0, .int .i64 0, .slice none 0 0]) (t := 80) ?hr ?_; (case hd => rfl); (case hg => rfl); (case hr => first | (go_simp; done) | (go_simp; rfl)); intro g8 hg w2 hbox hb2; have HG2 := Aside0.mk (HS.out.apart hg); have HS2 := Aside0.mk (HS.out.step hb2); have HK2 := Aside0.mk hbox; clear hg hbox hb2 HS; have HS := HS2; clear HS2) | ((with_reducible refine gate_store (t := 80) (p := 8) rfl ?_); refine put_event rfl rfl rfl rfl rfl HK2.out sz80 rfl rfl ?_; intro w3 hk3 hg3; have HS3 := Aside0.mk (HS.out.other hg3 HG2.out (blk_lt HK2.out)); clear HS HK2; have HK2 := Aside0.mk hk3; have HS := HS3; have hm1 := blk_cell HK2.out 1; have hm3 := blk_cell HK2.out 3; have hm4 := blk_cell HK2.out 4; have hm5 := blk_cell HK2.out 5; have hm6 := blk_cell HK2.out 6; have hm7 := blk_cell HK2.out 7; have hm8 := blk_cell HK2.out 8; have hm9 := blk_cell HK2.out 9; have hn0 := blk_cell HS.out.2.2.2 0; have hn1 := blk_cell HS.out.2.2.2 1; have hn3 := blk_cell HS.out.2.2.2 3; have hn4 := blk_cell HS.out.2.2.2 4; have hn5 := blk_cell HS.out.2.2.2 5; have hn6 := blk_cell HS.out.2.2.2 6; have hn7 := blk_cell HS.out.2.2.2 7; have hn8 := blk_cell HS.out.2.2.2 8; have hn9 := blk_cell HS.out.2.2.2 9; clear HS3 hk3 hg3))
               go_ret
               exact ⟨rfl, HS.out.1.2.2⟩
             ·rw [if_neg d4] at HAS
              have d4b : (y.f1 != 1) = true := bne_iff_ne.mpr d4
              have d4c : (y.f1 == 1) = false := beq_eq_false_iff_ne.mpr d4
              clear d4
              have AS := HAS.out
              rw [if_pos (by decide)] at AS
              obtain rfl := Option.some.inj AS
              have H := HH.out
              rw [if_neg (by decide)] at H
              obtain rfl := Option.some.inj H
              clear H AS HH HAS
              go_wp2_with (first | ((with_reducible refine gate_dst (N := 54) rfl ?_); refine wp_look_hit _ rfl _ _ 78 rfl 80 (Maps.string_keyed Tryd.underlying9) Tryd.underlying78 (zero80 _) w.heap.size n rfl HS.out.1.1 _ rfl (Go.WideMaps.keyOf_string_mk Tryd.underlying9 HZT.out) HGET.out ?_; rintro v ⟨cs, rfl, hKy⟩; obtain ⟨Ay, cy, hcs, ly, gy⟩ := k80_open hKy; obtain rfl : cs = #[.string (y).f0, .int .i64 (y).f1, .string (y).f2, .int .i64 (y).f3.f0, .int .i64 (y).f3.f1, .int .i64 (y).f3.f2, .string (y).f3.f3, .string (y).f3.f4, .int .i64 (y).f3.f5, .int .i64 (y).f3.f6, .slice Ay (y).f4.length cy] := Array.toList_inj.mp hcs; clear hKy hcs ly gy) | ((with_reducible refine gate_dst (N := 8) rfl ?_); refine box_event ?hg (N := 8) ?hd (cs := #[.string (⟨#[]⟩ : ByteArray), .int .i64 0, .string (⟨#[]⟩ : ByteArray), .int .i64 0, .int .i64 0, .int .i64 0, .string (⟨#[]⟩ : ByteArray), .string (⟨#[]⟩ : ByteArray), .int .i64 0, .int .i64 0, .slice none 0 0]) (t := 80) ?hr ?_; (case hd => rfl); (case hg => rfl); (case hr => first | (go_simp; done) | (go_simp; rfl)); intro g8 hg w2 hbox hb2; have HG2 := Aside0.mk (HS.out.apart hg); have HS2 := Aside0.mk (HS.out.step hb2); have HK2 := Aside0.mk hbox; clear hg hbox hb2 HS; have HS := HS2; clear HS2) | ((with_reducible refine gate_store (t := 80) (p := 8) rfl ?_); refine put_event rfl rfl rfl rfl rfl HK2.out sz80 rfl rfl ?_; intro w3 hk3 hg3; have HS3 := Aside0.mk (HS.out.other hg3 HG2.out (blk_lt HK2.out)); clear HS HK2; have HK2 := Aside0.mk hk3; have HS := HS3; have hm1 := blk_cell HK2.out 1; have hm3 := blk_cell HK2.out 3; have hm4 := blk_cell HK2.out 4; have hm5 := blk_cell HK2.out 5; have hm6 := blk_cell HK2.out 6; have hm7 := blk_cell HK2.out 7; have hm8 := blk_cell HK2.out 8; have hm9 := blk_cell HK2.out 9; have hn0 := blk_cell HS.out.2.2.2 0; have hn1 := blk_cell HS.out.2.2.2 1; have hn3 := blk_cell HS.out.2.2.2 3; have hn4 := blk_cell HS.out.2.2.2 4; have hn5 := blk_cell HS.out.2.2.2 5; have hn6 := blk_cell HS.out.2.2.2 6; have hn7 := blk_cell HS.out.2.2.2 7; have hn8 := blk_cell HS.out.2.2.2 8; have hn9 := blk_cell HS.out.2.2.2 9; clear HS3 hk3 hg3))
              go_ret
              exact ⟨rfl, HS.out.1.2.2⟩
            ·have d1b : (x.f1 == 4) = false := beq_eq_false_iff_ne.mpr d1
             rw [if_neg d1] at HAS
             clear d1
             have AS := HAS.out
             rw [if_neg (by decide)] at AS
             by_cases dz : x.f0.size ≤ maxLen
             ·rw [if_pos dz] at AS
              obtain rfl := Option.some.inj AS
              have H := HH.out
              rw [if_pos rfl] at H
              have H' := Aside0.mk H
              have HZ0 := Aside0.mk dz
              clear H AS HH HAS dz
              go_wp2_with (first | ((with_reducible refine gate_dst (N := 54) rfl ?_); refine wp_look_hit _ rfl _ _ 78 rfl 80 (Maps.string_keyed Tryd.underlying9) Tryd.underlying78 (zero80 _) w.heap.size n rfl HS.out.1.1 _ rfl (Go.WideMaps.keyOf_string_mk Tryd.underlying9 HZT.out) HGET.out ?_; rintro v ⟨cs, rfl, hKy⟩; obtain ⟨Ay, cy, hcs, ly, gy⟩ := k80_open hKy; obtain rfl : cs = #[.string (y).f0, .int .i64 (y).f1, .string (y).f2, .int .i64 (y).f3.f0, .int .i64 (y).f3.f1, .int .i64 (y).f3.f2, .string (y).f3.f3, .string (y).f3.f4, .int .i64 (y).f3.f5, .int .i64 (y).f3.f6, .slice Ay (y).f4.length cy] := Array.toList_inj.mp hcs; clear hKy hcs ly gy) | ((with_reducible refine gate_dst (N := 8) rfl ?_); refine box_event ?hg (N := 8) ?hd (cs := #[.string (⟨#[]⟩ : ByteArray), .int .i64 0, .string (⟨#[]⟩ : ByteArray), .int .i64 0, .int .i64 0, .int .i64 0, .string (⟨#[]⟩ : ByteArray), .string (⟨#[]⟩ : ByteArray), .int .i64 0, .int .i64 0, .slice none 0 0]) (t := 80) ?hr ?_; (case hd => rfl); (case hg => rfl); (case hr => first | (go_simp; done) | (go_simp; rfl)); intro g8 hg w2 hbox hb2; have HG2 := Aside0.mk (HS.out.apart hg); have HS2 := Aside0.mk (HS.out.step hb2); have HK2 := Aside0.mk hbox; clear hg hbox hb2 HS; have HS := HS2; clear HS2) | ((with_reducible refine gate_store (t := 80) (p := 8) rfl ?_); refine put_event rfl rfl rfl rfl rfl HK2.out sz80 rfl rfl ?_; intro w3 hk3 hg3; have HS3 := Aside0.mk (HS.out.other hg3 HG2.out (blk_lt HK2.out)); clear HS HK2; have HK2 := Aside0.mk hk3; have HS := HS3; have hm1 := blk_cell HK2.out 1; have hm3 := blk_cell HK2.out 3; have hm4 := blk_cell HK2.out 4; have hm5 := blk_cell HK2.out 5; have hm6 := blk_cell HK2.out 6; have hm7 := blk_cell HK2.out 7; have hm8 := blk_cell HK2.out 8; have hm9 := blk_cell HK2.out 9; have hn0 := blk_cell HS.out.2.2.2 0; have hn1 := blk_cell HS.out.2.2.2 1; have hn3 := blk_cell HS.out.2.2.2 3; have hn4 := blk_cell HS.out.2.2.2 4; have hn5 := blk_cell HS.out.2.2.2 5; have hn6 := blk_cell HS.out.2.2.2 6; have hn7 := blk_cell HS.out.2.2.2 7; have hn8 := blk_cell HS.out.2.2.2 8; have hn9 := blk_cell HS.out.2.2.2 9; clear HS3 hk3 hg3) | ((with_reducible refine gate_dst (N := 73) rfl ?_); refine load_event rfl rfl hu80 rfl rfl (cs := [.string (x).f0, .int .i64 (x).f1, .string (x).f2, .int .i64 (x).f3.f0, .int .i64 (x).f3.f1, .int .i64 (x).f3.f2, .string (x).f3.f3, .string (x).f3.f4, .int .i64 (x).f3.f5, .int .i64 (x).f3.f6, .slice A10 (x).f4.length c10]) sz80 (cells_of_blk HS.out.2.2.2) ?_) | (at_mapUpdate; refine wp_put _ (fun a b h => by injection h) rfl _ _ _ 78 rfl 80 (Maps.string_keyed Tryd.underlying9) Tryd.underlying78 w.heap.size n rfl HS.out.1.1 (by have := HN.out; have := HN1.out; unfold maxLen; omega) _ _ rfl rfl (Go.WideMaps.keyOf_string_mk Tryd.underlying9 HZ0.out) (y := x) ⟨_, rfl, k80_mk w x HL.out HX.out⟩ ?_; intro w4 hm4 hg4; have HI4 := Aside0.mk (HS.out.1.putM hm4 hg4); clear hm4 hg4))
              go_roundg k1
              case measure => have := HK1.out; omega
              case rel => exact ⟨n + 1, _, by go_num, ⟨HLT.out⟩, H', ⟨by have := HK1.out; omega⟩, HI4⟩
             ·rw [if_neg dz] at AS
              cases AS
          ·simp only [plan_Check.link, if_neg d0] at AV
           cases AV
     ·rw [if_neg c6] at AS
      obtain rfl := Option.some.inj AS
      rw [if_neg c6] at H
      obtain rfl := Option.some.inj H
      have c6a : (e1 == 0) = false := beq_eq_false_iff_ne.mpr c6
      have c6b : (e1 != 0) = true := bne_iff_ne.mpr c6
      clear c6 H
      go_wp2_with (first | ((with_reducible refine gate_dst (N := 19) rfl ?_); refine load_event (ad := ad.add (n * 11)) rfl rfl hu80 rfl rfl (cs := [.string (x).f0, .int .i64 (x).f1, .string (x).f2, .int .i64 (x).f3.f0, .int .i64 (x).f3.f1, .int .i64 (x).f3.f2, .string (x).f3.f3, .string (x).f3.f4, .int .i64 (x).f3.f5, .int .i64 (x).f3.f6, .slice A10 (x).f4.length c10]) sz80 (fun j v hv => (HI.out.2.2.cell (World.block_lt_of_cell? w _ (HXC.out j v hv))).trans (HXC.out j v hv)) ?_) | ((with_reducible refine gate_dst (N := 5) rfl ?_); refine box_event ?hg (N := 5) ?hd (cs := #[.string (⟨#[]⟩ : ByteArray), .int .i64 0, .string (⟨#[]⟩ : ByteArray), .int .i64 0, .int .i64 0, .int .i64 0, .string (⟨#[]⟩ : ByteArray), .string (⟨#[]⟩ : ByteArray), .int .i64 0, .int .i64 0, .slice none 0 0]) (t := 80) ?hr ?_; (case hd => rfl); (case hg => rfl); (case hr => first | (go_simp; done) | (go_simp; rfl)); intro gb hg w2 hbox hb2; have HS := Aside0.mk (HI.out.box hg hbox hb2); clear hg hbox hb2 HI) | ((with_reducible refine gate_store (t := 80) (p := 5) rfl ?_); refine put_event rfl rfl rfl rfl rfl HS.out.2.2.2 sz80 rfl rfl ?_; intro w3 hk3 hg3; have HS3 := Aside0.mk (HS.out.put hk3 hg3); clear HS hk3 hg3; have HS := HS3; clear HS3) | ((with_reducible refine gate_dst (N := 20) rfl ?_); refine load_event rfl rfl hu80 rfl rfl (cs := [.string (x).f0, .int .i64 (x).f1, .string (x).f2, .int .i64 (x).f3.f0, .int .i64 (x).f3.f1, .int .i64 (x).f3.f2, .string (x).f3.f3, .string (x).f3.f4, .int .i64 (x).f3.f5, .int .i64 (x).f3.f6, .slice A10 (x).f4.length c10]) sz80 (cells_of_blk HS.out.2.2.2) ?_) | (go_at_call 50; refine (plan_Right.calls k1 (x).f0 (x).f1 (x).f2 (x).f3.f0 (x).f3.f1 (x).f3.f2 (x).f3.f3 (x).f3.f4 (x).f3.f5 (x).f3.f6 A10 c10 (x).f4 e1 _ (Kd.C_below HX.out HS.out.1.2.2) HL.out HAR.out).mono ?_; rintro e w3 ⟨rfl, hb3⟩; have HS3 := Aside0.mk (HS.out.step hb3); clear HS hb3; have HS := HS3; clear HS3))
      go_ret
      exact ⟨rfl, HS.out.1.2.2⟩
    ·rw [if_neg c3] at H
     obtain rfl := Option.some.inj H
     have c3b : decide ((n : Int) < (l0.length : Int)) = false := decide_eq_false (by omega)
     have c3c : decide (n < l0.length) = false := decide_eq_false c3
     have c3d := eq_false c3
     clear c3 H
     go_wp2
     go_ret
     exact ⟨rfl, HI.out.2.2⟩


end Go.Proofs.YtgkofpjeiogafaaDoor.All
end
