/- Made by programs of the prover: walks of Go functions, the words that they use, and plain laws, each text in a section of its own; no condition of its own. -/
import Derived.Test.YtcbbcnmifohibaaDoorZFilterRuns2
import Derived.Test.YtcbbcnmifohibaaDoorZFilterRuns8
import Derived.Test.YtcbbcnmifohibaaDoorZFilterRuns9
section
namespace Go.Proofs.YtcbbcnmifohibaaDoor.All
open Go.RowKit Go.Proofs.YtcbbcnmifohibaaDoorW.PrintWords Go.Proofs.YtcbbcnmifohibaaDoorW.PrintLast Go.Proofs.YtcbbcnmifohibaaDoorW.PrintMore
open Go.Proofs.YtcbbcnmifohibaaDoorW.Mine
attribute [local go_sem] gtr_string leq_string geq_string
attribute [local go_sem] max2_int min2_int max_two min_two max_three min_three max_four min_four
set_option linter.unusedVariables false
set_option linter.unusedSimpArgs false
mutual
def rNF.j0 : Nat → Bool → ByteArray → Int → Int → ByteArray → Int → Int → Int → ByteArray → ByteArray → Int → Int → List Int → Option (Int)
 | 0, _, _, _, _, _, _, _, _, _, _, _, _, _ => none
 | k + 1, x29, x102000, x102001, x102002, x102003, x102004, x102005, x102006, x102007, x102008, x102009, x102010, x102011 => if x29 = true then (some 2) else (if x102001 = 1 then (if x102003.toList = ([] : List UInt8) then (rNF.j1 k (decide (x102002 < 0)) x102000 x102001 x102002 x102003 x102004 x102005 x102006 x102007 x102008 x102009 x102010 x102011) else (rNF.j1 k true x102000 x102001 x102002 x102003 x102004 x102005 x102006 x102007 x102008 x102009 x102010 x102011)) else (if (x102011.length : Int) = 0 then (if x102002 = 0 then (if ((x102003.toList == ([] : List UInt8)) != (x102001 == 2)) = true then (rNF.j2 k true x102000 x102001 x102002 x102003 x102004 x102005 x102006 x102007 x102008 x102009 x102010 x102011) else ((creelref_has.f k x102003 0).bind fun t104 => (rNF.j2 k t104 x102000 x102001 x102002 x102003 x102004 x102005 x102006 x102007 x102008 x102009 x102010 x102011))) else (rNF.j2 k true x102000 x102001 x102002 x102003 x102004 x102005 x102006 x102007 x102008 x102009 x102010 x102011)) else (rNF.j2 k true x102000 x102001 x102002 x102003 x102004 x102005 x102006 x102007 x102008 x102009 x102010 x102011)))
def rNF.j1 : Nat → Bool → ByteArray → Int → Int → ByteArray → Int → Int → Int → ByteArray → ByteArray → Int → Int → List Int → Option (Int)
 | 0, _, _, _, _, _, _, _, _, _, _, _, _, _ => none
 | k + 1, x40, x102000, x102001, x102002, x102003, x102004, x102005, x102006, x102007, x102008, x102009, x102010, x102011 => if x40 = true then (some 3) else (if (x102011.length : Int) > 2000 then (some 1) else (some 0))
def rNF.j2 : Nat → Bool → ByteArray → Int → Int → ByteArray → Int → Int → Int → ByteArray → ByteArray → Int → Int → List Int → Option (Int)
 | 0, _, _, _, _, _, _, _, _, _, _, _, _, _ => none
 | k + 1, x67, x102000, x102001, x102002, x102003, x102004, x102005, x102006, x102007, x102008, x102009, x102010, x102011 => if x67 = true then (some 3) else (if (x102003.size : Int) > 400 then (some 1) else (some 0))
end
def rNF.f (k : Nat) (a0_0 : ByteArray) (a0_1 : Int) (a0_2 : Int) (a0_3 : ByteArray) (a0_4 : Int) (a0_5 : Int) (a0_6 : Int) (a0_7 : ByteArray) (a0_8 : ByteArray) (a0_9 : Int) (a0_10 : Int) (l0_11 : List Int) : Option (Int) := (creelref_PathFault.f k a0_0).bind fun t102 => (if t102 = 0 then ((creelref_MetaFault.f k a0_4 a0_5 a0_6 a0_7 a0_8 a0_9 a0_10).bind fun t103 => (if t103 = 0 then (if a0_1 = 1 then (rNF.j0 k false a0_0 a0_1 a0_2 a0_3 a0_4 a0_5 a0_6 a0_7 a0_8 a0_9 a0_10 l0_11) else (if a0_1 = 2 then (rNF.j0 k false a0_0 a0_1 a0_2 a0_3 a0_4 a0_5 a0_6 a0_7 a0_8 a0_9 a0_10 l0_11) else (rNF.j0 k (a0_1 != 3) a0_0 a0_1 a0_2 a0_3 a0_4 a0_5 a0_6 a0_7 a0_8 a0_9 a0_10 l0_11))) else (some t103))) else (some t102))
set_option maxHeartbeats 8000000 in
set_option maxRecDepth 100000 in
theorem rNF.calls (k : Nat) (a0_0 : ByteArray) (a0_1 : Int) (a0_2 : Int) (a0_3 : ByteArray) (a0_4 : Int) (a0_5 : Int) (a0_6 : Int) (a0_7 : ByteArray) (a0_8 : ByteArray) (a0_9 : Int) (a0_10 : Int) (A0_11 : Option Addr) (c0_11 : Nat) (l0_11 : List Int) (r : Int) (w : World) (hr0_11 : Kd.C (Kd.int .u8) w A0_11 l0_11.length l0_11) (hc0_11 : l0_11.length ≤ c0_11) (h : rNF.f k a0_0 a0_1 a0_2 a0_3 a0_4 a0_5 a0_6 a0_7 a0_8 a0_9 a0_10 l0_11 = some r) :
  Calls Tryd.prog 73 #[.agg #[.string a0_0, .int .i64 a0_1, .int .i64 a0_2, .string a0_3, .int .i64 a0_4, .int .i64 a0_5, .int .i64 a0_6, .string a0_7, .string a0_8, .int .i64 a0_9, .int .i64 a0_10, .slice A0_11 l0_11.length c0_11]] w fun e w' => e = .returned (.int .i64 r) ∧ Below w.heap.size w w' := by
 have hu45 := Tryd.underlying45
 have hu42 := Tryd.underlying42
 have HR0_11 := Aside0.mk hr0_11
 have HC0_11 := Aside0.mk hc0_11
 clear hr0_11 hc0_11
 have HB := Aside0.mk (Below.refl w.heap.size w)
 have H : ((creelref_PathFault.f k a0_0).bind fun t102 => (if t102 = 0 then ((creelref_MetaFault.f k a0_4 a0_5 a0_6 a0_7 a0_8 a0_9 a0_10).bind fun t103 => (if t103 = 0 then (if a0_1 = 1 then (rNF.j0 k false a0_0 a0_1 a0_2 a0_3 a0_4 a0_5 a0_6 a0_7 a0_8 a0_9 a0_10 l0_11) else (if a0_1 = 2 then (rNF.j0 k false a0_0 a0_1 a0_2 a0_3 a0_4 a0_5 a0_6 a0_7 a0_8 a0_9 a0_10 l0_11) else (rNF.j0 k (a0_1 != 3) a0_0 a0_1 a0_2 a0_3 a0_4 a0_5 a0_6 a0_7 a0_8 a0_9 a0_10 l0_11))) else (some t103))) else (some t102))) = some r := h
 clear h
 replace H := Option.bind_eq_some_iff.mp H
 obtain ⟨t102, A20, H⟩ := H
 replace H : (if t102 = 0 then ((creelref_MetaFault.f k a0_4 a0_5 a0_6 a0_7 a0_8 a0_9 a0_10).bind fun t103 => (if t103 = 0 then (if a0_1 = 1 then (rNF.j0 k false a0_0 a0_1 a0_2 a0_3 a0_4 a0_5 a0_6 a0_7 a0_8 a0_9 a0_10 l0_11) else (if a0_1 = 2 then (rNF.j0 k false a0_0 a0_1 a0_2 a0_3 a0_4 a0_5 a0_6 a0_7 a0_8 a0_9 a0_10 l0_11) else (rNF.j0 k (a0_1 != 3) a0_0 a0_1 a0_2 a0_3 a0_4 a0_5 a0_6 a0_7 a0_8 a0_9 a0_10 l0_11))) else (some t103))) else (some t102)) = some r := H
 have A2 := Aside0.mk A20
 clear A20
 by_cases c3 : t102 = 0
 ·rw [if_pos c3] at H
  have c3b0 : (t102 == 0) = true := beq_iff_eq.mpr c3
  have c3b1 : (t102 != 0) = false := bne_eq_false_iff_eq.mpr c3
  clear c3
  replace H := Option.bind_eq_some_iff.mp H
  obtain ⟨t103, A40, H⟩ := H
  replace H : (if t103 = 0 then (if a0_1 = 1 then (rNF.j0 k false a0_0 a0_1 a0_2 a0_3 a0_4 a0_5 a0_6 a0_7 a0_8 a0_9 a0_10 l0_11) else (if a0_1 = 2 then (rNF.j0 k false a0_0 a0_1 a0_2 a0_3 a0_4 a0_5 a0_6 a0_7 a0_8 a0_9 a0_10 l0_11) else (rNF.j0 k (a0_1 != 3) a0_0 a0_1 a0_2 a0_3 a0_4 a0_5 a0_6 a0_7 a0_8 a0_9 a0_10 l0_11))) else (some t103)) = some r := H
  have A4 := Aside0.mk A40
  clear A40
  by_cases c5 : t103 = 0
  ·rw [if_pos c5] at H
   have c5b0 : (t103 == 0) = true := beq_iff_eq.mpr c5
   have c5b1 : (t103 != 0) = false := bne_eq_false_iff_eq.mpr c5
   clear c5
   have HC6 := Aside0.mk H
   clear H
   go_enter Tryd.func73, Tryd.ntmps73
   go_upto_region 7 with (first | ((with_reducible refine gate_dst (N := 1) rfl ?_); refine box_event ?hg (N := 1) ?hd (cs := #[.string a0_0, .int .i64 a0_1, .int .i64 a0_2, .string a0_3, .int .i64 a0_4, .int .i64 a0_5, .int .i64 a0_6, .string a0_7, .string a0_8, .int .i64 a0_9, .int .i64 a0_10, .slice A0_11 l0_11.length c0_11]) (t := 45) ?hr ?_; (case hd => rfl); (case hg => rfl); (case hr => first | (go_simp; done) | (go_simp; rfl)); intro gb101 hg w7 hbox hb; have n0_ := Aside0.mk (below_step (by repeat (first | (with_reducible first | exact HB.out | apply bwA | apply pwbN | apply bw1) | exact HB.out)) hb); have n1_ := Aside0.mk (hbox); have n2_ := Aside0.mk ((by rw [hg]; exact (below_size (by repeat (first | (with_reducible first | exact HB.out | apply bwA | apply pwbN | apply bw1) | exact HB.out))) : w.heap.size ≤ gb101)); have n3_ := Aside0.mk ((by rw [hg]; exact (below_size (by repeat (first | (with_reducible first | exact HB.out | apply bwA | apply pwbN | apply bw1) | exact HB.out))) : w.heap.size ≤ gb101)); clear HB; have HB := n0_; have BK101 := n1_; have GW101 := n2_; have GE101 := n3_; clear n0_ n1_ n2_ n3_; clear hb hbox hg; obtain ⟨hcz8_0, hcz8_1, hcz8_2, hcz8_3, hcz8_4, hcz8_5, hcz8_6, hcz8_7, hcz8_8, hcz8_9, hcz8_10, hcz8_11, hfz8_0, hfz8_1, hfz8_2, hfz8_3, hfz8_4, hfz8_5, hfz8_6, hfz8_7, hfz8_8, hfz8_9, hfz8_10, hfz8_11⟩ := blkA12 BK101.out) | ((with_reducible refine gate_callee (f := 32) rfl ?_); refine goesL_ (some 7) rfl rfl Tryd.func32 (by kernel_rfl) rfl #[.string a0_0] rfl (by (try simp only [List.map_toArray, List.map_cons, List.map_nil]); first | done | rfl | (simp only [List.length_drop, List.length_take]; rfl)) ?_; (with_reducible refine (creelref_PathFault.calls k a0_0 t102 _ A2.out).mono ?_); rintro e w9 ⟨rfl, hb⟩; refine ⟨_, rfl, ?_⟩; have n0_ := Aside0.mk (blk_below (g := gb101) (o := .cells #[.string a0_0, .int .i64 a0_1, .int .i64 a0_2, .string a0_3, .int .i64 a0_4, .int .i64 a0_5, .int .i64 a0_6, .string a0_7, .string a0_8, .int .i64 a0_9, .int .i64 a0_10, .slice A0_11 l0_11.length c0_11] 45 (0, 0)) (by (with_reducible repeat (first | refine blk_drewN ?_ _ | refine blk_drew ?_ | refine blk_alloc ?_ _)); exact BK101.out) hb); have n1_ := Aside0.mk (below_step (by repeat (first | (with_reducible first | exact HB.out | apply bwA | apply pwbN | apply bw1 | refine below_set ?_ GE101.out) | exact HB.out)) hb); clear BK101; clear HB; have BK101 := n0_; have HB := n1_; clear n0_ n1_; (try clear hb); (try clear hb2); (try clear hk); (try clear hi); obtain ⟨hcz10_0, hcz10_1, hcz10_2, hcz10_3, hcz10_4, hcz10_5, hcz10_6, hcz10_7, hcz10_8, hcz10_9, hcz10_10, hcz10_11, hfz10_0, hfz10_1, hfz10_2, hfz10_3, hfz10_4, hfz10_5, hfz10_6, hfz10_7, hfz10_8, hfz10_9, hfz10_10, hfz10_11⟩ := blkA12 BK101.out) | ((with_reducible refine gate_callee (f := 90) rfl ?_); refine goesL_ (some 13) rfl rfl Tryd.func90 (by kernel_rfl) rfl #[.agg #[.int .i64 a0_4, .int .i64 a0_5, .int .i64 a0_6, .string a0_7, .string a0_8, .int .i64 a0_9, .int .i64 a0_10]] rfl (by (try simp only [List.map_toArray, List.map_cons, List.map_nil]); first | done | rfl | (simp only [List.length_drop, List.length_take]; rfl)) ?_; (with_reducible refine (creelref_MetaFault.calls k a0_4 a0_5 a0_6 a0_7 a0_8 a0_9 a0_10 t103 _ A4.out).mono ?_); rintro e w11 ⟨rfl, hb⟩; refine ⟨_, rfl, ?_⟩; have n0_ := Aside0.mk (blk_below (g := gb101) (o := .cells #[.string a0_0, .int .i64 a0_1, .int .i64 a0_2, .string a0_3, .int .i64 a0_4, .int .i64 a0_5, .int .i64 a0_6, .string a0_7, .string a0_8, .int .i64 a0_9, .int .i64 a0_10, .slice A0_11 l0_11.length c0_11] 45 (0, 0)) (by (with_reducible repeat (first | refine blk_drewN ?_ _ | refine blk_drew ?_ | refine blk_alloc ?_ _)); exact BK101.out) hb); have n1_ := Aside0.mk (below_step (by repeat (first | (with_reducible first | exact HB.out | apply bwA | apply pwbN | apply bw1 | refine below_set ?_ GE101.out) | exact HB.out)) hb); clear BK101; clear HB; have BK101 := n0_; have HB := n1_; clear n0_ n1_; (try clear hb); (try clear hb2); (try clear hk); (try clear hi)))
   (try simp only [Act.put, List.setIfInBounds_toArray, List.set_cons_zero, List.set_cons_succ])
   go_cut [29] (fun v29 wc => ∃ (kq : Nat) (x29_5 : Bool), v29 = .bool x29_5 ∧ Aside0 (rNF.j0 kq x29_5 a0_0 a0_1 a0_2 a0_3 a0_4 a0_5 a0_6 a0_7 a0_8 a0_9 a0_10 l0_11 = some r) ∧ Aside0 (kq ≤ k) ∧ Aside0 (wc.heap[gb101]? = some (.cells #[.string a0_0, .int .i64 a0_1, .int .i64 a0_2, .string a0_3, .int .i64 a0_4, .int .i64 a0_5, .int .i64 a0_6, .string a0_7, .string a0_8, .int .i64 a0_9, .int .i64 a0_10, (.slice A0_11 l0_11.length c0_11)] 45 (0, 0))) ∧ Aside0 (Below w.heap.size w wc))
   case first =>
    have H := HC6.out
    clear HC6
    by_cases c12 : a0_1 = 1
    ·rw [if_pos c12] at H
     have c12b0 : (a0_1 == 1) = true := beq_iff_eq.mpr c12
     have c12b1 : (a0_1 != 1) = false := bne_eq_false_iff_eq.mpr c12
     clear c12
     (first | rw [c12b0] | (simp only [i64_w, i32_w]; rw [c12b0]) | skip)
     have H' := Aside0.mk H
     clear H
     obtain ⟨hcz13_0, hcz13_1, hcz13_2, hcz13_3, hcz13_4, hcz13_5, hcz13_6, hcz13_7, hcz13_8, hcz13_9, hcz13_10, hcz13_11, hfz13_0, hfz13_1, hfz13_2, hfz13_3, hfz13_4, hfz13_5, hfz13_6, hfz13_7, hfz13_8, hfz13_9, hfz13_10, hfz13_11⟩ := blkA12 BK101.out
     go_wp2
     go_meet
     case rel => exact ⟨_, (false), (by first | rfl | (simp; done) | (simp [*]; done)), H', ⟨by first | omega | exact Nat.le_refl _⟩, ⟨by (with_reducible repeat (first | refine blk_drewN ?_ _ | refine blk_drew ?_ | refine blk_alloc ?_ _)); exact BK101.out⟩, ⟨by repeat (first | (with_reducible first | exact HB.out | apply bwA | apply pwbN | apply bw1 | refine below_set ?_ GE101.out) | exact HB.out)⟩⟩
    ·rw [if_neg c12] at H
     have c12b0 : (a0_1 == 1) = false := beq_eq_false_iff_ne.mpr c12
     have c12b1 : (a0_1 != 1) = true := bne_iff_ne.mpr c12
     (first | rw [c12b0] | (simp only [i64_w, i32_w]; rw [c12b0]) | skip)
     by_cases c14 : a0_1 = 2
     ·rw [if_pos c14] at H
      have c14b0 : (a0_1 == 2) = true := beq_iff_eq.mpr c14
      have c14b1 : (a0_1 != 2) = false := bne_eq_false_iff_eq.mpr c14
      clear c14
      have H' := Aside0.mk H
      clear H
      obtain ⟨hcz15_0, hcz15_1, hcz15_2, hcz15_3, hcz15_4, hcz15_5, hcz15_6, hcz15_7, hcz15_8, hcz15_9, hcz15_10, hcz15_11, hfz15_0, hfz15_1, hfz15_2, hfz15_3, hfz15_4, hfz15_5, hfz15_6, hfz15_7, hfz15_8, hfz15_9, hfz15_10, hfz15_11⟩ := blkA12 BK101.out
      go_wp2
      go_meet
      case rel => exact ⟨_, (false), (by first | rfl | (simp; done) | (simp [*]; done)), H', ⟨by first | omega | exact Nat.le_refl _⟩, ⟨by (with_reducible repeat (first | refine blk_drewN ?_ _ | refine blk_drew ?_ | refine blk_alloc ?_ _)); exact BK101.out⟩, ⟨by repeat (first | (with_reducible first | exact HB.out | apply bwA | apply pwbN | apply bw1 | refine below_set ?_ GE101.out) | exact HB.out)⟩⟩
     ·rw [if_neg c14] at H
      have c14b0 : (a0_1 == 2) = false := beq_eq_false_iff_ne.mpr c14
      have c14b1 : (a0_1 != 2) = true := bne_iff_ne.mpr c14
      have H' := Aside0.mk H
      clear H
      obtain ⟨hcz16_0, hcz16_1, hcz16_2, hcz16_3, hcz16_4, hcz16_5, hcz16_6, hcz16_7, hcz16_8, hcz16_9, hcz16_10, hcz16_11, hfz16_0, hfz16_1, hfz16_2, hfz16_3, hfz16_4, hfz16_5, hfz16_6, hfz16_7, hfz16_8, hfz16_9, hfz16_10, hfz16_11⟩ := blkA12 BK101.out
      go_wp2
      go_meet
      case rel => exact ⟨_, ((a0_1 != 3)), (by first | rfl | (simp; done) | (simp [*]; done)), H', ⟨by first | omega | exact Nat.le_refl _⟩, ⟨by (with_reducible repeat (first | refine blk_drewN ?_ _ | refine blk_drew ?_ | refine blk_alloc ?_ _)); exact BK101.out⟩, ⟨by repeat (first | (with_reducible first | exact HB.out | apply bwA | apply pwbN | apply bw1 | refine below_set ?_ GE101.out) | exact HB.out)⟩⟩
   case rest =>
    clear HC6
    repeat first|clear c1|clear p2|clear c3|clear c3b0|clear c3b1|clear c5|clear c5b0|clear c5b1|clear c7|clear c9|clear c12|clear c12b0|clear c12b1|clear c14|clear c14b0|clear c14b1|clear hcz10_0|clear hcz10_1|clear hcz10_10|clear hcz10_11|clear hcz10_2|clear hcz10_3|clear hcz10_4|clear hcz10_5|clear hcz10_6|clear hcz10_7|clear hcz10_8|clear hcz10_9|clear hcz13_0|clear hcz13_1|clear hcz13_10|clear hcz13_11|clear hcz13_2|clear hcz13_3|clear hcz13_4|clear hcz13_5|clear hcz13_6|clear hcz13_7|clear hcz13_8|clear hcz13_9|clear hcz15_0|clear hcz15_1|clear hcz15_10|clear hcz15_11|clear hcz15_2|clear hcz15_3|clear hcz15_4|clear hcz15_5|clear hcz15_6|clear hcz15_7|clear hcz15_8|clear hcz15_9|clear hcz16_0|clear hcz16_1|clear hcz16_10|clear hcz16_11|clear hcz16_2|clear hcz16_3|clear hcz16_4|clear hcz16_5|clear hcz16_6|clear hcz16_7|clear hcz16_8|clear hcz16_9|clear hcz8_0|clear hcz8_1|clear hcz8_10|clear hcz8_11|clear hcz8_2|clear hcz8_3|clear hcz8_4|clear hcz8_5|clear hcz8_6|clear hcz8_7|clear hcz8_8|clear hcz8_9|clear hfz10_0|clear hfz10_1|clear hfz10_10|clear hfz10_11|clear hfz10_2|clear hfz10_3|clear hfz10_4|clear hfz10_5|clear hfz10_6|clear hfz10_7|clear hfz10_8|clear hfz10_9|clear hfz13_0|clear hfz13_1|clear hfz13_10|clear hfz13_11|clear hfz13_2|clear hfz13_3|clear hfz13_4|clear hfz13_5|clear hfz13_6|clear hfz13_7|clear hfz13_8|clear hfz13_9|clear hfz15_0|clear hfz15_1|clear hfz15_10|clear hfz15_11|clear hfz15_2|clear hfz15_3|clear hfz15_4|clear hfz15_5|clear hfz15_6|clear hfz15_7|clear hfz15_8|clear hfz15_9|clear hfz16_0|clear hfz16_1|clear hfz16_10|clear hfz16_11|clear hfz16_2|clear hfz16_3|clear hfz16_4|clear hfz16_5|clear hfz16_6|clear hfz16_7|clear hfz16_8|clear hfz16_9|clear hfz8_0|clear hfz8_1|clear hfz8_10|clear hfz8_11|clear hfz8_2|clear hfz8_3|clear hfz8_4|clear hfz8_5|clear hfz8_6|clear hfz8_7|clear hfz8_8|clear hfz8_9
    obtain ⟨kq, x29_5, rfl, HA, HJ5, BK101, HB⟩ := hcut
    cases kq with
    | zero => exact absurd HA.out (by simp [rNF.j0])
    | succ kj5 =>
     have H := HA.out
     clear HA
     simp only [rNF.j0] at H
     by_cases c17 : x29_5 = true
     ·subst c17
      have H1 : (some 2) = some r := by rw [if_pos rfl] at H; exact H
      clear H
      have H := H1
      clear H1
      obtain rfl := Option.some.inj H
      go_wp2
      go_ret
      exact ⟨by first | rfl | (simp [errW_none, errW_some] <;> rfl) | (simp [*, errW_none, errW_some] <;> rfl), by repeat (first | (with_reducible first | exact HB.out | apply bwA | apply pwbN | apply bw1 | refine below_set ?_ GE101.out) | exact HB.out)⟩
     ·replace c17 := Bool.eq_false_iff.mpr c17
      subst c17
      have H1 : (if a0_1 = 1 then (if a0_3.toList = ([] : List UInt8) then (rNF.j1 kj5 (decide (a0_2 < 0)) a0_0 a0_1 a0_2 a0_3 a0_4 a0_5 a0_6 a0_7 a0_8 a0_9 a0_10 l0_11) else (rNF.j1 kj5 true a0_0 a0_1 a0_2 a0_3 a0_4 a0_5 a0_6 a0_7 a0_8 a0_9 a0_10 l0_11)) else (if (l0_11.length : Int) = 0 then (if a0_2 = 0 then (if ((a0_3.toList == ([] : List UInt8)) != (a0_1 == 2)) = true then (rNF.j2 kj5 true a0_0 a0_1 a0_2 a0_3 a0_4 a0_5 a0_6 a0_7 a0_8 a0_9 a0_10 l0_11) else ((creelref_has.f kj5 a0_3 0).bind fun t104 => (rNF.j2 kj5 t104 a0_0 a0_1 a0_2 a0_3 a0_4 a0_5 a0_6 a0_7 a0_8 a0_9 a0_10 l0_11))) else (rNF.j2 kj5 true a0_0 a0_1 a0_2 a0_3 a0_4 a0_5 a0_6 a0_7 a0_8 a0_9 a0_10 l0_11)) else (rNF.j2 kj5 true a0_0 a0_1 a0_2 a0_3 a0_4 a0_5 a0_6 a0_7 a0_8 a0_9 a0_10 l0_11))) = some r := by rw [if_neg (show ¬ (false = true) by decide)] at H; exact H
      clear H
      have H := H1
      clear H1
      by_cases c18 : a0_1 = 1
      ·rw [if_pos c18] at H
       have c18b0 : (a0_1 == 1) = true := beq_iff_eq.mpr c18
       have c18b1 : (a0_1 != 1) = false := bne_eq_false_iff_eq.mpr c18
       clear c18
       have HC19 := Aside0.mk H
       clear H
       obtain ⟨hcz20_0, hcz20_1, hcz20_2, hcz20_3, hcz20_4, hcz20_5, hcz20_6, hcz20_7, hcz20_8, hcz20_9, hcz20_10, hcz20_11, hfz20_0, hfz20_1, hfz20_2, hfz20_3, hfz20_4, hfz20_5, hfz20_6, hfz20_7, hfz20_8, hfz20_9, hfz20_10, hfz20_11⟩ := blkA12 BK101.out
       go_upto_region 10 with (fail)
       go_cut [40] (fun v40 wc => ∃ (kq : Nat) (x40_18 : Bool), v40 = .bool x40_18 ∧ Aside0 (rNF.j1 kq x40_18 a0_0 a0_1 a0_2 a0_3 a0_4 a0_5 a0_6 a0_7 a0_8 a0_9 a0_10 l0_11 = some r) ∧ Aside0 (kq ≤ kj5) ∧ Aside0 (wc.heap[gb101]? = some (.cells #[.string a0_0, .int .i64 a0_1, .int .i64 a0_2, .string a0_3, .int .i64 a0_4, .int .i64 a0_5, .int .i64 a0_6, .string a0_7, .string a0_8, .int .i64 a0_9, .int .i64 a0_10, (.slice A0_11 l0_11.length c0_11)] 45 (0, 0))) ∧ Aside0 (Below w.heap.size w wc))
       case first =>
        have H := HC19.out
        clear HC19
        by_cases c21 : a0_3.toList = ([] : List UInt8)
        ·rw [if_pos c21] at H
         have c21b0 : (a0_3.toList == ([] : List UInt8)) = true := beq_iff_eq.mpr c21
         have c21b1 : (a0_3.toList != ([] : List UInt8)) = false := bne_eq_false_iff_eq.mpr c21
         clear c21
         (first | rw [c21b0] | (simp only [i64_w, i32_w]; rw [c21b0]) | skip)
         have H' := Aside0.mk H
         clear H
         obtain ⟨hcz22_0, hcz22_1, hcz22_2, hcz22_3, hcz22_4, hcz22_5, hcz22_6, hcz22_7, hcz22_8, hcz22_9, hcz22_10, hcz22_11, hfz22_0, hfz22_1, hfz22_2, hfz22_3, hfz22_4, hfz22_5, hfz22_6, hfz22_7, hfz22_8, hfz22_9, hfz22_10, hfz22_11⟩ := blkA12 BK101.out
         go_wp2
         go_meet
         case rel => exact ⟨_, (decide (a0_2 < 0)), (by first | rfl | (simp; done) | (simp [*]; done)), H', ⟨by have := HJ5.out; first | omega | exact Nat.le_refl _⟩, ⟨by (with_reducible repeat (first | refine blk_drewN ?_ _ | refine blk_drew ?_ | refine blk_alloc ?_ _)); exact BK101.out⟩, ⟨by repeat (first | (with_reducible first | exact HB.out | apply bwA | apply pwbN | apply bw1 | refine below_set ?_ GE101.out) | exact HB.out)⟩⟩
        ·rw [if_neg c21] at H
         have c21b0 : (a0_3.toList == ([] : List UInt8)) = false := beq_eq_false_iff_ne.mpr c21
         have c21b1 : (a0_3.toList != ([] : List UInt8)) = true := bne_iff_ne.mpr c21
         (first | rw [c21b0] | (simp only [i64_w, i32_w]; rw [c21b0]) | skip)
         have H' := Aside0.mk H
         clear H
         obtain ⟨hcz23_0, hcz23_1, hcz23_2, hcz23_3, hcz23_4, hcz23_5, hcz23_6, hcz23_7, hcz23_8, hcz23_9, hcz23_10, hcz23_11, hfz23_0, hfz23_1, hfz23_2, hfz23_3, hfz23_4, hfz23_5, hfz23_6, hfz23_7, hfz23_8, hfz23_9, hfz23_10, hfz23_11⟩ := blkA12 BK101.out
         go_wp2
         go_meet
         case rel => exact ⟨_, (true), (by first | rfl | (simp; done) | (simp [*]; done)), H', ⟨by have := HJ5.out; first | omega | exact Nat.le_refl _⟩, ⟨by (with_reducible repeat (first | refine blk_drewN ?_ _ | refine blk_drew ?_ | refine blk_alloc ?_ _)); exact BK101.out⟩, ⟨by repeat (first | (with_reducible first | exact HB.out | apply bwA | apply pwbN | apply bw1 | refine below_set ?_ GE101.out) | exact HB.out)⟩⟩
       case rest =>
        clear HC19
        repeat first|clear c1|clear c2|clear p2|clear c3|clear c3b0|clear c3b1|clear c5|clear c5b0|clear c5b1|clear c7|clear c9|clear c12|clear c12b0|clear c12b1|clear c14|clear c14b0|clear c14b1|clear c17|clear c18|clear c18b0|clear c18b1|clear c21|clear c21b0|clear c21b1|clear hcz10_0|clear hcz10_1|clear hcz10_10|clear hcz10_11|clear hcz10_2|clear hcz10_3|clear hcz10_4|clear hcz10_5|clear hcz10_6|clear hcz10_7|clear hcz10_8|clear hcz10_9|clear hcz13_0|clear hcz13_1|clear hcz13_10|clear hcz13_11|clear hcz13_2|clear hcz13_3|clear hcz13_4|clear hcz13_5|clear hcz13_6|clear hcz13_7|clear hcz13_8|clear hcz13_9|clear hcz15_0|clear hcz15_1|clear hcz15_10|clear hcz15_11|clear hcz15_2|clear hcz15_3|clear hcz15_4|clear hcz15_5|clear hcz15_6|clear hcz15_7|clear hcz15_8|clear hcz15_9|clear hcz16_0|clear hcz16_1|clear hcz16_10|clear hcz16_11|clear hcz16_2|clear hcz16_3|clear hcz16_4|clear hcz16_5|clear hcz16_6|clear hcz16_7|clear hcz16_8|clear hcz16_9|clear hcz20_0|clear hcz20_1|clear hcz20_10|clear hcz20_11|clear hcz20_2|clear hcz20_3|clear hcz20_4|clear hcz20_5|clear hcz20_6|clear hcz20_7|clear hcz20_8|clear hcz20_9|clear hcz22_0|clear hcz22_1|clear hcz22_10|clear hcz22_11|clear hcz22_2|clear hcz22_3|clear hcz22_4|clear hcz22_5|clear hcz22_6|clear hcz22_7|clear hcz22_8|clear hcz22_9|clear hcz23_0|clear hcz23_1|clear hcz23_10|clear hcz23_11|clear hcz23_2|clear hcz23_3|clear hcz23_4|clear hcz23_5|clear hcz23_6|clear hcz23_7|clear hcz23_8|clear hcz23_9|clear hcz8_0|clear hcz8_1|clear hcz8_10|clear hcz8_11|clear hcz8_2|clear hcz8_3|clear hcz8_4|clear hcz8_5|clear hcz8_6|clear hcz8_7|clear hcz8_8|clear hcz8_9|clear hfz10_0|clear hfz10_1|clear hfz10_10|clear hfz10_11|clear hfz10_2|clear hfz10_3|clear hfz10_4|clear hfz10_5|clear hfz10_6|clear hfz10_7|clear hfz10_8|clear hfz10_9|clear hfz13_0|clear hfz13_1|clear hfz13_10|clear hfz13_11|clear hfz13_2|clear hfz13_3|clear hfz13_4|clear hfz13_5|clear hfz13_6|clear hfz13_7|clear hfz13_8|clear hfz13_9|clear hfz15_0|clear hfz15_1|clear hfz15_10|clear hfz15_11|clear hfz15_2|clear hfz15_3|clear hfz15_4|clear hfz15_5|clear hfz15_6|clear hfz15_7|clear hfz15_8|clear hfz15_9|clear hfz16_0|clear hfz16_1|clear hfz16_10|clear hfz16_11|clear hfz16_2|clear hfz16_3|clear hfz16_4|clear hfz16_5|clear hfz16_6|clear hfz16_7|clear hfz16_8|clear hfz16_9|clear hfz20_0|clear hfz20_1|clear hfz20_10|clear hfz20_11|clear hfz20_2|clear hfz20_3|clear hfz20_4|clear hfz20_5|clear hfz20_6|clear hfz20_7|clear hfz20_8|clear hfz20_9|clear hfz22_0|clear hfz22_1|clear hfz22_10|clear hfz22_11|clear hfz22_2|clear hfz22_3|clear hfz22_4|clear hfz22_5|clear hfz22_6|clear hfz22_7|clear hfz22_8|clear hfz22_9|clear hfz23_0|clear hfz23_1|clear hfz23_10|clear hfz23_11|clear hfz23_2|clear hfz23_3|clear hfz23_4|clear hfz23_5|clear hfz23_6|clear hfz23_7|clear hfz23_8|clear hfz23_9|clear hfz8_0|clear hfz8_1|clear hfz8_10|clear hfz8_11|clear hfz8_2|clear hfz8_3|clear hfz8_4|clear hfz8_5|clear hfz8_6|clear hfz8_7|clear hfz8_8|clear hfz8_9|clear p2
        obtain ⟨kq, x40_18, rfl, HA, HJ18, BK101, HB⟩ := hcut
        cases kq with
        | zero => exact absurd HA.out (by simp [rNF.j1])
        | succ kj18 =>
         have H := HA.out
         clear HA
         simp only [rNF.j1] at H
         by_cases c24 : x40_18 = true
         ·subst c24
          have H1 : (some 3) = some r := by rw [if_pos rfl] at H; exact H
          clear H
          have H := H1
          clear H1
          obtain rfl := Option.some.inj H
          go_wp2
          go_ret
          exact ⟨by first | rfl | (simp [errW_none, errW_some] <;> rfl) | (simp [*, errW_none, errW_some] <;> rfl), by repeat (first | (with_reducible first | exact HB.out | apply bwA | apply pwbN | apply bw1 | refine below_set ?_ GE101.out) | exact HB.out)⟩
         ·replace c24 := Bool.eq_false_iff.mpr c24
          subst c24
          have H1 : (if (l0_11.length : Int) > 2000 then (some 1) else (some 0)) = some r := by rw [if_neg (show ¬ (false = true) by decide)] at H; exact H
          clear H
          have H := H1
          clear H1
          by_cases c25 : (l0_11.length : Int) > 2000
          ·rw [if_pos c25] at H
           have c25b0 : decide (2000 < (l0_11.length : Int)) = true := decide_eq_true c25
           have c25b1 : decide (2000 < l0_11.length) = true := decide_eq_true (by omega)
           clear c25
           obtain rfl := Option.some.inj H
           obtain ⟨hcz26_0, hcz26_1, hcz26_2, hcz26_3, hcz26_4, hcz26_5, hcz26_6, hcz26_7, hcz26_8, hcz26_9, hcz26_10, hcz26_11, hfz26_0, hfz26_1, hfz26_2, hfz26_3, hfz26_4, hfz26_5, hfz26_6, hfz26_7, hfz26_8, hfz26_9, hfz26_10, hfz26_11⟩ := blkA12 BK101.out
           go_wp2
           go_ret
           exact ⟨by first | rfl | (simp [errW_none, errW_some] <;> rfl) | (simp [*, errW_none, errW_some] <;> rfl), by repeat (first | (with_reducible first | exact HB.out | apply bwA | apply pwbN | apply bw1 | refine below_set ?_ GE101.out) | exact HB.out)⟩
          ·rw [if_neg c25] at H
           have c25b0 : decide (2000 < (l0_11.length : Int)) = false := decide_eq_false c25
           have c25b1 : decide (2000 < l0_11.length) = false := decide_eq_false (by omega)
           clear c25
           obtain rfl := Option.some.inj H
           obtain ⟨hcz27_0, hcz27_1, hcz27_2, hcz27_3, hcz27_4, hcz27_5, hcz27_6, hcz27_7, hcz27_8, hcz27_9, hcz27_10, hcz27_11, hfz27_0, hfz27_1, hfz27_2, hfz27_3, hfz27_4, hfz27_5, hfz27_6, hfz27_7, hfz27_8, hfz27_9, hfz27_10, hfz27_11⟩ := blkA12 BK101.out
           go_wp2
           go_ret
           exact ⟨by first | rfl | (simp [errW_none, errW_some] <;> rfl) | (simp [*, errW_none, errW_some] <;> rfl), by repeat (first | (with_reducible first | exact HB.out | apply bwA | apply pwbN | apply bw1 | refine below_set ?_ GE101.out) | exact HB.out)⟩
      ·rw [if_neg c18] at H
       have c18b0 : (a0_1 == 1) = false := beq_eq_false_iff_ne.mpr c18
       have c18b1 : (a0_1 != 1) = true := bne_iff_ne.mpr c18
       have HC28 := Aside0.mk H
       clear H
       obtain ⟨hcz29_0, hcz29_1, hcz29_2, hcz29_3, hcz29_4, hcz29_5, hcz29_6, hcz29_7, hcz29_8, hcz29_9, hcz29_10, hcz29_11, hfz29_0, hfz29_1, hfz29_2, hfz29_3, hfz29_4, hfz29_5, hfz29_6, hfz29_7, hfz29_8, hfz29_9, hfz29_10, hfz29_11⟩ := blkA12 BK101.out
       go_upto_region 15 with (fail)
       go_cut [67] (fun v67 wc => ∃ (kq : Nat) (x67_27 : Bool), v67 = .bool x67_27 ∧ Aside0 (rNF.j2 kq x67_27 a0_0 a0_1 a0_2 a0_3 a0_4 a0_5 a0_6 a0_7 a0_8 a0_9 a0_10 l0_11 = some r) ∧ Aside0 (kq ≤ kj5) ∧ Aside0 (wc.heap[gb101]? = some (.cells #[.string a0_0, .int .i64 a0_1, .int .i64 a0_2, .string a0_3, .int .i64 a0_4, .int .i64 a0_5, .int .i64 a0_6, .string a0_7, .string a0_8, .int .i64 a0_9, .int .i64 a0_10, (.slice A0_11 l0_11.length c0_11)] 45 (0, 0))) ∧ Aside0 (Below w.heap.size w wc))
       case first =>
        have H := HC28.out
        clear HC28
        by_cases c30 : (l0_11.length : Int) = 0
        ·rw [if_pos c30] at H
         have c30b0 : ((l0_11.length : Int) == 0) = true := beq_iff_eq.mpr c30
         have c30b1 : ((l0_11.length : Int) != 0) = false := bne_eq_false_iff_eq.mpr c30
         clear c30
         (first | rw [c30b0] | (simp only [i64_w, i32_w]; rw [c30b0]) | skip)
         by_cases c31 : a0_2 = 0
         ·rw [if_pos c31] at H
          have c31b0 : (a0_2 == 0) = true := beq_iff_eq.mpr c31
          have c31b1 : (a0_2 != 0) = false := bne_eq_false_iff_eq.mpr c31
          clear c31
          by_cases c32 : ((a0_3.toList == ([] : List UInt8)) != (a0_1 == 2)) = true
          ·rw [if_pos c32] at H
           have c32b0 : ((a0_3.toList == ([] : List UInt8)) != (a0_1 == 2)) = true := c32
           (try (have c32b1 : decide ((a0_3.toList == ([] : List UInt8)) = (a0_1 == 2)) = false := by simpa using c32))
           (try (have c32b2 : ((a0_3.toList == ([] : List UInt8)) == (a0_1 == 2)) = false := by simpa using c32))
           (try (have c32b3 : ¬ ((a0_3.toList == ([] : List UInt8)) = (a0_1 == 2)) := by simpa using c32))
           have c32c0 : (a0_3.toList.isEmpty == (a0_1 == 2)) = false := (by cases a0_3.toList <;> rfl : (a0_3.toList.isEmpty == (a0_1 == 2)) = ((a0_3.toList == ([] : List UInt8)) == (a0_1 == 2))).trans c32b2
           have c32c1 : (a0_3.toList.isEmpty == decide (a0_1 = 2)) = false := c32c0
           have c32c2 : decide (a0_3.toList.isEmpty = decide (a0_1 = 2)) = false := (by cases a0_3.toList <;> cases decide (a0_1 = 2) <;> rfl : decide (a0_3.toList.isEmpty = decide (a0_1 = 2)) = (a0_3.toList.isEmpty == decide (a0_1 = 2))).trans c32c1
           have c32c3 : (a0_3.toList.isEmpty != decide (a0_1 = 2)) = true := by rw [bne, c32c1]; rfl
           clear c32
           have H' := Aside0.mk H
           clear H
           obtain ⟨hcz33_0, hcz33_1, hcz33_2, hcz33_3, hcz33_4, hcz33_5, hcz33_6, hcz33_7, hcz33_8, hcz33_9, hcz33_10, hcz33_11, hfz33_0, hfz33_1, hfz33_2, hfz33_3, hfz33_4, hfz33_5, hfz33_6, hfz33_7, hfz33_8, hfz33_9, hfz33_10, hfz33_11⟩ := blkA12 BK101.out
           go_wp2
           go_meet
           case rel => exact ⟨_, (true), (by first | rfl | (simp; done) | (simp [*]; done)), H', ⟨by have := HJ5.out; first | omega | exact Nat.le_refl _⟩, ⟨by (with_reducible repeat (first | refine blk_drewN ?_ _ | refine blk_drew ?_ | refine blk_alloc ?_ _)); exact BK101.out⟩, ⟨by repeat (first | (with_reducible first | exact HB.out | apply bwA | apply pwbN | apply bw1 | refine below_set ?_ GE101.out) | exact HB.out)⟩⟩
          ·rw [if_neg c32] at H
           have c32b0 : ((a0_3.toList == ([] : List UInt8)) != (a0_1 == 2)) = false := by simpa using c32
           (try (have c32b1 : decide ((a0_3.toList == ([] : List UInt8)) = (a0_1 == 2)) = true := by simpa using c32))
           (try (have c32b2 : ((a0_3.toList == ([] : List UInt8)) == (a0_1 == 2)) = true := by simpa using c32))
           have c32c0 : (a0_3.toList.isEmpty == (a0_1 == 2)) = true := (by cases a0_3.toList <;> rfl : (a0_3.toList.isEmpty == (a0_1 == 2)) = ((a0_3.toList == ([] : List UInt8)) == (a0_1 == 2))).trans c32b2
           have c32c1 : (a0_3.toList.isEmpty == decide (a0_1 = 2)) = true := c32c0
           have c32c2 : decide (a0_3.toList.isEmpty = decide (a0_1 = 2)) = true := (by cases a0_3.toList <;> cases decide (a0_1 = 2) <;> rfl : decide (a0_3.toList.isEmpty = decide (a0_1 = 2)) = (a0_3.toList.isEmpty == decide (a0_1 = 2))).trans c32c1
           have c32c3 : (a0_3.toList.isEmpty != decide (a0_1 = 2)) = false := by rw [bne, c32c1]; rfl
           clear c32
           replace H := Option.bind_eq_some_iff.mp H
           obtain ⟨t104, A340, H⟩ := H
           replace H : (rNF.j2 kj5 t104 a0_0 a0_1 a0_2 a0_3 a0_4 a0_5 a0_6 a0_7 a0_8 a0_9 a0_10 l0_11) = some r := H
           have A34 := Aside0.mk A340
           clear A340
           have H' := Aside0.mk H
           clear H
           obtain ⟨hcz35_0, hcz35_1, hcz35_2, hcz35_3, hcz35_4, hcz35_5, hcz35_6, hcz35_7, hcz35_8, hcz35_9, hcz35_10, hcz35_11, hfz35_0, hfz35_1, hfz35_2, hfz35_3, hfz35_4, hfz35_5, hfz35_6, hfz35_7, hfz35_8, hfz35_9, hfz35_10, hfz35_11⟩ := blkA12 BK101.out
           go_wp2_with (first | (go_at_call 65; (with_reducible refine (creelref_has.calls kj5 a0_3 0 t104 _ A34.out).mono ?_); rintro e w' ⟨rfl, ⟨nd, rfl⟩⟩))
           go_meet
           case rel => exact ⟨_, (t104), (by first | rfl | (simp; done) | (simp [*]; done)), H', ⟨by have := HJ5.out; first | omega | exact Nat.le_refl _⟩, ⟨by (with_reducible repeat (first | refine blk_drewN ?_ _ | refine blk_drew ?_ | refine blk_alloc ?_ _)); exact BK101.out⟩, ⟨by repeat (first | (with_reducible first | exact HB.out | apply bwA | apply pwbN | apply bw1 | refine below_set ?_ GE101.out) | exact HB.out)⟩⟩
         ·rw [if_neg c31] at H
          have c31b0 : (a0_2 == 0) = false := beq_eq_false_iff_ne.mpr c31
          have c31b1 : (a0_2 != 0) = true := bne_iff_ne.mpr c31
          have H' := Aside0.mk H
          clear H
          obtain ⟨hcz36_0, hcz36_1, hcz36_2, hcz36_3, hcz36_4, hcz36_5, hcz36_6, hcz36_7, hcz36_8, hcz36_9, hcz36_10, hcz36_11, hfz36_0, hfz36_1, hfz36_2, hfz36_3, hfz36_4, hfz36_5, hfz36_6, hfz36_7, hfz36_8, hfz36_9, hfz36_10, hfz36_11⟩ := blkA12 BK101.out
          go_wp2
          go_meet
          case rel => exact ⟨_, (true), (by first | rfl | (simp; done) | (simp [*]; done)), H', ⟨by have := HJ5.out; first | omega | exact Nat.le_refl _⟩, ⟨by (with_reducible repeat (first | refine blk_drewN ?_ _ | refine blk_drew ?_ | refine blk_alloc ?_ _)); exact BK101.out⟩, ⟨by repeat (first | (with_reducible first | exact HB.out | apply bwA | apply pwbN | apply bw1 | refine below_set ?_ GE101.out) | exact HB.out)⟩⟩
        ·rw [if_neg c30] at H
         have c30b0 : ((l0_11.length : Int) == 0) = false := beq_eq_false_iff_ne.mpr c30
         have c30b1 : ((l0_11.length : Int) != 0) = true := bne_iff_ne.mpr c30
         have c30b2 : ¬ (l0_11 = []) := fun h_ => c30 (by rw [h_]; rfl)
         (first | rw [c30b0] | (simp only [i64_w, i32_w]; rw [c30b0]) | skip)
         have H' := Aside0.mk H
         clear H
         obtain ⟨hcz37_0, hcz37_1, hcz37_2, hcz37_3, hcz37_4, hcz37_5, hcz37_6, hcz37_7, hcz37_8, hcz37_9, hcz37_10, hcz37_11, hfz37_0, hfz37_1, hfz37_2, hfz37_3, hfz37_4, hfz37_5, hfz37_6, hfz37_7, hfz37_8, hfz37_9, hfz37_10, hfz37_11⟩ := blkA12 BK101.out
         go_wp2
         go_meet
         case rel => exact ⟨_, (true), (by first | rfl | (simp; done) | (simp [*]; done)), H', ⟨by have := HJ5.out; first | omega | exact Nat.le_refl _⟩, ⟨by (with_reducible repeat (first | refine blk_drewN ?_ _ | refine blk_drew ?_ | refine blk_alloc ?_ _)); exact BK101.out⟩, ⟨by repeat (first | (with_reducible first | exact HB.out | apply bwA | apply pwbN | apply bw1 | refine below_set ?_ GE101.out) | exact HB.out)⟩⟩
       case rest =>
        clear HC28
        repeat first|clear c1|clear c2|clear p2|clear c3|clear c3b0|clear c3b1|clear c5|clear c5b0|clear c5b1|clear c7|clear c9|clear c12|clear c12b0|clear c12b1|clear c14|clear c14b0|clear c14b1|clear c17|clear c18|clear c18b0|clear c18b1|clear c21|clear c21b0|clear c21b1|clear c24|clear c25|clear c25b0|clear c25b1|clear c30|clear c30b0|clear c30b1|clear c30b2|clear c31|clear c31b0|clear c31b1|clear c32|clear c32b0|clear c32b1|clear c32b2|clear hcz10_0|clear hcz10_1|clear hcz10_10|clear hcz10_11|clear hcz10_2|clear hcz10_3|clear hcz10_4|clear hcz10_5|clear hcz10_6|clear hcz10_7|clear hcz10_8|clear hcz10_9|clear hcz13_0|clear hcz13_1|clear hcz13_10|clear hcz13_11|clear hcz13_2|clear hcz13_3|clear hcz13_4|clear hcz13_5|clear hcz13_6|clear hcz13_7|clear hcz13_8|clear hcz13_9|clear hcz15_0|clear hcz15_1|clear hcz15_10|clear hcz15_11|clear hcz15_2|clear hcz15_3|clear hcz15_4|clear hcz15_5|clear hcz15_6|clear hcz15_7|clear hcz15_8|clear hcz15_9|clear hcz16_0|clear hcz16_1|clear hcz16_10|clear hcz16_11|clear hcz16_2|clear hcz16_3|clear hcz16_4|clear hcz16_5|clear hcz16_6|clear hcz16_7|clear hcz16_8|clear hcz16_9|clear hcz20_0|clear hcz20_1|clear hcz20_10|clear hcz20_11|clear hcz20_2|clear hcz20_3|clear hcz20_4|clear hcz20_5|clear hcz20_6|clear hcz20_7|clear hcz20_8|clear hcz20_9|clear hcz22_0|clear hcz22_1|clear hcz22_10|clear hcz22_11|clear hcz22_2|clear hcz22_3|clear hcz22_4|clear hcz22_5|clear hcz22_6|clear hcz22_7|clear hcz22_8|clear hcz22_9|clear hcz23_0|clear hcz23_1|clear hcz23_10|clear hcz23_11|clear hcz23_2|clear hcz23_3|clear hcz23_4|clear hcz23_5|clear hcz23_6|clear hcz23_7|clear hcz23_8|clear hcz23_9|clear hcz26_0|clear hcz26_1|clear hcz26_10|clear hcz26_11|clear hcz26_2|clear hcz26_3|clear hcz26_4|clear hcz26_5|clear hcz26_6|clear hcz26_7|clear hcz26_8|clear hcz26_9|clear hcz27_0|clear hcz27_1|clear hcz27_10|clear hcz27_11|clear hcz27_2|clear hcz27_3|clear hcz27_4|clear hcz27_5|clear hcz27_6|clear hcz27_7|clear hcz27_8|clear hcz27_9|clear hcz29_0|clear hcz29_1|clear hcz29_10|clear hcz29_11|clear hcz29_2|clear hcz29_3|clear hcz29_4|clear hcz29_5|clear hcz29_6|clear hcz29_7|clear hcz29_8|clear hcz29_9|clear hcz33_0|clear hcz33_1|clear hcz33_10|clear hcz33_11|clear hcz33_2|clear hcz33_3|clear hcz33_4|clear hcz33_5|clear hcz33_6|clear hcz33_7|clear hcz33_8|clear hcz33_9|clear hcz35_0|clear hcz35_1|clear hcz35_10|clear hcz35_11|clear hcz35_2|clear hcz35_3|clear hcz35_4|clear hcz35_5|clear hcz35_6|clear hcz35_7|clear hcz35_8|clear hcz35_9|clear hcz36_0|clear hcz36_1|clear hcz36_10|clear hcz36_11|clear hcz36_2|clear hcz36_3|clear hcz36_4|clear hcz36_5|clear hcz36_6|clear hcz36_7|clear hcz36_8|clear hcz36_9|clear hcz37_0|clear hcz37_1|clear hcz37_10|clear hcz37_11|clear hcz37_2|clear hcz37_3|clear hcz37_4|clear hcz37_5|clear hcz37_6|clear hcz37_7|clear hcz37_8|clear hcz37_9|clear hcz8_0|clear hcz8_1|clear hcz8_10|clear hcz8_11|clear hcz8_2|clear hcz8_3|clear hcz8_4|clear hcz8_5|clear hcz8_6|clear hcz8_7|clear hcz8_8|clear hcz8_9|clear hfz10_0|clear hfz10_1|clear hfz10_10|clear hfz10_11|clear hfz10_2|clear hfz10_3|clear hfz10_4|clear hfz10_5|clear hfz10_6|clear hfz10_7|clear hfz10_8|clear hfz10_9|clear hfz13_0|clear hfz13_1|clear hfz13_10|clear hfz13_11|clear hfz13_2|clear hfz13_3|clear hfz13_4|clear hfz13_5|clear hfz13_6|clear hfz13_7|clear hfz13_8|clear hfz13_9|clear hfz15_0|clear hfz15_1|clear hfz15_10|clear hfz15_11|clear hfz15_2|clear hfz15_3|clear hfz15_4|clear hfz15_5|clear hfz15_6|clear hfz15_7|clear hfz15_8|clear hfz15_9|clear hfz16_0|clear hfz16_1|clear hfz16_10|clear hfz16_11|clear hfz16_2|clear hfz16_3|clear hfz16_4|clear hfz16_5|clear hfz16_6|clear hfz16_7|clear hfz16_8|clear hfz16_9|clear hfz20_0|clear hfz20_1|clear hfz20_10|clear hfz20_11|clear hfz20_2|clear hfz20_3|clear hfz20_4|clear hfz20_5|clear hfz20_6|clear hfz20_7|clear hfz20_8|clear hfz20_9|clear hfz22_0|clear hfz22_1|clear hfz22_10|clear hfz22_11|clear hfz22_2|clear hfz22_3|clear hfz22_4|clear hfz22_5|clear hfz22_6|clear hfz22_7|clear hfz22_8|clear hfz22_9|clear hfz23_0|clear hfz23_1|clear hfz23_10|clear hfz23_11|clear hfz23_2|clear hfz23_3|clear hfz23_4|clear hfz23_5|clear hfz23_6|clear hfz23_7|clear hfz23_8|clear hfz23_9|clear hfz26_0|clear hfz26_1|clear hfz26_10|clear hfz26_11|clear hfz26_2|clear hfz26_3|clear hfz26_4|clear hfz26_5|clear hfz26_6|clear hfz26_7|clear hfz26_8|clear hfz26_9|clear hfz27_0|clear hfz27_1|clear hfz27_10|clear hfz27_11|clear hfz27_2|clear hfz27_3|clear hfz27_4|clear hfz27_5|clear hfz27_6|clear hfz27_7|clear hfz27_8|clear hfz27_9|clear hfz29_0|clear hfz29_1|clear hfz29_10|clear hfz29_11|clear hfz29_2|clear hfz29_3|clear hfz29_4|clear hfz29_5|clear hfz29_6|clear hfz29_7|clear hfz29_8|clear hfz29_9|clear hfz33_0|clear hfz33_1|clear hfz33_10|clear hfz33_11|clear hfz33_2|clear hfz33_3|clear hfz33_4|clear hfz33_5|clear hfz33_6|clear hfz33_7|clear hfz33_8|clear hfz33_9|clear hfz35_0|clear hfz35_1|clear hfz35_10|clear hfz35_11|clear hfz35_2|clear hfz35_3|clear hfz35_4|clear hfz35_5|clear hfz35_6|clear hfz35_7|clear hfz35_8|clear hfz35_9|clear hfz36_0|clear hfz36_1|clear hfz36_10|clear hfz36_11|clear hfz36_2|clear hfz36_3|clear hfz36_4|clear hfz36_5|clear hfz36_6|clear hfz36_7|clear hfz36_8|clear hfz36_9|clear hfz37_0|clear hfz37_1|clear hfz37_10|clear hfz37_11|clear hfz37_2|clear hfz37_3|clear hfz37_4|clear hfz37_5|clear hfz37_6|clear hfz37_7|clear hfz37_8|clear hfz37_9|clear hfz8_0|clear hfz8_1|clear hfz8_10|clear hfz8_11|clear hfz8_2|clear hfz8_3|clear hfz8_4|clear hfz8_5|clear hfz8_6|clear hfz8_7|clear hfz8_8|clear hfz8_9|clear p2
        obtain ⟨kq, x67_27, rfl, HA, HJ27, BK101, HB⟩ := hcut
        cases kq with
        | zero => exact absurd HA.out (by simp [rNF.j2])
        | succ kj27 =>
         have H := HA.out
         clear HA
         simp only [rNF.j2] at H
         by_cases c38 : x67_27 = true
         ·subst c38
          have H1 : (some 3) = some r := by rw [if_pos rfl] at H; exact H
          clear H
          have H := H1
          clear H1
          obtain rfl := Option.some.inj H
          go_wp2
          go_ret
          exact ⟨by first | rfl | (simp [errW_none, errW_some] <;> rfl) | (simp [*, errW_none, errW_some] <;> rfl), by repeat (first | (with_reducible first | exact HB.out | apply bwA | apply pwbN | apply bw1 | refine below_set ?_ GE101.out) | exact HB.out)⟩
         ·replace c38 := Bool.eq_false_iff.mpr c38
          subst c38
          have H1 : (if (a0_3.size : Int) > 400 then (some 1) else (some 0)) = some r := by rw [if_neg (show ¬ (false = true) by decide)] at H; exact H
          clear H
          have H := H1
          clear H1
          by_cases c39 : (a0_3.size : Int) > 400
          ·rw [if_pos c39] at H
           have c39b0 : decide (400 < (a0_3.size : Int)) = true := decide_eq_true c39
           have c39b1 : decide (400 < a0_3.size) = true := decide_eq_true (by omega)
           clear c39
           obtain rfl := Option.some.inj H
           obtain ⟨hcz40_0, hcz40_1, hcz40_2, hcz40_3, hcz40_4, hcz40_5, hcz40_6, hcz40_7, hcz40_8, hcz40_9, hcz40_10, hcz40_11, hfz40_0, hfz40_1, hfz40_2, hfz40_3, hfz40_4, hfz40_5, hfz40_6, hfz40_7, hfz40_8, hfz40_9, hfz40_10, hfz40_11⟩ := blkA12 BK101.out
           go_wp2
           go_ret
           exact ⟨by first | rfl | (simp [errW_none, errW_some] <;> rfl) | (simp [*, errW_none, errW_some] <;> rfl), by repeat (first | (with_reducible first | exact HB.out | apply bwA | apply pwbN | apply bw1 | refine below_set ?_ GE101.out) | exact HB.out)⟩
          ·rw [if_neg c39] at H
           have c39b0 : decide (400 < (a0_3.size : Int)) = false := decide_eq_false c39
           have c39b1 : decide (400 < a0_3.size) = false := decide_eq_false (by omega)
           clear c39
           obtain rfl := Option.some.inj H
           obtain ⟨hcz41_0, hcz41_1, hcz41_2, hcz41_3, hcz41_4, hcz41_5, hcz41_6, hcz41_7, hcz41_8, hcz41_9, hcz41_10, hcz41_11, hfz41_0, hfz41_1, hfz41_2, hfz41_3, hfz41_4, hfz41_5, hfz41_6, hfz41_7, hfz41_8, hfz41_9, hfz41_10, hfz41_11⟩ := blkA12 BK101.out
           go_wp2
           go_ret
           exact ⟨by first | rfl | (simp [errW_none, errW_some] <;> rfl) | (simp [*, errW_none, errW_some] <;> rfl), by repeat (first | (with_reducible first | exact HB.out | apply bwA | apply pwbN | apply bw1 | refine below_set ?_ GE101.out) | exact HB.out)⟩
  ·rw [if_neg c5] at H
   have c5b0 : (t103 == 0) = false := beq_eq_false_iff_ne.mpr c5
   have c5b1 : (t103 != 0) = true := bne_iff_ne.mpr c5
   obtain rfl := Option.some.inj H
   go_enter Tryd.func73, Tryd.ntmps73
   go_wp2_with (first | ((with_reducible refine gate_dst (N := 1) rfl ?_); refine box_event ?hg (N := 1) ?hd (cs := #[.string a0_0, .int .i64 a0_1, .int .i64 a0_2, .string a0_3, .int .i64 a0_4, .int .i64 a0_5, .int .i64 a0_6, .string a0_7, .string a0_8, .int .i64 a0_9, .int .i64 a0_10, .slice A0_11 l0_11.length c0_11]) (t := 45) ?hr ?_; (case hd => rfl); (case hg => rfl); (case hr => first | (go_simp; done) | (go_simp; rfl)); intro gb101 hg w42 hbox hb; have n0_ := Aside0.mk (below_step (by repeat (first | (with_reducible first | exact HB.out | apply bwA | apply pwbN | apply bw1) | exact HB.out)) hb); have n1_ := Aside0.mk (hbox); have n2_ := Aside0.mk ((by rw [hg]; exact (below_size (by repeat (first | (with_reducible first | exact HB.out | apply bwA | apply pwbN | apply bw1) | exact HB.out))) : w.heap.size ≤ gb101)); have n3_ := Aside0.mk ((by rw [hg]; exact (below_size (by repeat (first | (with_reducible first | exact HB.out | apply bwA | apply pwbN | apply bw1) | exact HB.out))) : w.heap.size ≤ gb101)); clear HB; have HB := n0_; have BK101 := n1_; have GW101 := n2_; have GE101 := n3_; clear n0_ n1_ n2_ n3_; clear hb hbox hg; obtain ⟨hcz43_0, hcz43_1, hcz43_2, hcz43_3, hcz43_4, hcz43_5, hcz43_6, hcz43_7, hcz43_8, hcz43_9, hcz43_10, hcz43_11, hfz43_0, hfz43_1, hfz43_2, hfz43_3, hfz43_4, hfz43_5, hfz43_6, hfz43_7, hfz43_8, hfz43_9, hfz43_10, hfz43_11⟩ := blkA12 BK101.out) | ((with_reducible refine gate_callee (f := 32) rfl ?_); refine goesL_ (some 7) rfl rfl Tryd.func32 (by kernel_rfl) rfl #[.string a0_0] rfl (by (try simp only [List.map_toArray, List.map_cons, List.map_nil]); first | done | rfl | (simp only [List.length_drop, List.length_take]; rfl)) ?_; (with_reducible refine (creelref_PathFault.calls k a0_0 t102 _ A2.out).mono ?_); rintro e w44 ⟨rfl, hb⟩; refine ⟨_, rfl, ?_⟩; have n0_ := Aside0.mk (blk_below (g := gb101) (o := .cells #[.string a0_0, .int .i64 a0_1, .int .i64 a0_2, .string a0_3, .int .i64 a0_4, .int .i64 a0_5, .int .i64 a0_6, .string a0_7, .string a0_8, .int .i64 a0_9, .int .i64 a0_10, .slice A0_11 l0_11.length c0_11] 45 (0, 0)) (by (with_reducible repeat (first | refine blk_drewN ?_ _ | refine blk_drew ?_ | refine blk_alloc ?_ _)); exact BK101.out) hb); have n1_ := Aside0.mk (below_step (by repeat (first | (with_reducible first | exact HB.out | apply bwA | apply pwbN | apply bw1 | refine below_set ?_ GE101.out) | exact HB.out)) hb); clear BK101; clear HB; have BK101 := n0_; have HB := n1_; clear n0_ n1_; (try clear hb); (try clear hb2); (try clear hk); (try clear hi); obtain ⟨hcz45_0, hcz45_1, hcz45_2, hcz45_3, hcz45_4, hcz45_5, hcz45_6, hcz45_7, hcz45_8, hcz45_9, hcz45_10, hcz45_11, hfz45_0, hfz45_1, hfz45_2, hfz45_3, hfz45_4, hfz45_5, hfz45_6, hfz45_7, hfz45_8, hfz45_9, hfz45_10, hfz45_11⟩ := blkA12 BK101.out) | ((with_reducible refine gate_callee (f := 90) rfl ?_); refine goesL_ (some 13) rfl rfl Tryd.func90 (by kernel_rfl) rfl #[.agg #[.int .i64 a0_4, .int .i64 a0_5, .int .i64 a0_6, .string a0_7, .string a0_8, .int .i64 a0_9, .int .i64 a0_10]] rfl (by (try simp only [List.map_toArray, List.map_cons, List.map_nil]); first | done | rfl | (simp only [List.length_drop, List.length_take]; rfl)) ?_; (with_reducible refine (creelref_MetaFault.calls k a0_4 a0_5 a0_6 a0_7 a0_8 a0_9 a0_10 t103 _ A4.out).mono ?_); rintro e w46 ⟨rfl, hb⟩; refine ⟨_, rfl, ?_⟩; have n0_ := Aside0.mk (blk_below (g := gb101) (o := .cells #[.string a0_0, .int .i64 a0_1, .int .i64 a0_2, .string a0_3, .int .i64 a0_4, .int .i64 a0_5, .int .i64 a0_6, .string a0_7, .string a0_8, .int .i64 a0_9, .int .i64 a0_10, .slice A0_11 l0_11.length c0_11] 45 (0, 0)) (by (with_reducible repeat (first | refine blk_drewN ?_ _ | refine blk_drew ?_ | refine blk_alloc ?_ _)); exact BK101.out) hb); have n1_ := Aside0.mk (below_step (by repeat (first | (with_reducible first | exact HB.out | apply bwA | apply pwbN | apply bw1 | refine below_set ?_ GE101.out) | exact HB.out)) hb); clear BK101; clear HB; have BK101 := n0_; have HB := n1_; clear n0_ n1_; (try clear hb); (try clear hb2); (try clear hk); (try clear hi)))
   go_ret
   exact ⟨by first | rfl | (simp [errW_none, errW_some] <;> rfl) | (simp [*, errW_none, errW_some] <;> rfl), by repeat (first | (with_reducible first | exact HB.out | apply bwA | apply pwbN | apply bw1 | refine below_set ?_ GE101.out) | exact HB.out)⟩
 ·rw [if_neg c3] at H
  have c3b0 : (t102 == 0) = false := beq_eq_false_iff_ne.mpr c3
  have c3b1 : (t102 != 0) = true := bne_iff_ne.mpr c3
  obtain rfl := Option.some.inj H
  go_enter Tryd.func73, Tryd.ntmps73
  go_wp2_with (first | ((with_reducible refine gate_dst (N := 1) rfl ?_); refine box_event ?hg (N := 1) ?hd (cs := #[.string a0_0, .int .i64 a0_1, .int .i64 a0_2, .string a0_3, .int .i64 a0_4, .int .i64 a0_5, .int .i64 a0_6, .string a0_7, .string a0_8, .int .i64 a0_9, .int .i64 a0_10, .slice A0_11 l0_11.length c0_11]) (t := 45) ?hr ?_; (case hd => rfl); (case hg => rfl); (case hr => first | (go_simp; done) | (go_simp; rfl)); intro gb101 hg w47 hbox hb; have n0_ := Aside0.mk (below_step (by repeat (first | (with_reducible first | exact HB.out | apply bwA | apply pwbN | apply bw1) | exact HB.out)) hb); have n1_ := Aside0.mk (hbox); have n2_ := Aside0.mk ((by rw [hg]; exact (below_size (by repeat (first | (with_reducible first | exact HB.out | apply bwA | apply pwbN | apply bw1) | exact HB.out))) : w.heap.size ≤ gb101)); have n3_ := Aside0.mk ((by rw [hg]; exact (below_size (by repeat (first | (with_reducible first | exact HB.out | apply bwA | apply pwbN | apply bw1) | exact HB.out))) : w.heap.size ≤ gb101)); clear HB; have HB := n0_; have BK101 := n1_; have GW101 := n2_; have GE101 := n3_; clear n0_ n1_ n2_ n3_; clear hb hbox hg; obtain ⟨hcz48_0, hcz48_1, hcz48_2, hcz48_3, hcz48_4, hcz48_5, hcz48_6, hcz48_7, hcz48_8, hcz48_9, hcz48_10, hcz48_11, hfz48_0, hfz48_1, hfz48_2, hfz48_3, hfz48_4, hfz48_5, hfz48_6, hfz48_7, hfz48_8, hfz48_9, hfz48_10, hfz48_11⟩ := blkA12 BK101.out) | ((with_reducible refine gate_callee (f := 32) rfl ?_); refine goesL_ (some 7) rfl rfl Tryd.func32 (by kernel_rfl) rfl #[.string a0_0] rfl (by (try simp only [List.map_toArray, List.map_cons, List.map_nil]); first | done | rfl | (simp only [List.length_drop, List.length_take]; rfl)) ?_; (with_reducible refine (creelref_PathFault.calls k a0_0 t102 _ A2.out).mono ?_); rintro e w49 ⟨rfl, hb⟩; refine ⟨_, rfl, ?_⟩; have n0_ := Aside0.mk (blk_below (g := gb101) (o := .cells #[.string a0_0, .int .i64 a0_1, .int .i64 a0_2, .string a0_3, .int .i64 a0_4, .int .i64 a0_5, .int .i64 a0_6, .string a0_7, .string a0_8, .int .i64 a0_9, .int .i64 a0_10, .slice A0_11 l0_11.length c0_11] 45 (0, 0)) (by (with_reducible repeat (first | refine blk_drewN ?_ _ | refine blk_drew ?_ | refine blk_alloc ?_ _)); exact BK101.out) hb); have n1_ := Aside0.mk (below_step (by repeat (first | (with_reducible first | exact HB.out | apply bwA | apply pwbN | apply bw1 | refine below_set ?_ GE101.out) | exact HB.out)) hb); clear BK101; clear HB; have BK101 := n0_; have HB := n1_; clear n0_ n1_; (try clear hb); (try clear hb2); (try clear hk); (try clear hi)))
  go_ret
  exact ⟨by first | rfl | (simp [errW_none, errW_some] <;> rfl) | (simp [*, errW_none, errW_some] <;> rfl), by repeat (first | (with_reducible first | exact HB.out | apply bwA | apply pwbN | apply bw1 | refine below_set ?_ GE101.out) | exact HB.out)⟩
end Go.Proofs.YtcbbcnmifohibaaDoor.All
end
section
namespace Go.Proofs.YtcbbcnmifohibaaDoor.All
open Go.RowKit Go.Proofs.YtcbbcnmifohibaaDoorW.PrintWords Go.Proofs.YtcbbcnmifohibaaDoorW.PrintLast Go.Proofs.YtcbbcnmifohibaaDoorW.PrintMore
open Go.Proofs.YtcbbcnmifohibaaDoorW.Mine
attribute [local go_sem] gtr_string leq_string geq_string
attribute [local go_sem] max2_int min2_int max_two min_two max_three min_three max_four min_four
set_option linter.unusedVariables false
set_option linter.unusedSimpArgs false
def creelref_TreeFind.l0 : Nat → List (S45) → ByteArray → Int → Option (Int)
 | 0, _, _, _ => none
 | k + 1, x0, x1, x5 => if x5 < (x0.length : Int) then (if 0 ≤ x5 then (if ((rd_T45 x0 x5).f0).toList = x1.toList then (some x5) else (creelref_TreeFind.l0 k x0 x1 (wrap64 (x5 + 1)))) else (none)) else (some (x0.length : Int))
def creelref_TreeFind.f (k : Nat) (l0 : List (S45)) (a1 : ByteArray) : Option (Int) := creelref_TreeFind.l0 k l0 a1 0
set_option maxHeartbeats 8000000 in
set_option maxRecDepth 100000 in
theorem creelref_TreeFind.calls (k : Nat) (A0 : Option Addr) (c0 : Nat) (l0 : List (S45)) (a1 : ByteArray) (r : Int) (w : World) (hr0 : Kd.C k45 w A0 l0.length l0) (hc0 : l0.length ≤ c0) (h : creelref_TreeFind.f k l0 a1 = some r) :
  Calls Tryd.prog 74 #[.slice A0 l0.length c0, .string a1] w fun e w' => e = .returned (.int .i64 r) ∧ Drawn0 w w' := by
 have HR0 := Aside0.mk hr0
 have HC0 := Aside0.mk hc0
 clear hr0 hc0
 have H : (creelref_TreeFind.l0 k l0 a1 0) = some r := h
 clear h
 have H' := Aside0.mk H
 clear H
 go_enter Tryd.func74, Tryd.ntmps74
 go_wp2
 go_loopg [5] k (fun kq v5 w' => ∃ (x5_1 : Int), v5 = .int .i64 x5_1 ∧ Aside0 (creelref_TreeFind.l0 kq l0 a1 x5_1 = some r) ∧ Aside0 (kq ≤ k) ∧ Drawn0 w w')
 case atStart => exact ⟨(0), (by first | rfl | (simp; done) | (simp [*]; done)), H', ⟨Nat.le_refl _⟩, by repeat (first | exact Drawn0.refl _ | apply Drawn0.step)⟩
 case round =>
  clear H'
  try clear p2
  obtain ⟨x5_1, rfl, HA, HK1, ⟨m1, rfl⟩⟩ := hrel
  cases gk with
  | zero => exact absurd HA.out (by simp [creelref_TreeFind.l0])
  | succ k1 =>
   have H := HA.out
   clear HA
   simp only [creelref_TreeFind.l0] at H
   by_cases c3 : x5_1 < (l0.length : Int)
   ·rw [if_pos c3] at H
    have c3b0 : decide (x5_1 < (l0.length : Int)) = true := decide_eq_true c3
    clear c3
    by_cases c4 : 0 ≤ x5_1
    ·rw [if_pos c4] at H
     have c4b0 : decide (0 ≤ x5_1) = true := decide_eq_true c4
     clear c4
     by_cases c5 : ((rd_T45 l0 x5_1).f0).toList = a1.toList
     ·rw [if_pos c5] at H
      have c5b0 : (((rd_T45 l0 x5_1).f0).toList == a1.toList) = true := beq_iff_eq.mpr c5
      have c5b1 : (((rd_T45 l0 x5_1).f0).toList != a1.toList) = false := bne_eq_false_iff_eq.mpr c5
      clear c5
      obtain rfl := Option.some.inj H
      have p101 : 0 ≤ (x5_1 : Int) := of_decide_eq_true (by first | (with_reducible assumption) | assumption)
      have q101 : x5_1 < (l0.length : Int) := of_decide_eq_true (by first | (with_reducible assumption) | assumption)
      obtain ⟨ad101, A101_11, c101_11, e101, hx101_0, hx101_1, hx101_2, hx101_3, hx101_4, hx101_5, hx101_6, hx101_7, hx101_8, hx101_9, hx101_10, hx101_11, hl101_11, hi101_11⟩ := at_T45 HR0.out x5_1 p101 q101
      cases e101
      have HR101_11 := Aside0.mk hi101_11
      have HC101_11 := Aside0.mk hl101_11
      clear hi101_11 hl101_11
      replace p101 := eq_true p101
      replace q101 := eq_true q101
      go_wp2
      go_ret
      exact ⟨by first | rfl | (simp; done) | (simp [*]; done), by repeat (first | exact Drawn0.refl _ | apply Drawn0.step)⟩
     ·rw [if_neg c5] at H
      have c5b0 : (((rd_T45 l0 x5_1).f0).toList == a1.toList) = false := beq_eq_false_iff_ne.mpr c5
      have c5b1 : (((rd_T45 l0 x5_1).f0).toList != a1.toList) = true := bne_iff_ne.mpr c5
      have H' := Aside0.mk H
      clear H
      have p101 : 0 ≤ (x5_1 : Int) := of_decide_eq_true (by first | (with_reducible assumption) | assumption)
      have q101 : x5_1 < (l0.length : Int) := of_decide_eq_true (by first | (with_reducible assumption) | assumption)
      obtain ⟨ad101, A101_11, c101_11, e101, hx101_0, hx101_1, hx101_2, hx101_3, hx101_4, hx101_5, hx101_6, hx101_7, hx101_8, hx101_9, hx101_10, hx101_11, hl101_11, hi101_11⟩ := at_T45 HR0.out x5_1 p101 q101
      cases e101
      have HR101_11 := Aside0.mk hi101_11
      have HC101_11 := Aside0.mk hl101_11
      clear hi101_11 hl101_11
      replace p101 := eq_true p101
      replace q101 := eq_true q101
      go_wp2
      go_roundg k1
      case measure => have := HK1.out; omega
      case rel => exact ⟨(wrap64 (x5_1 + 1)), (by first | rfl | (simp; done) | (simp [*]; done)), H', ⟨by have := HK1.out; omega⟩, by repeat (first | exact Drawn0.refl _ | apply Drawn0.step)⟩
    ·rw [if_neg c4] at H
     exact absurd H (by simp)
   ·rw [if_neg c3] at H
    have c3b0 : decide (x5_1 < (l0.length : Int)) = false := decide_eq_false c3
    clear c3
    obtain rfl := Option.some.inj H
    go_wp2
    go_ret
    exact ⟨by first | rfl | (simp; done) | (simp [*]; done), by repeat (first | exact Drawn0.refl _ | apply Drawn0.step)⟩
end Go.Proofs.YtcbbcnmifohibaaDoor.All
end
section
namespace Go.Proofs.YtcbbcnmifohibaaDoor.All
open Go.RowKit Go.Proofs.YtcbbcnmifohibaaDoorW.PrintWords Go.Proofs.YtcbbcnmifohibaaDoorW.PrintLast Go.Proofs.YtcbbcnmifohibaaDoorW.PrintMore
open Go.Proofs.YtcbbcnmifohibaaDoorW.Mine
attribute [local go_sem] gtr_string leq_string geq_string
attribute [local go_sem] max2_int min2_int max_two min_two max_three min_three max_four min_four
set_option linter.unusedVariables false
set_option linter.unusedSimpArgs false
open Go.Proofs.YtcbbcnmifohibaaDoorW.MapOwn
attribute [local go_sem high] eqK42
def rTF.right (k : Nat) (x : S45) : Option Int := rNF.f k (x).f0 (x).f1 (x).f2 (x).f3 (x).f4.f0 (x).f4.f1 (x).f4.f2 (x).f4.f3 (x).f4.f4 (x).f4.f5 (x).f4.f6 (x).f5
def rTF.two (k : Nat) (l : List S45) (x : S45) (n : Nat) : Option Bool := if 0 < n then (creelref_PathOrder.f k (rd_T45 l ((n - 1 : Nat) : Int)).f0 x.f0).bind fun c => some (c != -1) else some false
def rTF.up (k : Nat) (l : List S45) (x : S45) (n : Nat) : Option Bool := (creelref_PathSplit.f k x.f0).bind fun p => (creelref_TreeFind.f k (l.take n) p.1).bind fun j => if p.1.toList = ([] : List UInt8) then some false else if j = (n : Int) then some true else if 0 ≤ j ∧ j < (l.length : Int) then some ((rd_T45 l j).f1 != 2) else none
def rTF.meta (y x : S45) : Bool := ((y.f4).f0 == (x.f4).f0 && ((y.f4).f1 == (x.f4).f1 && ((y.f4).f2 == (x.f4).f2 && ((y.f4).f3.toList == (x.f4).f3.toList && ((y.f4).f4.toList == (x.f4).f4.toList && ((y.f4).f5 == (x.f4).f5 && ((y.f4).f6 == (x.f4).f6)))))))
def rTF.data (y x : S45) : Bool := (strOfNums y.f5).toList == (strOfNums x.f5).toList
def rTF.l1 : Nat → List S45 → S45 → Nat → Nat → Option Int
 | 0, _, _, _, _ => none
 | k + 1, l, x, n, j => if j < n then (if (rd_T45 l (j : Int)).f2 = x.f2 then (if rTF.meta (rd_T45 l (j : Int)) x = true then (if rTF.data (rd_T45 l (j : Int)) x = true then rTF.l1 k l x n (j + 1) else some 11) else some 11) else rTF.l1 k l x n (j + 1)) else some 0
def rTF.step (k : Nat) (l : List S45) (x : S45) (n : Nat) : Option Int := (rTF.right k x).bind fun e => if e = 0 then ((rTF.two k l x n).bind fun t => if t = true then some 6 else (rTF.up k l x n).bind fun u => if u = true then some 10 else if x.f2 = 0 then some 0 else rTF.l1 k l x n 0) else some e
def rTF.l0 : Nat → List S45 → Nat → Option Int
 | 0, _, _ => none
 | k + 1, l, n => if n < l.length then (rTF.step k l (rd_T45 l (n : Int)) n).bind fun e => if e = 0 then rTF.l0 k l (n + 1) else some e else some 0
def rTF.f (k : Nat) (l0 : List S45) : Option Int := if 40 < l0.length then some 1 else rTF.l0 k l0 0
theorem rTF.conv {W : World} {A : Option Addr} {n : Nat} {xs : List Int} (h : (Kd.int .u8).C W A n xs) (c : Nat) : ∀ q, (convert 43 9 (.slice A n c)).run Tryd.prog (W.drewN q) = .ok (.string (strOfNums xs)) (W.drewN q) := fun q => Kd.C_string Tryd.underlying43 Tryd.underlying5 Tryd.underlying9 (Kd.C_drewN h q)
set_option maxHeartbeats 8000000 in
set_option maxRecDepth 100000 in
theorem rTF.calls (k : Nat) (A0 : Option Addr) (c0 : Nat) (l0 : List (S45)) (r : Int) (w : World) (hr0 : Kd.C k45 w A0 l0.length l0) (hc0 : l0.length ≤ c0) (h : rTF.f k l0 = some r) :
  Calls Tryd.prog 43 #[.slice A0 l0.length c0] w fun e w' => e = .returned (.int .i64 r) ∧ Below w.heap.size w w' := by
 have hu45 := Tryd.underlying45
 have hu42 := Tryd.underlying42
 have HR0 := Aside0.mk hr0
 have HC0 := Aside0.mk hc0
 clear hr0 hc0
 by_cases c1 : 40 < l0.length
 ·have H : (if 40 < l0.length then some 1 else rTF.l0 k l0 0) = some r := h
  rw [if_pos c1] at H
  obtain rfl := Option.some.inj H
  clear h H
  have c1b : decide ((40 : Int) < (l0.length : Int)) = true := decide_eq_true (by omega)
  clear c1
  go_enter Tryd.func43, Tryd.ntmps43
  go_wp2
  go_ret
  exact ⟨rfl, by first | exact Below.refl _ _ | exact bw1 (Below.refl _ _)⟩
 ·have H : (if 40 < l0.length then some 1 else rTF.l0 k l0 0) = some r := h
  rw [if_neg c1] at H
  have H' := Aside0.mk H
  have HN := Aside0.mk (Nat.not_lt.1 c1)
  have HB0 := Aside0.mk (Below.refl w.heap.size w)
  have c1b : decide ((40 : Int) < (l0.length : Int)) = false := decide_eq_false (by omega)
  clear h H c1
  go_enter Tryd.func43, Tryd.ntmps43
  go_wp2
  go_loopg [3] k (fun kq v3 wx => ∃ (n : Nat), v3 = .int .i64 (n : Int) ∧ Aside0 (n ≤ l0.length) ∧ Aside0 (rTF.l0 kq l0 n = some r) ∧ Aside0 (kq ≤ k) ∧ Aside0 (Below w.heap.size w wx))
  case atStart => exact ⟨0, rfl, ⟨Nat.zero_le _⟩, H', ⟨Nat.le_refl _⟩, HB0⟩
  case round =>
   clear H' HB0
   obtain ⟨n, rfl, HN1, HA, HK1, HB⟩ := hrel
   cases gk with
   | zero => exact absurd HA.out (by simp [rTF.l0])
   | succ k1 =>
    have H := HA.out
    clear HA
    simp only [rTF.l0] at H
    by_cases c3 : n < l0.length
    ·rw [if_pos c3] at H
     have c3b : decide ((n : Int) < (l0.length : Int)) = true := decide_eq_true (by omega)
     replace H := Option.bind_eq_some_iff.mp H
     obtain ⟨e0, AS, H⟩ := H
     obtain ⟨ad, A11, c11, e, hx, hl11, hi11⟩ := elem45 HR0.out n c3
     cases e
     have HXC := Aside0.mk hx
     clear hx
     have p3 : ((n : Int) < (l0.length : Int)) = True := eq_true (by omega)
     have p4 : (0 ≤ (n : Int)) = True := eq_true (by omega)
     have HX := Aside0.mk hi11
     have HL := Aside0.mk hl11
     have HLT := Aside0.mk c3
     clear hi11 hl11 c3
     generalize hx : rd_T45 l0 (n : Int) = x at *
     clear hx
     obtain ⟨e1, AR, AS⟩ := Option.bind_eq_some_iff.mp (show ((rTF.right k1 x).bind fun e => if e = 0 then ((rTF.two k1 l0 x n).bind fun t => if t = true then some 6 else (rTF.up k1 l0 x n).bind fun u => if u = true then some 10 else if x.f2 = 0 then some 0 else rTF.l1 k1 l0 x n 0) else some e) = some e0 from AS)
     have HAR := Aside0.mk (show rNF.f k1 (x).f0 (x).f1 (x).f2 (x).f3 (x).f4.f0 (x).f4.f1 (x).f4.f2 (x).f4.f3 (x).f4.f4 (x).f4.f5 (x).f4.f6 (x).f5 = some e1 from AR)
     clear AR
     by_cases c6 : e1 = 0
     ·rw [if_pos c6] at AS
      obtain ⟨t, AT, AS⟩ := Option.bind_eq_some_iff.mp AS
      have HAT := Aside0.mk AT
      have HQ := Aside0.mk AS
      have HH := Aside0.mk H
      have c6a : (e1 == 0) = true := beq_iff_eq.mpr c6
      have c6b : (e1 != 0) = false := bne_eq_false_iff_eq.mpr c6
      clear AS H AT c6
      go_upto_region 10 with (first | ((with_reducible refine gate_dst (N := 22) rfl ?_); refine load_event (ad := ad.add (n * 12)) rfl rfl hu45 rfl rfl (cs := [.string (x).f0, .int .i64 (x).f1, .int .i64 (x).f2, .string (x).f3, .int .i64 (x).f4.f0, .int .i64 (x).f4.f1, .int .i64 (x).f4.f2, .string (x).f4.f3, .string (x).f4.f4, .int .i64 (x).f4.f5, .int .i64 (x).f4.f6, .slice A11 (x).f5.length c11]) sz45 (fun j v hv => (HB.out.cell (World.block_lt_of_cell? w _ (HXC.out j v hv))).trans (HXC.out j v hv)) ?_) | ((with_reducible refine gate_dst (N := 4) rfl ?_); refine box_event ?hg (N := 4) ?hd (cs := #[.string (⟨#[]⟩ : ByteArray), .int .i64 0, .int .i64 0, .string (⟨#[]⟩ : ByteArray), .int .i64 0, .int .i64 0, .int .i64 0, .string (⟨#[]⟩ : ByteArray), .string (⟨#[]⟩ : ByteArray), .int .i64 0, .int .i64 0, .slice none 0 0]) (t := 45) ?hr ?_; (case hd => rfl); (case hg => rfl); (case hr => first | (go_simp; done) | (go_simp; rfl)); intro gb hg w2 hbox hb2; have HS := Aside0.mk (Held.box HB.out hg hbox hb2); clear hg hbox hb2 HB) | ((with_reducible refine gate_store (t := 45) (p := 4) rfl ?_); refine put_event rfl rfl rfl rfl rfl HS.out.blk sz45 rfl rfl ?_; intro w3 hk3 hg3; have HS3 := Aside0.mk (HS.out.put hk3 hg3); clear HS hk3 hg3; have HS := HS3; clear HS3) | ((with_reducible refine gate_dst (N := 23) rfl ?_); refine load_event rfl rfl hu45 rfl rfl (cs := [.string (x).f0, .int .i64 (x).f1, .int .i64 (x).f2, .string (x).f3, .int .i64 (x).f4.f0, .int .i64 (x).f4.f1, .int .i64 (x).f4.f2, .string (x).f4.f3, .string (x).f4.f4, .int .i64 (x).f4.f5, .int .i64 (x).f4.f6, .slice A11 (x).f5.length c11]) sz45 (cells_of_blk HS.out.blk) ?_) | (go_at_call 73; refine (rNF.calls k1 (x).f0 (x).f1 (x).f2 (x).f3 (x).f4.f0 (x).f4.f1 (x).f4.f2 (x).f4.f3 (x).f4.f4 (x).f4.f5 (x).f4.f6 A11 c11 (x).f5 e1 _ (Kd.C_below HX.out HS.out.below) HL.out HAR.out).mono ?_; rintro e w3 ⟨rfl, hb3⟩; have HS3 := Aside0.mk (HS.out.step hb3); clear HS hb3; have HS := HS3; clear HS3))
      (try simp only [Act.put, List.setIfInBounds_toArray, List.set_cons_zero, List.set_cons_succ])
      go_cut [41] (fun v41 wc => v41 = .bool t ∧ Aside0 (Held w wc gb 45 #[.string (x).f0, .int .i64 (x).f1, .int .i64 (x).f2, .string (x).f3, .int .i64 (x).f4.f0, .int .i64 (x).f4.f1, .int .i64 (x).f4.f2, .string (x).f4.f3, .string (x).f4.f4, .int .i64 (x).f4.f5, .int .i64 (x).f4.f6, .slice A11 (x).f5.length c11]))
      case first =>
       by_cases c7 : 0 < n
       ·have AT := HAT.out
        clear HAT
        unfold rTF.two at AT
        rw [if_pos c7] at AT
        obtain ⟨c, AC, AT⟩ := Option.bind_eq_some_iff.mp AT
        obtain rfl := Option.some.inj AT
        have HAC := Aside0.mk AC
        clear AC AT
        obtain ⟨ad', A11', c11', e', hx', _, _⟩ := elem45 HR0.out (n - 1) (by have := HN1.out; omega)
        cases e'
        have h0 : w.cell? (ad.add ((n - 1) * 12)) = some (.string (rd_T45 l0 ((n - 1 : Nat) : Int)).f0) := hx' 0 _ rfl
        have hc0 := (HS.out.below.cell (World.block_lt_of_cell? w _ h0)).trans h0
        clear hx' h0
        have hw : IntKind.i64.wrap ((n : Int) - 1) = ((n - 1 : Nat) : Int) := by have := HN.out; have := HN1.out; rw [IntWalk.i64_in _ (by omega)]; omega
        have hn' : ((n - 1 : Nat) : Int) < (l0.length : Int) := by have := HN1.out; omega
        have hc1 := blk_cell HS.out.blk 0
        have hg0 : decide ((0 : Int) < (n : Int)) = true := decide_eq_true (by omega)
        have hg1 : (0 < n) = True := eq_true c7
        go_region_held3 (fun w' => w'.cell? (ad.add ((n - 1) * 12)) = some (.string (rd_T45 l0 ((n - 1 : Nat) : Int)).f0) ∧ w'.cell? ⟨gb, 0, none⟩ = some (.string x.f0)) (first | go_keep | (go_split_ands; exact ⟨(hb3.cell (World.block_lt_of_cell? _ _ (by assumption))).trans (by assumption), (hb3.cell (World.block_lt_of_cell? _ _ (by assumption))).trans (by assumption)⟩)) ((go_at_call 56; refine (creelref_PathOrder.calls k1 _ _ c _ HAC.out).mono ?_; rintro e w3 ⟨rfl, hb3⟩))
        go_wp2
        go_meet
        case rel => exact ⟨rfl, ⟨by first | exact HS.out.step hb3 | exact (HS.out.drewN _).step hb3 | exact HS.out.drew.step hb3⟩⟩
       ·have AT := HAT.out
        clear HAT
        unfold rTF.two at AT
        rw [if_neg c7] at AT
        obtain rfl := Option.some.inj AT
        clear AT
        have hg0 : decide ((0 : Int) < (n : Int)) = false := decide_eq_false (by omega)
        have hg1 : (0 < n) = False := eq_false c7
        go_quiet (fail)
        go_wp2
        go_meet
        case rel => exact ⟨rfl, ⟨by first | exact HS.out | exact HS.out.drewN _ | exact HS.out.drew⟩⟩
      case rest =>
       obtain ⟨rfl, HS⟩ := hcut
       cases t with
       | true =>
        have AS := HQ.out
        have H := HH.out
        rw [if_pos rfl] at AS
        obtain rfl := Option.some.inj AS
        rw [if_neg (by decide)] at H
        obtain rfl := Option.some.inj H
        clear HQ HH H HAT
        go_wp2
        go_ret
        exact ⟨rfl, HS.out.below⟩
       | false =>
        have AS := HQ.out
        rw [if_neg (by decide)] at AS
        obtain ⟨u, AU, AS⟩ := Option.bind_eq_some_iff.mp AS
        have HQ2 := Aside0.mk AS
        obtain ⟨⟨up, last⟩, AP, AU⟩ := Option.bind_eq_some_iff.mp (show ((creelref_PathSplit.f k1 x.f0).bind fun p => (creelref_TreeFind.f k1 (l0.take n) p.1).bind fun j => if p.1.toList = ([] : List UInt8) then some false else if j = (n : Int) then some true else if 0 ≤ j ∧ j < (l0.length : Int) then some ((rd_T45 l0 j).f1 != 2) else none) = some u from AU)
        obtain ⟨j1, AF, AU⟩ := Option.bind_eq_some_iff.mp AU
        have HAP := Aside0.mk AP
        have HAU := Aside0.mk AU
        have HF : Aside0 (∀ W, Below w.heap.size w W → Calls Tryd.prog 74 #[.slice (some ad) n c0, .string up] W fun e w' => e = .returned (.int .i64 j1) ∧ Below W.heap.size W w') := ⟨fun W hb => by
         have hlen : (l0.take n).length = n := by have := HN1.out; simp; omega
         have := creelref_TreeFind.calls k1 (some ad) c0 (l0.take n) up j1 W (Kd.C_below (Kd.C_take HR0.out HN1.out) hb) (by have := HC0.out; have := HN1.out; omega) AF
         rw [hlen] at this
         exact this.mono (by rintro e w' ⟨rfl, nd, rfl⟩; exact ⟨rfl, pwbN (Below.refl _ _) nd⟩)⟩
        have hnc : (n : Int) ≤ (c0 : Int) := by have := HC0.out; have := HN1.out; omega
        have hnc' : n ≤ c0 := by omega
        clear AS AU AP AF HQ HAT
        have hc0 := blk_cell HS.out.blk 0
        go_upto_region 14 with (first | (go_at_call 44; refine (creelref_PathSplit.calls k1 x.f0 up last _ HAP.out).mono ?_; rintro e w4 ⟨rfl, hb4⟩; have HS4 := Aside0.mk (HS.out.step hb4); clear HS hb4; have HS := HS4; clear HS4) | (go_at_call 74; refine (HF.out _ HS.out.below).mono ?_; rintro e w5 ⟨rfl, hb5⟩; have HS5 := Aside0.mk (HS.out.step hb5); clear HS hb5; have HS := HS5; clear HS5))
        (try simp only [Act.put, List.setIfInBounds_toArray, List.set_cons_zero, List.set_cons_succ])
        go_cut [67] (fun v67 wc => v67 = .bool u ∧ Aside0 (Held w wc gb 45 #[.string (x).f0, .int .i64 (x).f1, .int .i64 (x).f2, .string (x).f3, .int .i64 (x).f4.f0, .int .i64 (x).f4.f1, .int .i64 (x).f4.f2, .string (x).f4.f3, .string (x).f4.f4, .int .i64 (x).f4.f5, .int .i64 (x).f4.f6, .slice A11 (x).f5.length c11]))
        case first =>
         have AU := HAU.out
         by_cases c8 : up.toList = ([] : List UInt8)
         ·rw [if_pos c8] at AU
          obtain rfl := Option.some.inj AU
          have c8a : up.toList.isEmpty = true := by rw [c8]; rfl
          have c8b : (!up.toList.isEmpty) = false := by rw [c8]; rfl
          clear AU c8
          go_wp2
          go_meet
          case rel => exact ⟨rfl, ⟨by first | exact HS.out | exact HS.out.drewN _ | exact HS.out.drew⟩⟩
         ·rw [if_neg c8] at AU
          have c8a : up.toList.isEmpty = false := by cases h : up.toList with | nil => exact absurd h c8 | cons a b => rfl
          have c8b : (!up.toList.isEmpty) = true := by rw [c8a]; rfl
          clear c8
          by_cases c9 : j1 = (n : Int)
          ·rw [if_pos c9] at AU
           obtain rfl := Option.some.inj AU
           have c9a : (j1 == (n : Int)) = true := beq_iff_eq.mpr c9
           clear AU c9
           go_wp2
           go_meet
           case rel => exact ⟨rfl, ⟨by first | exact HS.out | exact HS.out.drewN _ | exact HS.out.drew⟩⟩
          ·rw [if_neg c9] at AU
           by_cases c10 : 0 ≤ j1 ∧ j1 < (l0.length : Int)
           ·rw [if_pos c10] at AU
            obtain rfl := Option.some.inj AU
            have c9a : (j1 == (n : Int)) = false := beq_eq_false_iff_ne.mpr c9
            clear AU c9
            obtain ⟨ad', A11', c11', e', hq0, hq1, hq2, hq3, hq4, hq5, hq6, hq7, hq8, hq9, hq10, hq11, _, _⟩ := at_T45 HR0.out j1 c10.1 c10.2
            cases e'
            have hf1 := (HS.out.below.cell (World.block_lt_of_cell? w _ hq1)).trans hq1
            clear hq0 hq1 hq2 hq3 hq4 hq5 hq6 hq7 hq8 hq9 hq10 hq11
            have c10a := eq_true c10.1
            have c10b := eq_true c10.2
            clear c10
            go_wp2
            go_meet
            case rel => exact ⟨rfl, ⟨by first | exact HS.out | exact HS.out.drewN _ | exact HS.out.drew⟩⟩
           ·rw [if_neg c10] at AU
            cases AU
        case rest =>
         obtain ⟨rfl, HS⟩ := hcut
         have AS := HQ2.out
         have H := HH.out
         clear HQ2 HH HAU
         cases u with
         | true =>
          rw [if_pos rfl] at AS
          obtain rfl := Option.some.inj AS
          rw [if_neg (by decide)] at H
          obtain rfl := Option.some.inj H
          clear H
          go_wp2
          go_ret
          exact ⟨rfl, HS.out.below⟩
         | false =>
          rw [if_neg (by decide)] at AS
          have hc2 := blk_cell HS.out.blk 2
          have h40 : (n : Int) < 40 := by have := HLT.out; have := HN.out; omega
          by_cases c12 : x.f2 = 0
          ·rw [if_pos c12] at AS
           obtain rfl := Option.some.inj AS
           rw [if_pos rfl] at H
           have H' := Aside0.mk H
           have c12b : (x.f2 == 0) = true := beq_iff_eq.mpr c12
           clear H c12
           go_wp2
           go_roundg k1
           case measure => have := HK1.out; omega
           case rel => exact ⟨n + 1, by go_num, ⟨HLT.out⟩, H', ⟨by have := HK1.out; omega⟩, ⟨(by first | exact HS.out.below | exact HS.out.drew.below)⟩⟩
          ·rw [if_neg c12] at AS
           have HAS := Aside0.mk AS
           have HH := Aside0.mk H
           have c12b : (x.f2 == 0) = false := beq_eq_false_iff_ne.mpr c12
           clear H AS c12
           go_wp2
           go_loopg [9] k1 (fun kq v9 wx => ∃ (j : Nat), v9 = .int .i64 (j : Int) ∧ Aside0 (j ≤ n) ∧ Aside0 (rTF.l1 kq l0 x n j = some e0) ∧ Aside0 (kq ≤ k1) ∧ Aside0 (Held w wx gb 45 #[.string (x).f0, .int .i64 (x).f1, .int .i64 (x).f2, .string (x).f3, .int .i64 (x).f4.f0, .int .i64 (x).f4.f1, .int .i64 (x).f4.f2, .string (x).f4.f3, .string (x).f4.f4, .int .i64 (x).f4.f5, .int .i64 (x).f4.f6, .slice A11 (x).f5.length c11]))
           case atStart => exact ⟨0, rfl, ⟨Nat.zero_le _⟩, HAS, ⟨Nat.le_refl _⟩, HS⟩
           case round =>
            clear HAS HS hc2
            obtain ⟨j, rfl, HJ1, HA, HK2, HS⟩ := hrel
            cases gk with
            | zero => exact absurd HA.out (by simp [rTF.l1])
            | succ k2 =>
             have AS := HA.out
             clear HA
             simp only [rTF.l1] at AS
             by_cases c13 : j < n
             ·rw [if_pos c13] at AS
              have c13b : decide ((j : Int) < (n : Int)) = true := decide_eq_true (by omega)
              have c13c := eq_true c13
              obtain ⟨ad', Aj, cj, e', hq0, hq1, hq2, hq3, hq4, hq5, hq6, hq7, hq8, hq9, hq10, hq11, hl, hi⟩ := at_T45 HR0.out (j : Int) (Int.natCast_nonneg _) (by have := HLT.out; omega)
              cases e'
              simp only [Int.toNat_natCast] at hq0 hq1 hq2 hq3 hq4 hq5 hq6 hq7 hq8 hq9 hq10 hq11
              have hf2 := (HS.out.below.cell (World.block_lt_of_cell? w _ hq2)).trans hq2
              have hg2 := blk_cell HS.out.blk 2
              have hf4 := (HS.out.below.cell (World.block_lt_of_cell? w _ hq4)).trans hq4
              have hg4 := blk_cell HS.out.blk 4
              have hf5 := (HS.out.below.cell (World.block_lt_of_cell? w _ hq5)).trans hq5
              have hg5 := blk_cell HS.out.blk 5
              have hf6 := (HS.out.below.cell (World.block_lt_of_cell? w _ hq6)).trans hq6
              have hg6 := blk_cell HS.out.blk 6
              have hf7 := (HS.out.below.cell (World.block_lt_of_cell? w _ hq7)).trans hq7
              have hg7 := blk_cell HS.out.blk 7
              have hf8 := (HS.out.below.cell (World.block_lt_of_cell? w _ hq8)).trans hq8
              have hg8 := blk_cell HS.out.blk 8
              have hf9 := (HS.out.below.cell (World.block_lt_of_cell? w _ hq9)).trans hq9
              have hg9 := blk_cell HS.out.blk 9
              have hf10 := (HS.out.below.cell (World.block_lt_of_cell? w _ hq10)).trans hq10
              have hg10 := blk_cell HS.out.blk 10
              have hf11 := (HS.out.below.cell (World.block_lt_of_cell? w _ hq11)).trans hq11
              have hg11 := blk_cell HS.out.blk 11
              clear hq0 hq1 hq2 hq3 hq4 hq5 hq6 hq7 hq8 hq9 hq10 hq11
              have p5 : (0 ≤ (j : Int)) = True := eq_true (by omega)
              have p6 : ((j : Int) < (l0.length : Int)) = True := eq_true (by have := HLT.out; omega)
              have HJL := Aside0.mk c13
              have HI := Aside0.mk hi
              have j40 : (j : Int) < 40 := by omega
              clear hi hl c13
              generalize hy : rd_T45 l0 (j : Int) = y at *
              clear hy
              by_cases c14 : y.f2 = x.f2
              ·rw [if_pos c14] at AS
               have c14b : (y.f2 == x.f2) = true := beq_iff_eq.mpr c14
               clear c14
               by_cases c15 : rTF.meta y x = true
               ·rw [if_pos c15] at AS
                have c15b : ((y.f4).f0 == (x.f4).f0 && ((y.f4).f1 == (x.f4).f1 && ((y.f4).f2 == (x.f4).f2 && ((y.f4).f3.toList == (x.f4).f3.toList && ((y.f4).f4.toList == (x.f4).f4.toList && ((y.f4).f5 == (x.f4).f5 && ((y.f4).f6 == (x.f4).f6))))))) = true := c15
                have hcv1 := rTF.conv (Kd.C_below HI.out HS.out.below) cj
                have hcv2 := rTF.conv (Kd.C_below HX.out HS.out.below) c11
                clear c15
                by_cases c16 : rTF.data y x = true
                ·rw [if_pos c16] at AS
                 have HA' := Aside0.mk AS
                 have c16b : ((strOfNums y.f5).toList == (strOfNums x.f5).toList) = true := c16
                 have c16c : ((strOfNums y.f5).toList != (strOfNums x.f5).toList) = false := by rw [bne, c16b]; rfl
                 clear AS c16
                 go_wp2
                 go_quiet (fail)
                 go_wp2
                 go_roundg k2
                 case measure => have := HK2.out; omega
                 case rel => exact ⟨j + 1, by go_num, ⟨HJL.out⟩, HA', ⟨by have := HK2.out; omega⟩, ⟨HS.out.drewN _⟩⟩
                ·rw [if_neg c16] at AS
                 have c16b : ((strOfNums y.f5).toList == (strOfNums x.f5).toList) = false := by cases h : ((strOfNums y.f5).toList == (strOfNums x.f5).toList) with | true => exact absurd h c16 | false => rfl
                 have c16c : ((strOfNums y.f5).toList != (strOfNums x.f5).toList) = true := by rw [bne, c16b]; rfl
                 clear c16
                 have H := HH.out
                 obtain rfl := Option.some.inj AS
                 rw [if_neg (by decide)] at H
                 obtain rfl := Option.some.inj H
                 clear H AS
                 go_wp2
                 go_quiet (fail)
                 go_wp2
                 go_ret
                 exact ⟨rfl, (HS.out.drewN _).below⟩
               ·rw [if_neg c15] at AS
                have c15b : ((y.f4).f0 == (x.f4).f0 && ((y.f4).f1 == (x.f4).f1 && ((y.f4).f2 == (x.f4).f2 && ((y.f4).f3.toList == (x.f4).f3.toList && ((y.f4).f4.toList == (x.f4).f4.toList && ((y.f4).f5 == (x.f4).f5 && ((y.f4).f6 == (x.f4).f6))))))) = false := by cases h : ((y.f4).f0 == (x.f4).f0 && ((y.f4).f1 == (x.f4).f1 && ((y.f4).f2 == (x.f4).f2 && ((y.f4).f3.toList == (x.f4).f3.toList && ((y.f4).f4.toList == (x.f4).f4.toList && ((y.f4).f5 == (x.f4).f5 && ((y.f4).f6 == (x.f4).f6))))))) with | true => exact absurd h c15 | false => rfl
                clear c15
                have H := HH.out
                obtain rfl := Option.some.inj AS
                rw [if_neg (by decide)] at H
                obtain rfl := Option.some.inj H
                clear H AS
                go_wp2
                go_quiet (fail)
                go_wp2
                go_ret
                exact ⟨rfl, (HS.out.drewN _).below⟩
              ·rw [if_neg c14] at AS
               have c14b : (y.f2 == x.f2) = false := beq_eq_false_iff_ne.mpr c14
               have HA' := Aside0.mk AS
               clear c14 AS
               go_wp2
               go_quiet (fail)
               go_wp2
               go_roundg k2
               case measure => have := HK2.out; omega
               case rel => exact ⟨j + 1, by go_num, ⟨HJL.out⟩, HA', ⟨by have := HK2.out; omega⟩, ⟨HS.out.drewN _⟩⟩
             ·rw [if_neg c13] at AS
              obtain rfl := Option.some.inj AS
              have c13b : decide ((j : Int) < (n : Int)) = false := decide_eq_false (by omega)
              have c13c := eq_false c13
              have H := HH.out
              rw [if_pos rfl] at H
              have H' := Aside0.mk H
              clear H AS c13
              go_wp2
              go_roundg k1
              case measure => have := HK1.out; omega
              case rel => exact ⟨n + 1, by go_num, ⟨HLT.out⟩, H', ⟨by have := HK1.out; omega⟩, ⟨HS.out.below⟩⟩
     ·rw [if_neg c6] at AS
      obtain rfl := Option.some.inj AS
      rw [if_neg c6] at H
      obtain rfl := Option.some.inj H
      have c6a : (e1 == 0) = false := beq_eq_false_iff_ne.mpr c6
      have c6b : (e1 != 0) = true := bne_iff_ne.mpr c6
      clear c6 H
      go_wp2_with (first | ((with_reducible refine gate_dst (N := 22) rfl ?_); refine load_event (ad := ad.add (n * 12)) rfl rfl hu45 rfl rfl (cs := [.string (x).f0, .int .i64 (x).f1, .int .i64 (x).f2, .string (x).f3, .int .i64 (x).f4.f0, .int .i64 (x).f4.f1, .int .i64 (x).f4.f2, .string (x).f4.f3, .string (x).f4.f4, .int .i64 (x).f4.f5, .int .i64 (x).f4.f6, .slice A11 (x).f5.length c11]) sz45 (fun j v hv => (HB.out.cell (World.block_lt_of_cell? w _ (HXC.out j v hv))).trans (HXC.out j v hv)) ?_) | ((with_reducible refine gate_dst (N := 4) rfl ?_); refine box_event ?hg (N := 4) ?hd (cs := #[.string (⟨#[]⟩ : ByteArray), .int .i64 0, .int .i64 0, .string (⟨#[]⟩ : ByteArray), .int .i64 0, .int .i64 0, .int .i64 0, .string (⟨#[]⟩ : ByteArray), .string (⟨#[]⟩ : ByteArray), .int .i64 0, .int .i64 0, .slice none 0 0]) (t := 45) ?hr ?_; (case hd => rfl); (case hg => rfl); (case hr => first | (go_simp; done) | (go_simp; rfl)); intro gb hg w2 hbox hb2; have HS := Aside0.mk (Held.box HB.out hg hbox hb2); clear hg hbox hb2 HB) | ((with_reducible refine gate_store (t := 45) (p := 4) rfl ?_); refine put_event rfl rfl rfl rfl rfl HS.out.blk sz45 rfl rfl ?_; intro w3 hk3 hg3; have HS3 := Aside0.mk (HS.out.put hk3 hg3); clear HS hk3 hg3; have HS := HS3; clear HS3) | ((with_reducible refine gate_dst (N := 23) rfl ?_); refine load_event rfl rfl hu45 rfl rfl (cs := [.string (x).f0, .int .i64 (x).f1, .int .i64 (x).f2, .string (x).f3, .int .i64 (x).f4.f0, .int .i64 (x).f4.f1, .int .i64 (x).f4.f2, .string (x).f4.f3, .string (x).f4.f4, .int .i64 (x).f4.f5, .int .i64 (x).f4.f6, .slice A11 (x).f5.length c11]) sz45 (cells_of_blk HS.out.blk) ?_) | (go_at_call 73; refine (rNF.calls k1 (x).f0 (x).f1 (x).f2 (x).f3 (x).f4.f0 (x).f4.f1 (x).f4.f2 (x).f4.f3 (x).f4.f4 (x).f4.f5 (x).f4.f6 A11 c11 (x).f5 e1 _ (Kd.C_below HX.out HS.out.below) HL.out HAR.out).mono ?_; rintro e w3 ⟨rfl, hb3⟩; have HS3 := Aside0.mk (HS.out.step hb3); clear HS hb3; have HS := HS3; clear HS3))
      go_ret
      exact ⟨rfl, HS.out.below⟩
    ·rw [if_neg c3] at H
     obtain rfl := Option.some.inj H
     have c3b : decide ((n : Int) < (l0.length : Int)) = false := decide_eq_false (by omega)
     have c3c : decide (n < l0.length) = false := decide_eq_false c3
     have c3d := eq_false c3
     clear c3 H
     go_wp2
     go_ret
     exact ⟨rfl, HB.out⟩
end Go.Proofs.YtcbbcnmifohibaaDoor.All
end
section
namespace Go.Proofs.YtcbbcnmifohibaaDoor.All
open Go.RowKit Go.Proofs.YtcbbcnmifohibaaDoorW.PrintWords Go.Proofs.YtcbbcnmifohibaaDoorW.PrintLast Go.Proofs.YtcbbcnmifohibaaDoorW.PrintMore
open Go.Proofs.YtcbbcnmifohibaaDoorW.Mine
attribute [local go_sem] gtr_string leq_string geq_string
attribute [local go_sem] max2_int min2_int max_two min_two max_three min_three max_four min_four
set_option linter.unusedVariables false
set_option linter.unusedSimpArgs false
open Go.Proofs.YtcbbcnmifohibaaDoorW.MapOwn
def creelref_Filtered.l1 : Nat → List (S58) → ByteArray → Bool → Option Bool
 | 0, _, _, _ => none
 | q + 1, l, s, is => if s.toList = ([] : List UInt8) then some is else (if is = true then creelref_taken.f q l s else some false).bind fun b => (creelref_PathSplit.f q s).bind fun u => creelref_Filtered.l1 q l u.1 b
def creelref_Filtered.run (k : Nat) (l : List (S58)) : List (S45) → List (S45) → Option (List (S45))
 | [], o => some o
 | x :: r, o => (creelref_Filtered.l1 k l x.f0 true).bind fun b => if b = true then (if o.length < 977343669134 then creelref_Filtered.run k l r (o ++ [x]) else none) else creelref_Filtered.run k l r o
def creelref_Filtered.f (k : Nat) (l0 : List (S45)) (l1 : List (S58)) : Option (List (S45) × Int) := (rTF.f k l0).bind fun e => if e = 0 then (creelref_RulesFault.f k l1).bind fun e2 => if e2 = 0 then (creelref_Filtered.run k l1 l0 []).bind fun o => (creelref_TreeCopy.f k o).bind fun r => some (r, 0) else some ([], e2) else some ([], e)
theorem creelref_Filtered.elemV {w : World} {ok : Nat → Prop} {A : Option Addr} {c : Nat} {l : List (S45)} (h : Kd.V k45 45 w w.heap.size ok (.slice A l.length c) l) (n : Nat) (hn : n < l.length) : ∃ ad A11 c11, A = some ad ∧ (∀ j v, ([.string (rd_T45 l (n : Int)).f0, .int .i64 (rd_T45 l (n : Int)).f1, .int .i64 (rd_T45 l (n : Int)).f2, .string (rd_T45 l (n : Int)).f3, .int .i64 (rd_T45 l (n : Int)).f4.f0, .int .i64 (rd_T45 l (n : Int)).f4.f1, .int .i64 (rd_T45 l (n : Int)).f4.f2, .string (rd_T45 l (n : Int)).f4.f3, .string (rd_T45 l (n : Int)).f4.f4, .int .i64 (rd_T45 l (n : Int)).f4.f5, .int .i64 (rd_T45 l (n : Int)).f4.f6, .slice A11 (rd_T45 l (n : Int)).f5.length c11] : List Value)[j]? = some v → w.cell? ((ad.add (n * 12)).add j) = some v) ∧ Kd.FK k45 w ok (rd_T45 l (n : Int)) [.string (rd_T45 l (n : Int)).f0, .int .i64 (rd_T45 l (n : Int)).f1, .int .i64 (rd_T45 l (n : Int)).f2, .string (rd_T45 l (n : Int)).f3, .int .i64 (rd_T45 l (n : Int)).f4.f0, .int .i64 (rd_T45 l (n : Int)).f4.f1, .int .i64 (rd_T45 l (n : Int)).f4.f2, .string (rd_T45 l (n : Int)).f4.f3, .string (rd_T45 l (n : Int)).f4.f4, .int .i64 (rd_T45 l (n : Int)).f4.f5, .int .i64 (rd_T45 l (n : Int)).f4.f6, .slice A11 (rd_T45 l (n : Int)).f5.length c11] := by
 obtain ⟨ad, cs, e, hcl, hK, hcc, _⟩ := Kd.F_get (Kd.V_F h) z45 (n : Int) (by omega) (by omega)
 obtain ⟨A11, c11, rfl, l11, hF⟩ := k45_openF hK
 refine ⟨ad, A11, c11, e, fun j v hv => ?_, hK⟩
 have := hcc j v hv
 rw [Int.toNat_natCast] at this
 rw [← this]
 congr 1
 show (ad.add (n * 12)).add j = ad.add (n * 12 + j)
 exact Go.Proofs.YtcbbcnmifohibaaDoorW.MapOwn.add_add ad (n * 12) j
theorem creelref_Filtered.drop_rd (l : List (S45)) (n : Nat) (h : n < l.length) : l.drop n = rd_T45 l (n : Int) :: l.drop (n + 1) := by
 rw [List.drop_eq_getElem_cons h]
 congr 1
 unfold rd_T45
 rw [Int.toNat_natCast, List.getD_eq_getElem?_getD, List.getElem?_eq_getElem h]; rfl
set_option maxHeartbeats 16000000 in
set_option maxRecDepth 100000 in
theorem creelref_Filtered.calls (k : Nat) (P0_ : Nat → Prop) (A0 : Option Addr) (c0 : Nat) (l0 : List (S45)) (A1 : Option Addr) (c1 : Nat) (l1 : List (S58)) (r1 : List (S45)) (r2 : Int) (w : World) (hs0 : Kd.V k45 45 w w.heap.size (fun k_ => P0_ k_) (.slice A0 l0.length c0) l0) (hr1 : Kd.C k58 w A1 l1.length l1) (hc1 : l1.length ≤ c1) (h : creelref_Filtered.f k l0 l1 = some (r1, r2)) :
  Calls Tryd.prog 16 #[.slice A0 l0.length c0, .slice A1 l1.length c1] w fun e w' => ∃ v0_ : Value, e = .returned (.tuple #[v0_, .int .i64 r2]) ∧ Kd.N k45 45 w' w.heap.size (fun k_ => (P0_ k_ ∨ w.heap.size ≤ k_)) v0_ r1 ∧ Below w.heap.size w w' := by
 have hu45 := Tryd.underlying45
 have HV0 := Aside0.mk hs0
 have HR0 := Aside0.mk (Kd.V_reads' hs0).2.2
 have HC0 := Aside0.mk (Kd.V_reads' hs0).2.1
 have HR1 := Aside0.mk hr1
 have HC1 := Aside0.mk hc1
 clear hs0 hr1 hc1
 unfold creelref_Filtered.f at h
 obtain ⟨e1, h1, hq⟩ := Option.bind_eq_some_iff.1 h
 clear h
 have h := hq
 clear hq
 have H1 := Aside0.mk h1
 clear h1
 by_cases c1' : e1 = 0
 ·subst c1'
  rw [if_pos rfl] at h
  obtain ⟨e2, h2, hq⟩ := Option.bind_eq_some_iff.1 h
  clear h
  have h := hq
  clear hq
  have H2 := Aside0.mk h2
  clear h2
  by_cases c2' : e2 = 0
  ·subst c2'
   rw [if_pos rfl] at h
   obtain ⟨res, h3, hq⟩ := Option.bind_eq_some_iff.1 h
   clear h
   have h := hq
   clear hq
   obtain ⟨cp, h4, hq⟩ := Option.bind_eq_some_iff.1 h
   clear h
   have h := hq
   clear hq
   obtain ⟨rfl, rfl⟩ := Prod.mk.inj (Option.some.inj h)
   have H3 := Aside0.mk (show creelref_Filtered.run k l1 (l0.drop 0) [] = some res from h3)
   have H4 := Aside0.mk h4
   clear h h3 h4
   go_enter Tryd.func16, Tryd.ntmps16
   go_wp2_with (first | (go_at_call 43; refine (rTF.calls k A0 c0 l0 0 _ HR0.out HC0.out H1.out).mono ?_; rintro e w1 ⟨rfl, hb1⟩; have HB1 := Aside0.mk hb1; clear hb1) | (go_at_call 13; refine (creelref_RulesFault.calls k A1 c1 l1 0 _ (Kd.C_below HR1.out HB1.out) HC1.out H2.out).mono ?_; rintro e w2 ⟨rfl, hb2⟩; have HB2 := Aside0.mk (below_step HB1.out hb2); clear hb2))
   have HO := Aside0.mk (show Kd.N k45 45 w2 w.heap.size (fun k_ => P0_ k_ ∨ w.heap.size ≤ k_) (.slice none 0 0) [] from Kd.N_nil _ _ _ _ _)
   go_loopg [8, 25] l0.length (fun kq v8 v25 wx => ∃ (n : Nat) (o : List (S45)), v25 = .int .i64 (n : Int) ∧ Aside0 (kq = l0.length - n) ∧ Aside0 (n ≤ l0.length) ∧ Aside0 (creelref_Filtered.run k l1 (l0.drop n) o = some res) ∧ Aside0 (Kd.N k45 45 wx w.heap.size (fun k_ => P0_ k_ ∨ w.heap.size ≤ k_) v8 o) ∧ Aside0 (Below w.heap.size w wx))
   case atStart => exact ⟨0, [], rfl, ⟨rfl⟩, ⟨Nat.zero_le _⟩, H3, HO, HB2⟩
   case round =>
    clear H3 HO HB1 HB2
    obtain ⟨n, o, rfl, HQ, HN, HA, HO, HB⟩ := hrel
    by_cases c3 : n < l0.length
    ·have c3b : decide ((n : Int) < (l0.length : Int)) = true := decide_eq_true (by omega)
     have p3 : ((n : Int) < (l0.length : Int)) = True := eq_true (by omega)
     have p4 : (0 ≤ (n : Int)) = True := eq_true (by omega)
     have hnM : (n : Int) < 9223372036854775807 := by have h63 := HR0.out.2.1; omega
     obtain ⟨ad, A11, c11, e, hx, hfk⟩ := creelref_Filtered.elemV HV0.out n c3
     cases e
     have HXC := Aside0.mk hx
     have HFK := Aside0.mk (Kd.FK_bound hfk)
     have HLT := Aside0.mk c3
     have H := HA.out
     rw [creelref_Filtered.drop_rd l0 n c3, creelref_Filtered.run] at H
     clear HA hx hfk c3
     generalize hx : rd_T45 l0 (n : Int) = x at *
     clear hx
     obtain ⟨b, hb0, hq⟩ := Option.bind_eq_some_iff.1 H
     clear H
     have H := hq
     clear hq
     have HL1 := Aside0.mk hb0
     have H' := Aside0.mk H
     clear H hb0
     go_upto_region 13 with (first | ((with_reducible refine gate_dst (N := 28) rfl ?_); refine load_event (ad := ad.add (n * 12)) rfl rfl hu45 rfl rfl (cs := [.string (x).f0, .int .i64 (x).f1, .int .i64 (x).f2, .string (x).f3, .int .i64 (x).f4.f0, .int .i64 (x).f4.f1, .int .i64 (x).f4.f2, .string (x).f4.f3, .string (x).f4.f4, .int .i64 (x).f4.f5, .int .i64 (x).f4.f6, .slice A11 (x).f5.length c11]) sz45 (fun j v hv => (HB.out.cell (World.block_lt_of_cell? w _ (HXC.out j v hv))).trans (HXC.out j v hv)) ?_) | ((with_reducible refine gate_dst (N := 10) rfl ?_); refine box_event ?hg (N := 10) ?hd (cs := #[.string (⟨#[]⟩ : ByteArray), .int .i64 0, .int .i64 0, .string (⟨#[]⟩ : ByteArray), .int .i64 0, .int .i64 0, .int .i64 0, .string (⟨#[]⟩ : ByteArray), .string (⟨#[]⟩ : ByteArray), .int .i64 0, .int .i64 0, .slice none 0 0]) (t := 45) ?hr ?_; (case hd => rfl); (case hg => rfl); (case hr => first | (go_simp; done) | (go_simp; rfl)); intro gb hg w2 hbox hb2; have HG := Aside0.mk (show w.heap.size ≤ gb by rw [hg]; exact HB.out.size); have HX2 := Aside0.mk hb2; have HGE := Aside0.mk hg; have HK := Aside0.mk hbox; clear hg hbox hb2) | ((with_reducible refine gate_store (t := 45) (p := 10) rfl ?_); refine put_event rfl rfl rfl rfl rfl HK.out sz45 rfl rfl ?_; intro w3 hk3 hg3; have HX3 := Aside0.mk (below_grown HX2.out hg3 (Nat.le_of_eq HGE.out.symm) (blk_lt HK.out)); have HO3 := Aside0.mk (Kd.N_below HO.out HX3.out); have HB3 := Aside0.mk (below_step HB.out HX3.out); have HK3 := Aside0.mk hk3; clear HO HB HK HX2 HGE HX3; have HO := HO3; have HB := HB3; have HK := HK3; clear HO3 HB3 HK3; have hc0 := blk_cell HK.out 0; clear hk3 hg3))
     obtain ⟨u8, hu8⟩ : ∃ u8 : Value, True := ⟨.bool true, trivial⟩
     clear u8 hu8
     go_loopg [11, 12] k (fun kq v11 v12 wy => ∃ (b1 : Bool) (s : ByteArray), v11 = .bool b1 ∧ v12 = .string s ∧ Aside0 (creelref_Filtered.l1 kq l1 s b1 = some b) ∧ Aside0 (kq ≤ k) ∧ Aside0 (wy.heap[gb]? = some (.cells #[.string (x).f0, .int .i64 (x).f1, .int .i64 (x).f2, .string (x).f3, .int .i64 (x).f4.f0, .int .i64 (x).f4.f1, .int .i64 (x).f4.f2, .string (x).f4.f3, .string (x).f4.f4, .int .i64 (x).f4.f5, .int .i64 (x).f4.f6, .slice A11 (x).f5.length c11] 45 (0, 0))) ∧ Aside0 (Kd.N k45 45 wy w.heap.size (fun k_ => P0_ k_ ∨ w.heap.size ≤ k_) u8 o) ∧ Aside0 (Below w.heap.size w wy))
     case atStart => exact ⟨true, x.f0, rfl, rfl, HL1, ⟨Nat.le_refl _⟩, HK, HO, HB⟩
     case round =>
      clear HL1 HK HO HB hc0
      obtain ⟨b1, s, rfl, rfl, HA2, HQ2, HK, HO, HB⟩ := hrel
      cases gk with
      | zero => exact absurd HA2.out (by simp [creelref_Filtered.l1])
      | succ k2 =>
       have H2' := HA2.out
       clear HA2
       rw [creelref_Filtered.l1] at H2'
       by_cases c4 : s.toList = ([] : List UInt8)
       ·rw [if_pos c4] at H2'
        obtain rfl := Option.some.inj H2'
        have c4e : s.toList.isEmpty = true := by rw [c4]; rfl
        have c4b : (s.toList == ([] : List UInt8)) = true := beq_iff_eq.mpr c4
        clear H2' c4
        cases b1 with
        | true =>
         have H := H'.out
         rw [if_pos rfl] at H
         by_cases c5 : o.length < 977343669134
         ·rw [if_pos c5] at H
          have HOL := Aside0.mk c5
          have H'' := Aside0.mk H
          clear H H' c5
          go_wp2_with (first | ((with_reducible refine gate_dst (N := 46) rfl ?_); refine load_event rfl rfl hu45 rfl rfl (cs := [.string (x).f0, .int .i64 (x).f1, .int .i64 (x).f2, .string (x).f3, .int .i64 (x).f4.f0, .int .i64 (x).f4.f1, .int .i64 (x).f4.f2, .string (x).f4.f3, .string (x).f4.f4, .int .i64 (x).f4.f5, .int .i64 (x).f4.f6, .slice A11 (x).f5.length c11]) sz45 (cells_of_blk (cs := [.string (x).f0, .int .i64 (x).f1, .int .i64 (x).f2, .string (x).f3, .int .i64 (x).f4.f0, .int .i64 (x).f4.f1, .int .i64 (x).f4.f2, .string (x).f4.f3, .string (x).f4.f4, .int .i64 (x).f4.f5, .int .i64 (x).f4.f6, .slice A11 (x).f5.length c11]) HK.out) ?_) | ((with_reducible refine gate_builtin (b := .append) (xs := #[.tmp 45, .tmp 47]) rfl ?_); at_builtin; refine Kd.N_append k45 (w0 := w) w.heap.size rfl (.tmp 45) (.tmp 47) 30 45 (.agg #[.string (⟨#[]⟩ : ByteArray), .int .i64 0, .int .i64 0, .string (⟨#[]⟩ : ByteArray), .int .i64 0, .int .i64 0, .int .i64 0, .string (⟨#[]⟩ : ByteArray), .string (⟨#[]⟩ : ByteArray), .int .i64 0, .int .i64 0, .slice none 0 0]) 144 rfl Tryd.underlying30 info45 rfl (by decide) (by omega) u8 o x [.string (x).f0, .int .i64 (x).f1, .int .i64 (x).f2, .string (x).f3, .int .i64 (x).f4.f0, .int .i64 (x).f4.f1, .int .i64 (x).f4.f2, .string (x).f4.f3, .string (x).f4.f4, .int .i64 (x).f4.f5, .int .i64 (x).f4.f6, .slice A11 (x).f5.length c11] (fun k_ => P0_ k_ ∨ w.heap.size ≤ k_) (fun k_ => P0_ k_ ∧ k_ < w.heap.size) rfl (by first | (go_simp; done) | (go_simp; rfl)) (Kd.FK_below HFK.out HB.out) (fun k_ hk => ⟨Or.inl hk.1, fun h => by have := Kd.N_base HO.out k_ h.symm; have := hk.2; omega⟩) (fun k_ hk => Or.inr (Nat.le_trans (below_size HB.out) hk)) HO.out HB.out (below_size HB.out) (by have := HOL.out; omega) ?_; intro v9 w9 ho hb hg hat; have HO9 := Aside0.mk ho; have HB9 := Aside0.mk hb; clear HO HB HK ho hb hg hat; have HO := HO9; have HB := HB9; clear HO9 HB9))
          go_roundg (l0.length - (n + 1))
          case measure => have := HQ.out; have := HLT.out; omega
          case rel => exact ⟨n + 1, _, rfl, ⟨rfl⟩, ⟨HLT.out⟩, H'', HO, HB⟩
         ·rw [if_neg c5] at H; cases H
        | false =>
         have H := H'.out
         rw [if_neg (by decide)] at H
         have H'' := Aside0.mk H
         clear H H'
         go_wp2
         go_roundg (l0.length - (n + 1))
         case measure => have := HQ.out; have := HLT.out; omega
         case rel => exact ⟨n + 1, _, rfl, ⟨rfl⟩, ⟨HLT.out⟩, H'', HO, HB⟩
       ·rw [if_neg c4] at H2'
        have c4e : s.toList.isEmpty = false := by cases hs : s.toList with | nil => exact absurd hs c4 | cons _ _ => rfl
        have c4b : (s.toList == ([] : List UInt8)) = false := beq_eq_false_iff_ne.mpr c4
        clear c4
        obtain ⟨q, hq0, hq⟩ := Option.bind_eq_some_iff.1 H2'
        clear H2'
        have H2' := hq
        clear hq
        obtain ⟨u, hu0, hq⟩ := Option.bind_eq_some_iff.1 H2'
        clear H2'
        have H2' := hq
        clear hq
        obtain ⟨u1, u2⟩ := u
        have HU := Aside0.mk hu0
        have HN2 := Aside0.mk H2'
        clear hu0 H2'
        cases b1 with
        | true =>
         rw [if_pos rfl] at hq0
         have HT := Aside0.mk hq0
         clear hq0
         go_wp2_with (first | (go_at_call 39; refine (creelref_taken.calls k2 A1 c1 l1 s q _ (Kd.C_below HR1.out HB.out) HC1.out HT.out).mono ?_; rintro e w4 ⟨rfl, hb4⟩; have HO4 := Aside0.mk (Kd.N_below HO.out hb4); have HB4 := Aside0.mk (below_step HB.out hb4); have HK4 := Aside0.mk (blk_below HK.out hb4); clear HO HB HK; have HO := HO4; have HB := HB4; have HK := HK4; clear HO4 HB4 HK4 hb4) | (go_at_call 44; refine (creelref_PathSplit.calls k2 s u1 u2 _ HU.out).mono ?_; rintro e w5 ⟨rfl, hb5⟩; have HO5 := Aside0.mk (Kd.N_below HO.out hb5); have HB5 := Aside0.mk (below_step HB.out hb5); have HK5 := Aside0.mk (blk_below HK.out hb5); clear HO HB HK; have HO := HO5; have HB := HB5; have HK := HK5; clear HO5 HB5 HK5 hb5))
         go_roundg k2
         case measure => have := HQ2.out; omega
         case rel => exact ⟨_, _, rfl, rfl, HN2, ⟨by have := HQ2.out; omega⟩, HK, HO, HB⟩
        | false =>
         rw [if_neg (by decide)] at hq0
         obtain rfl := Option.some.inj hq0
         clear hq0
         go_wp2_with (go_at_call 44; refine (creelref_PathSplit.calls k2 s u1 u2 _ HU.out).mono ?_; rintro e w5 ⟨rfl, hb5⟩; have HO5 := Aside0.mk (Kd.N_below HO.out hb5); have HB5 := Aside0.mk (below_step HB.out hb5); have HK5 := Aside0.mk (blk_below HK.out hb5); clear HO HB HK; have HO := HO5; have HB := HB5; have HK := HK5; clear HO5 HB5 HK5 hb5)
         go_roundg k2
         case measure => have := HQ2.out; omega
         case rel => exact ⟨_, _, rfl, rfl, HN2, ⟨by have := HQ2.out; omega⟩, HK, HO, HB⟩
    ·have c3b : decide ((n : Int) < (l0.length : Int)) = false := decide_eq_false (by omega)
     have p3 : ((n : Int) < (l0.length : Int)) = False := eq_false (by omega)
     have H := HA.out
     rw [List.drop_of_length_le (by omega)] at H
     obtain rfl := Option.some.inj H
     obtain ⟨Ao, co, rfl⟩ := Kd.N_slice HO.out
     clear H HA c3
     go_wp2_with (go_at_call 25; refine (creelref_TreeCopy.calls k (fun k_ => P0_ k_ ∨ w.heap.size ≤ k_) Ao co o cp _ (Kd.N_V HO.out) H4.out).mono ?_; rintro e w6 ⟨v6, rfl, hN6, hb6⟩; have HN6 := Aside0.mk (Kd.N_lower (Kd.N_mono hN6 (fun k_ hk => hk.elim id (fun h => Or.inr (Nat.le_trans (below_size HB.out) h)))) (below_size HB.out)); have HB6 := Aside0.mk (below_step HB.out hb6); clear hN6 hb6)
     go_ret2
     exact ⟨_, rfl, HN6.out, HB6.out⟩
  ·rw [if_neg c2'] at h
   obtain ⟨rfl, rfl⟩ := Prod.mk.inj (Option.some.inj h)
   have c2b : (e2 != 0) = true := bne_iff_ne.mpr c2'
   clear c2' h
   go_enter Tryd.func16, Tryd.ntmps16
   go_wp2_with (first | (go_at_call 43; refine (rTF.calls k A0 c0 l0 0 _ HR0.out HC0.out H1.out).mono ?_; rintro e w1 ⟨rfl, hb1⟩; have HB1 := Aside0.mk hb1; clear hb1) | (go_at_call 13; refine (creelref_RulesFault.calls k A1 c1 l1 e2 _ (Kd.C_below HR1.out HB1.out) HC1.out H2.out).mono ?_; rintro e w2 ⟨rfl, hb2⟩; have HB2 := Aside0.mk (below_step HB1.out hb2); clear hb2))
   go_ret2
   exact ⟨_, rfl, Kd.N_nil _ _ _ _ _, HB2.out⟩
 ·rw [if_neg c1'] at h
  obtain ⟨rfl, rfl⟩ := Prod.mk.inj (Option.some.inj h)
  have c1b : (e1 != 0) = true := bne_iff_ne.mpr c1'
  clear c1' h
  go_enter Tryd.func16, Tryd.ntmps16
  go_wp2_with (go_at_call 43; refine (rTF.calls k A0 c0 l0 e1 _ HR0.out HC0.out H1.out).mono ?_; rintro e w1 ⟨rfl, hb1⟩; have HB1 := Aside0.mk hb1; clear hb1)
  go_ret2
  exact ⟨_, rfl, Kd.N_nil _ _ _ _ _, HB1.out⟩
end Go.Proofs.YtcbbcnmifohibaaDoor.All
end
section
namespace Go.Proofs.YtcbbcnmifohibaaDoor.All
open Go.RowKit Go.Proofs.YtcbbcnmifohibaaDoorW.PrintWords Go.Proofs.YtcbbcnmifohibaaDoorW.PrintLast Go.Proofs.YtcbbcnmifohibaaDoorW.PrintMore
open Go.Proofs.YtcbbcnmifohibaaDoorW.Mine
attribute [local go_sem] gtr_string leq_string geq_string
attribute [local go_sem] max2_int min2_int max_two min_two max_three min_three max_four min_four
set_option linter.unusedVariables false
set_option linter.unusedSimpArgs false
def creellaw_sameBytes.f (l0 : List Int) (l1 : List Int) : Option (Bool) := some ((strOfNums l0).toList == (strOfNums l1).toList)
set_option maxHeartbeats 8000000 in
set_option maxRecDepth 100000 in
theorem creellaw_sameBytes.calls (A0 : Option Addr) (c0 : Nat) (l0 : List Int) (A1 : Option Addr) (c1 : Nat) (l1 : List Int) (r : Bool) (w : World) (hr0 : Kd.C (Kd.int .u8) w A0 l0.length l0) (hc0 : l0.length ≤ c0) (hr1 : Kd.C (Kd.int .u8) w A1 l1.length l1) (hc1 : l1.length ≤ c1) (h : creellaw_sameBytes.f l0 l1 = some r) :
  Calls Tryd.prog 75 #[.slice A0 l0.length c0, .slice A1 l1.length c1] w fun e w' => e = .returned (.bool r) ∧ Drawn0 w w' := by
 have HR0 := Aside0.mk hr0
 have HC0 := Aside0.mk hc0
 clear hr0 hc0
 have HR1 := Aside0.mk hr1
 have HC1 := Aside0.mk hc1
 clear hr1 hc1
 have H : (some ((strOfNums l0).toList == (strOfNums l1).toList)) = some r := h
 clear h
 obtain rfl := Option.some.inj H
 have hcv3 := Kd.C_string (P := Tryd.prog) (A := A0) (c := c0) Tryd.underlying43 Tryd.underlying5 Tryd.underlying9 HR0.out
 have hcv4 := Kd.C_string (P := Tryd.prog) (A := A1) (c := c1) Tryd.underlying43 Tryd.underlying5 Tryd.underlying9 HR1.out
 go_enter Tryd.func75, Tryd.ntmps75
 go_wp2
 go_ret
 exact ⟨by first | rfl | (simp; done) | (simp [*]; done), by repeat (first | exact Drawn0.refl _ | apply Drawn0.step)⟩
end Go.Proofs.YtcbbcnmifohibaaDoor.All
end
