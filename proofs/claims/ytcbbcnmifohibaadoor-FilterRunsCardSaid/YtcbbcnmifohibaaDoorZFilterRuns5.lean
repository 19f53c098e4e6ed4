/- Made by programs of the prover: walks of Go functions, the words that they use, and plain laws, each text in a section of its own; no condition of its own. -/
import Derived.Test.YtcbbcnmifohibaaDoorZFilterRuns2
import Derived.Test.YtcbbcnmifohibaaDoorZFilterRuns4
section
namespace Go.Proofs.YtcbbcnmifohibaaDoor.All
open Go.RowKit Go.Proofs.YtcbbcnmifohibaaDoorW.PrintWords Go.Proofs.YtcbbcnmifohibaaDoorW.PrintLast Go.Proofs.YtcbbcnmifohibaaDoorW.PrintMore
open Go.Proofs.YtcbbcnmifohibaaDoorW.Mine
attribute [local go_sem] gtr_string leq_string geq_string
attribute [local go_sem] max2_int min2_int max_two min_two max_three min_three max_four min_four
set_option linter.unusedVariables false
set_option linter.unusedSimpArgs false
mutual
def tree_Right.j0 : Nat → Bool → ByteArray → Int → Int → ByteArray → Int → Int → Int → ByteArray → ByteArray → Int → Int → List Int → Option (Int)
 | 0, _, _, _, _, _, _, _, _, _, _, _, _, _ => none
 | k + 1, x28, x102000, x102001, x102002, x102003, x102004, x102005, x102006, x102007, x102008, x102009, x102010, x102011 => if x28 = true then (some 3) else (if (x102011.length : Int) > 2000 then (some 1) else (some 0))
def tree_Right.j1 : Nat → Bool → ByteArray → Int → Int → ByteArray → Int → Int → Int → ByteArray → ByteArray → Int → Int → List Int → Option (Int)
 | 0, _, _, _, _, _, _, _, _, _, _, _, _, _ => none
 | k + 1, x33, x102000, x102001, x102002, x102003, x102004, x102005, x102006, x102007, x102008, x102009, x102010, x102011 => if x33 = true then (if (x102011.length : Int) > 0 then (tree_Right.j2 k true x102000 x102001 x102002 x102003 x102004 x102005 x102006 x102007 x102008 x102009 x102010 x102011) else (tree_Right.j2 k (x102002 != 0) x102000 x102001 x102002 x102003 x102004 x102005 x102006 x102007 x102008 x102009 x102010 x102011)) else (some 2)
def tree_Right.j2 : Nat → Bool → ByteArray → Int → Int → ByteArray → Int → Int → Int → ByteArray → ByteArray → Int → Int → List Int → Option (Int)
 | 0, _, _, _, _, _, _, _, _, _, _, _, _, _ => none
 | k + 1, x44, x102000, x102001, x102002, x102003, x102004, x102005, x102006, x102007, x102008, x102009, x102010, x102011 => if x44 = true then (some 3) else (if x102001 = 2 then (if x102003.toList = ([] : List UInt8) then (if x102001 = 3 then (tree_Right.j3 k true x102000 x102001 x102002 x102003 x102004 x102005 x102006 x102007 x102008 x102009 x102010 x102011) else (tree_Right.j3 k false x102000 x102001 x102002 x102003 x102004 x102005 x102006 x102007 x102008 x102009 x102010 x102011)) else (tree_Right.j3 k true x102000 x102001 x102002 x102003 x102004 x102005 x102006 x102007 x102008 x102009 x102010 x102011)) else (if x102001 = 3 then (if x102003.toList = ([] : List UInt8) then (tree_Right.j3 k true x102000 x102001 x102002 x102003 x102004 x102005 x102006 x102007 x102008 x102009 x102010 x102011) else ((strings_IndexByte.f x102003 0).bind fun t104 => (tree_Right.j3 k (decide (t104 ≥ 0)) x102000 x102001 x102002 x102003 x102004 x102005 x102006 x102007 x102008 x102009 x102010 x102011))) else (tree_Right.j3 k false x102000 x102001 x102002 x102003 x102004 x102005 x102006 x102007 x102008 x102009 x102010 x102011)))
def tree_Right.j3 : Nat → Bool → ByteArray → Int → Int → ByteArray → Int → Int → Int → ByteArray → ByteArray → Int → Int → List Int → Option (Int)
 | 0, _, _, _, _, _, _, _, _, _, _, _, _, _ => none
 | k + 1, x68, x102000, x102001, x102002, x102003, x102004, x102005, x102006, x102007, x102008, x102009, x102010, x102011 => if x68 = true then (some 3) else (if (x102003.size : Int) > 400 then (some 1) else (some 0))
end
def tree_Right.f (k : Nat) (a0_0 : ByteArray) (a0_1 : Int) (a0_2 : Int) (a0_3 : ByteArray) (a0_4 : Int) (a0_5 : Int) (a0_6 : Int) (a0_7 : ByteArray) (a0_8 : ByteArray) (a0_9 : Int) (a0_10 : Int) (l0_11 : List Int) : Option (Int) := (path_Check.f k a0_0).bind fun t102 => (if t102 = 0 then ((meta_Check.f k a0_4 a0_5 a0_6 a0_7 a0_8 a0_9 a0_10).bind fun t103 => (if t103 = 0 then (if a0_1 = 1 then (if a0_3.toList = ([] : List UInt8) then (tree_Right.j0 k (decide (a0_2 < 0)) a0_0 a0_1 a0_2 a0_3 a0_4 a0_5 a0_6 a0_7 a0_8 a0_9 a0_10 l0_11) else (tree_Right.j0 k true a0_0 a0_1 a0_2 a0_3 a0_4 a0_5 a0_6 a0_7 a0_8 a0_9 a0_10 l0_11)) else (if a0_1 = 2 then (tree_Right.j1 k (a0_1 == 2) a0_0 a0_1 a0_2 a0_3 a0_4 a0_5 a0_6 a0_7 a0_8 a0_9 a0_10 l0_11) else (tree_Right.j1 k (a0_1 == 3) a0_0 a0_1 a0_2 a0_3 a0_4 a0_5 a0_6 a0_7 a0_8 a0_9 a0_10 l0_11))) else (some t103))) else (some t102))
set_option maxHeartbeats 8000000 in
set_option maxRecDepth 100000 in
theorem tree_Right.calls (k : Nat) (a0_0 : ByteArray) (a0_1 : Int) (a0_2 : Int) (a0_3 : ByteArray) (a0_4 : Int) (a0_5 : Int) (a0_6 : Int) (a0_7 : ByteArray) (a0_8 : ByteArray) (a0_9 : Int) (a0_10 : Int) (A0_11 : Option Addr) (c0_11 : Nat) (l0_11 : List Int) (r : Int) (w : World) (hr0_11 : Kd.C (Kd.int .u8) w A0_11 l0_11.length l0_11) (hc0_11 : l0_11.length ≤ c0_11) (h : tree_Right.f k a0_0 a0_1 a0_2 a0_3 a0_4 a0_5 a0_6 a0_7 a0_8 a0_9 a0_10 l0_11 = some r) :
  Calls Tryd.prog 68 #[.agg #[.string a0_0, .int .i64 a0_1, .int .i64 a0_2, .string a0_3, .int .i64 a0_4, .int .i64 a0_5, .int .i64 a0_6, .string a0_7, .string a0_8, .int .i64 a0_9, .int .i64 a0_10, .slice A0_11 l0_11.length c0_11]] w fun e w' => e = .returned (.int .i64 r) ∧ Below w.heap.size w w' := by
 have hu45 := Tryd.underlying45
 have hu42 := Tryd.underlying42
 have HR0_11 := Aside0.mk hr0_11
 have HC0_11 := Aside0.mk hc0_11
 clear hr0_11 hc0_11
 have HB := Aside0.mk (Below.refl w.heap.size w)
 have H : ((path_Check.f k a0_0).bind fun t102 => (if t102 = 0 then ((meta_Check.f k a0_4 a0_5 a0_6 a0_7 a0_8 a0_9 a0_10).bind fun t103 => (if t103 = 0 then (if a0_1 = 1 then (if a0_3.toList = ([] : List UInt8) then (tree_Right.j0 k (decide (a0_2 < 0)) a0_0 a0_1 a0_2 a0_3 a0_4 a0_5 a0_6 a0_7 a0_8 a0_9 a0_10 l0_11) else (tree_Right.j0 k true a0_0 a0_1 a0_2 a0_3 a0_4 a0_5 a0_6 a0_7 a0_8 a0_9 a0_10 l0_11)) else (if a0_1 = 2 then (tree_Right.j1 k (a0_1 == 2) a0_0 a0_1 a0_2 a0_3 a0_4 a0_5 a0_6 a0_7 a0_8 a0_9 a0_10 l0_11) else (tree_Right.j1 k (a0_1 == 3) a0_0 a0_1 a0_2 a0_3 a0_4 a0_5 a0_6 a0_7 a0_8 a0_9 a0_10 l0_11))) else (some t103))) else (some t102))) = some r := h
 clear h
 replace H := Option.bind_eq_some_iff.mp H
 obtain ⟨t102, A20, H⟩ := H
 replace H : (if t102 = 0 then ((meta_Check.f k a0_4 a0_5 a0_6 a0_7 a0_8 a0_9 a0_10).bind fun t103 => (if t103 = 0 then (if a0_1 = 1 then (if a0_3.toList = ([] : List UInt8) then (tree_Right.j0 k (decide (a0_2 < 0)) a0_0 a0_1 a0_2 a0_3 a0_4 a0_5 a0_6 a0_7 a0_8 a0_9 a0_10 l0_11) else (tree_Right.j0 k true a0_0 a0_1 a0_2 a0_3 a0_4 a0_5 a0_6 a0_7 a0_8 a0_9 a0_10 l0_11)) else (if a0_1 = 2 then (tree_Right.j1 k (a0_1 == 2) a0_0 a0_1 a0_2 a0_3 a0_4 a0_5 a0_6 a0_7 a0_8 a0_9 a0_10 l0_11) else (tree_Right.j1 k (a0_1 == 3) a0_0 a0_1 a0_2 a0_3 a0_4 a0_5 a0_6 a0_7 a0_8 a0_9 a0_10 l0_11))) else (some t103))) else (some t102)) = some r := H
 have A2 := Aside0.mk A20
 clear A20
 by_cases c3 : t102 = 0
 ·rw [if_pos c3] at H
  have c3b0 : (t102 == 0) = true := beq_iff_eq.mpr c3
  have c3b1 : (t102 != 0) = false := bne_eq_false_iff_eq.mpr c3
  clear c3
  replace H := Option.bind_eq_some_iff.mp H
  obtain ⟨t103, A40, H⟩ := H
  replace H : (if t103 = 0 then (if a0_1 = 1 then (if a0_3.toList = ([] : List UInt8) then (tree_Right.j0 k (decide (a0_2 < 0)) a0_0 a0_1 a0_2 a0_3 a0_4 a0_5 a0_6 a0_7 a0_8 a0_9 a0_10 l0_11) else (tree_Right.j0 k true a0_0 a0_1 a0_2 a0_3 a0_4 a0_5 a0_6 a0_7 a0_8 a0_9 a0_10 l0_11)) else (if a0_1 = 2 then (tree_Right.j1 k (a0_1 == 2) a0_0 a0_1 a0_2 a0_3 a0_4 a0_5 a0_6 a0_7 a0_8 a0_9 a0_10 l0_11) else (tree_Right.j1 k (a0_1 == 3) a0_0 a0_1 a0_2 a0_3 a0_4 a0_5 a0_6 a0_7 a0_8 a0_9 a0_10 l0_11))) else (some t103)) = some r := H
  have A4 := Aside0.mk A40
  clear A40
  by_cases c5 : t103 = 0
  ·rw [if_pos c5] at H
   have c5b0 : (t103 == 0) = true := beq_iff_eq.mpr c5
   have c5b1 : (t103 != 0) = false := bne_eq_false_iff_eq.mpr c5
   clear c5
   by_cases c6 : a0_1 = 1
   ·rw [if_pos c6] at H
    have c6b0 : (a0_1 == 1) = true := beq_iff_eq.mpr c6
    have c6b1 : (a0_1 != 1) = false := bne_eq_false_iff_eq.mpr c6
    clear c6
    have HC7 := Aside0.mk H
    clear H
    go_enter Tryd.func68, Tryd.ntmps68
    go_upto_region 10 with (first | ((with_reducible refine gate_dst (N := 1) rfl ?_); refine box_event ?hg (N := 1) ?hd (cs := #[.string a0_0, .int .i64 a0_1, .int .i64 a0_2, .string a0_3, .int .i64 a0_4, .int .i64 a0_5, .int .i64 a0_6, .string a0_7, .string a0_8, .int .i64 a0_9, .int .i64 a0_10, .slice A0_11 l0_11.length c0_11]) (t := 45) ?hr ?_; (case hd => rfl); (case hg => rfl); (case hr => first | (go_simp; done) | (go_simp; rfl)); intro gb101 hg w8 hbox hb; have n0_ := Aside0.mk (below_step (by repeat (first | (with_reducible first | exact HB.out | apply bwA | apply pwbN | apply bw1) | exact HB.out)) hb); have n1_ := Aside0.mk (hbox); have n2_ := Aside0.mk ((by rw [hg]; exact (below_size (by repeat (first | (with_reducible first | exact HB.out | apply bwA | apply pwbN | apply bw1) | exact HB.out))) : w.heap.size ≤ gb101)); have n3_ := Aside0.mk ((by rw [hg]; exact (below_size (by repeat (first | (with_reducible first | exact HB.out | apply bwA | apply pwbN | apply bw1) | exact HB.out))) : w.heap.size ≤ gb101)); clear HB; have HB := n0_; have BK101 := n1_; have GW101 := n2_; have GE101 := n3_; clear n0_ n1_ n2_ n3_; clear hb hbox hg; obtain ⟨hcz9_0, hcz9_1, hcz9_2, hcz9_3, hcz9_4, hcz9_5, hcz9_6, hcz9_7, hcz9_8, hcz9_9, hcz9_10, hcz9_11, hfz9_0, hfz9_1, hfz9_2, hfz9_3, hfz9_4, hfz9_5, hfz9_6, hfz9_7, hfz9_8, hfz9_9, hfz9_10, hfz9_11⟩ := blkA12 BK101.out) | ((with_reducible refine gate_callee (f := 28) rfl ?_); refine goesL_ (some 7) rfl rfl Tryd.func28 (by kernel_rfl) rfl #[.string a0_0] rfl (by (try simp only [List.map_toArray, List.map_cons, List.map_nil]); first | done | rfl | (simp only [List.length_drop, List.length_take]; rfl)) ?_; (with_reducible refine (path_Check.calls k a0_0 t102 _ A2.out).mono ?_); rintro e w10 ⟨rfl, hb⟩; refine ⟨_, rfl, ?_⟩; have n0_ := Aside0.mk (blk_below (g := gb101) (o := .cells #[.string a0_0, .int .i64 a0_1, .int .i64 a0_2, .string a0_3, .int .i64 a0_4, .int .i64 a0_5, .int .i64 a0_6, .string a0_7, .string a0_8, .int .i64 a0_9, .int .i64 a0_10, .slice A0_11 l0_11.length c0_11] 45 (0, 0)) (by (with_reducible repeat (first | refine blk_drewN ?_ _ | refine blk_drew ?_ | refine blk_alloc ?_ _)); exact BK101.out) hb); have n1_ := Aside0.mk (below_step (by repeat (first | (with_reducible first | exact HB.out | apply bwA | apply pwbN | apply bw1 | refine below_set ?_ GE101.out) | exact HB.out)) hb); clear BK101; clear HB; have BK101 := n0_; have HB := n1_; clear n0_ n1_; (try clear hb); (try clear hb2); (try clear hk); (try clear hi); obtain ⟨hcz11_0, hcz11_1, hcz11_2, hcz11_3, hcz11_4, hcz11_5, hcz11_6, hcz11_7, hcz11_8, hcz11_9, hcz11_10, hcz11_11, hfz11_0, hfz11_1, hfz11_2, hfz11_3, hfz11_4, hfz11_5, hfz11_6, hfz11_7, hfz11_8, hfz11_9, hfz11_10, hfz11_11⟩ := blkA12 BK101.out) | ((with_reducible refine gate_callee (f := 88) rfl ?_); refine goesL_ (some 13) rfl rfl Tryd.func88 (by kernel_rfl) rfl #[.agg #[.int .i64 a0_4, .int .i64 a0_5, .int .i64 a0_6, .string a0_7, .string a0_8, .int .i64 a0_9, .int .i64 a0_10]] rfl (by (try simp only [List.map_toArray, List.map_cons, List.map_nil]); first | done | rfl | (simp only [List.length_drop, List.length_take]; rfl)) ?_; (with_reducible refine (meta_Check.calls k a0_4 a0_5 a0_6 a0_7 a0_8 a0_9 a0_10 t103 _ A4.out).mono ?_); rintro e w12 ⟨rfl, hb⟩; refine ⟨_, rfl, ?_⟩; have n0_ := Aside0.mk (blk_below (g := gb101) (o := .cells #[.string a0_0, .int .i64 a0_1, .int .i64 a0_2, .string a0_3, .int .i64 a0_4, .int .i64 a0_5, .int .i64 a0_6, .string a0_7, .string a0_8, .int .i64 a0_9, .int .i64 a0_10, .slice A0_11 l0_11.length c0_11] 45 (0, 0)) (by (with_reducible repeat (first | refine blk_drewN ?_ _ | refine blk_drew ?_ | refine blk_alloc ?_ _)); exact BK101.out) hb); have n1_ := Aside0.mk (below_step (by repeat (first | (with_reducible first | exact HB.out | apply bwA | apply pwbN | apply bw1 | refine below_set ?_ GE101.out) | exact HB.out)) hb); clear BK101; clear HB; have BK101 := n0_; have HB := n1_; clear n0_ n1_; (try clear hb); (try clear hb2); (try clear hk); (try clear hi); obtain ⟨hcz13_0, hcz13_1, hcz13_2, hcz13_3, hcz13_4, hcz13_5, hcz13_6, hcz13_7, hcz13_8, hcz13_9, hcz13_10, hcz13_11, hfz13_0, hfz13_1, hfz13_2, hfz13_3, hfz13_4, hfz13_5, hfz13_6, hfz13_7, hfz13_8, hfz13_9, hfz13_10, hfz13_11⟩ := blkA12 BK101.out))
    (try simp only [Act.put, List.setIfInBounds_toArray, List.set_cons_zero, List.set_cons_succ])
    go_cut [28] (fun v28 wc => ∃ (kq : Nat) (x28_6 : Bool), v28 = .bool x28_6 ∧ Aside0 (tree_Right.j0 kq x28_6 a0_0 a0_1 a0_2 a0_3 a0_4 a0_5 a0_6 a0_7 a0_8 a0_9 a0_10 l0_11 = some r) ∧ Aside0 (kq ≤ k) ∧ Aside0 (wc.heap[gb101]? = some (.cells #[.string a0_0, .int .i64 a0_1, .int .i64 a0_2, .string a0_3, .int .i64 a0_4, .int .i64 a0_5, .int .i64 a0_6, .string a0_7, .string a0_8, .int .i64 a0_9, .int .i64 a0_10, (.slice A0_11 l0_11.length c0_11)] 45 (0, 0))) ∧ Aside0 (Below w.heap.size w wc))
    case first =>
     have H := HC7.out
     clear HC7
     by_cases c14 : a0_3.toList = ([] : List UInt8)
     ·rw [if_pos c14] at H
      have c14b0 : (a0_3.toList == ([] : List UInt8)) = true := beq_iff_eq.mpr c14
      have c14b1 : (a0_3.toList != ([] : List UInt8)) = false := bne_eq_false_iff_eq.mpr c14
      clear c14
      (first | rw [c14b0] | (simp only [i64_w, i32_w]; rw [c14b0]) | skip)
      have H' := Aside0.mk H
      clear H
      obtain ⟨hcz15_0, hcz15_1, hcz15_2, hcz15_3, hcz15_4, hcz15_5, hcz15_6, hcz15_7, hcz15_8, hcz15_9, hcz15_10, hcz15_11, hfz15_0, hfz15_1, hfz15_2, hfz15_3, hfz15_4, hfz15_5, hfz15_6, hfz15_7, hfz15_8, hfz15_9, hfz15_10, hfz15_11⟩ := blkA12 BK101.out
      go_wp2
      go_meet
      case rel => exact ⟨_, (decide (a0_2 < 0)), (by first | rfl | (simp; done) | (simp [*]; done)), H', ⟨by first | omega | exact Nat.le_refl _⟩, ⟨by (with_reducible repeat (first | refine blk_drewN ?_ _ | refine blk_drew ?_ | refine blk_alloc ?_ _)); exact BK101.out⟩, ⟨by repeat (first | (with_reducible first | exact HB.out | apply bwA | apply pwbN | apply bw1 | refine below_set ?_ GE101.out) | exact HB.out)⟩⟩
     ·rw [if_neg c14] at H
      have c14b0 : (a0_3.toList == ([] : List UInt8)) = false := beq_eq_false_iff_ne.mpr c14
      have c14b1 : (a0_3.toList != ([] : List UInt8)) = true := bne_iff_ne.mpr c14
      (first | rw [c14b0] | (simp only [i64_w, i32_w]; rw [c14b0]) | skip)
      have H' := Aside0.mk H
      clear H
      obtain ⟨hcz16_0, hcz16_1, hcz16_2, hcz16_3, hcz16_4, hcz16_5, hcz16_6, hcz16_7, hcz16_8, hcz16_9, hcz16_10, hcz16_11, hfz16_0, hfz16_1, hfz16_2, hfz16_3, hfz16_4, hfz16_5, hfz16_6, hfz16_7, hfz16_8, hfz16_9, hfz16_10, hfz16_11⟩ := blkA12 BK101.out
      go_wp2
      go_meet
      case rel => exact ⟨_, (true), (by first | rfl | (simp; done) | (simp [*]; done)), H', ⟨by first | omega | exact Nat.le_refl _⟩, ⟨by (with_reducible repeat (first | refine blk_drewN ?_ _ | refine blk_drew ?_ | refine blk_alloc ?_ _)); exact BK101.out⟩, ⟨by repeat (first | (with_reducible first | exact HB.out | apply bwA | apply pwbN | apply bw1 | refine below_set ?_ GE101.out) | exact HB.out)⟩⟩
    case rest =>
     clear HC7
     repeat first|clear c1|clear c2|clear p2|clear c3|clear c3b0|clear c3b1|clear c5|clear c5b0|clear c5b1|clear c6|clear c6b0|clear c6b1|clear c8|clear c14|clear c14b0|clear c14b1|clear hcz11_0|clear hcz11_1|clear hcz11_10|clear hcz11_11|clear hcz11_2|clear hcz11_3|clear hcz11_4|clear hcz11_5|clear hcz11_6|clear hcz11_7|clear hcz11_8|clear hcz11_9|clear hcz13_0|clear hcz13_1|clear hcz13_10|clear hcz13_11|clear hcz13_2|clear hcz13_3|clear hcz13_4|clear hcz13_5|clear hcz13_6|clear hcz13_7|clear hcz13_8|clear hcz13_9|clear hcz15_0|clear hcz15_1|clear hcz15_10|clear hcz15_11|clear hcz15_2|clear hcz15_3|clear hcz15_4|clear hcz15_5|clear hcz15_6|clear hcz15_7|clear hcz15_8|clear hcz15_9|clear hcz16_0|clear hcz16_1|clear hcz16_10|clear hcz16_11|clear hcz16_2|clear hcz16_3|clear hcz16_4|clear hcz16_5|clear hcz16_6|clear hcz16_7|clear hcz16_8|clear hcz16_9|clear hcz9_0|clear hcz9_1|clear hcz9_10|clear hcz9_11|clear hcz9_2|clear hcz9_3|clear hcz9_4|clear hcz9_5|clear hcz9_6|clear hcz9_7|clear hcz9_8|clear hcz9_9|clear hfz11_0|clear hfz11_1|clear hfz11_10|clear hfz11_11|clear hfz11_2|clear hfz11_3|clear hfz11_4|clear hfz11_5|clear hfz11_6|clear hfz11_7|clear hfz11_8|clear hfz11_9|clear hfz13_0|clear hfz13_1|clear hfz13_10|clear hfz13_11|clear hfz13_2|clear hfz13_3|clear hfz13_4|clear hfz13_5|clear hfz13_6|clear hfz13_7|clear hfz13_8|clear hfz13_9|clear hfz15_0|clear hfz15_1|clear hfz15_10|clear hfz15_11|clear hfz15_2|clear hfz15_3|clear hfz15_4|clear hfz15_5|clear hfz15_6|clear hfz15_7|clear hfz15_8|clear hfz15_9|clear hfz16_0|clear hfz16_1|clear hfz16_10|clear hfz16_11|clear hfz16_2|clear hfz16_3|clear hfz16_4|clear hfz16_5|clear hfz16_6|clear hfz16_7|clear hfz16_8|clear hfz16_9|clear hfz9_0|clear hfz9_1|clear hfz9_10|clear hfz9_11|clear hfz9_2|clear hfz9_3|clear hfz9_4|clear hfz9_5|clear hfz9_6|clear hfz9_7|clear hfz9_8|clear hfz9_9
     obtain ⟨kq, x28_6, rfl, HA, HJ6, BK101, HB⟩ := hcut
     cases kq with
     | zero => exact absurd HA.out (by simp [tree_Right.j0])
     | succ kj6 =>
      have H := HA.out
      clear HA
      simp only [tree_Right.j0] at H
      by_cases c17 : x28_6 = true
      ·subst c17
       have H1 : (some 3) = some r := by rw [if_pos rfl] at H; exact H
       clear H
       have H := H1
       clear H1
       obtain rfl := Option.some.inj H
       go_wp2
       go_ret
       exact ⟨by first | rfl | (simp [errW_none, errW_some] <;> rfl) | (simp [*, errW_none, errW_some] <;> rfl), by repeat (first | (with_reducible first | exact HB.out | apply bwA | apply pwbN | apply bw1 | refine below_set ?_ GE101.out) | exact HB.out)⟩
      ·replace c17 := Bool.eq_false_iff.mpr c17
       subst c17
       have H1 : (if (l0_11.length : Int) > 2000 then (some 1) else (some 0)) = some r := by rw [if_neg (show ¬ (false = true) by decide)] at H; exact H
       clear H
       have H := H1
       clear H1
       by_cases c18 : (l0_11.length : Int) > 2000
       ·rw [if_pos c18] at H
        have c18b0 : decide (2000 < (l0_11.length : Int)) = true := decide_eq_true c18
        have c18b1 : decide (2000 < l0_11.length) = true := decide_eq_true (by omega)
        clear c18
        obtain rfl := Option.some.inj H
        obtain ⟨hcz19_0, hcz19_1, hcz19_2, hcz19_3, hcz19_4, hcz19_5, hcz19_6, hcz19_7, hcz19_8, hcz19_9, hcz19_10, hcz19_11, hfz19_0, hfz19_1, hfz19_2, hfz19_3, hfz19_4, hfz19_5, hfz19_6, hfz19_7, hfz19_8, hfz19_9, hfz19_10, hfz19_11⟩ := blkA12 BK101.out
        go_wp2
        go_ret
        exact ⟨by first | rfl | (simp [errW_none, errW_some] <;> rfl) | (simp [*, errW_none, errW_some] <;> rfl), by repeat (first | (with_reducible first | exact HB.out | apply bwA | apply pwbN | apply bw1 | refine below_set ?_ GE101.out) | exact HB.out)⟩
       ·rw [if_neg c18] at H
        have c18b0 : decide (2000 < (l0_11.length : Int)) = false := decide_eq_false c18
        have c18b1 : decide (2000 < l0_11.length) = false := decide_eq_false (by omega)
        clear c18
        obtain rfl := Option.some.inj H
        obtain ⟨hcz20_0, hcz20_1, hcz20_2, hcz20_3, hcz20_4, hcz20_5, hcz20_6, hcz20_7, hcz20_8, hcz20_9, hcz20_10, hcz20_11, hfz20_0, hfz20_1, hfz20_2, hfz20_3, hfz20_4, hfz20_5, hfz20_6, hfz20_7, hfz20_8, hfz20_9, hfz20_10, hfz20_11⟩ := blkA12 BK101.out
        go_wp2
        go_ret
        exact ⟨by first | rfl | (simp [errW_none, errW_some] <;> rfl) | (simp [*, errW_none, errW_some] <;> rfl), by repeat (first | (with_reducible first | exact HB.out | apply bwA | apply pwbN | apply bw1 | refine below_set ?_ GE101.out) | exact HB.out)⟩
   ·rw [if_neg c6] at H
    have c6b0 : (a0_1 == 1) = false := beq_eq_false_iff_ne.mpr c6
    have c6b1 : (a0_1 != 1) = true := bne_iff_ne.mpr c6
    have HC21 := Aside0.mk H
    clear H
    go_enter Tryd.func68, Tryd.ntmps68
    go_upto_if 33 with (first | ((with_reducible refine gate_dst (N := 1) rfl ?_); refine box_event ?hg (N := 1) ?hd (cs := #[.string a0_0, .int .i64 a0_1, .int .i64 a0_2, .string a0_3, .int .i64 a0_4, .int .i64 a0_5, .int .i64 a0_6, .string a0_7, .string a0_8, .int .i64 a0_9, .int .i64 a0_10, .slice A0_11 l0_11.length c0_11]) (t := 45) ?hr ?_; (case hd => rfl); (case hg => rfl); (case hr => first | (go_simp; done) | (go_simp; rfl)); intro gb101 hg w22 hbox hb; have n0_ := Aside0.mk (below_step (by repeat (first | (with_reducible first | exact HB.out | apply bwA | apply pwbN | apply bw1) | exact HB.out)) hb); have n1_ := Aside0.mk (hbox); have n2_ := Aside0.mk ((by rw [hg]; exact (below_size (by repeat (first | (with_reducible first | exact HB.out | apply bwA | apply pwbN | apply bw1) | exact HB.out))) : w.heap.size ≤ gb101)); have n3_ := Aside0.mk ((by rw [hg]; exact (below_size (by repeat (first | (with_reducible first | exact HB.out | apply bwA | apply pwbN | apply bw1) | exact HB.out))) : w.heap.size ≤ gb101)); clear HB; have HB := n0_; have BK101 := n1_; have GW101 := n2_; have GE101 := n3_; clear n0_ n1_ n2_ n3_; clear hb hbox hg; obtain ⟨hcz23_0, hcz23_1, hcz23_2, hcz23_3, hcz23_4, hcz23_5, hcz23_6, hcz23_7, hcz23_8, hcz23_9, hcz23_10, hcz23_11, hfz23_0, hfz23_1, hfz23_2, hfz23_3, hfz23_4, hfz23_5, hfz23_6, hfz23_7, hfz23_8, hfz23_9, hfz23_10, hfz23_11⟩ := blkA12 BK101.out) | ((with_reducible refine gate_callee (f := 28) rfl ?_); refine goesL_ (some 7) rfl rfl Tryd.func28 (by kernel_rfl) rfl #[.string a0_0] rfl (by (try simp only [List.map_toArray, List.map_cons, List.map_nil]); first | done | rfl | (simp only [List.length_drop, List.length_take]; rfl)) ?_; (with_reducible refine (path_Check.calls k a0_0 t102 _ A2.out).mono ?_); rintro e w24 ⟨rfl, hb⟩; refine ⟨_, rfl, ?_⟩; have n0_ := Aside0.mk (blk_below (g := gb101) (o := .cells #[.string a0_0, .int .i64 a0_1, .int .i64 a0_2, .string a0_3, .int .i64 a0_4, .int .i64 a0_5, .int .i64 a0_6, .string a0_7, .string a0_8, .int .i64 a0_9, .int .i64 a0_10, .slice A0_11 l0_11.length c0_11] 45 (0, 0)) (by (with_reducible repeat (first | refine blk_drewN ?_ _ | refine blk_drew ?_ | refine blk_alloc ?_ _)); exact BK101.out) hb); have n1_ := Aside0.mk (below_step (by repeat (first | (with_reducible first | exact HB.out | apply bwA | apply pwbN | apply bw1 | refine below_set ?_ GE101.out) | exact HB.out)) hb); clear BK101; clear HB; have BK101 := n0_; have HB := n1_; clear n0_ n1_; (try clear hb); (try clear hb2); (try clear hk); (try clear hi); obtain ⟨hcz25_0, hcz25_1, hcz25_2, hcz25_3, hcz25_4, hcz25_5, hcz25_6, hcz25_7, hcz25_8, hcz25_9, hcz25_10, hcz25_11, hfz25_0, hfz25_1, hfz25_2, hfz25_3, hfz25_4, hfz25_5, hfz25_6, hfz25_7, hfz25_8, hfz25_9, hfz25_10, hfz25_11⟩ := blkA12 BK101.out) | ((with_reducible refine gate_callee (f := 88) rfl ?_); refine goesL_ (some 13) rfl rfl Tryd.func88 (by kernel_rfl) rfl #[.agg #[.int .i64 a0_4, .int .i64 a0_5, .int .i64 a0_6, .string a0_7, .string a0_8, .int .i64 a0_9, .int .i64 a0_10]] rfl (by (try simp only [List.map_toArray, List.map_cons, List.map_nil]); first | done | rfl | (simp only [List.length_drop, List.length_take]; rfl)) ?_; (with_reducible refine (meta_Check.calls k a0_4 a0_5 a0_6 a0_7 a0_8 a0_9 a0_10 t103 _ A4.out).mono ?_); rintro e w26 ⟨rfl, hb⟩; refine ⟨_, rfl, ?_⟩; have n0_ := Aside0.mk (blk_below (g := gb101) (o := .cells #[.string a0_0, .int .i64 a0_1, .int .i64 a0_2, .string a0_3, .int .i64 a0_4, .int .i64 a0_5, .int .i64 a0_6, .string a0_7, .string a0_8, .int .i64 a0_9, .int .i64 a0_10, .slice A0_11 l0_11.length c0_11] 45 (0, 0)) (by (with_reducible repeat (first | refine blk_drewN ?_ _ | refine blk_drew ?_ | refine blk_alloc ?_ _)); exact BK101.out) hb); have n1_ := Aside0.mk (below_step (by repeat (first | (with_reducible first | exact HB.out | apply bwA | apply pwbN | apply bw1 | refine below_set ?_ GE101.out) | exact HB.out)) hb); clear BK101; clear HB; have BK101 := n0_; have HB := n1_; clear n0_ n1_; (try clear hb); (try clear hb2); (try clear hk); (try clear hi); obtain ⟨hcz27_0, hcz27_1, hcz27_2, hcz27_3, hcz27_4, hcz27_5, hcz27_6, hcz27_7, hcz27_8, hcz27_9, hcz27_10, hcz27_11, hfz27_0, hfz27_1, hfz27_2, hfz27_3, hfz27_4, hfz27_5, hfz27_6, hfz27_7, hfz27_8, hfz27_9, hfz27_10, hfz27_11⟩ := blkA12 BK101.out))
    (try simp only [Act.put, List.setIfInBounds_toArray, List.set_cons_zero, List.set_cons_succ])
    go_cut [33] (fun v33 wc => ∃ (kq : Nat) (x33_20 : Bool), v33 = .bool x33_20 ∧ Aside0 (tree_Right.j1 kq x33_20 a0_0 a0_1 a0_2 a0_3 a0_4 a0_5 a0_6 a0_7 a0_8 a0_9 a0_10 l0_11 = some r) ∧ Aside0 (kq ≤ k) ∧ Aside0 (wc.heap[gb101]? = some (.cells #[.string a0_0, .int .i64 a0_1, .int .i64 a0_2, .string a0_3, .int .i64 a0_4, .int .i64 a0_5, .int .i64 a0_6, .string a0_7, .string a0_8, .int .i64 a0_9, .int .i64 a0_10, (.slice A0_11 l0_11.length c0_11)] 45 (0, 0))) ∧ Aside0 (Below w.heap.size w wc))
    case first =>
     have H := HC21.out
     clear HC21
     by_cases c28 : a0_1 = 2
     ·rw [if_pos c28] at H
      have c28b0 : (a0_1 == 2) = true := beq_iff_eq.mpr c28
      have c28b1 : (a0_1 != 2) = false := bne_eq_false_iff_eq.mpr c28
      clear c28
      (first | rw [c28b0] | (simp only [i64_w, i32_w]; rw [c28b0]) | skip)
      have H' := Aside0.mk H
      clear H
      go_wp2
      go_meet
      case rel => exact ⟨_, ((a0_1 == 2)), (by first | rfl | (simp; done) | (simp [*]; done)), H', ⟨by first | omega | exact Nat.le_refl _⟩, ⟨by (with_reducible repeat (first | refine blk_drewN ?_ _ | refine blk_drew ?_ | refine blk_alloc ?_ _)); exact BK101.out⟩, ⟨by repeat (first | (with_reducible first | exact HB.out | apply bwA | apply pwbN | apply bw1 | refine below_set ?_ GE101.out) | exact HB.out)⟩⟩
     ·rw [if_neg c28] at H
      have c28b0 : (a0_1 == 2) = false := beq_eq_false_iff_ne.mpr c28
      have c28b1 : (a0_1 != 2) = true := bne_iff_ne.mpr c28
      (first | rw [c28b0] | (simp only [i64_w, i32_w]; rw [c28b0]) | skip)
      have H' := Aside0.mk H
      clear H
      go_wp2
      go_meet
      case rel => exact ⟨_, ((a0_1 == 3)), (by first | rfl | (simp; done) | (simp [*]; done)), H', ⟨by first | omega | exact Nat.le_refl _⟩, ⟨by (with_reducible repeat (first | refine blk_drewN ?_ _ | refine blk_drew ?_ | refine blk_alloc ?_ _)); exact BK101.out⟩, ⟨by repeat (first | (with_reducible first | exact HB.out | apply bwA | apply pwbN | apply bw1 | refine below_set ?_ GE101.out) | exact HB.out)⟩⟩
    case rest =>
     clear HC21
     repeat first|clear c1|clear c2|clear p2|clear c3|clear c3b0|clear c3b1|clear c5|clear c5b0|clear c5b1|clear c6|clear c6b0|clear c6b1|clear c8|clear c14|clear c14b0|clear c14b1|clear c17|clear c18|clear c18b0|clear c18b1|clear c28|clear c28b0|clear c28b1|clear hcz11_0|clear hcz11_1|clear hcz11_10|clear hcz11_11|clear hcz11_2|clear hcz11_3|clear hcz11_4|clear hcz11_5|clear hcz11_6|clear hcz11_7|clear hcz11_8|clear hcz11_9|clear hcz13_0|clear hcz13_1|clear hcz13_10|clear hcz13_11|clear hcz13_2|clear hcz13_3|clear hcz13_4|clear hcz13_5|clear hcz13_6|clear hcz13_7|clear hcz13_8|clear hcz13_9|clear hcz15_0|clear hcz15_1|clear hcz15_10|clear hcz15_11|clear hcz15_2|clear hcz15_3|clear hcz15_4|clear hcz15_5|clear hcz15_6|clear hcz15_7|clear hcz15_8|clear hcz15_9|clear hcz16_0|clear hcz16_1|clear hcz16_10|clear hcz16_11|clear hcz16_2|clear hcz16_3|clear hcz16_4|clear hcz16_5|clear hcz16_6|clear hcz16_7|clear hcz16_8|clear hcz16_9|clear hcz19_0|clear hcz19_1|clear hcz19_10|clear hcz19_11|clear hcz19_2|clear hcz19_3|clear hcz19_4|clear hcz19_5|clear hcz19_6|clear hcz19_7|clear hcz19_8|clear hcz19_9|clear hcz20_0|clear hcz20_1|clear hcz20_10|clear hcz20_11|clear hcz20_2|clear hcz20_3|clear hcz20_4|clear hcz20_5|clear hcz20_6|clear hcz20_7|clear hcz20_8|clear hcz20_9|clear hcz23_0|clear hcz23_1|clear hcz23_10|clear hcz23_11|clear hcz23_2|clear hcz23_3|clear hcz23_4|clear hcz23_5|clear hcz23_6|clear hcz23_7|clear hcz23_8|clear hcz23_9|clear hcz25_0|clear hcz25_1|clear hcz25_10|clear hcz25_11|clear hcz25_2|clear hcz25_3|clear hcz25_4|clear hcz25_5|clear hcz25_6|clear hcz25_7|clear hcz25_8|clear hcz25_9|clear hcz27_0|clear hcz27_1|clear hcz27_10|clear hcz27_11|clear hcz27_2|clear hcz27_3|clear hcz27_4|clear hcz27_5|clear hcz27_6|clear hcz27_7|clear hcz27_8|clear hcz27_9|clear hcz9_0|clear hcz9_1|clear hcz9_10|clear hcz9_11|clear hcz9_2|clear hcz9_3|clear hcz9_4|clear hcz9_5|clear hcz9_6|clear hcz9_7|clear hcz9_8|clear hcz9_9|clear hfz11_0|clear hfz11_1|clear hfz11_10|clear hfz11_11|clear hfz11_2|clear hfz11_3|clear hfz11_4|clear hfz11_5|clear hfz11_6|clear hfz11_7|clear hfz11_8|clear hfz11_9|clear hfz13_0|clear hfz13_1|clear hfz13_10|clear hfz13_11|clear hfz13_2|clear hfz13_3|clear hfz13_4|clear hfz13_5|clear hfz13_6|clear hfz13_7|clear hfz13_8|clear hfz13_9|clear hfz15_0|clear hfz15_1|clear hfz15_10|clear hfz15_11|clear hfz15_2|clear hfz15_3|clear hfz15_4|clear hfz15_5|clear hfz15_6|clear hfz15_7|clear hfz15_8|clear hfz15_9|clear hfz16_0|clear hfz16_1|clear hfz16_10|clear hfz16_11|clear hfz16_2|clear hfz16_3|clear hfz16_4|clear hfz16_5|clear hfz16_6|clear hfz16_7|clear hfz16_8|clear hfz16_9|clear hfz19_0|clear hfz19_1|clear hfz19_10|clear hfz19_11|clear hfz19_2|clear hfz19_3|clear hfz19_4|clear hfz19_5|clear hfz19_6|clear hfz19_7|clear hfz19_8|clear hfz19_9|clear hfz20_0|clear hfz20_1|clear hfz20_10|clear hfz20_11|clear hfz20_2|clear hfz20_3|clear hfz20_4|clear hfz20_5|clear hfz20_6|clear hfz20_7|clear hfz20_8|clear hfz20_9|clear hfz23_0|clear hfz23_1|clear hfz23_10|clear hfz23_11|clear hfz23_2|clear hfz23_3|clear hfz23_4|clear hfz23_5|clear hfz23_6|clear hfz23_7|clear hfz23_8|clear hfz23_9|clear hfz25_0|clear hfz25_1|clear hfz25_10|clear hfz25_11|clear hfz25_2|clear hfz25_3|clear hfz25_4|clear hfz25_5|clear hfz25_6|clear hfz25_7|clear hfz25_8|clear hfz25_9|clear hfz27_0|clear hfz27_1|clear hfz27_10|clear hfz27_11|clear hfz27_2|clear hfz27_3|clear hfz27_4|clear hfz27_5|clear hfz27_6|clear hfz27_7|clear hfz27_8|clear hfz27_9|clear hfz9_0|clear hfz9_1|clear hfz9_10|clear hfz9_11|clear hfz9_2|clear hfz9_3|clear hfz9_4|clear hfz9_5|clear hfz9_6|clear hfz9_7|clear hfz9_8|clear hfz9_9|clear p2
     obtain ⟨kq, x33_20, rfl, HA, HJ20, BK101, HB⟩ := hcut
     cases kq with
     | zero => exact absurd HA.out (by simp [tree_Right.j1])
     | succ kj20 =>
      have H := HA.out
      clear HA
      simp only [tree_Right.j1] at H
      by_cases c29 : x33_20 = true
      ·subst c29
       have H1 : (if (l0_11.length : Int) > 0 then (tree_Right.j2 kj20 true a0_0 a0_1 a0_2 a0_3 a0_4 a0_5 a0_6 a0_7 a0_8 a0_9 a0_10 l0_11) else (tree_Right.j2 kj20 (a0_2 != 0) a0_0 a0_1 a0_2 a0_3 a0_4 a0_5 a0_6 a0_7 a0_8 a0_9 a0_10 l0_11)) = some r := by rw [if_pos rfl] at H; exact H
       clear H
       have H := H1
       clear H1
       have HC30 := Aside0.mk H
       clear H
       go_upto_region 16 with (fail)
       go_cut [44] (fun v44 wc => ∃ (kq : Nat) (x44_29 : Bool), v44 = .bool x44_29 ∧ Aside0 (tree_Right.j2 kq x44_29 a0_0 a0_1 a0_2 a0_3 a0_4 a0_5 a0_6 a0_7 a0_8 a0_9 a0_10 l0_11 = some r) ∧ Aside0 (kq ≤ kj20) ∧ Aside0 (wc.heap[gb101]? = some (.cells #[.string a0_0, .int .i64 a0_1, .int .i64 a0_2, .string a0_3, .int .i64 a0_4, .int .i64 a0_5, .int .i64 a0_6, .string a0_7, .string a0_8, .int .i64 a0_9, .int .i64 a0_10, (.slice A0_11 l0_11.length c0_11)] 45 (0, 0))) ∧ Aside0 (Below w.heap.size w wc))
       case first =>
        have H := HC30.out
        clear HC30
        by_cases c31 : (l0_11.length : Int) > 0
        ·rw [if_pos c31] at H
         have c31b0 : decide (0 < (l0_11.length : Int)) = true := decide_eq_true c31
         have c31b1 : decide (0 < l0_11.length) = true := decide_eq_true (by omega)
         clear c31
         (first | rw [c31b0] | (simp only [i64_w, i32_w]; rw [c31b0]) | skip)
         have H' := Aside0.mk H
         clear H
         obtain ⟨hcz32_0, hcz32_1, hcz32_2, hcz32_3, hcz32_4, hcz32_5, hcz32_6, hcz32_7, hcz32_8, hcz32_9, hcz32_10, hcz32_11, hfz32_0, hfz32_1, hfz32_2, hfz32_3, hfz32_4, hfz32_5, hfz32_6, hfz32_7, hfz32_8, hfz32_9, hfz32_10, hfz32_11⟩ := blkA12 BK101.out
         go_wp2
         go_meet
         case rel => exact ⟨_, (true), (by first | rfl | (simp; done) | (simp [*]; done)), H', ⟨by have := HJ20.out; first | omega | exact Nat.le_refl _⟩, ⟨by (with_reducible repeat (first | refine blk_drewN ?_ _ | refine blk_drew ?_ | refine blk_alloc ?_ _)); exact BK101.out⟩, ⟨by repeat (first | (with_reducible first | exact HB.out | apply bwA | apply pwbN | apply bw1 | refine below_set ?_ GE101.out) | exact HB.out)⟩⟩
        ·rw [if_neg c31] at H
         have c31b0 : decide (0 < (l0_11.length : Int)) = false := decide_eq_false c31
         have c31b1 : decide (0 < l0_11.length) = false := decide_eq_false (by omega)
         clear c31
         (first | rw [c31b0] | (simp only [i64_w, i32_w]; rw [c31b0]) | skip)
         have H' := Aside0.mk H
         clear H
         obtain ⟨hcz33_0, hcz33_1, hcz33_2, hcz33_3, hcz33_4, hcz33_5, hcz33_6, hcz33_7, hcz33_8, hcz33_9, hcz33_10, hcz33_11, hfz33_0, hfz33_1, hfz33_2, hfz33_3, hfz33_4, hfz33_5, hfz33_6, hfz33_7, hfz33_8, hfz33_9, hfz33_10, hfz33_11⟩ := blkA12 BK101.out
         go_wp2
         go_meet
         case rel => exact ⟨_, ((a0_2 != 0)), (by first | rfl | (simp; done) | (simp [*]; done)), H', ⟨by have := HJ20.out; first | omega | exact Nat.le_refl _⟩, ⟨by (with_reducible repeat (first | refine blk_drewN ?_ _ | refine blk_drew ?_ | refine blk_alloc ?_ _)); exact BK101.out⟩, ⟨by repeat (first | (with_reducible first | exact HB.out | apply bwA | apply pwbN | apply bw1 | refine below_set ?_ GE101.out) | exact HB.out)⟩⟩
       case rest =>
        clear HC30
        repeat first|clear c1|clear c2|clear p2|clear c3|clear c3b0|clear c3b1|clear c5|clear c5b0|clear c5b1|clear c6|clear c6b0|clear c6b1|clear c8|clear c14|clear c14b0|clear c14b1|clear c17|clear c18|clear c18b0|clear c18b1|clear c28|clear c28b0|clear c28b1|clear c29|clear c31|clear c31b0|clear c31b1|clear hcz11_0|clear hcz11_1|clear hcz11_10|clear hcz11_11|clear hcz11_2|clear hcz11_3|clear hcz11_4|clear hcz11_5|clear hcz11_6|clear hcz11_7|clear hcz11_8|clear hcz11_9|clear hcz13_0|clear hcz13_1|clear hcz13_10|clear hcz13_11|clear hcz13_2|clear hcz13_3|clear hcz13_4|clear hcz13_5|clear hcz13_6|clear hcz13_7|clear hcz13_8|clear hcz13_9|clear hcz15_0|clear hcz15_1|clear hcz15_10|clear hcz15_11|clear hcz15_2|clear hcz15_3|clear hcz15_4|clear hcz15_5|clear hcz15_6|clear hcz15_7|clear hcz15_8|clear hcz15_9|clear hcz16_0|clear hcz16_1|clear hcz16_10|clear hcz16_11|clear hcz16_2|clear hcz16_3|clear hcz16_4|clear hcz16_5|clear hcz16_6|clear hcz16_7|clear hcz16_8|clear hcz16_9|clear hcz19_0|clear hcz19_1|clear hcz19_10|clear hcz19_11|clear hcz19_2|clear hcz19_3|clear hcz19_4|clear hcz19_5|clear hcz19_6|clear hcz19_7|clear hcz19_8|clear hcz19_9|clear hcz20_0|clear hcz20_1|clear hcz20_10|clear hcz20_11|clear hcz20_2|clear hcz20_3|clear hcz20_4|clear hcz20_5|clear hcz20_6|clear hcz20_7|clear hcz20_8|clear hcz20_9|clear hcz23_0|clear hcz23_1|clear hcz23_10|clear hcz23_11|clear hcz23_2|clear hcz23_3|clear hcz23_4|clear hcz23_5|clear hcz23_6|clear hcz23_7|clear hcz23_8|clear hcz23_9|clear hcz25_0|clear hcz25_1|clear hcz25_10|clear hcz25_11|clear hcz25_2|clear hcz25_3|clear hcz25_4|clear hcz25_5|clear hcz25_6|clear hcz25_7|clear hcz25_8|clear hcz25_9|clear hcz27_0|clear hcz27_1|clear hcz27_10|clear hcz27_11|clear hcz27_2|clear hcz27_3|clear hcz27_4|clear hcz27_5|clear hcz27_6|clear hcz27_7|clear hcz27_8|clear hcz27_9|clear hcz32_0|clear hcz32_1|clear hcz32_10|clear hcz32_11|clear hcz32_2|clear hcz32_3|clear hcz32_4|clear hcz32_5|clear hcz32_6|clear hcz32_7|clear hcz32_8|clear hcz32_9|clear hcz33_0|clear hcz33_1|clear hcz33_10|clear hcz33_11|clear hcz33_2|clear hcz33_3|clear hcz33_4|clear hcz33_5|clear hcz33_6|clear hcz33_7|clear hcz33_8|clear hcz33_9|clear hcz9_0|clear hcz9_1|clear hcz9_10|clear hcz9_11|clear hcz9_2|clear hcz9_3|clear hcz9_4|clear hcz9_5|clear hcz9_6|clear hcz9_7|clear hcz9_8|clear hcz9_9|clear hfz11_0|clear hfz11_1|clear hfz11_10|clear hfz11_11|clear hfz11_2|clear hfz11_3|clear hfz11_4|clear hfz11_5|clear hfz11_6|clear hfz11_7|clear hfz11_8|clear hfz11_9|clear hfz13_0|clear hfz13_1|clear hfz13_10|clear hfz13_11|clear hfz13_2|clear hfz13_3|clear hfz13_4|clear hfz13_5|clear hfz13_6|clear hfz13_7|clear hfz13_8|clear hfz13_9|clear hfz15_0|clear hfz15_1|clear hfz15_10|clear hfz15_11|clear hfz15_2|clear hfz15_3|clear hfz15_4|clear hfz15_5|clear hfz15_6|clear hfz15_7|clear hfz15_8|clear hfz15_9|clear hfz16_0|clear hfz16_1|clear hfz16_10|clear hfz16_11|clear hfz16_2|clear hfz16_3|clear hfz16_4|clear hfz16_5|clear hfz16_6|clear hfz16_7|clear hfz16_8|clear hfz16_9|clear hfz19_0|clear hfz19_1|clear hfz19_10|clear hfz19_11|clear hfz19_2|clear hfz19_3|clear hfz19_4|clear hfz19_5|clear hfz19_6|clear hfz19_7|clear hfz19_8|clear hfz19_9|clear hfz20_0|clear hfz20_1|clear hfz20_10|clear hfz20_11|clear hfz20_2|clear hfz20_3|clear hfz20_4|clear hfz20_5|clear hfz20_6|clear hfz20_7|clear hfz20_8|clear hfz20_9|clear hfz23_0|clear hfz23_1|clear hfz23_10|clear hfz23_11|clear hfz23_2|clear hfz23_3|clear hfz23_4|clear hfz23_5|clear hfz23_6|clear hfz23_7|clear hfz23_8|clear hfz23_9|clear hfz25_0|clear hfz25_1|clear hfz25_10|clear hfz25_11|clear hfz25_2|clear hfz25_3|clear hfz25_4|clear hfz25_5|clear hfz25_6|clear hfz25_7|clear hfz25_8|clear hfz25_9|clear hfz27_0|clear hfz27_1|clear hfz27_10|clear hfz27_11|clear hfz27_2|clear hfz27_3|clear hfz27_4|clear hfz27_5|clear hfz27_6|clear hfz27_7|clear hfz27_8|clear hfz27_9|clear hfz32_0|clear hfz32_1|clear hfz32_10|clear hfz32_11|clear hfz32_2|clear hfz32_3|clear hfz32_4|clear hfz32_5|clear hfz32_6|clear hfz32_7|clear hfz32_8|clear hfz32_9|clear hfz33_0|clear hfz33_1|clear hfz33_10|clear hfz33_11|clear hfz33_2|clear hfz33_3|clear hfz33_4|clear hfz33_5|clear hfz33_6|clear hfz33_7|clear hfz33_8|clear hfz33_9|clear hfz9_0|clear hfz9_1|clear hfz9_10|clear hfz9_11|clear hfz9_2|clear hfz9_3|clear hfz9_4|clear hfz9_5|clear hfz9_6|clear hfz9_7|clear hfz9_8|clear hfz9_9|clear p2
        obtain ⟨kq, x44_29, rfl, HA, HJ29, BK101, HB⟩ := hcut
        cases kq with
        | zero => exact absurd HA.out (by simp [tree_Right.j2])
        | succ kj29 =>
         have H := HA.out
         clear HA
         simp only [tree_Right.j2] at H
         by_cases c34 : x44_29 = true
         ·subst c34
          have H1 : (some 3) = some r := by rw [if_pos rfl] at H; exact H
          clear H
          have H := H1
          clear H1
          obtain rfl := Option.some.inj H
          go_wp2
          go_ret
          exact ⟨by first | rfl | (simp [errW_none, errW_some] <;> rfl) | (simp [*, errW_none, errW_some] <;> rfl), by repeat (first | (with_reducible first | exact HB.out | apply bwA | apply pwbN | apply bw1 | refine below_set ?_ GE101.out) | exact HB.out)⟩
         ·replace c34 := Bool.eq_false_iff.mpr c34
          subst c34
          have H1 : (if a0_1 = 2 then (if a0_3.toList = ([] : List UInt8) then (if a0_1 = 3 then (tree_Right.j3 kj29 true a0_0 a0_1 a0_2 a0_3 a0_4 a0_5 a0_6 a0_7 a0_8 a0_9 a0_10 l0_11) else (tree_Right.j3 kj29 false a0_0 a0_1 a0_2 a0_3 a0_4 a0_5 a0_6 a0_7 a0_8 a0_9 a0_10 l0_11)) else (tree_Right.j3 kj29 true a0_0 a0_1 a0_2 a0_3 a0_4 a0_5 a0_6 a0_7 a0_8 a0_9 a0_10 l0_11)) else (if a0_1 = 3 then (if a0_3.toList = ([] : List UInt8) then (tree_Right.j3 kj29 true a0_0 a0_1 a0_2 a0_3 a0_4 a0_5 a0_6 a0_7 a0_8 a0_9 a0_10 l0_11) else ((strings_IndexByte.f a0_3 0).bind fun t104 => (tree_Right.j3 kj29 (decide (t104 ≥ 0)) a0_0 a0_1 a0_2 a0_3 a0_4 a0_5 a0_6 a0_7 a0_8 a0_9 a0_10 l0_11))) else (tree_Right.j3 kj29 false a0_0 a0_1 a0_2 a0_3 a0_4 a0_5 a0_6 a0_7 a0_8 a0_9 a0_10 l0_11))) = some r := by rw [if_neg (show ¬ (false = true) by decide)] at H; exact H
          clear H
          have H := H1
          clear H1
          have HC35 := Aside0.mk H
          clear H
          go_upto_region 18 with (fail)
          go_cut [68] (fun v68 wc => ∃ (kq : Nat) (x68_34 : Bool), v68 = .bool x68_34 ∧ Aside0 (tree_Right.j3 kq x68_34 a0_0 a0_1 a0_2 a0_3 a0_4 a0_5 a0_6 a0_7 a0_8 a0_9 a0_10 l0_11 = some r) ∧ Aside0 (kq ≤ kj29) ∧ Aside0 (wc.heap[gb101]? = some (.cells #[.string a0_0, .int .i64 a0_1, .int .i64 a0_2, .string a0_3, .int .i64 a0_4, .int .i64 a0_5, .int .i64 a0_6, .string a0_7, .string a0_8, .int .i64 a0_9, .int .i64 a0_10, (.slice A0_11 l0_11.length c0_11)] 45 (0, 0))) ∧ Aside0 (Below w.heap.size w wc))
          case first =>
           have H := HC35.out
           clear HC35
           by_cases c36 : a0_1 = 2
           ·rw [if_pos c36] at H
            have c36b0 : (a0_1 == 2) = true := beq_iff_eq.mpr c36
            have c36b1 : (a0_1 != 2) = false := bne_eq_false_iff_eq.mpr c36
            clear c36
            (first | rw [c36b0] | (simp only [i64_w, i32_w]; rw [c36b0]) | skip)
            by_cases c37 : a0_3.toList = ([] : List UInt8)
            ·rw [if_pos c37] at H
             have c37b0 : (a0_3.toList == ([] : List UInt8)) = true := beq_iff_eq.mpr c37
             have c37b1 : (a0_3.toList != ([] : List UInt8)) = false := bne_eq_false_iff_eq.mpr c37
             clear c37
             by_cases c38 : a0_1 = 3
             ·rw [if_pos c38] at H
              have c38b0 : (a0_1 == 3) = true := beq_iff_eq.mpr c38
              have c38b1 : (a0_1 != 3) = false := bne_eq_false_iff_eq.mpr c38
              clear c38
              have H' := Aside0.mk H
              clear H
              obtain ⟨hcz39_0, hcz39_1, hcz39_2, hcz39_3, hcz39_4, hcz39_5, hcz39_6, hcz39_7, hcz39_8, hcz39_9, hcz39_10, hcz39_11, hfz39_0, hfz39_1, hfz39_2, hfz39_3, hfz39_4, hfz39_5, hfz39_6, hfz39_7, hfz39_8, hfz39_9, hfz39_10, hfz39_11⟩ := blkA12 BK101.out
              go_wp2
              go_meet
              case rel => exact ⟨_, (true), (by first | rfl | (simp; done) | (simp [*]; done)), H', ⟨by have := HJ20.out; have := HJ29.out; first | omega | exact Nat.le_refl _⟩, ⟨by (with_reducible repeat (first | refine blk_drewN ?_ _ | refine blk_drew ?_ | refine blk_alloc ?_ _)); exact BK101.out⟩, ⟨by repeat (first | (with_reducible first | exact HB.out | apply bwA | apply pwbN | apply bw1 | refine below_set ?_ GE101.out) | exact HB.out)⟩⟩
             ·rw [if_neg c38] at H
              have c38b0 : (a0_1 == 3) = false := beq_eq_false_iff_ne.mpr c38
              have c38b1 : (a0_1 != 3) = true := bne_iff_ne.mpr c38
              have H' := Aside0.mk H
              clear H
              obtain ⟨hcz40_0, hcz40_1, hcz40_2, hcz40_3, hcz40_4, hcz40_5, hcz40_6, hcz40_7, hcz40_8, hcz40_9, hcz40_10, hcz40_11, hfz40_0, hfz40_1, hfz40_2, hfz40_3, hfz40_4, hfz40_5, hfz40_6, hfz40_7, hfz40_8, hfz40_9, hfz40_10, hfz40_11⟩ := blkA12 BK101.out
              go_wp2
              go_meet
              case rel => exact ⟨_, (false), (by first | rfl | (simp; done) | (simp [*]; done)), H', ⟨by have := HJ20.out; have := HJ29.out; first | omega | exact Nat.le_refl _⟩, ⟨by (with_reducible repeat (first | refine blk_drewN ?_ _ | refine blk_drew ?_ | refine blk_alloc ?_ _)); exact BK101.out⟩, ⟨by repeat (first | (with_reducible first | exact HB.out | apply bwA | apply pwbN | apply bw1 | refine below_set ?_ GE101.out) | exact HB.out)⟩⟩
            ·rw [if_neg c37] at H
             have c37b0 : (a0_3.toList == ([] : List UInt8)) = false := beq_eq_false_iff_ne.mpr c37
             have c37b1 : (a0_3.toList != ([] : List UInt8)) = true := bne_iff_ne.mpr c37
             have H' := Aside0.mk H
             clear H
             obtain ⟨hcz41_0, hcz41_1, hcz41_2, hcz41_3, hcz41_4, hcz41_5, hcz41_6, hcz41_7, hcz41_8, hcz41_9, hcz41_10, hcz41_11, hfz41_0, hfz41_1, hfz41_2, hfz41_3, hfz41_4, hfz41_5, hfz41_6, hfz41_7, hfz41_8, hfz41_9, hfz41_10, hfz41_11⟩ := blkA12 BK101.out
             go_wp2
             go_meet
             case rel => exact ⟨_, (true), (by first | rfl | (simp; done) | (simp [*]; done)), H', ⟨by have := HJ20.out; have := HJ29.out; first | omega | exact Nat.le_refl _⟩, ⟨by (with_reducible repeat (first | refine blk_drewN ?_ _ | refine blk_drew ?_ | refine blk_alloc ?_ _)); exact BK101.out⟩, ⟨by repeat (first | (with_reducible first | exact HB.out | apply bwA | apply pwbN | apply bw1 | refine below_set ?_ GE101.out) | exact HB.out)⟩⟩
           ·rw [if_neg c36] at H
            have c36b0 : (a0_1 == 2) = false := beq_eq_false_iff_ne.mpr c36
            have c36b1 : (a0_1 != 2) = true := bne_iff_ne.mpr c36
            (first | rw [c36b0] | (simp only [i64_w, i32_w]; rw [c36b0]) | skip)
            by_cases c42 : a0_1 = 3
            ·rw [if_pos c42] at H
             have c42b0 : (a0_1 == 3) = true := beq_iff_eq.mpr c42
             have c42b1 : (a0_1 != 3) = false := bne_eq_false_iff_eq.mpr c42
             clear c42
             by_cases c43 : a0_3.toList = ([] : List UInt8)
             ·rw [if_pos c43] at H
              have c43b0 : (a0_3.toList == ([] : List UInt8)) = true := beq_iff_eq.mpr c43
              have c43b1 : (a0_3.toList != ([] : List UInt8)) = false := bne_eq_false_iff_eq.mpr c43
              clear c43
              have H' := Aside0.mk H
              clear H
              obtain ⟨hcz44_0, hcz44_1, hcz44_2, hcz44_3, hcz44_4, hcz44_5, hcz44_6, hcz44_7, hcz44_8, hcz44_9, hcz44_10, hcz44_11, hfz44_0, hfz44_1, hfz44_2, hfz44_3, hfz44_4, hfz44_5, hfz44_6, hfz44_7, hfz44_8, hfz44_9, hfz44_10, hfz44_11⟩ := blkA12 BK101.out
              go_wp2
              go_meet
              case rel => exact ⟨_, (true), (by first | rfl | (simp; done) | (simp [*]; done)), H', ⟨by have := HJ20.out; have := HJ29.out; first | omega | exact Nat.le_refl _⟩, ⟨by (with_reducible repeat (first | refine blk_drewN ?_ _ | refine blk_drew ?_ | refine blk_alloc ?_ _)); exact BK101.out⟩, ⟨by repeat (first | (with_reducible first | exact HB.out | apply bwA | apply pwbN | apply bw1 | refine below_set ?_ GE101.out) | exact HB.out)⟩⟩
             ·rw [if_neg c43] at H
              have c43b0 : (a0_3.toList == ([] : List UInt8)) = false := beq_eq_false_iff_ne.mpr c43
              have c43b1 : (a0_3.toList != ([] : List UInt8)) = true := bne_iff_ne.mpr c43
              replace H := Option.bind_eq_some_iff.mp H
              obtain ⟨t104, A450, H⟩ := H
              replace H : (tree_Right.j3 kj29 (decide (t104 ≥ 0)) a0_0 a0_1 a0_2 a0_3 a0_4 a0_5 a0_6 a0_7 a0_8 a0_9 a0_10 l0_11) = some r := H
              have A45 := Aside0.mk A450
              clear A450
              have H' := Aside0.mk H
              clear H
              obtain ⟨hcz46_0, hcz46_1, hcz46_2, hcz46_3, hcz46_4, hcz46_5, hcz46_6, hcz46_7, hcz46_8, hcz46_9, hcz46_10, hcz46_11, hfz46_0, hfz46_1, hfz46_2, hfz46_3, hfz46_4, hfz46_5, hfz46_6, hfz46_7, hfz46_8, hfz46_9, hfz46_10, hfz46_11⟩ := blkA12 BK101.out
              go_wp2_with (first | (go_at_call 59; (with_reducible refine (strings_IndexByte.calls a0_3 0 t104 _ A45.out).mono ?_); rintro e w' ⟨rfl, ⟨nd, rfl⟩⟩))
              go_meet
              case rel => exact ⟨_, (decide (t104 ≥ 0)), (by first | rfl | (simp; done) | (simp [*]; done)), H', ⟨by have := HJ20.out; have := HJ29.out; first | omega | exact Nat.le_refl _⟩, ⟨by (with_reducible repeat (first | refine blk_drewN ?_ _ | refine blk_drew ?_ | refine blk_alloc ?_ _)); exact BK101.out⟩, ⟨by repeat (first | (with_reducible first | exact HB.out | apply bwA | apply pwbN | apply bw1 | refine below_set ?_ GE101.out) | exact HB.out)⟩⟩
            ·rw [if_neg c42] at H
             have c42b0 : (a0_1 == 3) = false := beq_eq_false_iff_ne.mpr c42
             have c42b1 : (a0_1 != 3) = true := bne_iff_ne.mpr c42
             have H' := Aside0.mk H
             clear H
             obtain ⟨hcz47_0, hcz47_1, hcz47_2, hcz47_3, hcz47_4, hcz47_5, hcz47_6, hcz47_7, hcz47_8, hcz47_9, hcz47_10, hcz47_11, hfz47_0, hfz47_1, hfz47_2, hfz47_3, hfz47_4, hfz47_5, hfz47_6, hfz47_7, hfz47_8, hfz47_9, hfz47_10, hfz47_11⟩ := blkA12 BK101.out
             go_wp2
             go_meet
             case rel => exact ⟨_, (false), (by first | rfl | (simp; done) | (simp [*]; done)), H', ⟨by have := HJ20.out; have := HJ29.out; first | omega | exact Nat.le_refl _⟩, ⟨by (with_reducible repeat (first | refine blk_drewN ?_ _ | refine blk_drew ?_ | refine blk_alloc ?_ _)); exact BK101.out⟩, ⟨by repeat (first | (with_reducible first | exact HB.out | apply bwA | apply pwbN | apply bw1 | refine below_set ?_ GE101.out) | exact HB.out)⟩⟩
          case rest =>
           clear HC35
           repeat first|clear c1|clear c2|clear p2|clear c3|clear c3b0|clear c3b1|clear c4|clear c5|clear c5b0|clear c5b1|clear c6|clear c6b0|clear c6b1|clear c8|clear c14|clear c14b0|clear c14b1|clear c17|clear c18|clear c18b0|clear c18b1|clear c28|clear c28b0|clear c28b1|clear c29|clear c31|clear c31b0|clear c31b1|clear c34|clear c36|clear c36b0|clear c36b1|clear c37|clear c37b0|clear c37b1|clear c38|clear c38b0|clear c38b1|clear c42|clear c42b0|clear c42b1|clear c43|clear c43b0|clear c43b1|clear hcz11_0|clear hcz11_1|clear hcz11_10|clear hcz11_11|clear hcz11_2|clear hcz11_3|clear hcz11_4|clear hcz11_5|clear hcz11_6|clear hcz11_7|clear hcz11_8|clear hcz11_9|clear hcz13_0|clear hcz13_1|clear hcz13_10|clear hcz13_11|clear hcz13_2|clear hcz13_3|clear hcz13_4|clear hcz13_5|clear hcz13_6|clear hcz13_7|clear hcz13_8|clear hcz13_9|clear hcz15_0|clear hcz15_1|clear hcz15_10|clear hcz15_11|clear hcz15_2|clear hcz15_3|clear hcz15_4|clear hcz15_5|clear hcz15_6|clear hcz15_7|clear hcz15_8|clear hcz15_9|clear hcz16_0|clear hcz16_1|clear hcz16_10|clear hcz16_11|clear hcz16_2|clear hcz16_3|clear hcz16_4|clear hcz16_5|clear hcz16_6|clear hcz16_7|clear hcz16_8|clear hcz16_9|clear hcz19_0|clear hcz19_1|clear hcz19_10|clear hcz19_11|clear hcz19_2|clear hcz19_3|clear hcz19_4|clear hcz19_5|clear hcz19_6|clear hcz19_7|clear hcz19_8|clear hcz19_9|clear hcz20_0|clear hcz20_1|clear hcz20_10|clear hcz20_11|clear hcz20_2|clear hcz20_3|clear hcz20_4|clear hcz20_5|clear hcz20_6|clear hcz20_7|clear hcz20_8|clear hcz20_9|clear hcz23_0|clear hcz23_1|clear hcz23_10|clear hcz23_11|clear hcz23_2|clear hcz23_3|clear hcz23_4|clear hcz23_5|clear hcz23_6|clear hcz23_7|clear hcz23_8|clear hcz23_9|clear hcz25_0|clear hcz25_1|clear hcz25_10|clear hcz25_11|clear hcz25_2|clear hcz25_3|clear hcz25_4|clear hcz25_5|clear hcz25_6|clear hcz25_7|clear hcz25_8|clear hcz25_9|clear hcz27_0|clear hcz27_1|clear hcz27_10|clear hcz27_11|clear hcz27_2|clear hcz27_3|clear hcz27_4|clear hcz27_5|clear hcz27_6|clear hcz27_7|clear hcz27_8|clear hcz27_9|clear hcz32_0|clear hcz32_1|clear hcz32_10|clear hcz32_11|clear hcz32_2|clear hcz32_3|clear hcz32_4|clear hcz32_5|clear hcz32_6|clear hcz32_7|clear hcz32_8|clear hcz32_9|clear hcz33_0|clear hcz33_1|clear hcz33_10|clear hcz33_11|clear hcz33_2|clear hcz33_3|clear hcz33_4|clear hcz33_5|clear hcz33_6|clear hcz33_7|clear hcz33_8|clear hcz33_9|clear hcz39_0|clear hcz39_1|clear hcz39_10|clear hcz39_11|clear hcz39_2|clear hcz39_3|clear hcz39_4|clear hcz39_5|clear hcz39_6|clear hcz39_7|clear hcz39_8|clear hcz39_9|clear hcz40_0|clear hcz40_1|clear hcz40_10|clear hcz40_11|clear hcz40_2|clear hcz40_3|clear hcz40_4|clear hcz40_5|clear hcz40_6|clear hcz40_7|clear hcz40_8|clear hcz40_9|clear hcz41_0|clear hcz41_1|clear hcz41_10|clear hcz41_11|clear hcz41_2|clear hcz41_3|clear hcz41_4|clear hcz41_5|clear hcz41_6|clear hcz41_7|clear hcz41_8|clear hcz41_9|clear hcz44_0|clear hcz44_1|clear hcz44_10|clear hcz44_11|clear hcz44_2|clear hcz44_3|clear hcz44_4|clear hcz44_5|clear hcz44_6|clear hcz44_7|clear hcz44_8|clear hcz44_9|clear hcz46_0|clear hcz46_1|clear hcz46_10|clear hcz46_11|clear hcz46_2|clear hcz46_3|clear hcz46_4|clear hcz46_5|clear hcz46_6|clear hcz46_7|clear hcz46_8|clear hcz46_9|clear hcz47_0|clear hcz47_1|clear hcz47_10|clear hcz47_11|clear hcz47_2|clear hcz47_3|clear hcz47_4|clear hcz47_5|clear hcz47_6|clear hcz47_7|clear hcz47_8|clear hcz47_9|clear hcz9_0|clear hcz9_1|clear hcz9_10|clear hcz9_11|clear hcz9_2|clear hcz9_3|clear hcz9_4|clear hcz9_5|clear hcz9_6|clear hcz9_7|clear hcz9_8|clear hcz9_9|clear hfz11_0|clear hfz11_1|clear hfz11_10|clear hfz11_11|clear hfz11_2|clear hfz11_3|clear hfz11_4|clear hfz11_5|clear hfz11_6|clear hfz11_7|clear hfz11_8|clear hfz11_9|clear hfz13_0|clear hfz13_1|clear hfz13_10|clear hfz13_11|clear hfz13_2|clear hfz13_3|clear hfz13_4|clear hfz13_5|clear hfz13_6|clear hfz13_7|clear hfz13_8|clear hfz13_9|clear hfz15_0|clear hfz15_1|clear hfz15_10|clear hfz15_11|clear hfz15_2|clear hfz15_3|clear hfz15_4|clear hfz15_5|clear hfz15_6|clear hfz15_7|clear hfz15_8|clear hfz15_9|clear hfz16_0|clear hfz16_1|clear hfz16_10|clear hfz16_11|clear hfz16_2|clear hfz16_3|clear hfz16_4|clear hfz16_5|clear hfz16_6|clear hfz16_7|clear hfz16_8|clear hfz16_9|clear hfz19_0|clear hfz19_1|clear hfz19_10|clear hfz19_11|clear hfz19_2|clear hfz19_3|clear hfz19_4|clear hfz19_5|clear hfz19_6|clear hfz19_7|clear hfz19_8|clear hfz19_9|clear hfz20_0|clear hfz20_1|clear hfz20_10|clear hfz20_11|clear hfz20_2|clear hfz20_3|clear hfz20_4|clear hfz20_5|clear hfz20_6|clear hfz20_7|clear hfz20_8|clear hfz20_9|clear hfz23_0|clear hfz23_1|clear hfz23_10|clear hfz23_11|clear hfz23_2|clear hfz23_3|clear hfz23_4|clear hfz23_5|clear hfz23_6|clear hfz23_7|clear hfz23_8|clear hfz23_9|clear hfz25_0|clear hfz25_1|clear hfz25_10|clear hfz25_11|clear hfz25_2|clear hfz25_3|clear hfz25_4|clear hfz25_5|clear hfz25_6|clear hfz25_7|clear hfz25_8|clear hfz25_9|clear hfz27_0|clear hfz27_1|clear hfz27_10|clear hfz27_11|clear hfz27_2|clear hfz27_3|clear hfz27_4|clear hfz27_5|clear hfz27_6|clear hfz27_7|clear hfz27_8|clear hfz27_9|clear hfz32_0|clear hfz32_1|clear hfz32_10|clear hfz32_11|clear hfz32_2|clear hfz32_3|clear hfz32_4|clear hfz32_5|clear hfz32_6|clear hfz32_7|clear hfz32_8|clear hfz32_9|clear hfz33_0|clear hfz33_1|clear hfz33_10|clear hfz33_11|clear hfz33_2|clear hfz33_3|clear hfz33_4|clear hfz33_5|clear hfz33_6|clear hfz33_7|clear hfz33_8|clear hfz33_9|clear hfz39_0|clear hfz39_1|clear hfz39_10|clear hfz39_11|clear hfz39_2|clear hfz39_3|clear hfz39_4|clear hfz39_5|clear hfz39_6|clear hfz39_7|clear hfz39_8|clear hfz39_9|clear hfz40_0|clear hfz40_1|clear hfz40_10|clear hfz40_11|clear hfz40_2|clear hfz40_3|clear hfz40_4|clear hfz40_5|clear hfz40_6|clear hfz40_7|clear hfz40_8|clear hfz40_9|clear hfz41_0|clear hfz41_1|clear hfz41_10|clear hfz41_11|clear hfz41_2|clear hfz41_3|clear hfz41_4|clear hfz41_5|clear hfz41_6|clear hfz41_7|clear hfz41_8|clear hfz41_9|clear hfz44_0|clear hfz44_1|clear hfz44_10|clear hfz44_11|clear hfz44_2|clear hfz44_3|clear hfz44_4|clear hfz44_5|clear hfz44_6|clear hfz44_7|clear hfz44_8|clear hfz44_9|clear hfz46_0|clear hfz46_1|clear hfz46_10|clear hfz46_11|clear hfz46_2|clear hfz46_3|clear hfz46_4|clear hfz46_5|clear hfz46_6|clear hfz46_7|clear hfz46_8|clear hfz46_9|clear hfz47_0|clear hfz47_1|clear hfz47_10|clear hfz47_11|clear hfz47_2|clear hfz47_3|clear hfz47_4|clear hfz47_5|clear hfz47_6|clear hfz47_7|clear hfz47_8|clear hfz47_9|clear hfz9_0|clear hfz9_1|clear hfz9_10|clear hfz9_11|clear hfz9_2|clear hfz9_3|clear hfz9_4|clear hfz9_5|clear hfz9_6|clear hfz9_7|clear hfz9_8|clear hfz9_9|clear p2
           obtain ⟨kq, x68_34, rfl, HA, HJ34, BK101, HB⟩ := hcut
           cases kq with
           | zero => exact absurd HA.out (by simp [tree_Right.j3])
           | succ kj34 =>
            have H := HA.out
            clear HA
            simp only [tree_Right.j3] at H
            by_cases c48 : x68_34 = true
            ·subst c48
             have H1 : (some 3) = some r := by rw [if_pos rfl] at H; exact H
             clear H
             have H := H1
             clear H1
             obtain rfl := Option.some.inj H
             go_wp2
             go_ret
             exact ⟨by first | rfl | (simp [errW_none, errW_some] <;> rfl) | (simp [*, errW_none, errW_some] <;> rfl), by repeat (first | (with_reducible first | exact HB.out | apply bwA | apply pwbN | apply bw1 | refine below_set ?_ GE101.out) | exact HB.out)⟩
            ·replace c48 := Bool.eq_false_iff.mpr c48
             subst c48
             have H1 : (if (a0_3.size : Int) > 400 then (some 1) else (some 0)) = some r := by rw [if_neg (show ¬ (false = true) by decide)] at H; exact H
             clear H
             have H := H1
             clear H1
             by_cases c49 : (a0_3.size : Int) > 400
             ·rw [if_pos c49] at H
              have c49b0 : decide (400 < (a0_3.size : Int)) = true := decide_eq_true c49
              have c49b1 : decide (400 < a0_3.size) = true := decide_eq_true (by omega)
              clear c49
              obtain rfl := Option.some.inj H
              obtain ⟨hcz50_0, hcz50_1, hcz50_2, hcz50_3, hcz50_4, hcz50_5, hcz50_6, hcz50_7, hcz50_8, hcz50_9, hcz50_10, hcz50_11, hfz50_0, hfz50_1, hfz50_2, hfz50_3, hfz50_4, hfz50_5, hfz50_6, hfz50_7, hfz50_8, hfz50_9, hfz50_10, hfz50_11⟩ := blkA12 BK101.out
              go_wp2
              go_ret
              exact ⟨by first | rfl | (simp [errW_none, errW_some] <;> rfl) | (simp [*, errW_none, errW_some] <;> rfl), by repeat (first | (with_reducible first | exact HB.out | apply bwA | apply pwbN | apply bw1 | refine below_set ?_ GE101.out) | exact HB.out)⟩
             ·rw [if_neg c49] at H
              have c49b0 : decide (400 < (a0_3.size : Int)) = false := decide_eq_false c49
              have c49b1 : decide (400 < a0_3.size) = false := decide_eq_false (by omega)
              clear c49
              obtain rfl := Option.some.inj H
              obtain ⟨hcz51_0, hcz51_1, hcz51_2, hcz51_3, hcz51_4, hcz51_5, hcz51_6, hcz51_7, hcz51_8, hcz51_9, hcz51_10, hcz51_11, hfz51_0, hfz51_1, hfz51_2, hfz51_3, hfz51_4, hfz51_5, hfz51_6, hfz51_7, hfz51_8, hfz51_9, hfz51_10, hfz51_11⟩ := blkA12 BK101.out
              go_wp2
              go_ret
              exact ⟨by first | rfl | (simp [errW_none, errW_some] <;> rfl) | (simp [*, errW_none, errW_some] <;> rfl), by repeat (first | (with_reducible first | exact HB.out | apply bwA | apply pwbN | apply bw1 | refine below_set ?_ GE101.out) | exact HB.out)⟩
      ·replace c29 := Bool.eq_false_iff.mpr c29
       subst c29
       have H1 : (some 2) = some r := by rw [if_neg (show ¬ (false = true) by decide)] at H; exact H
       clear H
       have H := H1
       clear H1
       obtain rfl := Option.some.inj H
       go_wp2
       go_ret
       exact ⟨by first | rfl | (simp [errW_none, errW_some] <;> rfl) | (simp [*, errW_none, errW_some] <;> rfl), by repeat (first | (with_reducible first | exact HB.out | apply bwA | apply pwbN | apply bw1 | refine below_set ?_ GE101.out) | exact HB.out)⟩
  ·rw [if_neg c5] at H
   have c5b0 : (t103 == 0) = false := beq_eq_false_iff_ne.mpr c5
   have c5b1 : (t103 != 0) = true := bne_iff_ne.mpr c5
   obtain rfl := Option.some.inj H
   go_enter Tryd.func68, Tryd.ntmps68
   go_wp2_with (first | ((with_reducible refine gate_dst (N := 1) rfl ?_); refine box_event ?hg (N := 1) ?hd (cs := #[.string a0_0, .int .i64 a0_1, .int .i64 a0_2, .string a0_3, .int .i64 a0_4, .int .i64 a0_5, .int .i64 a0_6, .string a0_7, .string a0_8, .int .i64 a0_9, .int .i64 a0_10, .slice A0_11 l0_11.length c0_11]) (t := 45) ?hr ?_; (case hd => rfl); (case hg => rfl); (case hr => first | (go_simp; done) | (go_simp; rfl)); intro gb101 hg w52 hbox hb; have n0_ := Aside0.mk (below_step (by repeat (first | (with_reducible first | exact HB.out | apply bwA | apply pwbN | apply bw1) | exact HB.out)) hb); have n1_ := Aside0.mk (hbox); have n2_ := Aside0.mk ((by rw [hg]; exact (below_size (by repeat (first | (with_reducible first | exact HB.out | apply bwA | apply pwbN | apply bw1) | exact HB.out))) : w.heap.size ≤ gb101)); have n3_ := Aside0.mk ((by rw [hg]; exact (below_size (by repeat (first | (with_reducible first | exact HB.out | apply bwA | apply pwbN | apply bw1) | exact HB.out))) : w.heap.size ≤ gb101)); clear HB; have HB := n0_; have BK101 := n1_; have GW101 := n2_; have GE101 := n3_; clear n0_ n1_ n2_ n3_; clear hb hbox hg; obtain ⟨hcz53_0, hcz53_1, hcz53_2, hcz53_3, hcz53_4, hcz53_5, hcz53_6, hcz53_7, hcz53_8, hcz53_9, hcz53_10, hcz53_11, hfz53_0, hfz53_1, hfz53_2, hfz53_3, hfz53_4, hfz53_5, hfz53_6, hfz53_7, hfz53_8, hfz53_9, hfz53_10, hfz53_11⟩ := blkA12 BK101.out) | ((with_reducible refine gate_callee (f := 28) rfl ?_); refine goesL_ (some 7) rfl rfl Tryd.func28 (by kernel_rfl) rfl #[.string a0_0] rfl (by (try simp only [List.map_toArray, List.map_cons, List.map_nil]); first | done | rfl | (simp only [List.length_drop, List.length_take]; rfl)) ?_; (with_reducible refine (path_Check.calls k a0_0 t102 _ A2.out).mono ?_); rintro e w54 ⟨rfl, hb⟩; refine ⟨_, rfl, ?_⟩; have n0_ := Aside0.mk (blk_below (g := gb101) (o := .cells #[.string a0_0, .int .i64 a0_1, .int .i64 a0_2, .string a0_3, .int .i64 a0_4, .int .i64 a0_5, .int .i64 a0_6, .string a0_7, .string a0_8, .int .i64 a0_9, .int .i64 a0_10, .slice A0_11 l0_11.length c0_11] 45 (0, 0)) (by (with_reducible repeat (first | refine blk_drewN ?_ _ | refine blk_drew ?_ | refine blk_alloc ?_ _)); exact BK101.out) hb); have n1_ := Aside0.mk (below_step (by repeat (first | (with_reducible first | exact HB.out | apply bwA | apply pwbN | apply bw1 | refine below_set ?_ GE101.out) | exact HB.out)) hb); clear BK101; clear HB; have BK101 := n0_; have HB := n1_; clear n0_ n1_; (try clear hb); (try clear hb2); (try clear hk); (try clear hi); obtain ⟨hcz55_0, hcz55_1, hcz55_2, hcz55_3, hcz55_4, hcz55_5, hcz55_6, hcz55_7, hcz55_8, hcz55_9, hcz55_10, hcz55_11, hfz55_0, hfz55_1, hfz55_2, hfz55_3, hfz55_4, hfz55_5, hfz55_6, hfz55_7, hfz55_8, hfz55_9, hfz55_10, hfz55_11⟩ := blkA12 BK101.out) | ((with_reducible refine gate_callee (f := 88) rfl ?_); refine goesL_ (some 13) rfl rfl Tryd.func88 (by kernel_rfl) rfl #[.agg #[.int .i64 a0_4, .int .i64 a0_5, .int .i64 a0_6, .string a0_7, .string a0_8, .int .i64 a0_9, .int .i64 a0_10]] rfl (by (try simp only [List.map_toArray, List.map_cons, List.map_nil]); first | done | rfl | (simp only [List.length_drop, List.length_take]; rfl)) ?_; (with_reducible refine (meta_Check.calls k a0_4 a0_5 a0_6 a0_7 a0_8 a0_9 a0_10 t103 _ A4.out).mono ?_); rintro e w56 ⟨rfl, hb⟩; refine ⟨_, rfl, ?_⟩; have n0_ := Aside0.mk (blk_below (g := gb101) (o := .cells #[.string a0_0, .int .i64 a0_1, .int .i64 a0_2, .string a0_3, .int .i64 a0_4, .int .i64 a0_5, .int .i64 a0_6, .string a0_7, .string a0_8, .int .i64 a0_9, .int .i64 a0_10, .slice A0_11 l0_11.length c0_11] 45 (0, 0)) (by (with_reducible repeat (first | refine blk_drewN ?_ _ | refine blk_drew ?_ | refine blk_alloc ?_ _)); exact BK101.out) hb); have n1_ := Aside0.mk (below_step (by repeat (first | (with_reducible first | exact HB.out | apply bwA | apply pwbN | apply bw1 | refine below_set ?_ GE101.out) | exact HB.out)) hb); clear BK101; clear HB; have BK101 := n0_; have HB := n1_; clear n0_ n1_; (try clear hb); (try clear hb2); (try clear hk); (try clear hi)))
   go_ret
   exact ⟨by first | rfl | (simp [errW_none, errW_some] <;> rfl) | (simp [*, errW_none, errW_some] <;> rfl), by repeat (first | (with_reducible first | exact HB.out | apply bwA | apply pwbN | apply bw1 | refine below_set ?_ GE101.out) | exact HB.out)⟩
 ·rw [if_neg c3] at H
  have c3b0 : (t102 == 0) = false := beq_eq_false_iff_ne.mpr c3
  have c3b1 : (t102 != 0) = true := bne_iff_ne.mpr c3
  obtain rfl := Option.some.inj H
  go_enter Tryd.func68, Tryd.ntmps68
  go_wp2_with (first | ((with_reducible refine gate_dst (N := 1) rfl ?_); refine box_event ?hg (N := 1) ?hd (cs := #[.string a0_0, .int .i64 a0_1, .int .i64 a0_2, .string a0_3, .int .i64 a0_4, .int .i64 a0_5, .int .i64 a0_6, .string a0_7, .string a0_8, .int .i64 a0_9, .int .i64 a0_10, .slice A0_11 l0_11.length c0_11]) (t := 45) ?hr ?_; (case hd => rfl); (case hg => rfl); (case hr => first | (go_simp; done) | (go_simp; rfl)); intro gb101 hg w57 hbox hb; have n0_ := Aside0.mk (below_step (by repeat (first | (with_reducible first | exact HB.out | apply bwA | apply pwbN | apply bw1) | exact HB.out)) hb); have n1_ := Aside0.mk (hbox); have n2_ := Aside0.mk ((by rw [hg]; exact (below_size (by repeat (first | (with_reducible first | exact HB.out | apply bwA | apply pwbN | apply bw1) | exact HB.out))) : w.heap.size ≤ gb101)); have n3_ := Aside0.mk ((by rw [hg]; exact (below_size (by repeat (first | (with_reducible first | exact HB.out | apply bwA | apply pwbN | apply bw1) | exact HB.out))) : w.heap.size ≤ gb101)); clear HB; have HB := n0_; have BK101 := n1_; have GW101 := n2_; have GE101 := n3_; clear n0_ n1_ n2_ n3_; clear hb hbox hg; obtain ⟨hcz58_0, hcz58_1, hcz58_2, hcz58_3, hcz58_4, hcz58_5, hcz58_6, hcz58_7, hcz58_8, hcz58_9, hcz58_10, hcz58_11, hfz58_0, hfz58_1, hfz58_2, hfz58_3, hfz58_4, hfz58_5, hfz58_6, hfz58_7, hfz58_8, hfz58_9, hfz58_10, hfz58_11⟩ := blkA12 BK101.out) | ((with_reducible refine gate_callee (f := 28) rfl ?_); refine goesL_ (some 7) rfl rfl Tryd.func28 (by kernel_rfl) rfl #[.string a0_0] rfl (by (try simp only [List.map_toArray, List.map_cons, List.map_nil]); first | done | rfl | (simp only [List.length_drop, List.length_take]; rfl)) ?_; (with_reducible refine (path_Check.calls k a0_0 t102 _ A2.out).mono ?_); rintro e w59 ⟨rfl, hb⟩; refine ⟨_, rfl, ?_⟩; have n0_ := Aside0.mk (blk_below (g := gb101) (o := .cells #[.string a0_0, .int .i64 a0_1, .int .i64 a0_2, .string a0_3, .int .i64 a0_4, .int .i64 a0_5, .int .i64 a0_6, .string a0_7, .string a0_8, .int .i64 a0_9, .int .i64 a0_10, .slice A0_11 l0_11.length c0_11] 45 (0, 0)) (by (with_reducible repeat (first | refine blk_drewN ?_ _ | refine blk_drew ?_ | refine blk_alloc ?_ _)); exact BK101.out) hb); have n1_ := Aside0.mk (below_step (by repeat (first | (with_reducible first | exact HB.out | apply bwA | apply pwbN | apply bw1 | refine below_set ?_ GE101.out) | exact HB.out)) hb); clear BK101; clear HB; have BK101 := n0_; have HB := n1_; clear n0_ n1_; (try clear hb); (try clear hb2); (try clear hk); (try clear hi)))
  go_ret
  exact ⟨by first | rfl | (simp [errW_none, errW_some] <;> rfl) | (simp [*, errW_none, errW_some] <;> rfl), by repeat (first | (with_reducible first | exact HB.out | apply bwA | apply pwbN | apply bw1 | refine below_set ?_ GE101.out) | exact HB.out)⟩
end Go.Proofs.YtcbbcnmifohibaaDoor.All
end
section
namespace Go.Proofs.YtcbbcnmifohibaaDoor.All
open Go.RowKit Go.Proofs.YtcbbcnmifohibaaDoorW.PrintWords Go.Proofs.YtcbbcnmifohibaaDoorW.PrintLast Go.Proofs.YtcbbcnmifohibaaDoorW.PrintMore
open Go.Proofs.YtcbbcnmifohibaaDoorW.Mine
attribute [local go_sem] gtr_string leq_string geq_string
attribute [local go_sem] max2_int min2_int max_two min_two max_three min_three max_four min_four
set_option linter.unusedVariables false
set_option linter.unusedSimpArgs false
theorem eqA42 (d : Nat) (w : World) (x0 y0 : Int) (x1 y1 : Int) (x2 y2 : Int) (x3 y3 : ByteArray) (x4 y4 : ByteArray) (x5 y5 : Int) (x6 y6 : Int) :
  (Op.equalIn (d + 2) 42 (.agg #[.int .i64 x0, .int .i64 x1, .int .i64 x2, .string x3, .string x4, .int .i64 x5, .int .i64 x6]) (.agg #[.int .i64 y0, .int .i64 y1, .int .i64 y2, .string y3, .string y4, .int .i64 y5, .int .i64 y6])).run Tryd.prog w = .ok (x0 == y0 && (x1 == y1 && (x2 == y2 && (x3.toList == y3.toList && (x4.toList == y4.toList && (x5 == y5 && (x6 == y6))))))) w := by
 refine eqA_of Tryd.underlying42 (by kernel_rfl) ?_
 refine eqf_cons (by rfl) (by go_simp; rfl) (by go_simp; rfl) (by go_simp) ?_
 refine eqf_cons (by rfl) (by go_simp; rfl) (by go_simp; rfl) (by go_simp) ?_
 refine eqf_cons (by rfl) (by go_simp; rfl) (by go_simp; rfl) (by go_simp) ?_
 refine eqf_cons (by rfl) (by go_simp; rfl) (by go_simp; rfl) (by go_simp) ?_
 refine eqf_cons (by rfl) (by go_simp; rfl) (by go_simp; rfl) (by go_simp) ?_
 refine eqf_cons (by rfl) (by go_simp; rfl) (by go_simp; rfl) (by go_simp) ?_
 exact eqf_last (by rfl) (by go_simp; rfl) (by go_simp; rfl) (by go_simp)
end Go.Proofs.YtcbbcnmifohibaaDoor.All
end
section
namespace Go.Proofs.YtcbbcnmifohibaaDoor.All
open Go.RowKit Go.Proofs.YtcbbcnmifohibaaDoorW.PrintWords Go.Proofs.YtcbbcnmifohibaaDoorW.PrintLast Go.Proofs.YtcbbcnmifohibaaDoorW.PrintMore
open Go.Proofs.YtcbbcnmifohibaaDoorW.Mine
attribute [local go_sem] gtr_string leq_string geq_string
attribute [local go_sem] max2_int min2_int max_two min_two max_three min_three max_four min_four
set_option linter.unusedVariables false
set_option linter.unusedSimpArgs false
attribute [local go_sem high] eqA42
def tree_alike.f (a0_0 : ByteArray) (a0_1 : Int) (a0_2 : Int) (a0_3 : ByteArray) (a0_4 : Int) (a0_5 : Int) (a0_6 : Int) (a0_7 : ByteArray) (a0_8 : ByteArray) (a0_9 : Int) (a0_10 : Int) (l0_11 : List Int) (a1_0 : ByteArray) (a1_1 : Int) (a1_2 : Int) (a1_3 : ByteArray) (a1_4 : Int) (a1_5 : Int) (a1_6 : Int) (a1_7 : ByteArray) (a1_8 : ByteArray) (a1_9 : Int) (a1_10 : Int) (l1_11 : List Int) : Option (Bool) := if (a0_4 == a1_4 && (a0_5 == a1_5 && (a0_6 == a1_6 && (a0_7.toList == a1_7.toList && (a0_8.toList == a1_8.toList && (a0_9 == a1_9 && (a0_10 == a1_10))))))) = true then (some ((strOfNums l0_11).toList == (strOfNums l1_11).toList)) else (some false)
set_option maxHeartbeats 8000000 in
set_option maxRecDepth 100000 in
theorem tree_alike.calls (a0_0 : ByteArray) (a0_1 : Int) (a0_2 : Int) (a0_3 : ByteArray) (a0_4 : Int) (a0_5 : Int) (a0_6 : Int) (a0_7 : ByteArray) (a0_8 : ByteArray) (a0_9 : Int) (a0_10 : Int) (A0_11 : Option Addr) (c0_11 : Nat) (l0_11 : List Int) (a1_0 : ByteArray) (a1_1 : Int) (a1_2 : Int) (a1_3 : ByteArray) (a1_4 : Int) (a1_5 : Int) (a1_6 : Int) (a1_7 : ByteArray) (a1_8 : ByteArray) (a1_9 : Int) (a1_10 : Int) (A1_11 : Option Addr) (c1_11 : Nat) (l1_11 : List Int) (r : Bool) (w : World) (hr0_11 : Kd.C (Kd.int .u8) w A0_11 l0_11.length l0_11) (hc0_11 : l0_11.length ≤ c0_11) (hr1_11 : Kd.C (Kd.int .u8) w A1_11 l1_11.length l1_11) (hc1_11 : l1_11.length ≤ c1_11) (h : tree_alike.f a0_0 a0_1 a0_2 a0_3 a0_4 a0_5 a0_6 a0_7 a0_8 a0_9 a0_10 l0_11 a1_0 a1_1 a1_2 a1_3 a1_4 a1_5 a1_6 a1_7 a1_8 a1_9 a1_10 l1_11 = some r) :
  Calls Tryd.prog 69 #[.agg #[.string a0_0, .int .i64 a0_1, .int .i64 a0_2, .string a0_3, .int .i64 a0_4, .int .i64 a0_5, .int .i64 a0_6, .string a0_7, .string a0_8, .int .i64 a0_9, .int .i64 a0_10, .slice A0_11 l0_11.length c0_11], .agg #[.string a1_0, .int .i64 a1_1, .int .i64 a1_2, .string a1_3, .int .i64 a1_4, .int .i64 a1_5, .int .i64 a1_6, .string a1_7, .string a1_8, .int .i64 a1_9, .int .i64 a1_10, .slice A1_11 l1_11.length c1_11]] w fun e w' => e = .returned (.bool r) ∧ Below w.heap.size w w' := by
 have hu45 := Tryd.underlying45
 have hu42 := Tryd.underlying42
 have HR0_11 := Aside0.mk hr0_11
 have HC0_11 := Aside0.mk hc0_11
 clear hr0_11 hc0_11
 have HR1_11 := Aside0.mk hr1_11
 have HC1_11 := Aside0.mk hc1_11
 clear hr1_11 hc1_11
 have HB := Aside0.mk (Below.refl w.heap.size w)
 have H : (if (a0_4 == a1_4 && (a0_5 == a1_5 && (a0_6 == a1_6 && (a0_7.toList == a1_7.toList && (a0_8.toList == a1_8.toList && (a0_9 == a1_9 && (a0_10 == a1_10))))))) = true then (some ((strOfNums l0_11).toList == (strOfNums l1_11).toList)) else (some false)) = some r := h
 clear h
 by_cases c3 : (a0_4 == a1_4 && (a0_5 == a1_5 && (a0_6 == a1_6 && (a0_7.toList == a1_7.toList && (a0_8.toList == a1_8.toList && (a0_9 == a1_9 && (a0_10 == a1_10))))))) = true
 ·rw [if_pos c3] at H
  have c3b0 : (a0_4 == a1_4 && (a0_5 == a1_5 && (a0_6 == a1_6 && (a0_7.toList == a1_7.toList && (a0_8.toList == a1_8.toList && (a0_9 == a1_9 && (a0_10 == a1_10))))))) = true := c3
  (try (have c3b1 : decide (a0_4 = a1_4 && (a0_5 == a1_5 && (a0_6 == a1_6 && (a0_7.toList == a1_7.toList && (a0_8.toList == a1_8.toList && (a0_9 == a1_9 && (a0_10 == a1_10))))))) = true := by simpa using c3))
  (try (have c3b2 : (a0_4 == a1_4 && (a0_5 == a1_5 && (a0_6 == a1_6 && (a0_7.toList == a1_7.toList && (a0_8.toList == a1_8.toList && (a0_9 == a1_9 && (a0_10 == a1_10))))))) = true := by simpa using c3))
  clear c3
  obtain rfl := Option.some.inj H
  go_enter Tryd.func69, Tryd.ntmps69
  go_wp2_with (first | ((with_reducible refine gate_dst (N := 2) rfl ?_); refine box_event ?hg (N := 2) ?hd (cs := #[.string a0_0, .int .i64 a0_1, .int .i64 a0_2, .string a0_3, .int .i64 a0_4, .int .i64 a0_5, .int .i64 a0_6, .string a0_7, .string a0_8, .int .i64 a0_9, .int .i64 a0_10, .slice A0_11 l0_11.length c0_11]) (t := 45) ?hr ?_; (case hd => rfl); (case hg => rfl); (case hr => first | (go_simp; done) | (go_simp; rfl)); intro gb101 hg w4 hbox hb; have n0_ := Aside0.mk (below_step (by repeat (first | (with_reducible first | exact HB.out | apply bwA | apply pwbN | apply bw1) | exact HB.out)) hb); have n1_ := Aside0.mk (hbox); have n2_ := Aside0.mk ((by rw [hg]; exact (below_size (by repeat (first | (with_reducible first | exact HB.out | apply bwA | apply pwbN | apply bw1) | exact HB.out))) : w.heap.size ≤ gb101)); have n3_ := Aside0.mk ((by rw [hg]; exact (below_size (by repeat (first | (with_reducible first | exact HB.out | apply bwA | apply pwbN | apply bw1) | exact HB.out))) : w.heap.size ≤ gb101)); clear HB; have HB := n0_; have BK101 := n1_; have GW101 := n2_; have GE101 := n3_; clear n0_ n1_ n2_ n3_; clear hb hbox hg) | ((with_reducible refine gate_dst (N := 3) rfl ?_); refine box_event ?hg (N := 3) ?hd (cs := #[.string a1_0, .int .i64 a1_1, .int .i64 a1_2, .string a1_3, .int .i64 a1_4, .int .i64 a1_5, .int .i64 a1_6, .string a1_7, .string a1_8, .int .i64 a1_9, .int .i64 a1_10, .slice A1_11 l1_11.length c1_11]) (t := 45) ?hr ?_; (case hd => rfl); (case hg => rfl); (case hr => first | (go_simp; done) | (go_simp; rfl)); intro gb102 hg w5 hbox hb; have n0_ := Aside0.mk (blk_below (g := gb101) (o := .cells #[.string a0_0, .int .i64 a0_1, .int .i64 a0_2, .string a0_3, .int .i64 a0_4, .int .i64 a0_5, .int .i64 a0_6, .string a0_7, .string a0_8, .int .i64 a0_9, .int .i64 a0_10, .slice A0_11 l0_11.length c0_11] 45 (0, 0)) (by (with_reducible repeat (first | refine blk_drewN ?_ _ | refine blk_drew ?_ | refine blk_alloc ?_ _)); exact BK101.out) hb); have n1_ := Aside0.mk (below_step (by repeat (first | (with_reducible first | exact HB.out | apply bwA | apply pwbN | apply bw1 | refine below_set ?_ GE101.out) | exact HB.out)) hb); have n2_ := Aside0.mk (hbox); have n3_ := Aside0.mk ((by rw [hg]; exact (below_size (by repeat (first | (with_reducible first | exact HB.out | apply bwA | apply pwbN | apply bw1 | refine below_set ?_ GE101.out) | exact HB.out))) : w.heap.size ≤ gb102)); have n4_ := Aside0.mk ((by rw [hg]; exact (below_size (by repeat (first | (with_reducible first | exact HB.out | apply bwA | apply pwbN | apply bw1 | refine below_set ?_ GE101.out) | exact HB.out))) : w.heap.size ≤ gb102)); have n5_ := Aside0.mk ((by rw [hg]; exact Nat.ne_of_lt (blk_lt (g := gb101) (o := .cells #[.string a0_0, .int .i64 a0_1, .int .i64 a0_2, .string a0_3, .int .i64 a0_4, .int .i64 a0_5, .int .i64 a0_6, .string a0_7, .string a0_8, .int .i64 a0_9, .int .i64 a0_10, .slice A0_11 l0_11.length c0_11] 45 (0, 0)) (by (with_reducible repeat (first | refine blk_drewN ?_ _ | refine blk_drew ?_ | refine blk_alloc ?_ _)); exact BK101.out)) : gb101 ≠ gb102)); have n6_ := Aside0.mk ((by rw [hg]; exact Nat.ne_of_gt (blk_lt (g := gb101) (o := .cells #[.string a0_0, .int .i64 a0_1, .int .i64 a0_2, .string a0_3, .int .i64 a0_4, .int .i64 a0_5, .int .i64 a0_6, .string a0_7, .string a0_8, .int .i64 a0_9, .int .i64 a0_10, .slice A0_11 l0_11.length c0_11] 45 (0, 0)) (by (with_reducible repeat (first | refine blk_drewN ?_ _ | refine blk_drew ?_ | refine blk_alloc ?_ _)); exact BK101.out)) : gb102 ≠ gb101)); clear BK101; clear HB; have BK101 := n0_; have HB := n1_; have BK102 := n2_; have GW102 := n3_; have GE102 := n4_; have NB101_102 := n5_; have NB102_101 := n6_; clear n0_ n1_ n2_ n3_ n4_ n5_ n6_; clear hb hbox hg; have hnb6 := NB101_102.out; have hnc6 := NB102_101.out; obtain ⟨hcz7_0, hcz7_1, hcz7_2, hcz7_3, hcz7_4, hcz7_5, hcz7_6, hcz7_7, hcz7_8, hcz7_9, hcz7_10, hcz7_11, hfz7_0, hfz7_1, hfz7_2, hfz7_3, hfz7_4, hfz7_5, hfz7_6, hfz7_7, hfz7_8, hfz7_9, hfz7_10, hfz7_11⟩ := blkA12 BK101.out; obtain ⟨hcz8_0, hcz8_1, hcz8_2, hcz8_3, hcz8_4, hcz8_5, hcz8_6, hcz8_7, hcz8_8, hcz8_9, hcz8_10, hcz8_11, hfz8_0, hfz8_1, hfz8_2, hfz8_3, hfz8_4, hfz8_5, hfz8_6, hfz8_7, hfz8_8, hfz8_9, hfz8_10, hfz8_11⟩ := blkA12 BK102.out; have hcv9 := Kd.C_string (P := Tryd.prog) (A := A0_11) (c := c0_11) Tryd.underlying43 Tryd.underlying5 Tryd.underlying9 (Kd.C_below HR0_11.out HB.out); have hcv10 := Kd.C_string (P := Tryd.prog) (A := A1_11) (c := c1_11) Tryd.underlying43 Tryd.underlying5 Tryd.underlying9 (Kd.C_below HR1_11.out HB.out)))
  go_ret
  exact ⟨by first | rfl | (simp [errW_none, errW_some] <;> rfl) | (simp [*, errW_none, errW_some] <;> rfl), by repeat (first | (with_reducible first | exact HB.out | apply bwA | apply pwbN | apply bw1 | refine below_set ?_ GE101.out | refine below_set ?_ GE102.out) | exact HB.out)⟩
 ·rw [if_neg c3] at H
  have c3b0 : (a0_4 == a1_4 && (a0_5 == a1_5 && (a0_6 == a1_6 && (a0_7.toList == a1_7.toList && (a0_8.toList == a1_8.toList && (a0_9 == a1_9 && (a0_10 == a1_10))))))) = false := by simpa using c3
  (try (have c3b1 : decide (a0_4 = a1_4 && (a0_5 == a1_5 && (a0_6 == a1_6 && (a0_7.toList == a1_7.toList && (a0_8.toList == a1_8.toList && (a0_9 == a1_9 && (a0_10 == a1_10))))))) = false := by simpa using c3))
  (try (have c3b2 : (a0_4 == a1_4 && (a0_5 == a1_5 && (a0_6 == a1_6 && (a0_7.toList == a1_7.toList && (a0_8.toList == a1_8.toList && (a0_9 == a1_9 && (a0_10 == a1_10))))))) = false := by simpa using c3))
  (try (have c3b3 : ¬ (a0_4 = a1_4 && (a0_5 == a1_5 && (a0_6 == a1_6 && (a0_7.toList == a1_7.toList && (a0_8.toList == a1_8.toList && (a0_9 == a1_9 && (a0_10 == a1_10))))))) := by simpa using c3))
  clear c3
  obtain rfl := Option.some.inj H
  go_enter Tryd.func69, Tryd.ntmps69
  go_wp2_with (first | ((with_reducible refine gate_dst (N := 2) rfl ?_); refine box_event ?hg (N := 2) ?hd (cs := #[.string a0_0, .int .i64 a0_1, .int .i64 a0_2, .string a0_3, .int .i64 a0_4, .int .i64 a0_5, .int .i64 a0_6, .string a0_7, .string a0_8, .int .i64 a0_9, .int .i64 a0_10, .slice A0_11 l0_11.length c0_11]) (t := 45) ?hr ?_; (case hd => rfl); (case hg => rfl); (case hr => first | (go_simp; done) | (go_simp; rfl)); intro gb101 hg w11 hbox hb; have n0_ := Aside0.mk (below_step (by repeat (first | (with_reducible first | exact HB.out | apply bwA | apply pwbN | apply bw1) | exact HB.out)) hb); have n1_ := Aside0.mk (hbox); have n2_ := Aside0.mk ((by rw [hg]; exact (below_size (by repeat (first | (with_reducible first | exact HB.out | apply bwA | apply pwbN | apply bw1) | exact HB.out))) : w.heap.size ≤ gb101)); have n3_ := Aside0.mk ((by rw [hg]; exact (below_size (by repeat (first | (with_reducible first | exact HB.out | apply bwA | apply pwbN | apply bw1) | exact HB.out))) : w.heap.size ≤ gb101)); clear HB; have HB := n0_; have BK101 := n1_; have GW101 := n2_; have GE101 := n3_; clear n0_ n1_ n2_ n3_; clear hb hbox hg) | ((with_reducible refine gate_dst (N := 3) rfl ?_); refine box_event ?hg (N := 3) ?hd (cs := #[.string a1_0, .int .i64 a1_1, .int .i64 a1_2, .string a1_3, .int .i64 a1_4, .int .i64 a1_5, .int .i64 a1_6, .string a1_7, .string a1_8, .int .i64 a1_9, .int .i64 a1_10, .slice A1_11 l1_11.length c1_11]) (t := 45) ?hr ?_; (case hd => rfl); (case hg => rfl); (case hr => first | (go_simp; done) | (go_simp; rfl)); intro gb102 hg w12 hbox hb; have n0_ := Aside0.mk (blk_below (g := gb101) (o := .cells #[.string a0_0, .int .i64 a0_1, .int .i64 a0_2, .string a0_3, .int .i64 a0_4, .int .i64 a0_5, .int .i64 a0_6, .string a0_7, .string a0_8, .int .i64 a0_9, .int .i64 a0_10, .slice A0_11 l0_11.length c0_11] 45 (0, 0)) (by (with_reducible repeat (first | refine blk_drewN ?_ _ | refine blk_drew ?_ | refine blk_alloc ?_ _)); exact BK101.out) hb); have n1_ := Aside0.mk (below_step (by repeat (first | (with_reducible first | exact HB.out | apply bwA | apply pwbN | apply bw1 | refine below_set ?_ GE101.out) | exact HB.out)) hb); have n2_ := Aside0.mk (hbox); have n3_ := Aside0.mk ((by rw [hg]; exact (below_size (by repeat (first | (with_reducible first | exact HB.out | apply bwA | apply pwbN | apply bw1 | refine below_set ?_ GE101.out) | exact HB.out))) : w.heap.size ≤ gb102)); have n4_ := Aside0.mk ((by rw [hg]; exact (below_size (by repeat (first | (with_reducible first | exact HB.out | apply bwA | apply pwbN | apply bw1 | refine below_set ?_ GE101.out) | exact HB.out))) : w.heap.size ≤ gb102)); have n5_ := Aside0.mk ((by rw [hg]; exact Nat.ne_of_lt (blk_lt (g := gb101) (o := .cells #[.string a0_0, .int .i64 a0_1, .int .i64 a0_2, .string a0_3, .int .i64 a0_4, .int .i64 a0_5, .int .i64 a0_6, .string a0_7, .string a0_8, .int .i64 a0_9, .int .i64 a0_10, .slice A0_11 l0_11.length c0_11] 45 (0, 0)) (by (with_reducible repeat (first | refine blk_drewN ?_ _ | refine blk_drew ?_ | refine blk_alloc ?_ _)); exact BK101.out)) : gb101 ≠ gb102)); have n6_ := Aside0.mk ((by rw [hg]; exact Nat.ne_of_gt (blk_lt (g := gb101) (o := .cells #[.string a0_0, .int .i64 a0_1, .int .i64 a0_2, .string a0_3, .int .i64 a0_4, .int .i64 a0_5, .int .i64 a0_6, .string a0_7, .string a0_8, .int .i64 a0_9, .int .i64 a0_10, .slice A0_11 l0_11.length c0_11] 45 (0, 0)) (by (with_reducible repeat (first | refine blk_drewN ?_ _ | refine blk_drew ?_ | refine blk_alloc ?_ _)); exact BK101.out)) : gb102 ≠ gb101)); clear BK101; clear HB; have BK101 := n0_; have HB := n1_; have BK102 := n2_; have GW102 := n3_; have GE102 := n4_; have NB101_102 := n5_; have NB102_101 := n6_; clear n0_ n1_ n2_ n3_ n4_ n5_ n6_; clear hb hbox hg; have hnb13 := NB101_102.out; have hnc13 := NB102_101.out; obtain ⟨hcz14_0, hcz14_1, hcz14_2, hcz14_3, hcz14_4, hcz14_5, hcz14_6, hcz14_7, hcz14_8, hcz14_9, hcz14_10, hcz14_11, hfz14_0, hfz14_1, hfz14_2, hfz14_3, hfz14_4, hfz14_5, hfz14_6, hfz14_7, hfz14_8, hfz14_9, hfz14_10, hfz14_11⟩ := blkA12 BK101.out; obtain ⟨hcz15_0, hcz15_1, hcz15_2, hcz15_3, hcz15_4, hcz15_5, hcz15_6, hcz15_7, hcz15_8, hcz15_9, hcz15_10, hcz15_11, hfz15_0, hfz15_1, hfz15_2, hfz15_3, hfz15_4, hfz15_5, hfz15_6, hfz15_7, hfz15_8, hfz15_9, hfz15_10, hfz15_11⟩ := blkA12 BK102.out))
  go_ret
  exact ⟨by first | rfl | (simp [errW_none, errW_some] <;> rfl) | (simp [*, errW_none, errW_some] <;> rfl), by repeat (first | (with_reducible first | exact HB.out | apply bwA | apply pwbN | apply bw1 | refine below_set ?_ GE101.out | refine below_set ?_ GE102.out) | exact HB.out)⟩
end Go.Proofs.YtcbbcnmifohibaaDoor.All
end
section
namespace Go.Proofs.YtcbbcnmifohibaaDoor.All
open Go.RowKit Go.Proofs.YtcbbcnmifohibaaDoorW.PrintWords Go.Proofs.YtcbbcnmifohibaaDoorW.PrintLast Go.Proofs.YtcbbcnmifohibaaDoorW.PrintMore
open Go.Proofs.YtcbbcnmifohibaaDoorW.Mine
attribute [local go_sem] gtr_string leq_string geq_string
attribute [local go_sem] max2_int min2_int max_two min_two max_three min_three max_four min_four
set_option linter.unusedVariables false
set_option linter.unusedSimpArgs false
open Go.Proofs.YtcbbcnmifohibaaDoorW.MapOwn
def tree_Check.two (k : Nat) (l : List S45) (x : S45) (n : Nat) : Option Bool := if 0 < n then (path_Compare.f k (rd_T45 l ((n - 1 : Nat) : Int)).f0 x.f0).bind fun c => some (decide (0 ≤ c)) else some false
def tree_Check.up (k : Nat) (l : List S45) (x : S45) (n : Nat) : Option Bool := (path_Up.f x.f0).bind fun up => if up.toList = ([] : List UInt8) then some false else (tree_Find.f k (l.take n) up).bind fun r => if r.2 = 0 then (if 0 ≤ r.1 ∧ r.1 < (l.length : Int) then some ((rd_T45 l r.1).f1 != 2) else none) else some true
def tree_Check.alike (y x : S45) : Option Bool := tree_alike.f (y).f0 (y).f1 (y).f2 (y).f3 (y).f4.f0 (y).f4.f1 (y).f4.f2 (y).f4.f3 (y).f4.f4 (y).f4.f5 (y).f4.f6 (y).f5 (x).f0 (x).f1 (x).f2 (x).f3 (x).f4.f0 (x).f4.f1 (x).f4.f2 (x).f4.f3 (x).f4.f4 (x).f4.f5 (x).f4.f6 (x).f5
def tree_Check.right (k : Nat) (x : S45) : Option Int := tree_Right.f k (x).f0 (x).f1 (x).f2 (x).f3 (x).f4.f0 (x).f4.f1 (x).f4.f2 (x).f4.f3 (x).f4.f4 (x).f4.f5 (x).f4.f6 (x).f5
def tree_Check.same (m : List (Int × S45)) (x : S45) : Option (Int × List (Int × S45)) := if x.f2 = 0 then some (0, m) else if (Lit.int .i64 x.f2).wf = true then (match get m x.f2 with
 | some y => (tree_Check.alike y x).bind fun b => if b = true then some (0, m) else some (11, m)
 | none => some (0, (x.f2, x) :: m)) else none
def tree_Check.step (k : Nat) (l : List S45) (m : List (Int × S45)) (x : S45) (n : Nat) : Option (Int × List (Int × S45)) := (tree_Check.right k x).bind fun e => if e = 0 then ((tree_Check.two k l x n).bind fun t => if t = true then some (6, m) else (tree_Check.up k l x n).bind fun u => if u = true then some (10, m) else tree_Check.same m x) else some (e, m)
def tree_Check.l0 : Nat → List S45 → List (Int × S45) → Nat → Option Int
 | 0, _, _, _ => none
 | k + 1, l, m, n => if n < l.length then (tree_Check.step k l m (rd_T45 l (n : Int)) n).bind fun r => if r.1 = 0 then tree_Check.l0 k l r.2 (n + 1) else some r.1 else some 0
def tree_Check.f (k : Nat) (l0 : List S45) : Option Int := if 40 < l0.length then some 1 else tree_Check.l0 k l0 [] 0
theorem tree_Check.zeroE (w : World) : (zeroValue 45).run Tryd.prog w = .ok (.agg #[.string (⟨#[]⟩ : ByteArray), .int .i64 0, .int .i64 0, .string (⟨#[]⟩ : ByteArray), .int .i64 0, .int .i64 0, .int .i64 0, .string (⟨#[]⟩ : ByteArray), .string (⟨#[]⟩ : ByteArray), .int .i64 0, .int .i64 0, .slice none 0 0]) w := by kernel_rfl
def tree_Check.Rep (w : World) (y : S45) (v : Value) : Prop := ∃ cs : Array Value, v = .agg cs ∧ k45.K w y cs.toList
def tree_Check.Inv (w W : World) (bm n : Nat) (m : List (Int × S45)) : Prop := MapAt (Lit.int .i64) Tryd.prog 3 (tree_Check.Rep w) W bm n m ∧ w.heap.size ≤ bm ∧ Below w.heap.size w W
theorem tree_Check.Inv.step {w W W' : World} {bm n : Nat} {m : List (Int × S45)} (h : tree_Check.Inv w W bm n m) (hb : Below W.heap.size W W') : tree_Check.Inv w W' bm n m := ⟨h.1.below hb, h.2.1, below_step h.2.2 hb⟩
theorem tree_Check.szN : (Tryd.prog.info? 45).map (·.size) = some 12 := by kernel_rfl
theorem tree_Check.elem {w : World} {A : Option Addr} {l : List S45} (h : Kd.C k45 w A l.length l) (n : Nat) (hn : n < l.length) : ∃ ad A11 c11, A = some ad ∧ (∀ j v, ([.string (rd_T45 l (n : Int)).f0, .int .i64 (rd_T45 l (n : Int)).f1, .int .i64 (rd_T45 l (n : Int)).f2, .string (rd_T45 l (n : Int)).f3, .int .i64 (rd_T45 l (n : Int)).f4.f0, .int .i64 (rd_T45 l (n : Int)).f4.f1, .int .i64 (rd_T45 l (n : Int)).f4.f2, .string (rd_T45 l (n : Int)).f4.f3, .string (rd_T45 l (n : Int)).f4.f4, .int .i64 (rd_T45 l (n : Int)).f4.f5, .int .i64 (rd_T45 l (n : Int)).f4.f6, .slice A11 (rd_T45 l (n : Int)).f5.length c11] : List Value)[j]? = some v → w.cell? ((ad.add (n * 12)).add j) = some v) ∧ (rd_T45 l (n : Int)).f5.length ≤ c11 ∧ (Kd.int .u8).C w A11 (rd_T45 l (n : Int)).f5.length (rd_T45 l (n : Int)).f5 := by
 obtain ⟨ad, c, e, _, hK, hc0⟩ := Kd.C_get h z45 (n : Int) (Int.natCast_nonneg _) (by omega)
 obtain ⟨A11, c11, rfl, l11, g11⟩ := k45_open hK
 refine ⟨ad, A11, c11, e, fun j v hv => ?_, l11, g11⟩
 have := hc0 j v hv
 rw [Int.toNat_natCast] at this
 rw [← this]
 congr 1
 show (ad.add (n * 12)).add j = ad.add (n * 12 + j)
 unfold Addr.add
 by_cases h1 : j = 0
 ·subst h1; simp
 ·by_cases h2 : n * 12 = 0
  ·simp [h1, h2]
  ·rw [if_neg h1, if_neg h2, if_neg (by omega)]; simp [Nat.add_assoc]
def tree_Check.St (w W : World) (bm n : Nat) (m : List (Int × S45)) (gb : Nat) (cs : Array Value) : Prop := tree_Check.Inv w W bm n m ∧ w.heap.size ≤ gb ∧ gb ≠ bm ∧ W.heap[gb]? = some (.cells cs 45 (0, 0))
theorem tree_Check.St.step {w W W' : World} {bm n gb : Nat} {m : List (Int × S45)} {cs : Array Value} (h : tree_Check.St w W bm n m gb cs) (hb : Below W.heap.size W W') : tree_Check.St w W' bm n m gb cs := ⟨h.1.step hb, h.2.1, h.2.2.1, blk_below h.2.2.2 hb⟩
theorem tree_Check.St.drewN {w W : World} {bm n gb : Nat} {m : List (Int × S45)} {cs : Array Value} (h : tree_Check.St w W bm n m gb cs) (q : Nat) : tree_Check.St w (W.drewN q) bm n m gb cs := h.step (pwbN (Below.refl _ _) q)
theorem tree_Check.Inv.box {w W W' : World} {bm n gb : Nat} {m : List (Int × S45)} {cs : Array Value} (h : tree_Check.Inv w W bm n m) (hg : gb = W.heap.size) (hk : W'.heap[gb]? = some (.cells cs 45 (0, 0))) (hb : Below W.heap.size W W') : tree_Check.St w W' bm n m gb cs := ⟨h.step hb, by rw [hg]; exact h.2.2.size, by have := h.1.lt; omega, hk⟩
theorem tree_Check.St.put {w W W' : World} {bm n gb : Nat} {m : List (Int × S45)} {cs cs' : Array Value} (h : tree_Check.St w W bm n m gb cs) (hk : W'.heap[gb]? = some (.cells cs' 45 (0, 0))) (hg : W.grownBy W' (some gb)) : tree_Check.St w W' bm n m gb cs' := ⟨⟨h.1.1.kept hg (fun e => h.2.2.1 (by injection e with e; exact e.symm)), h.1.2.1, below_grown h.1.2.2 hg h.2.1 (blk_lt h.2.2.2)⟩, h.2.1, h.2.2.1, hk⟩
theorem tree_Check.Inv.next {w W : World} {bm n : Nat} {m : List (Int × S45)} (h : tree_Check.Inv w W bm n m) : tree_Check.Inv w W bm (n + 1) m := ⟨h.1.mono (Nat.le_succ n), h.2⟩
theorem tree_Check.Inv.putM {w W W' : World} {bm n : Nat} {m m' : List (Int × S45)} (h : tree_Check.Inv w W bm n m) (hm : MapAt (Lit.int .i64) Tryd.prog 3 (tree_Check.Rep w) W' bm (n + 1) m') (hg : W.grownBy W' (some bm)) : tree_Check.Inv w W' bm (n + 1) m' := ⟨hm, h.2.1, below_grown h.2.2 hg h.2.1 h.1.lt⟩
theorem tree_Check.St.apart {w W : World} {bm n gb g2 : Nat} {m : List (Int × S45)} {cs : Array Value} (h : tree_Check.St w W bm n m gb cs) (hg : g2 = W.heap.size) : w.heap.size ≤ g2 ∧ gb ≠ g2 ∧ bm ≠ g2 := ⟨by rw [hg]; exact h.1.2.2.size, by have := blk_lt h.2.2.2; omega, by have := h.1.1.lt; omega⟩
theorem tree_Check.St.other {w W W' : World} {bm n gb g2 : Nat} {m : List (Int × S45)} {cs : Array Value} (h : tree_Check.St w W bm n m gb cs) (hg : W.grownBy W' (some g2)) (ha : w.heap.size ≤ g2 ∧ gb ≠ g2 ∧ bm ≠ g2) (hl : g2 < W.heap.size) : tree_Check.St w W' bm n m gb cs := ⟨⟨h.1.1.kept hg (fun e => ha.2.2 (by injection e)), h.1.2.1, below_grown h.1.2.2 hg ha.1 hl⟩, h.2.1, h.2.2.1, blk_grown h.2.2.2 hg (fun e => ha.2.1 (by injection e))⟩
set_option maxHeartbeats 8000000 in
set_option maxRecDepth 100000 in
theorem tree_Check.calls (k : Nat) (A0 : Option Addr) (c0 : Nat) (l0 : List (S45)) (r : Int) (w : World) (hr0 : Kd.C k45 w A0 l0.length l0) (hc0 : l0.length ≤ c0) (h : tree_Check.f k l0 = some r) :
  Calls Tryd.prog 40 #[.slice A0 l0.length c0] w fun e w' => e = .returned (.int .i64 r) ∧ Below w.heap.size w w' := by
 have hu45 := Tryd.underlying45
 have HR0 := Aside0.mk hr0
 have HC0 := Aside0.mk hc0
 clear hr0 hc0
 by_cases c1 : 40 < l0.length
 ·have H : (if 40 < l0.length then some 1 else tree_Check.l0 k l0 [] 0) = some r := h
  rw [if_pos c1] at H
  obtain rfl := Option.some.inj H
  clear h H
  have c1b : decide ((40 : Int) < (l0.length : Int)) = true := decide_eq_true (by omega)
  clear c1
  go_enter Tryd.func40, Tryd.ntmps40
  go_wp2
  go_ret
  exact ⟨rfl, by first | exact Below.refl _ _ | exact bw1 (Below.refl _ _)⟩
 ·have H : (if 40 < l0.length then some 1 else tree_Check.l0 k l0 [] 0) = some r := h
  rw [if_neg c1] at H
  have H' := Aside0.mk H
  have HN := Aside0.mk (Nat.not_lt.1 c1)
  have c1b : decide ((40 : Int) < (l0.length : Int)) = false := decide_eq_false (by omega)
  clear h H c1
  have hmm := @run_makeMap Tryd.prog
  go_enter Tryd.func40, Tryd.ntmps40
  go_wp2
  go_loopg [18] k (fun kq v18 wx => ∃ (n : Nat) (m : List (Int × S45)), v18 = .int .i64 (n : Int) ∧ Aside0 (n ≤ l0.length) ∧ Aside0 (tree_Check.l0 kq l0 m n = some r) ∧ Aside0 (kq ≤ k) ∧ Aside0 (tree_Check.Inv w wx w.heap.size n m))
  case atStart => exact ⟨0, [], rfl, ⟨Nat.zero_le _⟩, H', ⟨Nat.le_refl _⟩, ⟨⟨MapAt.made _ _ _ _ _, Nat.le_refl _, bwA (Below.refl _ _) _⟩⟩⟩
  case round =>
   clear H'
   obtain ⟨n, m, rfl, HN1, HA, HK1, HI⟩ := hrel
   cases gk with
   | zero => exact absurd HA.out (by simp [tree_Check.l0])
   | succ k1 =>
    have H := HA.out
    clear HA
    simp only [tree_Check.l0] at H
    by_cases c3 : n < l0.length
    ·rw [if_pos c3] at H
     have c3b : decide ((n : Int) < (l0.length : Int)) = true := decide_eq_true (by omega)
     replace H := Option.bind_eq_some_iff.mp H
     obtain ⟨⟨e0, m1⟩, AS, H⟩ := H
     obtain ⟨ad, A11, c11, e, hx, hl11, hi11⟩ := tree_Check.elem HR0.out n c3
     cases e
     have HXC := Aside0.mk hx
     clear hx
     have p3 : ((n : Int) < (l0.length : Int)) = True := eq_true (by omega)
     have p4 : (0 ≤ (n : Int)) = True := eq_true (by omega)
     have HX := Aside0.mk hi11
     have HL := Aside0.mk hl11
     have HLT := Aside0.mk c3
     clear hi11 hl11 c3
     generalize hx : rd_T45 l0 (n : Int) = x at *
     clear hx
     obtain ⟨e1, AR, AS⟩ := Option.bind_eq_some_iff.mp (show ((tree_Check.right k1 x).bind fun e => if e = 0 then ((tree_Check.two k1 l0 x n).bind fun t => if t = true then some (6, m) else (tree_Check.up k1 l0 x n).bind fun u => if u = true then some (10, m) else tree_Check.same m x) else some (e, m)) = some (e0, m1) from AS)
     have HAR := Aside0.mk (show tree_Right.f k1 (x).f0 (x).f1 (x).f2 (x).f3 (x).f4.f0 (x).f4.f1 (x).f4.f2 (x).f4.f3 (x).f4.f4 (x).f4.f5 (x).f4.f6 (x).f5 = some e1 from AR)
     clear AR
     by_cases c6 : e1 = 0
     ·rw [if_pos c6] at AS
      obtain ⟨t, AT, AS⟩ := Option.bind_eq_some_iff.mp AS
      have HAT := Aside0.mk AT
      have HQ := Aside0.mk AS
      have HH := Aside0.mk H
      have c6a : (e1 == 0) = true := beq_iff_eq.mpr c6
      have c6b : (e1 != 0) = false := bne_eq_false_iff_eq.mpr c6
      clear AS H AT c6
      go_upto_region 10 with (first | ((with_reducible refine gate_dst (N := 22) rfl ?_); refine load_event (ad := ad.add (n * 12)) rfl rfl hu45 rfl rfl (cs := [.string (x).f0, .int .i64 (x).f1, .int .i64 (x).f2, .string (x).f3, .int .i64 (x).f4.f0, .int .i64 (x).f4.f1, .int .i64 (x).f4.f2, .string (x).f4.f3, .string (x).f4.f4, .int .i64 (x).f4.f5, .int .i64 (x).f4.f6, .slice A11 (x).f5.length c11]) tree_Check.szN (fun j v hv => (HI.out.2.2.cell (World.block_lt_of_cell? w _ (HXC.out j v hv))).trans (HXC.out j v hv)) ?_) | ((with_reducible refine gate_dst (N := 5) rfl ?_); refine box_event ?hg (N := 5) ?hd (cs := #[.string (⟨#[]⟩ : ByteArray), .int .i64 0, .int .i64 0, .string (⟨#[]⟩ : ByteArray), .int .i64 0, .int .i64 0, .int .i64 0, .string (⟨#[]⟩ : ByteArray), .string (⟨#[]⟩ : ByteArray), .int .i64 0, .int .i64 0, .slice none 0 0]) (t := 45) ?hr ?_; (case hd => rfl); (case hg => rfl); (case hr => first | (go_simp; done) | (go_simp; rfl)); intro gb hg w2 hbox hb2; have HS := Aside0.mk (HI.out.box hg hbox hb2); clear hg hbox hb2 HI) | ((with_reducible refine gate_store (t := 45) (p := 5) rfl ?_); refine put_event rfl rfl rfl rfl rfl HS.out.2.2.2 (tree_Check.szN) rfl rfl ?_; intro w3 hk3 hg3; have HS3 := Aside0.mk (HS.out.put hk3 hg3); clear HS hk3 hg3; have HS := HS3; clear HS3) | ((with_reducible refine gate_dst (N := 23) rfl ?_); refine load_event rfl rfl hu45 rfl rfl (cs := [.string (x).f0, .int .i64 (x).f1, .int .i64 (x).f2, .string (x).f3, .int .i64 (x).f4.f0, .int .i64 (x).f4.f1, .int .i64 (x).f4.f2, .string (x).f4.f3, .string (x).f4.f4, .int .i64 (x).f4.f5, .int .i64 (x).f4.f6, .slice A11 (x).f5.length c11]) tree_Check.szN (cells_of_blk HS.out.2.2.2) ?_) | (go_at_call 68; refine (tree_Right.calls k1 (x).f0 (x).f1 (x).f2 (x).f3 (x).f4.f0 (x).f4.f1 (x).f4.f2 (x).f4.f3 (x).f4.f4 (x).f4.f5 (x).f4.f6 A11 c11 (x).f5 e1 _ (Kd.C_below HX.out HS.out.1.2.2) HL.out HAR.out).mono ?_; rintro e w3 ⟨rfl, hb3⟩; have HS3 := Aside0.mk (HS.out.step hb3); clear HS hb3; have HS := HS3; clear HS3))
      (try simp only [Act.put, List.setIfInBounds_toArray, List.set_cons_zero, List.set_cons_succ])
      go_cut [41] (fun v41 wc => v41 = .bool t ∧ Aside0 (tree_Check.St w wc w.heap.size n m gb #[.string (x).f0, .int .i64 (x).f1, .int .i64 (x).f2, .string (x).f3, .int .i64 (x).f4.f0, .int .i64 (x).f4.f1, .int .i64 (x).f4.f2, .string (x).f4.f3, .string (x).f4.f4, .int .i64 (x).f4.f5, .int .i64 (x).f4.f6, .slice A11 (x).f5.length c11]))
      case first =>
       by_cases c7 : 0 < n
       ·have AT := HAT.out
        clear HAT
        unfold tree_Check.two at AT
        rw [if_pos c7] at AT
        obtain ⟨c, AC, AT⟩ := Option.bind_eq_some_iff.mp AT
        obtain rfl := Option.some.inj AT
        have HAC := Aside0.mk AC
        clear AC AT
        obtain ⟨ad', A11', c11', e', hx', _, _⟩ := tree_Check.elem HR0.out (n - 1) (by have := HN1.out; omega)
        cases e'
        have h0 : w.cell? (ad.add ((n - 1) * 12)) = some (.string (rd_T45 l0 ((n - 1 : Nat) : Int)).f0) := hx' 0 _ rfl
        have HP := Aside0.mk ((HS.out.1.2.2.cell (World.block_lt_of_cell? w _ h0)).trans h0)
        have HPL := Aside0.mk (Nat.lt_of_lt_of_le (World.block_lt_of_cell? w _ h0) HS.out.1.2.2.size)
        clear hx' h0
        have hw : IntKind.i64.wrap ((n : Int) - 1) = ((n - 1 : Nat) : Int) := by have := HN.out; have := HN1.out; rw [IntWalk.i64_in _ (by omega)]; omega
        have hp : w.heap.size ≤ gb := HS.out.2.1
        have hn' : ((n - 1 : Nat) : Int) < (l0.length : Int) := by have := HN1.out; omega
        have hc0 := HP.out
        have hc1 := blk_cell HS.out.2.2.2 0
        have hg0 : decide ((0 : Int) < (n : Int)) = true := decide_eq_true (by omega)
        have hg1 : (0 < n) = True := eq_true c7
        go_region_held3 (fun w' => w'.cell? (ad.add ((n - 1) * 12)) = some (.string (rd_T45 l0 ((n - 1 : Nat) : Int)).f0) ∧ w'.cell? ⟨gb, 0, none⟩ = some (.string x.f0)) (first | go_keep | (go_split_ands; exact ⟨(hb3.cell (World.block_lt_of_cell? _ _ (by assumption))).trans (by assumption), (hb3.cell (World.block_lt_of_cell? _ _ (by assumption))).trans (by assumption)⟩)) ((go_at_call 55; refine (path_Compare.calls k1 _ _ c _ HAC.out).mono ?_; rintro e w3 ⟨rfl, hb3⟩))
        go_wp2
        go_meet
        case rel => exact ⟨rfl, ⟨by first | exact HS.out.step hb3 | exact (HS.out.drewN _).step hb3 | exact HS.out.drew.step hb3⟩⟩
       ·have AT := HAT.out
        clear HAT
        unfold tree_Check.two at AT
        rw [if_neg c7] at AT
        obtain rfl := Option.some.inj AT
        clear AT
        have hg0 : decide ((0 : Int) < (n : Int)) = false := decide_eq_false (by omega)
        have hg1 : (0 < n) = False := eq_false c7
        go_quiet (fail)
        go_wp2
        go_meet
        case rel => exact ⟨rfl, ⟨by first | exact HS.out | exact HS.out.drewN _ | exact HS.out.drew⟩⟩
      case rest =>
       obtain ⟨rfl, HS⟩ := hcut
       cases t with
       | true =>
        have AS := HQ.out
        have H := HH.out
        rw [if_pos rfl] at AS
        simp only [Option.some.injEq, Prod.mk.injEq] at AS
        obtain ⟨rfl, rfl⟩ := AS
        rw [if_neg (by decide)] at H
        obtain rfl := Option.some.inj H
        clear HQ HH H HAT
        go_wp2
        go_ret
        exact ⟨rfl, HS.out.1.2.2⟩
       | false =>
        have AS := HQ.out
        rw [if_neg (by decide)] at AS
        obtain ⟨u, AU, AS⟩ := Option.bind_eq_some_iff.mp AS
        have HQ2 := Aside0.mk AS
        obtain ⟨up, AP, AU⟩ := Option.bind_eq_some_iff.mp (show ((path_Up.f x.f0).bind fun up => if up.toList = ([] : List UInt8) then some false else (tree_Find.f k1 (l0.take n) up).bind fun r => if r.2 = 0 then (if 0 ≤ r.1 ∧ r.1 < (l0.length : Int) then some ((rd_T45 l0 r.1).f1 != 2) else none) else some true) = some u from AU)
        have HAP := Aside0.mk AP
        have HAU := Aside0.mk AU
        clear AS AU AP HQ HAT
        have hc0 := blk_cell HS.out.2.2.2 0
        go_upto_if 46 with (go_at_call 42; refine (path_Up.calls x.f0 up _ HAP.out).mono ?_; rintro e w4 ⟨rfl, nd, rfl⟩)
        (try simp only [Act.put, List.setIfInBounds_toArray, List.set_cons_zero, List.set_cons_succ])
        have HS2 := Aside0.mk (HS.out.drewN nd)
        clear HS hc0
        have HS := HS2
        clear HS2
        go_cut [] (fun wc => Aside0 (u = false) ∧ Aside0 (tree_Check.St w wc w.heap.size n m gb #[.string (x).f0, .int .i64 (x).f1, .int .i64 (x).f2, .string (x).f3, .int .i64 (x).f4.f0, .int .i64 (x).f4.f1, .int .i64 (x).f4.f2, .string (x).f4.f3, .string (x).f4.f4, .int .i64 (x).f4.f5, .int .i64 (x).f4.f6, .slice A11 (x).f5.length c11]))
        case first =>
         have AU := HAU.out
         by_cases c8 : up.toList = ([] : List UInt8)
         ·rw [if_pos c8] at AU
          have HU := Aside0.mk (Option.some.inj AU).symm
          have c8a : up.toList.isEmpty = true := by rw [c8]; rfl
          clear AU c8
          rw [c8a]
          go_wp2
          go_meet
          case rel => exact ⟨HU, ⟨by first | exact HS.out | exact HS.out.drewN _ | exact HS.out.drew⟩⟩
         ·rw [if_neg c8] at AU
          obtain ⟨⟨j1, j2⟩, AF, AU⟩ := Option.bind_eq_some_iff.mp AU
          have c8a : up.toList.isEmpty = false := by cases h : up.toList with | nil => exact absurd h c8 | cons a b => rfl
          have HF : Aside0 (∀ W, Below w.heap.size w W → Calls Tryd.prog 41 #[.slice (some ad) n c0, .string up] W fun e w' => e = .returned (.tuple #[.int .i64 j1, .int .i64 j2]) ∧ Below W.heap.size W w') := ⟨fun W hb => by
           have hlen : (l0.take n).length = n := by have := HN1.out; simp; omega
           have := tree_Find.calls k1 (some ad) c0 (l0.take n) up j1 j2 W (Kd.C_below (Kd.C_take HR0.out HN1.out) hb) (by have := HC0.out; have := HN1.out; omega) AF
           rw [hlen] at this
           exact this⟩
          have hnc : (n : Int) ≤ (c0 : Int) := by have := HC0.out; have := HN1.out; omega
          have hnc' : n ≤ c0 := by omega
          clear c8 AF
          rw [c8a]
          by_cases c9 : j2 = 0
          ·rw [if_pos c9] at AU
           by_cases c10 : 0 ≤ j1 ∧ j1 < (l0.length : Int)
           ·rw [if_pos c10] at AU
            obtain rfl := Option.some.inj AU
            clear AU
            have c9a : (j2 == 0) = true := beq_iff_eq.mpr c9
            have c9b : (j2 != 0) = false := bne_eq_false_iff_eq.mpr c9
            clear c9
            obtain ⟨ad', A11', c11', e', hq0, hq1, hq2, hq3, hq4, hq5, hq6, hq7, hq8, hq9, hq10, hq11, _, _⟩ := at_T45 HR0.out j1 c10.1 c10.2
            cases e'
            have HQ1 := Aside0.mk hq1
            have HQL := Aside0.mk (World.block_lt_of_cell? w _ hq1)
            clear hq0 hq1 hq2 hq3 hq4 hq5 hq6 hq7 hq8 hq9 hq10 hq11
            have c10a := eq_true c10.1
            have c10b := eq_true c10.2
            by_cases c11 : (rd_T45 l0 j1).f1 = 2
            ·have c11a : ((rd_T45 l0 j1).f1 != 2) = false := bne_eq_false_iff_eq.mpr c11
             have c11b : ((rd_T45 l0 j1).f1 == 2) = true := beq_iff_eq.mpr c11
             have HU := Aside0.mk c11a
             clear c11
             go_wp2_with (go_at_call 41; refine (HF.out _ HS.out.1.2.2).mono ?_; rintro e w5 ⟨rfl, hb5⟩; have HS5 := Aside0.mk (HS.out.step hb5); clear HS hb5; have HS := HS5; clear HS5; have hq1 : _ = _ := (HS.out.1.2.2.cell HQL.out).trans HQ1.out)
             go_meet
             case rel => exact ⟨HU, ⟨by first | exact HS.out | exact HS.out.drewN _ | exact HS.out.drew⟩⟩
            ·have c11a : ((rd_T45 l0 j1).f1 != 2) = true := bne_iff_ne.mpr c11
             have c11b : ((rd_T45 l0 j1).f1 == 2) = false := beq_eq_false_iff_ne.mpr c11
             have AS := HQ2.out
             rw [c11a, if_pos rfl] at AS
             simp only [Option.some.injEq, Prod.mk.injEq] at AS
             obtain ⟨rfl, rfl⟩ := AS
             have H := HH.out
             rw [if_neg (by decide)] at H
             obtain rfl := Option.some.inj H
             clear c11 H HH HQ2
             go_wp2_with (go_at_call 41; refine (HF.out _ HS.out.1.2.2).mono ?_; rintro e w5 ⟨rfl, hb5⟩; have HS5 := Aside0.mk (HS.out.step hb5); clear HS hb5; have HS := HS5; clear HS5; have hq1 : _ = _ := (HS.out.1.2.2.cell HQL.out).trans HQ1.out)
             go_ret
             exact ⟨rfl, HS.out.1.2.2⟩
           ·rw [if_neg c10] at AU
            cases AU
          ·rw [if_neg c9] at AU
           obtain rfl := Option.some.inj AU
           have c9a : (j2 == 0) = false := beq_eq_false_iff_ne.mpr c9
           have c9b : (j2 != 0) = true := bne_iff_ne.mpr c9
           have AS := HQ2.out
           rw [if_pos rfl] at AS
           simp only [Option.some.injEq, Prod.mk.injEq] at AS
           obtain ⟨rfl, rfl⟩ := AS
           have H := HH.out
           rw [if_neg (by decide)] at H
           obtain rfl := Option.some.inj H
           clear c9 H HH HQ2
           go_wp2_with (go_at_call 41; refine (HF.out _ HS.out.1.2.2).mono ?_; rintro e w5 ⟨rfl, hb5⟩; have HS5 := Aside0.mk (HS.out.step hb5); clear HS hb5; have HS := HS5; clear HS5)
           go_ret
           exact ⟨rfl, HS.out.1.2.2⟩
        case rest =>
         obtain ⟨HU, HS⟩ := hcut
         obtain rfl := HU.out
         have AS := HQ2.out
         rw [if_neg (by decide)] at AS
         clear HQ2 HAU HU
         have H := HH.out
         clear HH
         have hc2 := blk_cell HS.out.2.2.2 2
         by_cases c12 : x.f2 = 0
         ·simp only [tree_Check.same, if_pos c12, Option.some.injEq, Prod.mk.injEq] at AS
          obtain ⟨rfl, rfl⟩ := AS
          rw [if_pos rfl] at H
          have H' := Aside0.mk H
          have c12b : (x.f2 == 0) = true := beq_iff_eq.mpr c12
          have h40 : (n : Int) < 40 := by have := HLT.out; have := HN.out; omega
          clear H c12
          go_wp2
          go_roundg k1
          case measure => have := HK1.out; omega
          case rel => exact ⟨n + 1, m, by go_num, ⟨HLT.out⟩, H', ⟨by have := HK1.out; omega⟩, ⟨(by first | exact HS.out.1.next | exact HS.out.drew.1.next)⟩⟩
         ·by_cases c13 : (Lit.int .i64 x.f2).wf = true
          ·simp only [tree_Check.same, if_neg c12, if_pos c13] at AS
           have c12b : (x.f2 == 0) = false := beq_eq_false_iff_ne.mpr c12
           have HWF := Aside0.mk c13
           clear c12 c13
           cases hget : get m x.f2 with
           | none =>
            rw [hget] at AS
            simp only [Option.some.injEq, Prod.mk.injEq] at AS
            obtain ⟨rfl, rfl⟩ := AS
            rw [if_pos rfl] at H
            have H' := Aside0.mk H
            have HGET := Aside0.mk hget
            have h40 : (n : Int) < 40 := by have := HLT.out; have := HN.out; omega
            clear H hget
            go_wp2_with (first | (at_lookup; refine wp_look_ok_miss _ rfl _ _ 92 rfl 45 (Maps.int_keyed Tryd.underlying3) Tryd.underlying92 (tree_Check.zeroE _) w.heap.size n rfl HS.out.1.1 _ rfl (Maps.keyOf_int_mk Tryd.underlying3 HWF.out) HGET.out ?_) | ((with_reducible refine gate_dst (N := 10) rfl ?_); refine box_event ?hg (N := 10) ?hd (cs := #[.string (⟨#[]⟩ : ByteArray), .int .i64 0, .int .i64 0, .string (⟨#[]⟩ : ByteArray), .int .i64 0, .int .i64 0, .int .i64 0, .string (⟨#[]⟩ : ByteArray), .string (⟨#[]⟩ : ByteArray), .int .i64 0, .int .i64 0, .slice none 0 0]) (t := 45) ?hr ?_; (case hd => rfl); (case hg => rfl); (case hr => first | (go_simp; done) | (go_simp; rfl)); intro gb2 hg w2 hbox hb2; have HG2 := Aside0.mk (HS.out.apart hg); have HS2 := Aside0.mk (HS.out.step hb2); have HK2 := Aside0.mk hbox; clear hg hbox hb2 HS; have HS := HS2; clear HS2) | ((with_reducible refine gate_store (t := 45) (p := 10) rfl ?_); refine put_event rfl rfl rfl rfl rfl HK2.out (tree_Check.szN) rfl rfl ?_; intro w3 hk3 hg3; have HS3 := Aside0.mk (HS.out.other hg3 HG2.out (blk_lt HK2.out)); clear HS HK2; have HK2 := Aside0.mk hk3; have HS := HS3; have hc2 := blk_cell HS.out.2.2.2 2; clear HS3 hk3 hg3) | ((with_reducible refine gate_dst (N := 87) rfl ?_); refine load_event rfl rfl hu45 rfl rfl (cs := [.string (x).f0, .int .i64 (x).f1, .int .i64 (x).f2, .string (x).f3, .int .i64 (x).f4.f0, .int .i64 (x).f4.f1, .int .i64 (x).f4.f2, .string (x).f4.f3, .string (x).f4.f4, .int .i64 (x).f4.f5, .int .i64 (x).f4.f6, .slice A11 (x).f5.length c11]) tree_Check.szN (cells_of_blk HS.out.2.2.2) ?_) | (at_mapUpdate; refine wp_put _ (fun a b h => by injection h) rfl _ _ _ 92 rfl 45 (Maps.int_keyed Tryd.underlying3) Tryd.underlying92 w.heap.size n rfl HS.out.1.1 (by have := HN.out; have := HN1.out; unfold maxLen; omega) _ _ rfl rfl (Maps.keyOf_int_mk Tryd.underlying3 HWF.out) (y := x) ⟨_, rfl, k45_mk w x HL.out HX.out⟩ ?_; intro w4 hm4 hg4; have HI4 := Aside0.mk (HS.out.1.putM hm4 hg4); clear hm4 hg4))
            go_roundg k1
            case measure => have := HK1.out; omega
            case rel => exact ⟨n + 1, _, by go_num, ⟨HLT.out⟩, H', ⟨by have := HK1.out; omega⟩, HI4⟩
           | some y =>
            rw [hget] at AS
            obtain ⟨b, AA, AS⟩ := Option.bind_eq_some_iff.mp AS
            have HAA := Aside0.mk (show tree_alike.f (y).f0 (y).f1 (y).f2 (y).f3 (y).f4.f0 (y).f4.f1 (y).f4.f2 (y).f4.f3 (y).f4.f4 (y).f4.f5 (y).f4.f6 (y).f5 (x).f0 (x).f1 (x).f2 (x).f3 (x).f4.f0 (x).f4.f1 (x).f4.f2 (x).f4.f3 (x).f4.f4 (x).f4.f5 (x).f4.f6 (x).f5 = some b from AA)
            have HGET := Aside0.mk hget
            clear AA hget
            cases b with
            | true =>
             rw [if_pos rfl] at AS
             simp only [Option.some.injEq, Prod.mk.injEq] at AS
             obtain ⟨rfl, rfl⟩ := AS
             rw [if_pos rfl] at H
             have H' := Aside0.mk H
             have h40 : (n : Int) < 40 := by have := HLT.out; have := HN.out; omega
             clear H
             go_wp2_with (first | (at_lookup; refine wp_look_ok_hit _ rfl _ _ 92 rfl 45 (Maps.int_keyed Tryd.underlying3) Tryd.underlying92 (tree_Check.zeroE _) w.heap.size n rfl HS.out.1.1 _ rfl (Maps.keyOf_int_mk Tryd.underlying3 HWF.out) HGET.out ?_; rintro v ⟨cs, rfl, hKy⟩; obtain ⟨A11y, c11y, hcs, l11y, g11y⟩ := k45_open hKy; obtain rfl : cs = #[.string (y).f0, .int .i64 (y).f1, .int .i64 (y).f2, .string (y).f3, .int .i64 (y).f4.f0, .int .i64 (y).f4.f1, .int .i64 (y).f4.f2, .string (y).f4.f3, .string (y).f4.f4, .int .i64 (y).f4.f5, .int .i64 (y).f4.f6, .slice A11y (y).f5.length c11y] := Array.toList_inj.mp hcs; have HYL := Aside0.mk l11y; have HYG := Aside0.mk g11y; clear hKy hcs l11y g11y) | ((with_reducible refine gate_dst (N := 10) rfl ?_); refine box_event ?hg (N := 10) ?hd (cs := #[.string (⟨#[]⟩ : ByteArray), .int .i64 0, .int .i64 0, .string (⟨#[]⟩ : ByteArray), .int .i64 0, .int .i64 0, .int .i64 0, .string (⟨#[]⟩ : ByteArray), .string (⟨#[]⟩ : ByteArray), .int .i64 0, .int .i64 0, .slice none 0 0]) (t := 45) ?hr ?_; (case hd => rfl); (case hg => rfl); (case hr => first | (go_simp; done) | (go_simp; rfl)); intro gb2 hg w2 hbox hb2; have HG2 := Aside0.mk (HS.out.apart hg); have HS2 := Aside0.mk (HS.out.step hb2); have HK2 := Aside0.mk hbox; clear hg hbox hb2 HS; have HS := HS2; clear HS2) | ((with_reducible refine gate_store (t := 45) (p := 10) rfl ?_); refine put_event rfl rfl rfl rfl rfl HK2.out (tree_Check.szN) rfl rfl ?_; intro w3 hk3 hg3; have HS3 := Aside0.mk (HS.out.other hg3 HG2.out (blk_lt HK2.out)); clear HS HK2; have HK2 := Aside0.mk hk3; have HS := HS3; have hc2 := blk_cell HS.out.2.2.2 2; clear HS3 hk3 hg3) | ((with_reducible refine gate_dst (N := 77) rfl ?_); refine load_event rfl rfl hu45 rfl rfl (cs := [.string (y).f0, .int .i64 (y).f1, .int .i64 (y).f2, .string (y).f3, .int .i64 (y).f4.f0, .int .i64 (y).f4.f1, .int .i64 (y).f4.f2, .string (y).f4.f3, .string (y).f4.f4, .int .i64 (y).f4.f5, .int .i64 (y).f4.f6, .slice A11y (y).f5.length c11y]) tree_Check.szN (cells_of_blk HK2.out) ?_) | ((with_reducible refine gate_dst (N := 78) rfl ?_); refine load_event rfl rfl hu45 rfl rfl (cs := [.string (x).f0, .int .i64 (x).f1, .int .i64 (x).f2, .string (x).f3, .int .i64 (x).f4.f0, .int .i64 (x).f4.f1, .int .i64 (x).f4.f2, .string (x).f4.f3, .string (x).f4.f4, .int .i64 (x).f4.f5, .int .i64 (x).f4.f6, .slice A11 (x).f5.length c11]) tree_Check.szN (cells_of_blk HS.out.2.2.2) ?_) | (go_at_call 69; refine (tree_alike.calls (y).f0 (y).f1 (y).f2 (y).f3 (y).f4.f0 (y).f4.f1 (y).f4.f2 (y).f4.f3 (y).f4.f4 (y).f4.f5 (y).f4.f6 A11y c11y (y).f5 (x).f0 (x).f1 (x).f2 (x).f3 (x).f4.f0 (x).f4.f1 (x).f4.f2 (x).f4.f3 (x).f4.f4 (x).f4.f5 (x).f4.f6 A11 c11 (x).f5 _ _ (Kd.C_below HYG.out HS.out.1.2.2) HYL.out (Kd.C_below HX.out HS.out.1.2.2) HL.out HAA.out).mono ?_; rintro e w5 ⟨rfl, hb5⟩; have HS5 := Aside0.mk (HS.out.step hb5); clear HS hb5; have HS := HS5; clear HS5))
             go_roundg k1
             case measure => have := HK1.out; omega
             case rel => exact ⟨n + 1, m, by go_num, ⟨HLT.out⟩, H', ⟨by have := HK1.out; omega⟩, ⟨HS.out.1.next⟩⟩
            | false =>
             rw [if_neg (by decide)] at AS
             simp only [Option.some.injEq, Prod.mk.injEq] at AS
             obtain ⟨rfl, rfl⟩ := AS
             rw [if_neg (by decide)] at H
             obtain rfl := Option.some.inj H
             clear H
             go_wp2_with (first | (at_lookup; refine wp_look_ok_hit _ rfl _ _ 92 rfl 45 (Maps.int_keyed Tryd.underlying3) Tryd.underlying92 (tree_Check.zeroE _) w.heap.size n rfl HS.out.1.1 _ rfl (Maps.keyOf_int_mk Tryd.underlying3 HWF.out) HGET.out ?_; rintro v ⟨cs, rfl, hKy⟩; obtain ⟨A11y, c11y, hcs, l11y, g11y⟩ := k45_open hKy; obtain rfl : cs = #[.string (y).f0, .int .i64 (y).f1, .int .i64 (y).f2, .string (y).f3, .int .i64 (y).f4.f0, .int .i64 (y).f4.f1, .int .i64 (y).f4.f2, .string (y).f4.f3, .string (y).f4.f4, .int .i64 (y).f4.f5, .int .i64 (y).f4.f6, .slice A11y (y).f5.length c11y] := Array.toList_inj.mp hcs; have HYL := Aside0.mk l11y; have HYG := Aside0.mk g11y; clear hKy hcs l11y g11y) | ((with_reducible refine gate_dst (N := 10) rfl ?_); refine box_event ?hg (N := 10) ?hd (cs := #[.string (⟨#[]⟩ : ByteArray), .int .i64 0, .int .i64 0, .string (⟨#[]⟩ : ByteArray), .int .i64 0, .int .i64 0, .int .i64 0, .string (⟨#[]⟩ : ByteArray), .string (⟨#[]⟩ : ByteArray), .int .i64 0, .int .i64 0, .slice none 0 0]) (t := 45) ?hr ?_; (case hd => rfl); (case hg => rfl); (case hr => first | (go_simp; done) | (go_simp; rfl)); intro gb2 hg w2 hbox hb2; have HG2 := Aside0.mk (HS.out.apart hg); have HS2 := Aside0.mk (HS.out.step hb2); have HK2 := Aside0.mk hbox; clear hg hbox hb2 HS; have HS := HS2; clear HS2) | ((with_reducible refine gate_store (t := 45) (p := 10) rfl ?_); refine put_event rfl rfl rfl rfl rfl HK2.out (tree_Check.szN) rfl rfl ?_; intro w3 hk3 hg3; have HS3 := Aside0.mk (HS.out.other hg3 HG2.out (blk_lt HK2.out)); clear HS HK2; have HK2 := Aside0.mk hk3; have HS := HS3; have hc2 := blk_cell HS.out.2.2.2 2; clear HS3 hk3 hg3) | ((with_reducible refine gate_dst (N := 77) rfl ?_); refine load_event rfl rfl hu45 rfl rfl (cs := [.string (y).f0, .int .i64 (y).f1, .int .i64 (y).f2, .string (y).f3, .int .i64 (y).f4.f0, .int .i64 (y).f4.f1, .int .i64 (y).f4.f2, .string (y).f4.f3, .string (y).f4.f4, .int .i64 (y).f4.f5, .int .i64 (y).f4.f6, .slice A11y (y).f5.length c11y]) tree_Check.szN (cells_of_blk HK2.out) ?_) | ((with_reducible refine gate_dst (N := 78) rfl ?_); refine load_event rfl rfl hu45 rfl rfl (cs := [.string (x).f0, .int .i64 (x).f1, .int .i64 (x).f2, .string (x).f3, .int .i64 (x).f4.f0, .int .i64 (x).f4.f1, .int .i64 (x).f4.f2, .string (x).f4.f3, .string (x).f4.f4, .int .i64 (x).f4.f5, .int .i64 (x).f4.f6, .slice A11 (x).f5.length c11]) tree_Check.szN (cells_of_blk HS.out.2.2.2) ?_) | (go_at_call 69; refine (tree_alike.calls (y).f0 (y).f1 (y).f2 (y).f3 (y).f4.f0 (y).f4.f1 (y).f4.f2 (y).f4.f3 (y).f4.f4 (y).f4.f5 (y).f4.f6 A11y c11y (y).f5 (x).f0 (x).f1 (x).f2 (x).f3 (x).f4.f0 (x).f4.f1 (x).f4.f2 (x).f4.f3 (x).f4.f4 (x).f4.f5 (x).f4.f6 A11 c11 (x).f5 _ _ (Kd.C_below HYG.out HS.out.1.2.2) HYL.out (Kd.C_below HX.out HS.out.1.2.2) HL.out HAA.out).mono ?_; rintro e w5 ⟨rfl, hb5⟩; have HS5 := Aside0.mk (HS.out.step hb5); clear HS hb5; have HS := HS5; clear HS5))
             go_ret
             exact ⟨rfl, HS.out.1.2.2⟩
          ·simp only [tree_Check.same, if_neg c12, if_neg c13] at AS
           cases AS
     ·rw [if_neg c6] at AS
      simp only [Option.some.injEq, Prod.mk.injEq] at AS
      obtain ⟨rfl, rfl⟩ := AS
      rw [if_neg c6] at H
      obtain rfl := Option.some.inj H
      have c6a : (e1 == 0) = false := beq_eq_false_iff_ne.mpr c6
      have c6b : (e1 != 0) = true := bne_iff_ne.mpr c6
      clear c6 H
      go_wp2_with (first | ((with_reducible refine gate_dst (N := 22) rfl ?_); refine load_event (ad := ad.add (n * 12)) rfl rfl hu45 rfl rfl (cs := [.string (x).f0, .int .i64 (x).f1, .int .i64 (x).f2, .string (x).f3, .int .i64 (x).f4.f0, .int .i64 (x).f4.f1, .int .i64 (x).f4.f2, .string (x).f4.f3, .string (x).f4.f4, .int .i64 (x).f4.f5, .int .i64 (x).f4.f6, .slice A11 (x).f5.length c11]) tree_Check.szN (fun j v hv => (HI.out.2.2.cell (World.block_lt_of_cell? w _ (HXC.out j v hv))).trans (HXC.out j v hv)) ?_) | ((with_reducible refine gate_dst (N := 5) rfl ?_); refine box_event ?hg (N := 5) ?hd (cs := #[.string (⟨#[]⟩ : ByteArray), .int .i64 0, .int .i64 0, .string (⟨#[]⟩ : ByteArray), .int .i64 0, .int .i64 0, .int .i64 0, .string (⟨#[]⟩ : ByteArray), .string (⟨#[]⟩ : ByteArray), .int .i64 0, .int .i64 0, .slice none 0 0]) (t := 45) ?hr ?_; (case hd => rfl); (case hg => rfl); (case hr => first | (go_simp; done) | (go_simp; rfl)); intro gb hg w2 hbox hb2; have HS := Aside0.mk (HI.out.box hg hbox hb2); clear hg hbox hb2 HI) | ((with_reducible refine gate_store (t := 45) (p := 5) rfl ?_); refine put_event rfl rfl rfl rfl rfl HS.out.2.2.2 (tree_Check.szN) rfl rfl ?_; intro w3 hk3 hg3; have HS3 := Aside0.mk (HS.out.put hk3 hg3); clear HS hk3 hg3; have HS := HS3; clear HS3) | ((with_reducible refine gate_dst (N := 23) rfl ?_); refine load_event rfl rfl hu45 rfl rfl (cs := [.string (x).f0, .int .i64 (x).f1, .int .i64 (x).f2, .string (x).f3, .int .i64 (x).f4.f0, .int .i64 (x).f4.f1, .int .i64 (x).f4.f2, .string (x).f4.f3, .string (x).f4.f4, .int .i64 (x).f4.f5, .int .i64 (x).f4.f6, .slice A11 (x).f5.length c11]) tree_Check.szN (cells_of_blk HS.out.2.2.2) ?_) | (go_at_call 68; refine (tree_Right.calls k1 (x).f0 (x).f1 (x).f2 (x).f3 (x).f4.f0 (x).f4.f1 (x).f4.f2 (x).f4.f3 (x).f4.f4 (x).f4.f5 (x).f4.f6 A11 c11 (x).f5 e1 _ (Kd.C_below HX.out HS.out.1.2.2) HL.out HAR.out).mono ?_; rintro e w3 ⟨rfl, hb3⟩; have HS3 := Aside0.mk (HS.out.step hb3); clear HS hb3; have HS := HS3; clear HS3))
      go_ret
      exact ⟨rfl, HS.out.1.2.2⟩
    ·rw [if_neg c3] at H
     obtain rfl := Option.some.inj H
     have c3b : decide ((n : Int) < (l0.length : Int)) = false := decide_eq_false (by omega)
     have c3c : decide (n < l0.length) = false := decide_eq_false c3
     have c3d := eq_false c3
     clear c3 H
     go_wp2
     go_ret
     exact ⟨rfl, HI.out.2.2⟩
end Go.Proofs.YtcbbcnmifohibaaDoor.All
end
