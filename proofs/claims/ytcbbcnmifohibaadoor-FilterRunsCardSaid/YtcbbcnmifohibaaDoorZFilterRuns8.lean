/- Made by programs of the prover: walks of Go functions, the words that they use, and plain laws, each text in a section of its own; no condition of its own. -/
import Derived.Test.YtcbbcnmifohibaaDoorZFilterRuns2
import Derived.Test.YtcbbcnmifohibaaDoorZFilterRuns6
import Derived.Test.YtcbbcnmifohibaaDoorZFilterRuns7
section
namespace Go.Proofs.YtcbbcnmifohibaaDoor.All
open Go.RowKit Go.Proofs.YtcbbcnmifohibaaDoorW.PrintWords Go.Proofs.YtcbbcnmifohibaaDoorW.PrintLast Go.Proofs.YtcbbcnmifohibaaDoorW.PrintMore
open Go.Proofs.YtcbbcnmifohibaaDoorW.Mine
attribute [local go_sem] gtr_string leq_string geq_string
attribute [local go_sem] max2_int min2_int max_two min_two max_three min_three max_four min_four
set_option linter.unusedVariables false
set_option linter.unusedSimpArgs false
def creelref_RulesFault.l0 : Nat → List (S58) → Int → Int → Option (Int)
 | 0, _, _, _ => none
 | k + 1, x9, x10, x11 => if x11 < x10 then (if 0 ≤ x11 then (if x11 < (x9.length : Int) then ((rGF.f k ((rd_T58 x9 x11).f1)).bind fun t103 => (if t103 = 0 then (creelref_RulesFault.l0 k x9 x10 (wrap64 (x11 + 1))) else (some t103))) else (none)) else (none)) else (some 0)
def creelref_RulesFault.f (k : Nat) (l0 : List (S58)) : Option (Int) := if (l0.length : Int) > 12 then (some 1) else (creelref_RulesFault.l0 k l0 (l0.length : Int) 0)
set_option maxHeartbeats 8000000 in
set_option maxRecDepth 100000 in
theorem creelref_RulesFault.calls (k : Nat) (A0 : Option Addr) (c0 : Nat) (l0 : List (S58)) (r : Int) (w : World) (hr0 : Kd.C k58 w A0 l0.length l0) (hc0 : l0.length ≤ c0) (h : creelref_RulesFault.f k l0 = some r) :
  Calls Tryd.prog 13 #[.slice A0 l0.length c0] w fun e w' => e = .returned (.int .i64 r) ∧ Below w.heap.size w w' := by
 have hu58 := Tryd.underlying58
 have HR0 := Aside0.mk hr0
 have HC0 := Aside0.mk hc0
 clear hr0 hc0
 have HB := Aside0.mk (Below.refl w.heap.size w)
 have H : (if (l0.length : Int) > 12 then (some 1) else (creelref_RulesFault.l0 k l0 (l0.length : Int) 0)) = some r := h
 clear h
 by_cases c2 : (l0.length : Int) > 12
 ·rw [if_pos c2] at H
  have c2b0 : decide (12 < (l0.length : Int)) = true := decide_eq_true c2
  have c2b1 : decide (12 < l0.length) = true := decide_eq_true (by omega)
  clear c2
  obtain rfl := Option.some.inj H
  go_enter Tryd.func13, Tryd.ntmps13
  go_wp2
  go_ret
  exact ⟨by first | rfl | (simp [errW_none, errW_some] <;> rfl) | (simp [*, errW_none, errW_some] <;> rfl), by repeat (first | (with_reducible first | exact HB.out | apply bwA | apply pwbN | apply bw1) | exact HB.out)⟩
 ·rw [if_neg c2] at H
  have c2b0 : decide (12 < (l0.length : Int)) = false := decide_eq_false c2
  have c2b1 : decide (12 < l0.length) = false := decide_eq_false (by omega)
  clear c2
  have H' := Aside0.mk H
  clear H
  go_enter Tryd.func13, Tryd.ntmps13
  go_wp2
  go_loopg [11] k (fun kq v11 w' => ∃ (x11_1 : Int), v11 = .int .i64 x11_1 ∧ Aside0 (creelref_RulesFault.l0 kq l0 (l0.length : Int) x11_1 = some r) ∧ Aside0 (kq ≤ k) ∧ Aside0 (Below w.heap.size w w'))
  case atStart => exact ⟨(0), (by first | rfl | (simp; done) | (simp [*]; done)), H', ⟨Nat.le_refl _⟩, ⟨by repeat (first | (with_reducible first | exact HB.out | apply bwA | apply pwbN | apply bw1) | exact HB.out)⟩⟩
  case round =>
   clear H'
   repeat first|clear c1|clear c2|clear c2b0|clear c2b1|clear p2
   obtain ⟨x11_1, rfl, HA, HK1, HB⟩ := hrel
   cases gk with
   | zero => exact absurd HA.out (by simp [creelref_RulesFault.l0])
   | succ k1 =>
    have H := HA.out
    clear HA
    simp only [creelref_RulesFault.l0] at H
    by_cases c3 : x11_1 < (l0.length : Int)
    ·rw [if_pos c3] at H
     have c3b0 : decide (x11_1 < (l0.length : Int)) = true := decide_eq_true c3
     clear c3
     by_cases c4 : 0 ≤ x11_1
     ·rw [if_pos c4] at H
      have c4b0 : decide (0 ≤ x11_1) = true := decide_eq_true c4
      clear c4
      by_cases c5 : x11_1 < (l0.length : Int)
      ·rw [if_pos c5] at H
       have c5b0 : decide (x11_1 < (l0.length : Int)) = true := decide_eq_true c5
       clear c5
       replace H := Option.bind_eq_some_iff.mp H
       obtain ⟨t103, A60, H⟩ := H
       replace H : (if t103 = 0 then (creelref_RulesFault.l0 k1 l0 (l0.length : Int) (wrap64 (x11_1 + 1))) else (some t103)) = some r := H
       have A6 := Aside0.mk A60
       clear A60
       by_cases c7 : t103 = 0
       ·rw [if_pos c7] at H
        have c7b0 : (t103 == 0) = true := beq_iff_eq.mpr c7
        have c7b1 : (t103 != 0) = false := bne_eq_false_iff_eq.mpr c7
        clear c7
        have H' := Aside0.mk H
        clear H
        have p101 : 0 ≤ (x11_1 : Int) := of_decide_eq_true (by first | (with_reducible assumption) | assumption)
        have q101 : x11_1 < (l0.length : Int) := of_decide_eq_true (by first | (with_reducible assumption) | assumption)
        obtain ⟨ad101, e101, hx101_0, hx101_1⟩ := at_T58 HR0.out x11_1 p101 q101
        cases e101
        replace hx101_0 := (HB.out.cell (World.block_lt_of_cell? w _ hx101_0)).trans hx101_0
        replace hx101_1 := (HB.out.cell (World.block_lt_of_cell? w _ hx101_1)).trans hx101_1
        replace p101 := eq_true p101
        replace q101 := eq_true q101
        go_wp2_with (first | ((with_reducible refine gate_dst (N := 4) rfl ?_); refine box_event ?hg (N := 4) ?hd (cs := #[.bool false, .string (⟨#[]⟩ : ByteArray)]) (t := 58) ?hr ?_; (case hd => rfl); (case hg => rfl); (case hr => first | (go_simp; done) | (go_simp; rfl)); intro gb102 hg w8 hbox hb; have n0_ := Aside0.mk (below_step (by repeat (first | (with_reducible first | exact HB.out | apply bwA | apply pwbN | apply bw1) | exact HB.out)) hb); have n1_ := Aside0.mk (hbox); have n2_ := Aside0.mk ((by rw [hg]; exact (below_size (by repeat (first | (with_reducible first | exact HB.out | apply bwA | apply pwbN | apply bw1) | exact HB.out))) : w.heap.size ≤ gb102)); have n3_ := Aside0.mk ((by rw [hg]; exact (below_size (by repeat (first | (with_reducible first | exact HB.out | apply bwA | apply pwbN | apply bw1) | exact HB.out))) : w.heap.size ≤ gb102)); clear HB; have HB := n0_; have BK102 := n1_; have GW102 := n2_; have GE102 := n3_; clear n0_ n1_ n2_ n3_; clear hb hbox hg; obtain ⟨hcz9_0, hcz9_1, hfz9_0, hfz9_1⟩ := blkA2 BK102.out) | ((with_reducible refine gate_callee (f := 31) rfl ?_); refine goesL_ (some 17) rfl rfl Tryd.func31 (by kernel_rfl) rfl #[.string ((rd_T58 l0 x11_1).f1)] rfl (by (try simp only [List.map_toArray, List.map_cons, List.map_nil]); first | done | rfl | (simp only [List.length_drop, List.length_take]; rfl)) ?_; (with_reducible refine (rGF.calls k1 ((rd_T58 l0 x11_1).f1) t103 _ A6.out).mono ?_); rintro e w10 ⟨rfl, hb⟩; refine ⟨_, rfl, ?_⟩; have n0_ := Aside0.mk (blk_below (g := gb102) (o := .cells #[.bool ((rd_T58 l0 x11_1).f0), .string ((rd_T58 l0 x11_1).f1)] 58 (0, 0)) (by (with_reducible repeat (first | refine blk_drewN ?_ _ | refine blk_drew ?_ | refine blk_alloc ?_ _)); refine blk_put (cs := #[.bool ((rd_T58 l0 x11_1).f0), .string (⟨#[]⟩ : ByteArray)]) ?_ 1 _ rfl; (with_reducible repeat (first | refine blk_drewN ?_ _ | refine blk_drew ?_ | refine blk_alloc ?_ _)); refine blk_put (cs := #[.bool false, .string (⟨#[]⟩ : ByteArray)]) ?_ 0 _ rfl; (with_reducible repeat (first | refine blk_drewN ?_ _ | refine blk_drew ?_ | refine blk_alloc ?_ _)); exact BK102.out) hb); have n1_ := Aside0.mk (below_step (by repeat (first | (with_reducible first | exact HB.out | apply bwA | apply pwbN | apply bw1 | refine below_set ?_ GE102.out) | exact HB.out)) hb); clear BK102; clear HB; have BK102 := n0_; have HB := n1_; clear n0_ n1_; (try clear hb); (try clear hb2); (try clear hk); (try clear hi)))
        go_roundg k1
        case measure => have := HK1.out; omega
        case rel => exact ⟨(wrap64 (x11_1 + 1)), (by first | rfl | (simp; done) | (simp [*]; done)), H', ⟨by have := HK1.out; omega⟩, ⟨by repeat (first | (with_reducible first | exact HB.out | apply bwA | apply pwbN | apply bw1 | refine below_set ?_ GE102.out) | exact HB.out)⟩⟩
       ·rw [if_neg c7] at H
        have c7b0 : (t103 == 0) = false := beq_eq_false_iff_ne.mpr c7
        have c7b1 : (t103 != 0) = true := bne_iff_ne.mpr c7
        obtain rfl := Option.some.inj H
        have p101 : 0 ≤ (x11_1 : Int) := of_decide_eq_true (by first | (with_reducible assumption) | assumption)
        have q101 : x11_1 < (l0.length : Int) := of_decide_eq_true (by first | (with_reducible assumption) | assumption)
        obtain ⟨ad101, e101, hx101_0, hx101_1⟩ := at_T58 HR0.out x11_1 p101 q101
        cases e101
        replace hx101_0 := (HB.out.cell (World.block_lt_of_cell? w _ hx101_0)).trans hx101_0
        replace hx101_1 := (HB.out.cell (World.block_lt_of_cell? w _ hx101_1)).trans hx101_1
        replace p101 := eq_true p101
        replace q101 := eq_true q101
        go_wp2_with (first | ((with_reducible refine gate_dst (N := 4) rfl ?_); refine box_event ?hg (N := 4) ?hd (cs := #[.bool false, .string (⟨#[]⟩ : ByteArray)]) (t := 58) ?hr ?_; (case hd => rfl); (case hg => rfl); (case hr => first | (go_simp; done) | (go_simp; rfl)); intro gb102 hg w11 hbox hb; have n0_ := Aside0.mk (below_step (by repeat (first | (with_reducible first | exact HB.out | apply bwA | apply pwbN | apply bw1) | exact HB.out)) hb); have n1_ := Aside0.mk (hbox); have n2_ := Aside0.mk ((by rw [hg]; exact (below_size (by repeat (first | (with_reducible first | exact HB.out | apply bwA | apply pwbN | apply bw1) | exact HB.out))) : w.heap.size ≤ gb102)); have n3_ := Aside0.mk ((by rw [hg]; exact (below_size (by repeat (first | (with_reducible first | exact HB.out | apply bwA | apply pwbN | apply bw1) | exact HB.out))) : w.heap.size ≤ gb102)); clear HB; have HB := n0_; have BK102 := n1_; have GW102 := n2_; have GE102 := n3_; clear n0_ n1_ n2_ n3_; clear hb hbox hg; obtain ⟨hcz12_0, hcz12_1, hfz12_0, hfz12_1⟩ := blkA2 BK102.out) | ((with_reducible refine gate_callee (f := 31) rfl ?_); refine goesL_ (some 17) rfl rfl Tryd.func31 (by kernel_rfl) rfl #[.string ((rd_T58 l0 x11_1).f1)] rfl (by (try simp only [List.map_toArray, List.map_cons, List.map_nil]); first | done | rfl | (simp only [List.length_drop, List.length_take]; rfl)) ?_; (with_reducible refine (rGF.calls k1 ((rd_T58 l0 x11_1).f1) t103 _ A6.out).mono ?_); rintro e w13 ⟨rfl, hb⟩; refine ⟨_, rfl, ?_⟩; have n0_ := Aside0.mk (blk_below (g := gb102) (o := .cells #[.bool ((rd_T58 l0 x11_1).f0), .string ((rd_T58 l0 x11_1).f1)] 58 (0, 0)) (by (with_reducible repeat (first | refine blk_drewN ?_ _ | refine blk_drew ?_ | refine blk_alloc ?_ _)); refine blk_put (cs := #[.bool ((rd_T58 l0 x11_1).f0), .string (⟨#[]⟩ : ByteArray)]) ?_ 1 _ rfl; (with_reducible repeat (first | refine blk_drewN ?_ _ | refine blk_drew ?_ | refine blk_alloc ?_ _)); refine blk_put (cs := #[.bool false, .string (⟨#[]⟩ : ByteArray)]) ?_ 0 _ rfl; (with_reducible repeat (first | refine blk_drewN ?_ _ | refine blk_drew ?_ | refine blk_alloc ?_ _)); exact BK102.out) hb); have n1_ := Aside0.mk (below_step (by repeat (first | (with_reducible first | exact HB.out | apply bwA | apply pwbN | apply bw1 | refine below_set ?_ GE102.out) | exact HB.out)) hb); clear BK102; clear HB; have BK102 := n0_; have HB := n1_; clear n0_ n1_; (try clear hb); (try clear hb2); (try clear hk); (try clear hi)))
        go_ret
        exact ⟨by first | rfl | (simp [errW_none, errW_some] <;> rfl) | (simp [*, errW_none, errW_some] <;> rfl), by repeat (first | (with_reducible first | exact HB.out | apply bwA | apply pwbN | apply bw1 | refine below_set ?_ GE102.out) | exact HB.out)⟩
      ·rw [if_neg c5] at H
       exact absurd H (by simp)
     ·rw [if_neg c4] at H
      exact absurd H (by simp)
    ·rw [if_neg c3] at H
     have c3b0 : decide (x11_1 < (l0.length : Int)) = false := decide_eq_false c3
     clear c3
     obtain rfl := Option.some.inj H
     go_wp2
     go_ret
     exact ⟨by first | rfl | (simp [errW_none, errW_some] <;> rfl) | (simp [*, errW_none, errW_some] <;> rfl), by repeat (first | (with_reducible first | exact HB.out | apply bwA | apply pwbN | apply bw1) | exact HB.out)⟩
def creelref_has.l0 : Nat → ByteArray → Int → Int → Option (Bool)
 | 0, _, _, _ => none
 | k + 1, x0, x1, x5 => if x5 < (x0.size : Int) then (if 0 ≤ x5 then (if (bt x0 x5) = x1 then (some true) else (creelref_has.l0 k x0 x1 (wrap64 (x5 + 1)))) else (none)) else (some false)
def creelref_has.f (k : Nat) (a0 : ByteArray) (a1 : Int) : Option (Bool) := creelref_has.l0 k a0 a1 0
set_option maxHeartbeats 8000000 in
set_option maxRecDepth 100000 in
theorem creelref_has.calls (k : Nat) (a0 : ByteArray) (a1 : Int) (r : Bool) (w : World) (h : creelref_has.f k a0 a1 = some r) :
  Calls Tryd.prog 65 #[.string a0, .int .u8 a1] w fun e w' => e = .returned (.bool r) ∧ Drawn0 w w' := by
 have H : (creelref_has.l0 k a0 a1 0) = some r := h
 clear h
 have H' := Aside0.mk H
 clear H
 go_enter Tryd.func65, Tryd.ntmps65
 go_wp2
 go_loopg [5] k (fun kq v5 w' => ∃ (x5_1 : Int), v5 = .int .i64 x5_1 ∧ Aside0 (creelref_has.l0 kq a0 a1 x5_1 = some r) ∧ Aside0 (kq ≤ k) ∧ Drawn0 w w')
 case atStart => exact ⟨(0), (by first | rfl | (simp; done) | (simp [*]; done)), H', ⟨Nat.le_refl _⟩, by repeat (first | exact Drawn0.refl _ | apply Drawn0.step)⟩
 case round =>
  clear H'
  try clear p2
  obtain ⟨x5_1, rfl, HA, HK1, ⟨m1, rfl⟩⟩ := hrel
  cases gk with
  | zero => exact absurd HA.out (by simp [creelref_has.l0])
  | succ k1 =>
   have H := HA.out
   clear HA
   simp only [creelref_has.l0] at H
   by_cases c3 : x5_1 < (a0.size : Int)
   ·rw [if_pos c3] at H
    have c3b0 : decide (x5_1 < (a0.size : Int)) = true := decide_eq_true c3
    clear c3
    by_cases c4 : 0 ≤ x5_1
    ·rw [if_pos c4] at H
     have c4b0 : decide (0 ≤ x5_1) = true := decide_eq_true c4
     clear c4
     by_cases c6 : (bt a0 x5_1) = a1
     ·rw [if_pos c6] at H
      have c6b0 : ((bt a0 x5_1) == a1) = true := beq_iff_eq.mpr c6
      have c6b1 : ((bt a0 x5_1) != a1) = false := bne_eq_false_iff_eq.mpr c6
      clear c6
      obtain rfl := Option.some.inj H
      have p5 : 0 ≤ (x5_1 : Int) := of_decide_eq_true (by first | (with_reducible assumption) | assumption)
      have q5 : x5_1 < (a0.size : Int) := of_decide_eq_true (by first | (with_reducible assumption) | assumption)
      have hx5 := bt_at a0 x5_1
      replace p5 := eq_true p5
      replace q5 := eq_true q5
      go_wp2
      go_ret
      exact ⟨by first | rfl | (simp; done) | (simp [*]; done), by repeat (first | exact Drawn0.refl _ | apply Drawn0.step)⟩
     ·rw [if_neg c6] at H
      have c6b0 : ((bt a0 x5_1) == a1) = false := beq_eq_false_iff_ne.mpr c6
      have c6b1 : ((bt a0 x5_1) != a1) = true := bne_iff_ne.mpr c6
      have H' := Aside0.mk H
      clear H
      have p5 : 0 ≤ (x5_1 : Int) := of_decide_eq_true (by first | (with_reducible assumption) | assumption)
      have q5 : x5_1 < (a0.size : Int) := of_decide_eq_true (by first | (with_reducible assumption) | assumption)
      have hx5 := bt_at a0 x5_1
      replace p5 := eq_true p5
      replace q5 := eq_true q5
      go_wp2
      go_roundg k1
      case measure => have := HK1.out; omega
      case rel => exact ⟨(wrap64 (x5_1 + 1)), (by first | rfl | (simp; done) | (simp [*]; done)), H', ⟨by have := HK1.out; omega⟩, by repeat (first | exact Drawn0.refl _ | apply Drawn0.step)⟩
    ·rw [if_neg c4] at H
     exact absurd H (by simp)
   ·rw [if_neg c3] at H
    have c3b0 : decide (x5_1 < (a0.size : Int)) = false := decide_eq_false c3
    clear c3
    obtain rfl := Option.some.inj H
    go_wp2
    go_ret
    exact ⟨by first | rfl | (simp; done) | (simp [*]; done), by repeat (first | exact Drawn0.refl _ | apply Drawn0.step)⟩
end Go.Proofs.YtcbbcnmifohibaaDoor.All
end
section
namespace Go.Proofs.YtcbbcnmifohibaaDoor.All
open Go.RowKit Go.Proofs.YtcbbcnmifohibaaDoorW.PrintWords Go.Proofs.YtcbbcnmifohibaaDoorW.PrintLast Go.Proofs.YtcbbcnmifohibaaDoorW.PrintMore
open Go.Proofs.YtcbbcnmifohibaaDoorW.Mine
attribute [local go_sem] gtr_string leq_string geq_string
attribute [local go_sem] max2_int min2_int max_two min_two max_three min_three max_four min_four
set_option linter.unusedVariables false
set_option linter.unusedSimpArgs false
mutual
def creelref_PathFault.j0 : Nat → ByteArray → Bool → Option (Int)
 | 0, _, _ => none
 | k + 1, x0, x11 => if x11 = true then (some 1) else ((creelref_has.f k x0 0).bind fun t101 => (if t101 = true then (some 3) else ((creelref_parts.f k x0 47).bind fun t102 => (creelref_PathFault.l0 k t102 (t102.length : Int) 0))))
def creelref_PathFault.l0 : Nat → List ByteArray → Int → Int → Option (Int)
 | 0, _, _, _ => none
 | k + 1, x15, x16, x17 => if x17 < x16 then (if 0 ≤ x17 then (if x17 < (x15.length : Int) then (if (rdOf ByteArray.empty x15 x17).toList = ([] : List UInt8) then (some 9) else (if (rdOf ByteArray.empty x15 x17).toList = ([46] : List UInt8) then (some 9) else (if (rdOf ByteArray.empty x15 x17).toList = ([46, 46] : List UInt8) then (some 9) else (creelref_PathFault.l0 k x15 x16 (wrap64 (x17 + 1)))))) else (none)) else (none)) else (some 0)
end
def creelref_PathFault.f (k : Nat) (a0 : ByteArray) : Option (Int) := if a0.toList = ([] : List UInt8) then (creelref_PathFault.j0 k a0 true) else (creelref_PathFault.j0 k a0 (decide ((a0.size : Int) > 400)))
set_option maxHeartbeats 8000000 in
set_option maxRecDepth 100000 in
theorem creelref_PathFault.calls (k : Nat) (a0 : ByteArray) (r : Int) (w : World) (h : creelref_PathFault.f k a0 = some r) :
  Calls Tryd.prog 32 #[.string a0] w fun e w' => e = .returned (.int .i64 r) ∧ Below w.heap.size w w' := by
 have HB := Aside0.mk (Below.refl w.heap.size w)
 have H : (if a0.toList = ([] : List UInt8) then (creelref_PathFault.j0 k a0 true) else (creelref_PathFault.j0 k a0 (decide ((a0.size : Int) > 400)))) = some r := h
 clear h
 have HC2 := Aside0.mk H
 clear H
 go_enter Tryd.func32, Tryd.ntmps32
 go_upto_region 1 with (fail)
 go_cut [11] (fun v11 wc => ∃ (kq : Nat) (x11_1 : Bool), v11 = .bool x11_1 ∧ Aside0 (creelref_PathFault.j0 kq a0 x11_1 = some r) ∧ Aside0 (kq ≤ k) ∧ Aside0 (Below w.heap.size w wc))
 case first =>
  have H := HC2.out
  clear HC2
  by_cases c3 : a0.toList = ([] : List UInt8)
  ·rw [if_pos c3] at H
   have c3b0 : (a0.toList == ([] : List UInt8)) = true := beq_iff_eq.mpr c3
   have c3b1 : (a0.toList != ([] : List UInt8)) = false := bne_eq_false_iff_eq.mpr c3
   clear c3
   (first | rw [c3b0] | (simp only [i64_w, i32_w]; rw [c3b0]) | skip)
   have H' := Aside0.mk H
   clear H
   go_wp2
   go_meet
   case rel => exact ⟨_, (true), (by first | rfl | (simp; done) | (simp [*]; done)), H', ⟨by first | omega | exact Nat.le_refl _⟩, ⟨by repeat (first | (with_reducible first | exact HB.out | apply bwA | apply pwbN | apply bw1) | exact HB.out)⟩⟩
  ·rw [if_neg c3] at H
   have c3b0 : (a0.toList == ([] : List UInt8)) = false := beq_eq_false_iff_ne.mpr c3
   have c3b1 : (a0.toList != ([] : List UInt8)) = true := bne_iff_ne.mpr c3
   (first | rw [c3b0] | (simp only [i64_w, i32_w]; rw [c3b0]) | skip)
   have H' := Aside0.mk H
   clear H
   go_wp2
   go_meet
   case rel => exact ⟨_, (decide ((a0.size : Int) > 400)), (by first | rfl | (simp; done) | (simp [*]; done)), H', ⟨by first | omega | exact Nat.le_refl _⟩, ⟨by repeat (first | (with_reducible first | exact HB.out | apply bwA | apply pwbN | apply bw1) | exact HB.out)⟩⟩
 case rest =>
  clear HC2
  repeat first|clear p2|clear c3|clear c3b0|clear c3b1
  obtain ⟨kq, x11_1, rfl, HA, HJ1, HB⟩ := hcut
  cases kq with
  | zero => exact absurd HA.out (by simp [creelref_PathFault.j0])
  | succ kj1 =>
   have H := HA.out
   clear HA
   simp only [creelref_PathFault.j0] at H
   by_cases c4 : x11_1 = true
   ·subst c4
    have H1 : (some 1) = some r := by rw [if_pos rfl] at H; exact H
    clear H
    have H := H1
    clear H1
    obtain rfl := Option.some.inj H
    go_wp2
    go_ret
    exact ⟨by first | rfl | (simp [errW_none, errW_some] <;> rfl) | (simp [*, errW_none, errW_some] <;> rfl), by repeat (first | (with_reducible first | exact HB.out | apply bwA | apply pwbN | apply bw1) | exact HB.out)⟩
   ·replace c4 := Bool.eq_false_iff.mpr c4
    subst c4
    have H1 : ((creelref_has.f kj1 a0 0).bind fun t101 => (if t101 = true then (some 3) else ((creelref_parts.f kj1 a0 47).bind fun t102 => (creelref_PathFault.l0 kj1 t102 (t102.length : Int) 0)))) = some r := by rw [if_neg (show ¬ (false = true) by decide)] at H; exact H
    clear H
    have H := H1
    clear H1
    replace H := Option.bind_eq_some_iff.mp H
    obtain ⟨t101, A50, H⟩ := H
    replace H : (if t101 = true then (some 3) else ((creelref_parts.f kj1 a0 47).bind fun t102 => (creelref_PathFault.l0 kj1 t102 (t102.length : Int) 0))) = some r := H
    have A5 := Aside0.mk A50
    clear A50
    by_cases c6 : t101 = true
    ·subst c6
     have H1 : (some 3) = some r := by rw [if_pos rfl] at H; exact H
     clear H
     have H := H1
     clear H1
     obtain rfl := Option.some.inj H
     go_wp2_with (first | ((with_reducible refine gate_callee (f := 65) rfl ?_); refine goesL_ (some 13) rfl rfl Tryd.func65 (by kernel_rfl) rfl #[.string a0, .int .u8 0] rfl (by (try simp only [List.map_toArray, List.map_cons, List.map_nil]); first | done | rfl | (simp only [List.length_drop, List.length_take]; rfl)) ?_; (with_reducible refine (creelref_has.calls kj1 a0 0 true _ A5.out).mono ?_); rintro e w' ⟨rfl, ⟨nd, rfl⟩⟩; refine ⟨_, rfl, ?_⟩))
     go_ret
     exact ⟨by first | rfl | (simp [errW_none, errW_some] <;> rfl) | (simp [*, errW_none, errW_some] <;> rfl), by repeat (first | (with_reducible first | exact HB.out | apply bwA | apply pwbN | apply bw1) | exact HB.out)⟩
    ·replace c6 := Bool.eq_false_iff.mpr c6
     subst c6
     have H1 : ((creelref_parts.f kj1 a0 47).bind fun t102 => (creelref_PathFault.l0 kj1 t102 (t102.length : Int) 0)) = some r := by rw [if_neg (show ¬ (false = true) by decide)] at H; exact H
     clear H
     have H := H1
     clear H1
     replace H := Option.bind_eq_some_iff.mp H
     obtain ⟨t102, A70, H⟩ := H
     replace H : (creelref_PathFault.l0 kj1 t102 (t102.length : Int) 0) = some r := H
     have A7 := Aside0.mk A70
     clear A70
     have H' := Aside0.mk H
     clear H
     go_wp2_with (first | ((with_reducible refine gate_callee (f := 65) rfl ?_); refine goesL_ (some 13) rfl rfl Tryd.func65 (by kernel_rfl) rfl #[.string a0, .int .u8 0] rfl (by (try simp only [List.map_toArray, List.map_cons, List.map_nil]); first | done | rfl | (simp only [List.length_drop, List.length_take]; rfl)) ?_; (with_reducible refine (creelref_has.calls kj1 a0 0 false _ A5.out).mono ?_); rintro e w' ⟨rfl, ⟨nd, rfl⟩⟩; refine ⟨_, rfl, ?_⟩) | ((with_reducible refine gate_callee (f := 33) rfl ?_); refine goesL_ (some 15) rfl rfl Tryd.func33 (by kernel_rfl) rfl #[.string a0, .int .u8 47] rfl (by (try simp only [List.map_toArray, List.map_cons, List.map_nil]); first | done | rfl | (simp only [List.length_drop, List.length_take]; rfl)) ?_; (with_reducible refine (creelref_parts.calls kj1 a0 47 t102 _ A7.out).mono ?_); rintro e w8 ⟨v103, rfl, ho0, hb⟩; refine ⟨_, rfl, ?_⟩; have n0_ := Aside0.mk (Kd.R_lower ho0 (below_size (by repeat (first | (with_reducible first | exact HB.out | apply bwA | apply pwbN | apply bw1) | exact HB.out)))); have n1_ := Aside0.mk (below_step (by repeat (first | (with_reducible first | exact HB.out | apply bwA | apply pwbN | apply bw1) | exact HB.out)) hb); clear HB; have HO104 := n0_; have HB := n1_; clear n0_ n1_; (try clear hb); (try clear hb2); (try clear hk); (try clear hi); (try clear ho0); obtain ⟨Ao9, co9, eo9⟩ := Kd.R_slice HO104.out; subst eo9))
     go_loopg [17] kj1 (fun kq v17 w' => ∃ (x17_2 : Int), v17 = .int .i64 x17_2 ∧ Aside0 (creelref_PathFault.l0 kq t102 (t102.length : Int) x17_2 = some r) ∧ Aside0 (kq ≤ kj1) ∧ Aside0 (Kd.R Kd.string 9 w' w.heap.size (fun _ => True) (.slice Ao9 t102.length co9) t102) ∧ Aside0 (Below w.heap.size w w'))
     case atStart => exact ⟨(0), (by first | rfl | (simp; done) | (simp [*]; done)), H', ⟨Nat.le_refl _⟩, ⟨by (with_reducible repeat (first | apply Kd.R_alloc | apply Kd.R_drewN | apply Kd.R_drew)); exact HO104.out⟩, ⟨by repeat (first | (with_reducible first | exact HB.out | apply bwA | apply pwbN | apply bw1) | exact HB.out)⟩⟩
     case round =>
      clear H'
      repeat first|clear p2|clear c3|clear c3b0|clear c3b1|clear c4|clear c6|clear p2
      obtain ⟨x17_2, rfl, HA, HK2, HO_15, HB⟩ := hrel
      cases gk with
      | zero => exact absurd HA.out (by simp [creelref_PathFault.l0])
      | succ k2 =>
       have H := HA.out
       clear HA
       simp only [creelref_PathFault.l0] at H
       by_cases c10 : x17_2 < (t102.length : Int)
       ·rw [if_pos c10] at H
        have c10b0 : decide (x17_2 < (t102.length : Int)) = true := decide_eq_true c10
        clear c10
        by_cases c11 : 0 ≤ x17_2
        ·rw [if_pos c11] at H
         have c11b0 : decide (0 ≤ x17_2) = true := decide_eq_true c11
         clear c11
         by_cases c12 : x17_2 < (t102.length : Int)
         ·rw [if_pos c12] at H
          have c12b0 : decide (x17_2 < (t102.length : Int)) = true := decide_eq_true c12
          clear c12
          by_cases c13 : (rdOf ByteArray.empty t102 x17_2).toList = ([] : List UInt8)
          ·rw [if_pos c13] at H
           have c13b0 : ((rdOf ByteArray.empty t102 x17_2).toList == ([] : List UInt8)) = true := beq_iff_eq.mpr c13
           have c13b1 : ((rdOf ByteArray.empty t102 x17_2).toList != ([] : List UInt8)) = false := bne_eq_false_iff_eq.mpr c13
           clear c13
           obtain rfl := Option.some.inj H
           have p105 : 0 ≤ (x17_2 : Int) := of_decide_eq_true (by first | (with_reducible assumption) | assumption)
           have q105 : x17_2 < (t102.length : Int) := of_decide_eq_true (by first | (with_reducible assumption) | assumption)
           obtain ⟨ad105, e105, hx105_0⟩ := Kd.at_string (Kd.R_reads' HO_15.out).2.2 x17_2 p105 q105
           cases e105
           replace p105 := eq_true p105
           replace q105 := eq_true q105
           go_wp2
           go_ret
           exact ⟨by first | rfl | (simp [errW_none, errW_some] <;> rfl) | (simp [*, errW_none, errW_some] <;> rfl), by repeat (first | (with_reducible first | exact HB.out | apply bwA | apply pwbN | apply bw1) | exact HB.out)⟩
          ·rw [if_neg c13] at H
           have c13b0 : ((rdOf ByteArray.empty t102 x17_2).toList == ([] : List UInt8)) = false := beq_eq_false_iff_ne.mpr c13
           have c13b1 : ((rdOf ByteArray.empty t102 x17_2).toList != ([] : List UInt8)) = true := bne_iff_ne.mpr c13
           by_cases c14 : (rdOf ByteArray.empty t102 x17_2).toList = ([46] : List UInt8)
           ·rw [if_pos c14] at H
            have c14b0 : ((rdOf ByteArray.empty t102 x17_2).toList == ([46] : List UInt8)) = true := beq_iff_eq.mpr c14
            have c14b1 : ((rdOf ByteArray.empty t102 x17_2).toList != ([46] : List UInt8)) = false := bne_eq_false_iff_eq.mpr c14
            clear c14
            obtain rfl := Option.some.inj H
            have p105 : 0 ≤ (x17_2 : Int) := of_decide_eq_true (by first | (with_reducible assumption) | assumption)
            have q105 : x17_2 < (t102.length : Int) := of_decide_eq_true (by first | (with_reducible assumption) | assumption)
            obtain ⟨ad105, e105, hx105_0⟩ := Kd.at_string (Kd.R_reads' HO_15.out).2.2 x17_2 p105 q105
            cases e105
            replace p105 := eq_true p105
            replace q105 := eq_true q105
            go_wp2
            go_ret
            exact ⟨by first | rfl | (simp [errW_none, errW_some] <;> rfl) | (simp [*, errW_none, errW_some] <;> rfl), by repeat (first | (with_reducible first | exact HB.out | apply bwA | apply pwbN | apply bw1) | exact HB.out)⟩
           ·rw [if_neg c14] at H
            have c14b0 : ((rdOf ByteArray.empty t102 x17_2).toList == ([46] : List UInt8)) = false := beq_eq_false_iff_ne.mpr c14
            have c14b1 : ((rdOf ByteArray.empty t102 x17_2).toList != ([46] : List UInt8)) = true := bne_iff_ne.mpr c14
            by_cases c15 : (rdOf ByteArray.empty t102 x17_2).toList = ([46, 46] : List UInt8)
            ·rw [if_pos c15] at H
             have c15b0 : ((rdOf ByteArray.empty t102 x17_2).toList == ([46, 46] : List UInt8)) = true := beq_iff_eq.mpr c15
             have c15b1 : ((rdOf ByteArray.empty t102 x17_2).toList != ([46, 46] : List UInt8)) = false := bne_eq_false_iff_eq.mpr c15
             clear c15
             obtain rfl := Option.some.inj H
             have p105 : 0 ≤ (x17_2 : Int) := of_decide_eq_true (by first | (with_reducible assumption) | assumption)
             have q105 : x17_2 < (t102.length : Int) := of_decide_eq_true (by first | (with_reducible assumption) | assumption)
             obtain ⟨ad105, e105, hx105_0⟩ := Kd.at_string (Kd.R_reads' HO_15.out).2.2 x17_2 p105 q105
             cases e105
             replace p105 := eq_true p105
             replace q105 := eq_true q105
             go_wp2
             go_ret
             exact ⟨by first | rfl | (simp [errW_none, errW_some] <;> rfl) | (simp [*, errW_none, errW_some] <;> rfl), by repeat (first | (with_reducible first | exact HB.out | apply bwA | apply pwbN | apply bw1) | exact HB.out)⟩
            ·rw [if_neg c15] at H
             have c15b0 : ((rdOf ByteArray.empty t102 x17_2).toList == ([46, 46] : List UInt8)) = false := beq_eq_false_iff_ne.mpr c15
             have c15b1 : ((rdOf ByteArray.empty t102 x17_2).toList != ([46, 46] : List UInt8)) = true := bne_iff_ne.mpr c15
             have H' := Aside0.mk H
             clear H
             have p105 : 0 ≤ (x17_2 : Int) := of_decide_eq_true (by first | (with_reducible assumption) | assumption)
             have q105 : x17_2 < (t102.length : Int) := of_decide_eq_true (by first | (with_reducible assumption) | assumption)
             obtain ⟨ad105, e105, hx105_0⟩ := Kd.at_string (Kd.R_reads' HO_15.out).2.2 x17_2 p105 q105
             cases e105
             replace p105 := eq_true p105
             replace q105 := eq_true q105
             go_wp2
             go_roundg k2
             case measure => have := HJ1.out; have := HK2.out; omega
             case rel => exact ⟨(wrap64 (x17_2 + 1)), (by first | rfl | (simp; done) | (simp [*]; done)), H', ⟨by have := HJ1.out; have := HK2.out; omega⟩, ⟨by (with_reducible repeat (first | apply Kd.R_alloc | apply Kd.R_drewN | apply Kd.R_drew)); exact HO_15.out⟩, ⟨by repeat (first | (with_reducible first | exact HB.out | apply bwA | apply pwbN | apply bw1) | exact HB.out)⟩⟩
         ·rw [if_neg c12] at H
          exact absurd H (by simp)
        ·rw [if_neg c11] at H
         exact absurd H (by simp)
       ·rw [if_neg c10] at H
        have c10b0 : decide (x17_2 < (t102.length : Int)) = false := decide_eq_false c10
        clear c10
        obtain rfl := Option.some.inj H
        go_wp2
        go_ret
        exact ⟨by first | rfl | (simp [errW_none, errW_some] <;> rfl) | (simp [*, errW_none, errW_some] <;> rfl), by repeat (first | (with_reducible first | exact HB.out | apply bwA | apply pwbN | apply bw1) | exact HB.out)⟩
end Go.Proofs.YtcbbcnmifohibaaDoor.All
end
section
namespace Go.Proofs.YtcbbcnmifohibaaDoor.All
open Go.RowKit Go.Proofs.YtcbbcnmifohibaaDoorW.PrintWords Go.Proofs.YtcbbcnmifohibaaDoorW.PrintLast Go.Proofs.YtcbbcnmifohibaaDoorW.PrintMore
open Go.Proofs.YtcbbcnmifohibaaDoorW.Mine
attribute [local go_sem] gtr_string leq_string geq_string
attribute [local go_sem] max2_int min2_int max_two min_two max_three min_three max_four min_four
set_option linter.unusedVariables false
set_option linter.unusedSimpArgs false
open Go.Proofs.YtcbbcnmifohibaaDoorW.MapOwn Go.Proofs.YtcbbcnmifohibaaDoorW.Blks
abbrev rGT.Bk (W : World) (g : Nat) (x : List Bool) : Prop := W.heap[g]? = some (.cells (x.map Value.bool).toArray 4 (0, 0))
section
variable {P : Program} {ops : Array Oper} {rest : List Oper} {o : Oper} {a : Act} {Q : Exit → Act → World → Prop} {W : World}
theorem rGT.setB_event (hgd : o.guard = none) (hd : o.dst = none) {t : TypeId} {x y : Operand} (ho : o.op = .store t x y) {g j : Nat} {b : Bool} {l : List Bool} (hx : a.eval x = .pointer (some ⟨g, j, none⟩)) (hy : a.eval y = .bool b) (hsz : (P.info? t).map (·.size) = some 1) (hg : rGT.Bk W g l) (hj : j < l.length) (h : ∀ W', rGT.Bk W' g (l.set j b) → W.grownBy W' (some g) → wpList P ops Q rest a W') : wpList P ops Q (o :: rest) a W := by
 refine wpList_plain hgd fun K hK => ?_
 obtain ⟨i0, hi0, hi1⟩ := Option.map_eq_some_iff.1 hsz
 have hc : W.cell? ⟨g, j, none⟩ = some (.bool (l[j])) := (blk_cell hg j).trans (by simp [hj])
 have hrun : (Instr.storeAt t (.pointer (some ⟨g, j, none⟩)) (.bool b)).run P W = .ok () (W.setCell ⟨g, j, none⟩ (.bool b)) := by
  simp [Instr.storeAt, Instr.sureAddr, storeVar, sizeOf, typeInfo, hi0, hi1, Value.cells, storeCells, go_sem, hc, blkF hg j]
 unfold Oper.wp execOp
 simp only [ho, hx, hy, Sem.run_bind, hrun, Result.andThen_ok]
 refine hK _ _ ?_
 rw [hd]
 refine h _ (blk_put hg j _ ?_) (grownBy_setCell W g j _)
 simp [List.map_set]
theorem rGT.mk_event (hgd : o.guard = none) {t e : TypeId} {x y : Operand} (ho : o.op = .makeSlice t x y) {n : Nat} (hx : a.eval x = .int .i64 (n : Int)) (hy : a.eval y = .int .i64 (n : Int)) (ht : P.underlying t = some (.slice e)) (hinfo : (P.info? e).map (fun i => (i.zero, i.size, i.bytes)) = some (some (.bool false), 1, 1)) (he : e = 4) (hn : n ≤ 281474976710656)
  (h : ∀ (g : Nat) (W' : World), g = W.heap.size → rGT.Bk W' g (List.replicate n false) → Below W.heap.size W W' → wpList P ops Q rest (a.put o.dst (.slice (some ⟨g, 0, none⟩) n n)) W') : wpList P ops Q (o :: rest) a W := by
 refine wpList_plain hgd fun K hK => ?_
 obtain ⟨i0, hi, hzz⟩ := Option.map_eq_some_iff.1 hinfo
 simp only [Prod.mk.injEq] at hzz
 obtain ⟨hz0, hz1, hz2⟩ := hzz
 have hr := run_make (P := P) W t e i0 (.bool false) ht hi hz0 .i64 .i64 (n : Int) (n : Int) (by omega) (by omega) (by rw [hz2]; omega) (by omega)
 simp only [Int.toNat_natCast] at hr
 rw [hz1, Nat.mul_one] at hr
 unfold Oper.wp execOp
 simp only [ho, hx, hy, Sem.run_bind, hr, Result.andThen_ok]
 refine hK _ _ (h _ _ rfl ?_ (bwA (Below.refl _ _) _))
 unfold rGT.Bk
 rw [blk_new, he]
 congr 2
 apply Array.ext'
 apply List.ext_getElem
 ·simp [madeCells]
 ·intro j h1 h2
  simp [madeCells, Value.cells]
  rw [Nat.mod_one]
  rfl
end
theorem rGT.bcell {W : World} {g : Nat} {x : List Bool} (h : rGT.Bk W g x) (j : Nat) (hj : j < x.length) : W.cell? ⟨g, j, none⟩ = some (.bool (x.getD j false)) := (blk_cell h j).trans (by simp [hj])
theorem rGT.hcells {w W : World} {g : Nat} {row : List Bool} (h : Held w W g 4 (row.map Value.bool).toArray) (W' : World) (hb : Below W.heap.size W W') (j : Nat) (hj : j < row.length) : W'.cell? ⟨g, j, none⟩ = some (.bool (row.getD j false)) := rGT.bcell (blk_below h.blk hb) j hj
theorem rGT.info4 : (Tryd.prog.info? 4).map (fun i => (i.zero, i.size, i.bytes)) = some (some (.bool false), 1, 1) := by kernel_rfl
theorem rGT.sz4 : (Tryd.prog.info? 4).map (·.size) = some 1 := by kernel_rfl
def rGT.TK (S : Nat → Option Bool) (F : Nat → Nat → Option Bool) (i : Nat) (row : List Bool) : Nat → Nat → List Bool → Option (List Bool)
 | 0, _, nx => some nx
 | d + 1, k, nx => (S i).bind fun s => if s = true then rGT.TK S F i row d (k + 1) (nx.set (k + 1) (row.getD (k + 1) false || nx.getD k false)) else (if row.getD k false = true then F i k else some false).bind fun b => rGT.TK S F i row d (k + 1) (nx.set (k + 1) b)
def rGT.TI (m : Nat) (S : Nat → Option Bool) (F : Nat → Nat → Option Bool) : Nat → Nat → List Bool → Option (List Bool)
 | 0, _, row => some row
 | d + 1, i, row => (if row.getD 0 false = true then S i else some false).bind fun b => (rGT.TK S F i row m 0 ((List.replicate (m + 1) false).set 0 b)).bind fun nx => rGT.TI m S F d (i + 1) nx
def rGT.tab (n m : Nat) (S : Nat → Option Bool) (F : Nat → Nat → Option Bool) : Option Bool := if n ≤ 1000000000000 ∧ m ≤ 1000000000000 then (rGT.TI m S F n 0 ((List.replicate (m + 1) false).set 0 true)).bind fun r => some (r.getD m false) else none
def rGT.star (l : List ByteArray) (i : Nat) : Option Bool := if i < l.length then some ((rdOf ByteArray.empty l (i : Int)).toList == [42, 42]) else none
def rGT.tstar (l : List (List Bool)) (i : Nat) : Option Bool := if i < l.length then some ((l.getD i []).getD 0 false) else none
def rGT.tfit (l : List (List Bool)) (s : ByteArray) (i j : Nat) : Option Bool := if i < l.length then (if j < s.size then some ((l.getD i []).getD (1 + (bt s (j : Int)).toNat) false) else none) else none
def rGT.part (p s : ByteArray) : Option Bool := (rGF.tok p).bind fun l => rGT.tab l.1.length s.size (rGT.tstar l.1) (rGT.tfit l.1 s)
def rGT.fit (l t : List ByteArray) (i j : Nat) : Option Bool := if i < l.length then (if j < t.length then rGT.part (rdOf ByteArray.empty l (i : Int)) (rdOf ByteArray.empty t (j : Int)) else none) else none
def rGT.f (k : Nat) (p s : ByteArray) : Option (Bool × Int) := (rGF.f k p).bind fun e => if e = 0 then (creelref_PathFault.f k s).bind fun e2 => if e2 = 0 then (creelref_parts.f k p 47).bind fun a => (creelref_parts.f k s 47).bind fun b => (rGT.tab a.length b.length (rGT.star a) (rGT.fit a b)).bind fun r => some (r, 0) else some (false, e2) else some (false, e)
set_option maxHeartbeats 16000000 in
set_option maxRecDepth 100000 in
theorem rGT.tableA (n m : Nat) (S : Nat → Option Bool) (F : Nat → Nat → Option Bool) (g1 g2 : Nat) (r : Bool) (w : World)
  (hS : ∀ (W : World) (i : Nat) (b : Bool), Below w.heap.size w W → S i = some b → Calls Tryd.prog 66 #[.int .i64 (i : Int), .pointer (some ⟨g1, 0, none⟩)] W fun e W' => e = .returned (.bool b) ∧ Below W.heap.size W W')
  (hF : ∀ (W : World) (i j : Nat) (b : Bool), Below w.heap.size w W → F i j = some b → Calls Tryd.prog 67 #[.int .i64 (i : Int), .int .i64 (j : Int), .pointer (some ⟨g1, 0, none⟩), .pointer (some ⟨g2, 0, none⟩)] W fun e W' => e = .returned (.bool b) ∧ Below W.heap.size W W')
  (h : rGT.tab n m S F = some r) :
  Calls Tryd.prog 34 #[.int .i64 (n : Int), .int .i64 (m : Int), .func (.func 66) #[] #[.pointer (some ⟨g1, 0, none⟩)], .func (.func 67) #[] #[.pointer (some ⟨g1, 0, none⟩), .pointer (some ⟨g2, 0, none⟩)]] w fun e w' => e = .returned (.bool r) ∧ Below w.heap.size w w' := by
 unfold rGT.tab at h
 by_cases c0 : n ≤ 1000000000000 ∧ m ≤ 1000000000000
 ·rw [if_pos c0] at h
  cases hR : rGT.TI m S F n 0 ((List.replicate (m + 1) false).set 0 true) with
  | none => rw [hR] at h; cases h
  | some R =>
   rw [hR] at h
   obtain rfl := Option.some.inj h
   obtain ⟨hn, hm⟩ := c0
   have HS := Aside0.mk hS
   have HF := Aside0.mk hF
   have H' := Aside0.mk hR
   have HN := Aside0.mk hn
   have HM := Aside0.mk hm
   have HB0 := Aside0.mk (Below.refl w.heap.size w)
   have hmM : (m : Int) ≤ 1000000000000 := by omega
   have hnM : (n : Int) ≤ 1000000000000 := by omega
   have hm0 : (0 < m + 1) = True := eq_true (by omega)
   have hm0i : ((0 : Int) < ((m + 1 : Nat) : Int)) = True := eq_true (by omega)
   clear hS hF h hR hn hm
   go_enter Tryd.func34, Tryd.ntmps34
   go_wp2_with (first | ((with_reducible refine gate_dst (N := 15) rfl ?_); refine rGT.mk_event (n := m + 1) rfl rfl rfl rfl Tryd.underlying88 rGT.info4 rfl (by have := HM.out; omega) ?_; intro g w1 hg hk hb1; have HG := Aside0.mk (show w.heap.size ≤ g by rw [hg]; exact Nat.le_refl _); have HK := Aside0.mk hk; have HB := Aside0.mk hb1; clear hg hk hb1) | ((with_reducible refine gate_store (t := 4) (p := 17) rfl ?_); refine rGT.setB_event rfl rfl rfl rfl rfl rGT.sz4 HK.out (by simp) ?_; intro w2 hk2 hg2; have HK2 := Aside0.mk hk2; have HB2 := Aside0.mk (below_grown HB.out hg2 HG.out (blk_lt HK.out)); clear hk2 hg2))
   have HH : Aside0 (Held w w2 g 4 (((List.replicate (m + 1) false).set 0 true).map Value.bool).toArray) := ⟨⟨HB2.out, HG.out, HK2.out⟩⟩
   have HL : Aside0 (((List.replicate (m + 1) false).set 0 true).length = m + 1) := ⟨by simp⟩
   clear HG HK HB HK2 HB2 HB0
   go_loopg [9, 10] n (fun kq v9 v10 wx => ∃ (i g : Nat) (row : List Bool), v9 = .slice (some ⟨g, 0, none⟩) (m + 1) (m + 1) ∧ v10 = .int .i64 (i : Int) ∧ Aside0 (rGT.TI m S F kq i row = some R) ∧ Aside0 (kq + i = n) ∧ Aside0 (row.length = m + 1) ∧ Aside0 (Held w wx g 4 (row.map Value.bool).toArray))
   case atStart => exact ⟨0, g, _, rfl, rfl, H', ⟨rfl⟩, HL, HH⟩
   case round =>
    clear H' HL HH
    obtain ⟨i, g, row, rfl, rfl, HA, HQ, HL, HH⟩ := hrel
    cases gk with
    | zero =>
     obtain rfl := Option.some.inj HA.out
     have c1b : decide ((i : Int) < (n : Int)) = false := decide_eq_false (by have := HQ.out; omega)
     have c1c : decide (i < n) = false := decide_eq_false (by have := HQ.out; omega)
     have c1d : (i < n) = False := eq_false (by have := HQ.out; omega)
     have hcell := rGT.bcell HH.out.blk m (by have := HL.out; omega)
     have hmm : (m < m + 1) = True := eq_true (by omega)
     have hmi : ((m : Int) < ((m + 1 : Nat) : Int)) = True := eq_true (by omega)
     have hm0 : ((0 : Int) ≤ (m : Int)) = True := eq_true (by omega)
     go_wp2
     go_ret
     exact ⟨rfl, HH.out.below⟩
    | succ k1 =>
     have H := HA.out
     clear HA
     simp only [rGT.TI] at H
     have c1b : decide ((i : Int) < (n : Int)) = true := decide_eq_true (by have := HQ.out; omega)
     have c1d : (i < n) = True := eq_true (by have := HQ.out; omega)
     have hwi : (i : Int) < (n : Int) := by have := HQ.out; omega
     obtain ⟨b, hb0, H⟩ := Option.bind_eq_some_iff.1 H
     obtain ⟨NX, hNX, H⟩ := Option.bind_eq_some_iff.1 H
     have HN2 := Aside0.mk hNX
     have H' := Aside0.mk H
     have HD := Aside0.mk hb0
     clear hNX H hb0
     have HC0 := Aside0.mk (fun W' hb => rGT.hcells HH.out W' hb 0 (by have := HL.out; omega))
     cases hc0 : row.getD 0 false with
     | true =>
      have hd0 := HD.out
      rw [hc0, if_pos rfl] at hd0
      have HD0 := Aside0.mk hd0
      rw [hc0] at HC0
      clear hd0 HD hc0
      go_wp2_with (first | ((with_reducible refine gate_dst (N := 25) rfl ?_); refine rGT.mk_event (n := m + 1) rfl rfl rfl rfl Tryd.underlying88 rGT.info4 rfl (by have := HM.out; omega) ?_; intro g2 w5 hg hk hb1; have HB5 := Aside0.mk (below_step HH.out.below hb1); have HG := Aside0.mk (show w.heap.size ≤ g2 by rw [hg]; exact HH.out.below.size); have HNE := Aside0.mk (show g ≠ g2 by rw [hg]; have := HH.out.lt; omega); have HK5 := Aside0.mk hk; have HH5 := Aside0.mk (HH.out.step hb1); have hc5 := HC0.out _ hb1; clear hg hk hb1) | (go_at_call 66; refine (HS.out _ _ b HB5.out HD0.out).mono ?_; rintro e w3 ⟨rfl, hb3⟩; have HK3 := Aside0.mk (blk_below HK5.out hb3); have HH3 := Aside0.mk (HH5.out.step hb3); clear hb3) | ((with_reducible refine gate_store (t := 4) (p := 35) rfl ?_); refine rGT.setB_event rfl rfl rfl rfl rfl rGT.sz4 HK3.out (by simp) ?_; intro w6 hk6 hg6; have HHN := Aside0.mk (show Held w w6 g2 4 _ from ⟨below_grown HH3.out.below hg6 HG.out (blk_lt HK3.out), HG.out, hk6⟩); have HHR := Aside0.mk (HH3.out.other hg6 HG.out HNE.out); clear hk6 hg6))
      have HL2 : Aside0 (((List.replicate (m + 1) false).set 0 b).length = m + 1) := ⟨by simp⟩
      try clear HK3
      try clear HH3
      clear HK5 HH5 HC0 hc5
      go_loopg [12] m (fun kq v12 wy => ∃ (k : Nat) (nx : List Bool), v12 = .int .i64 (k : Int) ∧ Aside0 (rGT.TK S F i row kq k nx = some NX) ∧ Aside0 (kq + k = m) ∧ Aside0 (nx.length = m + 1) ∧ Aside0 (Held w wy g2 4 (nx.map Value.bool).toArray) ∧ Aside0 (Held w wy g 4 (row.map Value.bool).toArray))
      case atStart => exact ⟨0, _, rfl, HN2, ⟨rfl⟩, HL2, HHN, HHR⟩
      case round =>
       clear HN2 HL2 HHN HHR
       obtain ⟨k, nx, rfl, HA2, HQ2, HL2, HNX, HRX⟩ := hrel
       cases gk with
       | zero =>
        obtain rfl := Option.some.inj HA2.out
        have c2b : decide ((k : Int) < (m : Int)) = false := decide_eq_false (by have := HQ2.out; omega)
        have c2c : decide (k < m) = false := decide_eq_false (by have := HQ2.out; omega)
        have c2d : (k < m) = False := eq_false (by have := HQ2.out; omega)
        clear HA2
        go_wp2
        go_roundg k1
        case measure => exact Nat.lt_succ_self _
        case rel => exact ⟨i + 1, g2, nx, rfl, rfl, H', ⟨by have := HQ.out; omega⟩, HL2, HNX⟩
       | succ k2 =>
        have H2 := HA2.out
        clear HA2
        simp only [rGT.TK] at H2
        have c2b : decide ((k : Int) < (m : Int)) = true := decide_eq_true (by have := HQ2.out; omega)
        have c2d : (k < m) = True := eq_true (by have := HQ2.out; omega)
        have hwk : (k : Int) < (m : Int) := by have := HQ2.out; omega
        have hk0 : ((0 : Int) ≤ ((k + 1 : Nat) : Int)) = True := eq_true (by omega)
        have hk1 : (((k + 1 : Nat) : Int) < ((m + 1 : Nat) : Int)) = True := eq_true (by have := HQ2.out; omega)
        have hk2 : (k + 1 < m + 1) = True := eq_true (by have := HQ2.out; omega)
        have hk3 : ((0 : Int) ≤ (k : Int)) = True := eq_true (by omega)
        have hk4 : ((k : Int) < ((m + 1 : Nat) : Int)) = True := eq_true (by have := HQ2.out; omega)
        have hk5 : (k < m + 1) = True := eq_true (by have := HQ2.out; omega)
        have HCR := Aside0.mk (rGT.hcells HRX.out)
        have HCN := Aside0.mk (rGT.hcells HNX.out)
        obtain ⟨s, hs, H2⟩ := Option.bind_eq_some_iff.1 H2
        have HSI := Aside0.mk hs
        clear hs
        cases s with
        | true =>
         rw [if_pos rfl] at H2
         cases hq : row.getD (k + 1) false with
         | true =>
          rw [hq, Bool.true_or] at H2
          have H2' := Aside0.mk H2
          have HQT := Aside0.mk hq
          clear H2 hq
          go_wp2_with (first | (go_at_call 66; refine (HS.out _ _ true HRX.out.below HSI.out).mono ?_; rintro e w7 ⟨rfl, hb7⟩; have HN7 := Aside0.mk (HNX.out.step hb7); have HR7 := Aside0.mk (HRX.out.step hb7); have hr1 := (HCR.out _ hb7 (k + 1) (by have := HL.out; have := HQ2.out; omega)).trans (by rw [HQT.out]); have hr0 := (HCR.out _ hb7 k (by have := HL.out; have := HQ2.out; omega)); have hn0 := HCN.out _ hb7 k (by have := HL2.out; have := HQ2.out; omega); clear hb7) | ((with_reducible refine gate_store (t := 4) (p := 58) rfl ?_); refine rGT.setB_event rfl rfl rfl rfl rfl rGT.sz4 HN7.out.blk (by have := HL2.out; have := HQ2.out; omega) ?_; intro w9 hk9 hg9; have HN9 := Aside0.mk (HN7.out.put hk9 hg9); have HR9 := Aside0.mk (HR7.out.other hg9 HG.out HNE.out); clear hk9 hg9))
          go_roundg k2
          case measure => exact Nat.lt_succ_self _
          case rel => exact ⟨k + 1, _, rfl, H2', ⟨by have := HQ2.out; omega⟩, ⟨by rw [List.length_set]; exact HL2.out⟩, HN9, HR9⟩
         | false =>
          rw [hq, Bool.false_or] at H2
          have H2' := Aside0.mk H2
          have HQT := Aside0.mk hq
          clear H2 hq
          go_wp2_with (first | (go_at_call 66; refine (HS.out _ _ true HRX.out.below HSI.out).mono ?_; rintro e w7 ⟨rfl, hb7⟩; have HN7 := Aside0.mk (HNX.out.step hb7); have HR7 := Aside0.mk (HRX.out.step hb7); have hr1 := (HCR.out _ hb7 (k + 1) (by have := HL.out; have := HQ2.out; omega)).trans (by rw [HQT.out]); have hr0 := (HCR.out _ hb7 k (by have := HL.out; have := HQ2.out; omega)); have hn0 := HCN.out _ hb7 k (by have := HL2.out; have := HQ2.out; omega); clear hb7) | ((with_reducible refine gate_store (t := 4) (p := 58) rfl ?_); refine rGT.setB_event rfl rfl rfl rfl rfl rGT.sz4 HN7.out.blk (by have := HL2.out; have := HQ2.out; omega) ?_; intro w9 hk9 hg9; have HN9 := Aside0.mk (HN7.out.put hk9 hg9); have HR9 := Aside0.mk (HR7.out.other hg9 HG.out HNE.out); clear hk9 hg9))
          go_roundg k2
          case measure => exact Nat.lt_succ_self _
          case rel => exact ⟨k + 1, _, rfl, H2', ⟨by have := HQ2.out; omega⟩, ⟨by rw [List.length_set]; exact HL2.out⟩, HN9, HR9⟩
        | false =>
         rw [if_neg (by decide)] at H2
         obtain ⟨b2, hb2, H2⟩ := Option.bind_eq_some_iff.1 H2
         have H2' := Aside0.mk H2
         clear H2
         cases hq : row.getD k false with
         | true =>
          rw [hq, if_pos rfl] at hb2
          have HFI := Aside0.mk hb2
          have HQT := Aside0.mk hq
          clear hb2 hq
          go_wp2_with (first | (go_at_call 66; refine (HS.out _ _ false HRX.out.below HSI.out).mono ?_; rintro e w7 ⟨rfl, hb7⟩; have HN7 := Aside0.mk (HNX.out.step hb7); have HR7 := Aside0.mk (HRX.out.step hb7); have hr1 := (HCR.out _ hb7 (k + 1) (by have := HL.out; have := HQ2.out; omega)); have hr0 := (HCR.out _ hb7 k (by have := HL.out; have := HQ2.out; omega)).trans (by rw [HQT.out]); have hn0 := HCN.out _ hb7 k (by have := HL2.out; have := HQ2.out; omega); clear hb7) | (go_at_call 67; refine (HF.out _ _ _ b2 HR7.out.below HFI.out).mono ?_; rintro e w8 ⟨rfl, hb8⟩; have HN8 := Aside0.mk (HN7.out.step hb8); have HR8 := Aside0.mk (HR7.out.step hb8); clear hb8) | ((with_reducible refine gate_store (t := 4) (p := 72) rfl ?_); refine rGT.setB_event rfl rfl rfl rfl rfl rGT.sz4 HN8.out.blk (by have := HL2.out; have := HQ2.out; omega) ?_; intro w9 hk9 hg9; have HN9 := Aside0.mk (HN8.out.put hk9 hg9); have HR9 := Aside0.mk (HR8.out.other hg9 HG.out HNE.out); clear hk9 hg9))
          go_roundg k2
          case measure => exact Nat.lt_succ_self _
          case rel => exact ⟨k + 1, _, rfl, H2', ⟨by have := HQ2.out; omega⟩, ⟨by rw [List.length_set]; exact HL2.out⟩, HN9, HR9⟩
         | false =>
          rw [hq, if_neg (by decide)] at hb2
          obtain rfl := Option.some.inj hb2
          have HQT := Aside0.mk hq
          clear hb2 hq
          go_wp2_with (first | (go_at_call 66; refine (HS.out _ _ false HRX.out.below HSI.out).mono ?_; rintro e w7 ⟨rfl, hb7⟩; have HN7 := Aside0.mk (HNX.out.step hb7); have HR7 := Aside0.mk (HRX.out.step hb7); have hr1 := (HCR.out _ hb7 (k + 1) (by have := HL.out; have := HQ2.out; omega)); have hr0 := (HCR.out _ hb7 k (by have := HL.out; have := HQ2.out; omega)).trans (by rw [HQT.out]); have hn0 := HCN.out _ hb7 k (by have := HL2.out; have := HQ2.out; omega); clear hb7) | ((with_reducible refine gate_store (t := 4) (p := 72) rfl ?_); refine rGT.setB_event rfl rfl rfl rfl rfl rGT.sz4 HN7.out.blk (by have := HL2.out; have := HQ2.out; omega) ?_; intro w9 hk9 hg9; have HN9 := Aside0.mk (HN7.out.put hk9 hg9); have HR9 := Aside0.mk (HR7.out.other hg9 HG.out HNE.out); clear hk9 hg9))
          go_roundg k2
          case measure => exact Nat.lt_succ_self _
          case rel => exact ⟨k + 1, _, rfl, H2', ⟨by have := HQ2.out; omega⟩, ⟨by rw [List.length_set]; exact HL2.out⟩, HN9, HR9⟩
     | false =>
      have hd0 := HD.out
      rw [hc0, if_neg (by decide)] at hd0
      obtain rfl := Option.some.inj hd0
      rw [hc0] at HC0
      clear hd0 HD hc0
      go_wp2_with (first | ((with_reducible refine gate_dst (N := 25) rfl ?_); refine rGT.mk_event (n := m + 1) rfl rfl rfl rfl Tryd.underlying88 rGT.info4 rfl (by have := HM.out; omega) ?_; intro g2 w5 hg hk hb1; have HB5 := Aside0.mk (below_step HH.out.below hb1); have HG := Aside0.mk (show w.heap.size ≤ g2 by rw [hg]; exact HH.out.below.size); have HNE := Aside0.mk (show g ≠ g2 by rw [hg]; have := HH.out.lt; omega); have HK5 := Aside0.mk hk; have HH5 := Aside0.mk (HH.out.step hb1); have hc5 := HC0.out _ hb1; clear hg hk hb1) | ((with_reducible refine gate_store (t := 4) (p := 35) rfl ?_); refine rGT.setB_event rfl rfl rfl rfl rfl rGT.sz4 HK5.out (by simp) ?_; intro w6 hk6 hg6; have HHN := Aside0.mk (show Held w w6 g2 4 _ from ⟨below_grown HH5.out.below hg6 HG.out (blk_lt HK5.out), HG.out, hk6⟩); have HHR := Aside0.mk (HH5.out.other hg6 HG.out HNE.out); clear hk6 hg6))
      have HL2 : Aside0 (((List.replicate (m + 1) false).set 0 false).length = m + 1) := ⟨by simp⟩
      try clear HK3
      try clear HH3
      clear HK5 HH5 HC0 hc5
      go_loopg [12] m (fun kq v12 wy => ∃ (k : Nat) (nx : List Bool), v12 = .int .i64 (k : Int) ∧ Aside0 (rGT.TK S F i row kq k nx = some NX) ∧ Aside0 (kq + k = m) ∧ Aside0 (nx.length = m + 1) ∧ Aside0 (Held w wy g2 4 (nx.map Value.bool).toArray) ∧ Aside0 (Held w wy g 4 (row.map Value.bool).toArray))
      case atStart => exact ⟨0, _, rfl, HN2, ⟨rfl⟩, HL2, HHN, HHR⟩
      case round =>
       clear HN2 HL2 HHN HHR
       obtain ⟨k, nx, rfl, HA2, HQ2, HL2, HNX, HRX⟩ := hrel
       cases gk with
       | zero =>
        obtain rfl := Option.some.inj HA2.out
        have c2b : decide ((k : Int) < (m : Int)) = false := decide_eq_false (by have := HQ2.out; omega)
        have c2c : decide (k < m) = false := decide_eq_false (by have := HQ2.out; omega)
        have c2d : (k < m) = False := eq_false (by have := HQ2.out; omega)
        clear HA2
        go_wp2
        go_roundg k1
        case measure => exact Nat.lt_succ_self _
        case rel => exact ⟨i + 1, g2, nx, rfl, rfl, H', ⟨by have := HQ.out; omega⟩, HL2, HNX⟩
       | succ k2 =>
        have H2 := HA2.out
        clear HA2
        simp only [rGT.TK] at H2
        have c2b : decide ((k : Int) < (m : Int)) = true := decide_eq_true (by have := HQ2.out; omega)
        have c2d : (k < m) = True := eq_true (by have := HQ2.out; omega)
        have hwk : (k : Int) < (m : Int) := by have := HQ2.out; omega
        have hk0 : ((0 : Int) ≤ ((k + 1 : Nat) : Int)) = True := eq_true (by omega)
        have hk1 : (((k + 1 : Nat) : Int) < ((m + 1 : Nat) : Int)) = True := eq_true (by have := HQ2.out; omega)
        have hk2 : (k + 1 < m + 1) = True := eq_true (by have := HQ2.out; omega)
        have hk3 : ((0 : Int) ≤ (k : Int)) = True := eq_true (by omega)
        have hk4 : ((k : Int) < ((m + 1 : Nat) : Int)) = True := eq_true (by have := HQ2.out; omega)
        have hk5 : (k < m + 1) = True := eq_true (by have := HQ2.out; omega)
        have HCR := Aside0.mk (rGT.hcells HRX.out)
        have HCN := Aside0.mk (rGT.hcells HNX.out)
        obtain ⟨s, hs, H2⟩ := Option.bind_eq_some_iff.1 H2
        have HSI := Aside0.mk hs
        clear hs
        cases s with
        | true =>
         rw [if_pos rfl] at H2
         cases hq : row.getD (k + 1) false with
         | true =>
          rw [hq, Bool.true_or] at H2
          have H2' := Aside0.mk H2
          have HQT := Aside0.mk hq
          clear H2 hq
          go_wp2_with (first | (go_at_call 66; refine (HS.out _ _ true HRX.out.below HSI.out).mono ?_; rintro e w7 ⟨rfl, hb7⟩; have HN7 := Aside0.mk (HNX.out.step hb7); have HR7 := Aside0.mk (HRX.out.step hb7); have hr1 := (HCR.out _ hb7 (k + 1) (by have := HL.out; have := HQ2.out; omega)).trans (by rw [HQT.out]); have hr0 := (HCR.out _ hb7 k (by have := HL.out; have := HQ2.out; omega)); have hn0 := HCN.out _ hb7 k (by have := HL2.out; have := HQ2.out; omega); clear hb7) | ((with_reducible refine gate_store (t := 4) (p := 58) rfl ?_); refine rGT.setB_event rfl rfl rfl rfl rfl rGT.sz4 HN7.out.blk (by have := HL2.out; have := HQ2.out; omega) ?_; intro w9 hk9 hg9; have HN9 := Aside0.mk (HN7.out.put hk9 hg9); have HR9 := Aside0.mk (HR7.out.other hg9 HG.out HNE.out); clear hk9 hg9))
          go_roundg k2
          case measure => exact Nat.lt_succ_self _
          case rel => exact ⟨k + 1, _, rfl, H2', ⟨by have := HQ2.out; omega⟩, ⟨by rw [List.length_set]; exact HL2.out⟩, HN9, HR9⟩
         | false =>
          rw [hq, Bool.false_or] at H2
          have H2' := Aside0.mk H2
          have HQT := Aside0.mk hq
          clear H2 hq
          go_wp2_with (first | (go_at_call 66; refine (HS.out _ _ true HRX.out.below HSI.out).mono ?_; rintro e w7 ⟨rfl, hb7⟩; have HN7 := Aside0.mk (HNX.out.step hb7); have HR7 := Aside0.mk (HRX.out.step hb7); have hr1 := (HCR.out _ hb7 (k + 1) (by have := HL.out; have := HQ2.out; omega)).trans (by rw [HQT.out]); have hr0 := (HCR.out _ hb7 k (by have := HL.out; have := HQ2.out; omega)); have hn0 := HCN.out _ hb7 k (by have := HL2.out; have := HQ2.out; omega); clear hb7) | ((with_reducible refine gate_store (t := 4) (p := 58) rfl ?_); refine rGT.setB_event rfl rfl rfl rfl rfl rGT.sz4 HN7.out.blk (by have := HL2.out; have := HQ2.out; omega) ?_; intro w9 hk9 hg9; have HN9 := Aside0.mk (HN7.out.put hk9 hg9); have HR9 := Aside0.mk (HR7.out.other hg9 HG.out HNE.out); clear hk9 hg9))
          go_roundg k2
          case measure => exact Nat.lt_succ_self _
          case rel => exact ⟨k + 1, _, rfl, H2', ⟨by have := HQ2.out; omega⟩, ⟨by rw [List.length_set]; exact HL2.out⟩, HN9, HR9⟩
        | false =>
         rw [if_neg (by decide)] at H2
         obtain ⟨b2, hb2, H2⟩ := Option.bind_eq_some_iff.1 H2
         have H2' := Aside0.mk H2
         clear H2
         cases hq : row.getD k false with
         | true =>
          rw [hq, if_pos rfl] at hb2
          have HFI := Aside0.mk hb2
          have HQT := Aside0.mk hq
          clear hb2 hq
          go_wp2_with (first | (go_at_call 66; refine (HS.out _ _ false HRX.out.below HSI.out).mono ?_; rintro e w7 ⟨rfl, hb7⟩; have HN7 := Aside0.mk (HNX.out.step hb7); have HR7 := Aside0.mk (HRX.out.step hb7); have hr1 := (HCR.out _ hb7 (k + 1) (by have := HL.out; have := HQ2.out; omega)); have hr0 := (HCR.out _ hb7 k (by have := HL.out; have := HQ2.out; omega)).trans (by rw [HQT.out]); have hn0 := HCN.out _ hb7 k (by have := HL2.out; have := HQ2.out; omega); clear hb7) | (go_at_call 67; refine (HF.out _ _ _ b2 HR7.out.below HFI.out).mono ?_; rintro e w8 ⟨rfl, hb8⟩; have HN8 := Aside0.mk (HN7.out.step hb8); have HR8 := Aside0.mk (HR7.out.step hb8); clear hb8) | ((with_reducible refine gate_store (t := 4) (p := 72) rfl ?_); refine rGT.setB_event rfl rfl rfl rfl rfl rGT.sz4 HN8.out.blk (by have := HL2.out; have := HQ2.out; omega) ?_; intro w9 hk9 hg9; have HN9 := Aside0.mk (HN8.out.put hk9 hg9); have HR9 := Aside0.mk (HR8.out.other hg9 HG.out HNE.out); clear hk9 hg9))
          go_roundg k2
          case measure => exact Nat.lt_succ_self _
          case rel => exact ⟨k + 1, _, rfl, H2', ⟨by have := HQ2.out; omega⟩, ⟨by rw [List.length_set]; exact HL2.out⟩, HN9, HR9⟩
         | false =>
          rw [hq, if_neg (by decide)] at hb2
          obtain rfl := Option.some.inj hb2
          have HQT := Aside0.mk hq
          clear hb2 hq
          go_wp2_with (first | (go_at_call 66; refine (HS.out _ _ false HRX.out.below HSI.out).mono ?_; rintro e w7 ⟨rfl, hb7⟩; have HN7 := Aside0.mk (HNX.out.step hb7); have HR7 := Aside0.mk (HRX.out.step hb7); have hr1 := (HCR.out _ hb7 (k + 1) (by have := HL.out; have := HQ2.out; omega)); have hr0 := (HCR.out _ hb7 k (by have := HL.out; have := HQ2.out; omega)).trans (by rw [HQT.out]); have hn0 := HCN.out _ hb7 k (by have := HL2.out; have := HQ2.out; omega); clear hb7) | ((with_reducible refine gate_store (t := 4) (p := 72) rfl ?_); refine rGT.setB_event rfl rfl rfl rfl rfl rGT.sz4 HN7.out.blk (by have := HL2.out; have := HQ2.out; omega) ?_; intro w9 hk9 hg9; have HN9 := Aside0.mk (HN7.out.put hk9 hg9); have HR9 := Aside0.mk (HR7.out.other hg9 HG.out HNE.out); clear hk9 hg9))
          go_roundg k2
          case measure => exact Nat.lt_succ_self _
          case rel => exact ⟨k + 1, _, rfl, H2', ⟨by have := HQ2.out; omega⟩, ⟨by rw [List.length_set]; exact HL2.out⟩, HN9, HR9⟩
 ·rw [if_neg c0] at h; cases h
set_option maxHeartbeats 16000000 in
set_option maxRecDepth 100000 in
theorem rGT.tableB (n m : Nat) (S : Nat → Option Bool) (F : Nat → Nat → Option Bool) (g1 g2 : Nat) (r : Bool) (w : World)
  (hS : ∀ (W : World) (i : Nat) (b : Bool), Below w.heap.size w W → S i = some b → Calls Tryd.prog 35 #[.int .i64 (i : Int), .pointer (some ⟨g1, 0, none⟩)] W fun e W' => e = .returned (.bool b) ∧ Below W.heap.size W W')
  (hF : ∀ (W : World) (i j : Nat) (b : Bool), Below w.heap.size w W → F i j = some b → Calls Tryd.prog 36 #[.int .i64 (i : Int), .int .i64 (j : Int), .pointer (some ⟨g1, 0, none⟩), .pointer (some ⟨g2, 0, none⟩)] W fun e W' => e = .returned (.bool b) ∧ Below W.heap.size W W')
  (h : rGT.tab n m S F = some r) :
  Calls Tryd.prog 34 #[.int .i64 (n : Int), .int .i64 (m : Int), .func (.func 35) #[] #[.pointer (some ⟨g1, 0, none⟩)], .func (.func 36) #[] #[.pointer (some ⟨g1, 0, none⟩), .pointer (some ⟨g2, 0, none⟩)]] w fun e w' => e = .returned (.bool r) ∧ Below w.heap.size w w' := by
 unfold rGT.tab at h
 by_cases c0 : n ≤ 1000000000000 ∧ m ≤ 1000000000000
 ·rw [if_pos c0] at h
  cases hR : rGT.TI m S F n 0 ((List.replicate (m + 1) false).set 0 true) with
  | none => rw [hR] at h; cases h
  | some R =>
   rw [hR] at h
   obtain rfl := Option.some.inj h
   obtain ⟨hn, hm⟩ := c0
   have HS := Aside0.mk hS
   have HF := Aside0.mk hF
   have H' := Aside0.mk hR
   have HN := Aside0.mk hn
   have HM := Aside0.mk hm
   have HB0 := Aside0.mk (Below.refl w.heap.size w)
   have hmM : (m : Int) ≤ 1000000000000 := by omega
   have hnM : (n : Int) ≤ 1000000000000 := by omega
   have hm0 : (0 < m + 1) = True := eq_true (by omega)
   have hm0i : ((0 : Int) < ((m + 1 : Nat) : Int)) = True := eq_true (by omega)
   clear hS hF h hR hn hm
   go_enter Tryd.func34, Tryd.ntmps34
   go_wp2_with (first | ((with_reducible refine gate_dst (N := 15) rfl ?_); refine rGT.mk_event (n := m + 1) rfl rfl rfl rfl Tryd.underlying88 rGT.info4 rfl (by have := HM.out; omega) ?_; intro g w1 hg hk hb1; have HG := Aside0.mk (show w.heap.size ≤ g by rw [hg]; exact Nat.le_refl _); have HK := Aside0.mk hk; have HB := Aside0.mk hb1; clear hg hk hb1) | ((with_reducible refine gate_store (t := 4) (p := 17) rfl ?_); refine rGT.setB_event rfl rfl rfl rfl rfl rGT.sz4 HK.out (by simp) ?_; intro w2 hk2 hg2; have HK2 := Aside0.mk hk2; have HB2 := Aside0.mk (below_grown HB.out hg2 HG.out (blk_lt HK.out)); clear hk2 hg2))
   have HH : Aside0 (Held w w2 g 4 (((List.replicate (m + 1) false).set 0 true).map Value.bool).toArray) := ⟨⟨HB2.out, HG.out, HK2.out⟩⟩
   have HL : Aside0 (((List.replicate (m + 1) false).set 0 true).length = m + 1) := ⟨by simp⟩
   clear HG HK HB HK2 HB2 HB0
   go_loopg [9, 10] n (fun kq v9 v10 wx => ∃ (i g : Nat) (row : List Bool), v9 = .slice (some ⟨g, 0, none⟩) (m + 1) (m + 1) ∧ v10 = .int .i64 (i : Int) ∧ Aside0 (rGT.TI m S F kq i row = some R) ∧ Aside0 (kq + i = n) ∧ Aside0 (row.length = m + 1) ∧ Aside0 (Held w wx g 4 (row.map Value.bool).toArray))
   case atStart => exact ⟨0, g, _, rfl, rfl, H', ⟨rfl⟩, HL, HH⟩
   case round =>
    clear H' HL HH
    obtain ⟨i, g, row, rfl, rfl, HA, HQ, HL, HH⟩ := hrel
    cases gk with
    | zero =>
     obtain rfl := Option.some.inj HA.out
     have c1b : decide ((i : Int) < (n : Int)) = false := decide_eq_false (by have := HQ.out; omega)
     have c1c : decide (i < n) = false := decide_eq_false (by have := HQ.out; omega)
     have c1d : (i < n) = False := eq_false (by have := HQ.out; omega)
     have hcell := rGT.bcell HH.out.blk m (by have := HL.out; omega)
     have hmm : (m < m + 1) = True := eq_true (by omega)
     have hmi : ((m : Int) < ((m + 1 : Nat) : Int)) = True := eq_true (by omega)
     have hm0 : ((0 : Int) ≤ (m : Int)) = True := eq_true (by omega)
     go_wp2
     go_ret
     exact ⟨rfl, HH.out.below⟩
    | succ k1 =>
     have H := HA.out
     clear HA
     simp only [rGT.TI] at H
     have c1b : decide ((i : Int) < (n : Int)) = true := decide_eq_true (by have := HQ.out; omega)
     have c1d : (i < n) = True := eq_true (by have := HQ.out; omega)
     have hwi : (i : Int) < (n : Int) := by have := HQ.out; omega
     obtain ⟨b, hb0, H⟩ := Option.bind_eq_some_iff.1 H
     obtain ⟨NX, hNX, H⟩ := Option.bind_eq_some_iff.1 H
     have HN2 := Aside0.mk hNX
     have H' := Aside0.mk H
     have HD := Aside0.mk hb0
     clear hNX H hb0
     have HC0 := Aside0.mk (fun W' hb => rGT.hcells HH.out W' hb 0 (by have := HL.out; omega))
     cases hc0 : row.getD 0 false with
     | true =>
      have hd0 := HD.out
      rw [hc0, if_pos rfl] at hd0
      have HD0 := Aside0.mk hd0
      rw [hc0] at HC0
      clear hd0 HD hc0
      go_wp2_with (first | ((with_reducible refine gate_dst (N := 25) rfl ?_); refine rGT.mk_event (n := m + 1) rfl rfl rfl rfl Tryd.underlying88 rGT.info4 rfl (by have := HM.out; omega) ?_; intro g2 w5 hg hk hb1; have HB5 := Aside0.mk (below_step HH.out.below hb1); have HG := Aside0.mk (show w.heap.size ≤ g2 by rw [hg]; exact HH.out.below.size); have HNE := Aside0.mk (show g ≠ g2 by rw [hg]; have := HH.out.lt; omega); have HK5 := Aside0.mk hk; have HH5 := Aside0.mk (HH.out.step hb1); have hc5 := HC0.out _ hb1; clear hg hk hb1) | (go_at_call 35; refine (HS.out _ _ b HB5.out HD0.out).mono ?_; rintro e w3 ⟨rfl, hb3⟩; have HK3 := Aside0.mk (blk_below HK5.out hb3); have HH3 := Aside0.mk (HH5.out.step hb3); clear hb3) | ((with_reducible refine gate_store (t := 4) (p := 35) rfl ?_); refine rGT.setB_event rfl rfl rfl rfl rfl rGT.sz4 HK3.out (by simp) ?_; intro w6 hk6 hg6; have HHN := Aside0.mk (show Held w w6 g2 4 _ from ⟨below_grown HH3.out.below hg6 HG.out (blk_lt HK3.out), HG.out, hk6⟩); have HHR := Aside0.mk (HH3.out.other hg6 HG.out HNE.out); clear hk6 hg6))
      have HL2 : Aside0 (((List.replicate (m + 1) false).set 0 b).length = m + 1) := ⟨by simp⟩
      try clear HK3
      try clear HH3
      clear HK5 HH5 HC0 hc5
      go_loopg [12] m (fun kq v12 wy => ∃ (k : Nat) (nx : List Bool), v12 = .int .i64 (k : Int) ∧ Aside0 (rGT.TK S F i row kq k nx = some NX) ∧ Aside0 (kq + k = m) ∧ Aside0 (nx.length = m + 1) ∧ Aside0 (Held w wy g2 4 (nx.map Value.bool).toArray) ∧ Aside0 (Held w wy g 4 (row.map Value.bool).toArray))
      case atStart => exact ⟨0, _, rfl, HN2, ⟨rfl⟩, HL2, HHN, HHR⟩
      case round =>
       clear HN2 HL2 HHN HHR
       obtain ⟨k, nx, rfl, HA2, HQ2, HL2, HNX, HRX⟩ := hrel
       cases gk with
       | zero =>
        obtain rfl := Option.some.inj HA2.out
        have c2b : decide ((k : Int) < (m : Int)) = false := decide_eq_false (by have := HQ2.out; omega)
        have c2c : decide (k < m) = false := decide_eq_false (by have := HQ2.out; omega)
        have c2d : (k < m) = False := eq_false (by have := HQ2.out; omega)
        clear HA2
        go_wp2
        go_roundg k1
        case measure => exact Nat.lt_succ_self _
        case rel => exact ⟨i + 1, g2, nx, rfl, rfl, H', ⟨by have := HQ.out; omega⟩, HL2, HNX⟩
       | succ k2 =>
        have H2 := HA2.out
        clear HA2
        simp only [rGT.TK] at H2
        have c2b : decide ((k : Int) < (m : Int)) = true := decide_eq_true (by have := HQ2.out; omega)
        have c2d : (k < m) = True := eq_true (by have := HQ2.out; omega)
        have hwk : (k : Int) < (m : Int) := by have := HQ2.out; omega
        have hk0 : ((0 : Int) ≤ ((k + 1 : Nat) : Int)) = True := eq_true (by omega)
        have hk1 : (((k + 1 : Nat) : Int) < ((m + 1 : Nat) : Int)) = True := eq_true (by have := HQ2.out; omega)
        have hk2 : (k + 1 < m + 1) = True := eq_true (by have := HQ2.out; omega)
        have hk3 : ((0 : Int) ≤ (k : Int)) = True := eq_true (by omega)
        have hk4 : ((k : Int) < ((m + 1 : Nat) : Int)) = True := eq_true (by have := HQ2.out; omega)
        have hk5 : (k < m + 1) = True := eq_true (by have := HQ2.out; omega)
        have HCR := Aside0.mk (rGT.hcells HRX.out)
        have HCN := Aside0.mk (rGT.hcells HNX.out)
        obtain ⟨s, hs, H2⟩ := Option.bind_eq_some_iff.1 H2
        have HSI := Aside0.mk hs
        clear hs
        cases s with
        | true =>
         rw [if_pos rfl] at H2
         cases hq : row.getD (k + 1) false with
         | true =>
          rw [hq, Bool.true_or] at H2
          have H2' := Aside0.mk H2
          have HQT := Aside0.mk hq
          clear H2 hq
          go_wp2_with (first | (go_at_call 35; refine (HS.out _ _ true HRX.out.below HSI.out).mono ?_; rintro e w7 ⟨rfl, hb7⟩; have HN7 := Aside0.mk (HNX.out.step hb7); have HR7 := Aside0.mk (HRX.out.step hb7); have hr1 := (HCR.out _ hb7 (k + 1) (by have := HL.out; have := HQ2.out; omega)).trans (by rw [HQT.out]); have hr0 := (HCR.out _ hb7 k (by have := HL.out; have := HQ2.out; omega)); have hn0 := HCN.out _ hb7 k (by have := HL2.out; have := HQ2.out; omega); clear hb7) | ((with_reducible refine gate_store (t := 4) (p := 58) rfl ?_); refine rGT.setB_event rfl rfl rfl rfl rfl rGT.sz4 HN7.out.blk (by have := HL2.out; have := HQ2.out; omega) ?_; intro w9 hk9 hg9; have HN9 := Aside0.mk (HN7.out.put hk9 hg9); have HR9 := Aside0.mk (HR7.out.other hg9 HG.out HNE.out); clear hk9 hg9))
          go_roundg k2
          case measure => exact Nat.lt_succ_self _
          case rel => exact ⟨k + 1, _, rfl, H2', ⟨by have := HQ2.out; omega⟩, ⟨by rw [List.length_set]; exact HL2.out⟩, HN9, HR9⟩
         | false =>
          rw [hq, Bool.false_or] at H2
          have H2' := Aside0.mk H2
          have HQT := Aside0.mk hq
          clear H2 hq
          go_wp2_with (first | (go_at_call 35; refine (HS.out _ _ true HRX.out.below HSI.out).mono ?_; rintro e w7 ⟨rfl, hb7⟩; have HN7 := Aside0.mk (HNX.out.step hb7); have HR7 := Aside0.mk (HRX.out.step hb7); have hr1 := (HCR.out _ hb7 (k + 1) (by have := HL.out; have := HQ2.out; omega)).trans (by rw [HQT.out]); have hr0 := (HCR.out _ hb7 k (by have := HL.out; have := HQ2.out; omega)); have hn0 := HCN.out _ hb7 k (by have := HL2.out; have := HQ2.out; omega); clear hb7) | ((with_reducible refine gate_store (t := 4) (p := 58) rfl ?_); refine rGT.setB_event rfl rfl rfl rfl rfl rGT.sz4 HN7.out.blk (by have := HL2.out; have := HQ2.out; omega) ?_; intro w9 hk9 hg9; have HN9 := Aside0.mk (HN7.out.put hk9 hg9); have HR9 := Aside0.mk (HR7.out.other hg9 HG.out HNE.out); clear hk9 hg9))
          go_roundg k2
          case measure => exact Nat.lt_succ_self _
          case rel => exact ⟨k + 1, _, rfl, H2', ⟨by have := HQ2.out; omega⟩, ⟨by rw [List.length_set]; exact HL2.out⟩, HN9, HR9⟩
        | false =>
         rw [if_neg (by decide)] at H2
         obtain ⟨b2, hb2, H2⟩ := Option.bind_eq_some_iff.1 H2
         have H2' := Aside0.mk H2
         clear H2
         cases hq : row.getD k false with
         | true =>
          rw [hq, if_pos rfl] at hb2
          have HFI := Aside0.mk hb2
          have HQT := Aside0.mk hq
          clear hb2 hq
          go_wp2_with (first | (go_at_call 35; refine (HS.out _ _ false HRX.out.below HSI.out).mono ?_; rintro e w7 ⟨rfl, hb7⟩; have HN7 := Aside0.mk (HNX.out.step hb7); have HR7 := Aside0.mk (HRX.out.step hb7); have hr1 := (HCR.out _ hb7 (k + 1) (by have := HL.out; have := HQ2.out; omega)); have hr0 := (HCR.out _ hb7 k (by have := HL.out; have := HQ2.out; omega)).trans (by rw [HQT.out]); have hn0 := HCN.out _ hb7 k (by have := HL2.out; have := HQ2.out; omega); clear hb7) | (go_at_call 36; refine (HF.out _ _ _ b2 HR7.out.below HFI.out).mono ?_; rintro e w8 ⟨rfl, hb8⟩; have HN8 := Aside0.mk (HN7.out.step hb8); have HR8 := Aside0.mk (HR7.out.step hb8); clear hb8) | ((with_reducible refine gate_store (t := 4) (p := 72) rfl ?_); refine rGT.setB_event rfl rfl rfl rfl rfl rGT.sz4 HN8.out.blk (by have := HL2.out; have := HQ2.out; omega) ?_; intro w9 hk9 hg9; have HN9 := Aside0.mk (HN8.out.put hk9 hg9); have HR9 := Aside0.mk (HR8.out.other hg9 HG.out HNE.out); clear hk9 hg9))
          go_roundg k2
          case measure => exact Nat.lt_succ_self _
          case rel => exact ⟨k + 1, _, rfl, H2', ⟨by have := HQ2.out; omega⟩, ⟨by rw [List.length_set]; exact HL2.out⟩, HN9, HR9⟩
         | false =>
          rw [hq, if_neg (by decide)] at hb2
          obtain rfl := Option.some.inj hb2
          have HQT := Aside0.mk hq
          clear hb2 hq
          go_wp2_with (first | (go_at_call 35; refine (HS.out _ _ false HRX.out.below HSI.out).mono ?_; rintro e w7 ⟨rfl, hb7⟩; have HN7 := Aside0.mk (HNX.out.step hb7); have HR7 := Aside0.mk (HRX.out.step hb7); have hr1 := (HCR.out _ hb7 (k + 1) (by have := HL.out; have := HQ2.out; omega)); have hr0 := (HCR.out _ hb7 k (by have := HL.out; have := HQ2.out; omega)).trans (by rw [HQT.out]); have hn0 := HCN.out _ hb7 k (by have := HL2.out; have := HQ2.out; omega); clear hb7) | ((with_reducible refine gate_store (t := 4) (p := 72) rfl ?_); refine rGT.setB_event rfl rfl rfl rfl rfl rGT.sz4 HN7.out.blk (by have := HL2.out; have := HQ2.out; omega) ?_; intro w9 hk9 hg9; have HN9 := Aside0.mk (HN7.out.put hk9 hg9); have HR9 := Aside0.mk (HR7.out.other hg9 HG.out HNE.out); clear hk9 hg9))
          go_roundg k2
          case measure => exact Nat.lt_succ_self _
          case rel => exact ⟨k + 1, _, rfl, H2', ⟨by have := HQ2.out; omega⟩, ⟨by rw [List.length_set]; exact HL2.out⟩, HN9, HR9⟩
     | false =>
      have hd0 := HD.out
      rw [hc0, if_neg (by decide)] at hd0
      obtain rfl := Option.some.inj hd0
      rw [hc0] at HC0
      clear hd0 HD hc0
      go_wp2_with (first | ((with_reducible refine gate_dst (N := 25) rfl ?_); refine rGT.mk_event (n := m + 1) rfl rfl rfl rfl Tryd.underlying88 rGT.info4 rfl (by have := HM.out; omega) ?_; intro g2 w5 hg hk hb1; have HB5 := Aside0.mk (below_step HH.out.below hb1); have HG := Aside0.mk (show w.heap.size ≤ g2 by rw [hg]; exact HH.out.below.size); have HNE := Aside0.mk (show g ≠ g2 by rw [hg]; have := HH.out.lt; omega); have HK5 := Aside0.mk hk; have HH5 := Aside0.mk (HH.out.step hb1); have hc5 := HC0.out _ hb1; clear hg hk hb1) | ((with_reducible refine gate_store (t := 4) (p := 35) rfl ?_); refine rGT.setB_event rfl rfl rfl rfl rfl rGT.sz4 HK5.out (by simp) ?_; intro w6 hk6 hg6; have HHN := Aside0.mk (show Held w w6 g2 4 _ from ⟨below_grown HH5.out.below hg6 HG.out (blk_lt HK5.out), HG.out, hk6⟩); have HHR := Aside0.mk (HH5.out.other hg6 HG.out HNE.out); clear hk6 hg6))
      have HL2 : Aside0 (((List.replicate (m + 1) false).set 0 false).length = m + 1) := ⟨by simp⟩
      try clear HK3
      try clear HH3
      clear HK5 HH5 HC0 hc5
      go_loopg [12] m (fun kq v12 wy => ∃ (k : Nat) (nx : List Bool), v12 = .int .i64 (k : Int) ∧ Aside0 (rGT.TK S F i row kq k nx = some NX) ∧ Aside0 (kq + k = m) ∧ Aside0 (nx.length = m + 1) ∧ Aside0 (Held w wy g2 4 (nx.map Value.bool).toArray) ∧ Aside0 (Held w wy g 4 (row.map Value.bool).toArray))
      case atStart => exact ⟨0, _, rfl, HN2, ⟨rfl⟩, HL2, HHN, HHR⟩
      case round =>
       clear HN2 HL2 HHN HHR
       obtain ⟨k, nx, rfl, HA2, HQ2, HL2, HNX, HRX⟩ := hrel
       cases gk with
       | zero =>
        obtain rfl := Option.some.inj HA2.out
        have c2b : decide ((k : Int) < (m : Int)) = false := decide_eq_false (by have := HQ2.out; omega)
        have c2c : decide (k < m) = false := decide_eq_false (by have := HQ2.out; omega)
        have c2d : (k < m) = False := eq_false (by have := HQ2.out; omega)
        clear HA2
        go_wp2
        go_roundg k1
        case measure => exact Nat.lt_succ_self _
        case rel => exact ⟨i + 1, g2, nx, rfl, rfl, H', ⟨by have := HQ.out; omega⟩, HL2, HNX⟩
       | succ k2 =>
        have H2 := HA2.out
        clear HA2
        simp only [rGT.TK] at H2
        have c2b : decide ((k : Int) < (m : Int)) = true := decide_eq_true (by have := HQ2.out; omega)
        have c2d : (k < m) = True := eq_true (by have := HQ2.out; omega)
        have hwk : (k : Int) < (m : Int) := by have := HQ2.out; omega
        have hk0 : ((0 : Int) ≤ ((k + 1 : Nat) : Int)) = True := eq_true (by omega)
        have hk1 : (((k + 1 : Nat) : Int) < ((m + 1 : Nat) : Int)) = True := eq_true (by have := HQ2.out; omega)
        have hk2 : (k + 1 < m + 1) = True := eq_true (by have := HQ2.out; omega)
        have hk3 : ((0 : Int) ≤ (k : Int)) = True := eq_true (by omega)
        have hk4 : ((k : Int) < ((m + 1 : Nat) : Int)) = True := eq_true (by have := HQ2.out; omega)
        have hk5 : (k < m + 1) = True := eq_true (by have := HQ2.out; omega)
        have HCR := Aside0.mk (rGT.hcells HRX.out)
        have HCN := Aside0.mk (rGT.hcells HNX.out)
        obtain ⟨s, hs, H2⟩ := Option.bind_eq_some_iff.1 H2
        have HSI := Aside0.mk hs
        clear hs
        cases s with
        | true =>
         rw [if_pos rfl] at H2
         cases hq : row.getD (k + 1) false with
         | true =>
          rw [hq, Bool.true_or] at H2
          have H2' := Aside0.mk H2
          have HQT := Aside0.mk hq
          clear H2 hq
          go_wp2_with (first | (go_at_call 35; refine (HS.out _ _ true HRX.out.below HSI.out).mono ?_; rintro e w7 ⟨rfl, hb7⟩; have HN7 := Aside0.mk (HNX.out.step hb7); have HR7 := Aside0.mk (HRX.out.step hb7); have hr1 := (HCR.out _ hb7 (k + 1) (by have := HL.out; have := HQ2.out; omega)).trans (by rw [HQT.out]); have hr0 := (HCR.out _ hb7 k (by have := HL.out; have := HQ2.out; omega)); have hn0 := HCN.out _ hb7 k (by have := HL2.out; have := HQ2.out; omega); clear hb7) | ((with_reducible refine gate_store (t := 4) (p := 58) rfl ?_); refine rGT.setB_event rfl rfl rfl rfl rfl rGT.sz4 HN7.out.blk (by have := HL2.out; have := HQ2.out; omega) ?_; intro w9 hk9 hg9; have HN9 := Aside0.mk (HN7.out.put hk9 hg9); have HR9 := Aside0.mk (HR7.out.other hg9 HG.out HNE.out); clear hk9 hg9))
          go_roundg k2
          case measure => exact Nat.lt_succ_self _
          case rel => exact ⟨k + 1, _, rfl, H2', ⟨by have := HQ2.out; omega⟩, ⟨by rw [List.length_set]; exact HL2.out⟩, HN9, HR9⟩
         | false =>
          rw [hq, Bool.false_or] at H2
          have H2' := Aside0.mk H2
          have HQT := Aside0.mk hq
          clear H2 hq
          go_wp2_with (first | (go_at_call 35; refine (HS.out _ _ true HRX.out.below HSI.out).mono ?_; rintro e w7 ⟨rfl, hb7⟩; have HN7 := Aside0.mk (HNX.out.step hb7); have HR7 := Aside0.mk (HRX.out.step hb7); have hr1 := (HCR.out _ hb7 (k + 1) (by have := HL.out; have := HQ2.out; omega)).trans (by rw [HQT.out]); have hr0 := (HCR.out _ hb7 k (by have := HL.out; have := HQ2.out; omega)); have hn0 := HCN.out _ hb7 k (by have := HL2.out; have := HQ2.out; omega); clear hb7) | ((with_reducible refine gate_store (t := 4) (p := 58) rfl ?_); refine rGT.setB_event rfl rfl rfl rfl rfl rGT.sz4 HN7.out.blk (by have := HL2.out; have := HQ2.out; omega) ?_; intro w9 hk9 hg9; have HN9 := Aside0.mk (HN7.out.put hk9 hg9); have HR9 := Aside0.mk (HR7.out.other hg9 HG.out HNE.out); clear hk9 hg9))
          go_roundg k2
          case measure => exact Nat.lt_succ_self _
          case rel => exact ⟨k + 1, _, rfl, H2', ⟨by have := HQ2.out; omega⟩, ⟨by rw [List.length_set]; exact HL2.out⟩, HN9, HR9⟩
        | false =>
         rw [if_neg (by decide)] at H2
         obtain ⟨b2, hb2, H2⟩ := Option.bind_eq_some_iff.1 H2
         have H2' := Aside0.mk H2
         clear H2
         cases hq : row.getD k false with
         | true =>
          rw [hq, if_pos rfl] at hb2
          have HFI := Aside0.mk hb2
          have HQT := Aside0.mk hq
          clear hb2 hq
          go_wp2_with (first | (go_at_call 35; refine (HS.out _ _ false HRX.out.below HSI.out).mono ?_; rintro e w7 ⟨rfl, hb7⟩; have HN7 := Aside0.mk (HNX.out.step hb7); have HR7 := Aside0.mk (HRX.out.step hb7); have hr1 := (HCR.out _ hb7 (k + 1) (by have := HL.out; have := HQ2.out; omega)); have hr0 := (HCR.out _ hb7 k (by have := HL.out; have := HQ2.out; omega)).trans (by rw [HQT.out]); have hn0 := HCN.out _ hb7 k (by have := HL2.out; have := HQ2.out; omega); clear hb7) | (go_at_call 36; refine (HF.out _ _ _ b2 HR7.out.below HFI.out).mono ?_; rintro e w8 ⟨rfl, hb8⟩; have HN8 := Aside0.mk (HN7.out.step hb8); have HR8 := Aside0.mk (HR7.out.step hb8); clear hb8) | ((with_reducible refine gate_store (t := 4) (p := 72) rfl ?_); refine rGT.setB_event rfl rfl rfl rfl rfl rGT.sz4 HN8.out.blk (by have := HL2.out; have := HQ2.out; omega) ?_; intro w9 hk9 hg9; have HN9 := Aside0.mk (HN8.out.put hk9 hg9); have HR9 := Aside0.mk (HR8.out.other hg9 HG.out HNE.out); clear hk9 hg9))
          go_roundg k2
          case measure => exact Nat.lt_succ_self _
          case rel => exact ⟨k + 1, _, rfl, H2', ⟨by have := HQ2.out; omega⟩, ⟨by rw [List.length_set]; exact HL2.out⟩, HN9, HR9⟩
         | false =>
          rw [hq, if_neg (by decide)] at hb2
          obtain rfl := Option.some.inj hb2
          have HQT := Aside0.mk hq
          clear hb2 hq
          go_wp2_with (first | (go_at_call 35; refine (HS.out _ _ false HRX.out.below HSI.out).mono ?_; rintro e w7 ⟨rfl, hb7⟩; have HN7 := Aside0.mk (HNX.out.step hb7); have HR7 := Aside0.mk (HRX.out.step hb7); have hr1 := (HCR.out _ hb7 (k + 1) (by have := HL.out; have := HQ2.out; omega)); have hr0 := (HCR.out _ hb7 k (by have := HL.out; have := HQ2.out; omega)).trans (by rw [HQT.out]); have hn0 := HCN.out _ hb7 k (by have := HL2.out; have := HQ2.out; omega); clear hb7) | ((with_reducible refine gate_store (t := 4) (p := 72) rfl ?_); refine rGT.setB_event rfl rfl rfl rfl rfl rGT.sz4 HN7.out.blk (by have := HL2.out; have := HQ2.out; omega) ?_; intro w9 hk9 hg9; have HN9 := Aside0.mk (HN7.out.put hk9 hg9); have HR9 := Aside0.mk (HR7.out.other hg9 HG.out HNE.out); clear hk9 hg9))
          go_roundg k2
          case measure => exact Nat.lt_succ_self _
          case rel => exact ⟨k + 1, _, rfl, H2', ⟨by have := HQ2.out; omega⟩, ⟨by rw [List.length_set]; exact HL2.out⟩, HN9, HR9⟩
 ·rw [if_neg c0] at h; cases h
set_option maxHeartbeats 4000000 in
set_option maxRecDepth 100000 in
theorem rGT.starB (A : Option Addr) (c g1 : Nat) (l : List ByteArray) (i : Nat) (b : Bool) (w : World) (hr : Kd.C Kd.string w A l.length l) (hc : l.length ≤ c) (hg : w.heap[g1]? = some (.cells #[.slice A l.length c] 51 (0, 0))) (h : rGT.star l i = some b) :
  Calls Tryd.prog 35 #[.int .i64 (i : Int), .pointer (some ⟨g1, 0, none⟩)] w fun e w' => e = .returned (.bool b) ∧ Below w.heap.size w w' := by
 unfold rGT.star at h
 by_cases c2 : i < l.length
 ·rw [if_pos c2] at h
  obtain rfl := Option.some.inj h
  obtain ⟨ad, e, hx⟩ := Kd.at_string hr (i : Int) (by omega) (by omega)
  cases e
  have hcell : w.cell? ⟨g1, 0, none⟩ = some (.slice (some ad) l.length c) := (blk_cell hg 0).trans rfl
  have HC := Aside0.mk hc
  rw [Int.toNat_natCast] at hx
  clear h hr hc hg
  have c3 : ((i : Int) < (l.length : Int)) = True := eq_true (by omega)
  have c4 : (0 ≤ (i : Int)) = True := eq_true (by omega)
  replace c2 := eq_true c2
  go_enter Tryd.func35, Tryd.ntmps35
  go_wp2
  go_ret
  exact ⟨rfl, Below.refl _ _⟩
 ·rw [if_neg c2] at h; cases h
theorem rGT.trow {w : World} {A : Option Addr} {l : List (List Bool)} (hr : Kd.C rGF.kT w A l.length l) (i : Nat) (hi : i < l.length) : ∃ ad, A = some ad ∧ ∀ j, j < 257 → w.cell? (ad.add (i * 257 + j)) = some (.bool ((l.getD i []).getD j false)) := by
 obtain ⟨ad, c, e, _, hk, hx⟩ := Kd.C_get hr [] (i : Int) (by omega) (by omega)
 rw [Int.toNat_natCast] at hk hx
 obtain ⟨h257, rfl⟩ := hk
 refine ⟨ad, e, fun j hj => ?_⟩
 have hl : (l.getD i []).length = 257 := h257
 refine (hx j (.bool ((l.getD i []).getD j false)) ?_)
 rw [List.getElem?_map, List.getD_eq_getElem?_getD (l := l.getD i []), List.getElem?_eq_getElem (by omega)]
 rfl
set_option maxHeartbeats 4000000 in
set_option maxRecDepth 100000 in
theorem rGT.starA (A : Option Addr) (c g1 : Nat) (l : List (List Bool)) (i : Nat) (b : Bool) (w : World) (hr : Kd.C rGF.kT w A l.length l) (hc : l.length ≤ c) (hg : w.heap[g1]? = some (.cells #[.slice A l.length c] 84 (0, 0))) (h : rGT.tstar l i = some b) :
  Calls Tryd.prog 66 #[.int .i64 (i : Int), .pointer (some ⟨g1, 0, none⟩)] w fun e w' => e = .returned (.bool b) ∧ Below w.heap.size w w' := by
 unfold rGT.tstar at h
 by_cases c2 : i < l.length
 ·rw [if_pos c2] at h
  obtain rfl := Option.some.inj h
  obtain ⟨ad, e, hx⟩ := rGT.trow hr i c2
  cases e
  have hcell : w.cell? ⟨g1, 0, none⟩ = some (.slice (some ad) l.length c) := (blk_cell hg 0).trans rfl
  have HC := Aside0.mk hc
  have hx0 := hx 0 (by omega)
  rw [Nat.add_zero] at hx0
  clear h hr hc hg hx
  have c3 : ((i : Int) < (l.length : Int)) = True := eq_true (by omega)
  have c4 : (0 ≤ (i : Int)) = True := eq_true (by omega)
  replace c2 := eq_true c2
  generalize (l.getD i []).getD 0 false = b at *
  go_enter Tryd.func66, Tryd.ntmps66
  go_wp2
  go_ret
  exact ⟨rfl, Below.refl _ _⟩
 ·rw [if_neg c2] at h; cases h
set_option maxHeartbeats 4000000 in
set_option maxRecDepth 100000 in
theorem rGT.fitA (A : Option Addr) (c g1 g2 : Nat) (l : List (List Bool)) (s : ByteArray) (i j : Nat) (b : Bool) (w : World) (hr : Kd.C rGF.kT w A l.length l) (hc : l.length ≤ c) (hg : w.heap[g1]? = some (.cells #[.slice A l.length c] 84 (0, 0))) (hs : w.heap[g2]? = some (.cells #[.string s] 9 (0, 0))) (h : rGT.tfit l s i j = some b) :
  Calls Tryd.prog 67 #[.int .i64 (i : Int), .int .i64 (j : Int), .pointer (some ⟨g1, 0, none⟩), .pointer (some ⟨g2, 0, none⟩)] w fun e w' => e = .returned (.bool b) ∧ Below w.heap.size w w' := by
 unfold rGT.tfit at h
 by_cases c2 : i < l.length
 ·rw [if_pos c2] at h
  by_cases d2 : j < s.size
  ·rw [if_pos d2] at h
   obtain rfl := Option.some.inj h
   obtain ⟨ad, e, hx⟩ := rGT.trow hr i c2
   cases e
   have hcell : w.cell? ⟨g1, 0, none⟩ = some (.slice (some ad) l.length c) := (blk_cell hg 0).trans rfl
   have hcell2 : w.cell? ⟨g2, 0, none⟩ = some (.string s) := (blk_cell hs 0).trans rfl
   have HC := Aside0.mk hc
   have hbr := bt_range s (j : Int)
   have hx0 := hx (1 + (bt s (j : Int)).toNat) (by omega)
   have hbt := bt_at s (j : Int)
   rw [Int.toNat_natCast] at hbt
   have hb0 : (0 ≤ bt s (j : Int)) = True := eq_true hbr.1
   have hb1 : (bt s (j : Int) < 256) = True := eq_true (by omega)
   clear h hr hc hg hs hx hbr
   have c3 : ((i : Int) < (l.length : Int)) = True := eq_true (by omega)
   have c4 : (0 ≤ (i : Int)) = True := eq_true (by omega)
   have d3 : ((j : Int) < (s.size : Int)) = True := eq_true (by omega)
   have d4 : (0 ≤ (j : Int)) = True := eq_true (by omega)
   replace c2 := eq_true c2
   replace d2 := eq_true d2
   generalize (l.getD i []).getD (1 + (bt s (j : Int)).toNat) false = b at *
   have hx1 : w.cell? ⟨(ad.add (i * 257)).block, (ad.add (i * 257)).off + 1 + (bt s (j : Int)).toNat, none⟩ = some (.bool b) := by rw [← hx0]; by_cases h0 : i * 257 = 0 <;> simp [Addr.add, h0, Nat.add_assoc]
   clear hx0
   go_enter Tryd.func67, Tryd.ntmps67
   go_wp2
   go_quiet (fail)
   go_wp2
   go_ret
   exact ⟨rfl, pwbN (Below.refl _ _) _⟩
  ·rw [if_neg d2] at h; cases h
 ·rw [if_neg c2] at h; cases h
set_option maxHeartbeats 8000000 in
set_option maxRecDepth 100000 in
theorem rGT.part_calls (p s : ByteArray) (r : Bool) (w : World) (h : rGT.part p s = some r) :
  Calls Tryd.prog 37 #[.string p, .string s] w fun e w' => e = .returned (.bool r) ∧ Below w.heap.size w w' := by
 unfold rGT.part at h
 obtain ⟨⟨l, ok⟩, h1, h⟩ := Option.bind_eq_some_iff.1 h
 have H1 := Aside0.mk h1
 have HH := Aside0.mk h
 have HB0 := Aside0.mk (Below.refl w.heap.size w)
 clear h h1
 go_enter Tryd.func37, Tryd.ntmps37
 go_wp2_with (first | ((with_reducible refine gate_dst (N := 3) rfl ?_); refine box_event ?hg (N := 3) ?hd (cs := #[.string s]) (t := 9) ?hr ?_; (case hd => rfl); (case hg => rfl); (case hr => first | (go_simp; done) | (go_simp; rfl)); intro gs hgs w1 hbox hb1; have HK := Aside0.mk hbox; have HB1 := Aside0.mk (below_step HB0.out hb1); clear hgs hb1 hbox) | (go_at_call 64; refine (rGF.tokens p l ok _ H1.out).mono ?_; rintro e w2 ⟨v, rfl, hR, hb2⟩; obtain ⟨A, c, rfl, hc, hr⟩ := Kd.R_reads hR; have HR := Aside0.mk hr; have HC := Aside0.mk hc; have HK2 := Aside0.mk (blk_below HK.out hb2); have HB2 := Aside0.mk (below_step HB1.out hb2); have hcs : ∀ o, (w2.alloc o).cell? ⟨gs, 0, none⟩ = some (.string s) := (fun o => (blk_cell (blk_alloc (blk_below HK.out hb2) o) 0).trans rfl); clear hb2 hR hr hc) | (go_at_call 34; refine (rGT.tableA _ _ _ _ _ gs r _ (fun W i b hb hs => rGT.starA A c _ l i b W (Kd.C_below (Kd.C_alloc HR.out _) hb) HC.out (blk_below (blk_new _ _) hb) hs) (fun W i j b hb hs => rGT.fitA A c _ gs l s i j b W (Kd.C_below (Kd.C_alloc HR.out _) hb) HC.out (blk_below (blk_new _ _) hb) (blk_below (blk_alloc HK2.out _) hb) hs) HH.out).mono ?_; rintro e w4 ⟨rfl, hb4⟩; have HB4 := Aside0.mk (below_step (bwA HB2.out _) hb4); clear hb4))
 go_ret
 exact ⟨rfl, HB4.out⟩
set_option maxHeartbeats 8000000 in
set_option maxRecDepth 100000 in
theorem rGT.fitB (A : Option Addr) (c g1 : Nat) (A2 : Option Addr) (c2 g2 : Nat) (l t : List ByteArray) (i j : Nat) (b : Bool) (w : World) (hr : Kd.C Kd.string w A l.length l) (hc : l.length ≤ c) (hg : w.heap[g1]? = some (.cells #[.slice A l.length c] 51 (0, 0))) (hr2 : Kd.C Kd.string w A2 t.length t) (hc2 : t.length ≤ c2) (hg2 : w.heap[g2]? = some (.cells #[.slice A2 t.length c2] 51 (0, 0))) (h : rGT.fit l t i j = some b) :
  Calls Tryd.prog 36 #[.int .i64 (i : Int), .int .i64 (j : Int), .pointer (some ⟨g1, 0, none⟩), .pointer (some ⟨g2, 0, none⟩)] w fun e w' => e = .returned (.bool b) ∧ Below w.heap.size w w' := by
 unfold rGT.fit at h
 by_cases d1 : i < l.length
 ·rw [if_pos d1] at h
  by_cases d2 : j < t.length
  ·rw [if_pos d2] at h
   obtain ⟨ad, e, hx⟩ := Kd.at_string hr (i : Int) (by omega) (by omega)
   cases e
   obtain ⟨ad2, e, hx2⟩ := Kd.at_string hr2 (j : Int) (by omega) (by omega)
   cases e
   rw [Int.toNat_natCast] at hx hx2
   have hcell : w.cell? ⟨g1, 0, none⟩ = some (.slice (some ad) l.length c) := (blk_cell hg 0).trans rfl
   have hcell2 : w.cell? ⟨g2, 0, none⟩ = some (.slice (some ad2) t.length c2) := (blk_cell hg2 0).trans rfl
   have HC := Aside0.mk hc
   have HC2 := Aside0.mk hc2
   have HH := Aside0.mk h
   have HB0 := Aside0.mk (Below.refl w.heap.size w)
   clear h hr hc hg hr2 hc2 hg2
   have c3 : ((i : Int) < (l.length : Int)) = True := eq_true (by omega)
   have c4 : (0 ≤ (i : Int)) = True := eq_true (by omega)
   have c5 : ((j : Int) < (t.length : Int)) = True := eq_true (by omega)
   have c6 : (0 ≤ (j : Int)) = True := eq_true (by omega)
   replace d1 := eq_true d1
   replace d2 := eq_true d2
   go_enter Tryd.func36, Tryd.ntmps36
   go_wp2
   go_region_held3 (fun w' => w'.cell? ⟨g1, 0, none⟩ = some (.slice (some ad) l.length c) ∧ w'.cell? ⟨g2, 0, none⟩ = some (.slice (some ad2) t.length c2) ∧ w'.cell? (ad.add i) = some (.string (rdOf ByteArray.empty l (i : Int))) ∧ w'.cell? (ad2.add j) = some (.string (rdOf ByteArray.empty t (j : Int))))
    (first | go_keep | (go_split_ands; exact ⟨(hb3.cell (World.block_lt_of_cell? _ _ (by assumption))).trans (by assumption), (hb3.cell (World.block_lt_of_cell? _ _ (by assumption))).trans (by assumption), (hb3.cell (World.block_lt_of_cell? _ _ (by assumption))).trans (by assumption), (hb3.cell (World.block_lt_of_cell? _ _ (by assumption))).trans (by assumption)⟩)) ((go_at_call 37; refine (rGT.part_calls _ _ b _ HH.out).mono ?_; rintro e w3 ⟨rfl, hb3⟩))
   all_goals
    go_wp2
    go_ret
    exact ⟨rfl, below_step (by repeat (first | exact Below.refl _ _ | apply pwbN | apply bw1)) hb3⟩
  ·rw [if_neg d2] at h; cases h
 ·rw [if_neg d1] at h; cases h
set_option maxHeartbeats 16000000 in
set_option maxRecDepth 100000 in
theorem rGT.calls (k : Nat) (p s : ByteArray) (r1 : Bool) (r2 : Int) (w : World) (h : rGT.f k p s = some (r1, r2)) :
  Calls Tryd.prog 10 #[.string p, .string s] w fun e w' => e = .returned (.tuple #[.bool r1, .int .i64 r2]) ∧ Below w.heap.size w w' := by
 unfold rGT.f at h
 obtain ⟨e1, h1, hq⟩ := Option.bind_eq_some_iff.1 h
 clear h
 have h := hq
 clear hq
 have H1 := Aside0.mk h1
 clear h1
 by_cases c1 : e1 = 0
 ·subst c1
  rw [if_pos rfl] at h
  obtain ⟨e2, h2, hq⟩ := Option.bind_eq_some_iff.1 h
  clear h
  have h := hq
  clear hq
  have H2 := Aside0.mk h2
  clear h2
  by_cases c2 : e2 = 0
  ·subst c2
   rw [if_pos rfl] at h
   obtain ⟨a, h3, hq⟩ := Option.bind_eq_some_iff.1 h
   clear h
   have h := hq
   clear hq
   obtain ⟨b, h4, hq⟩ := Option.bind_eq_some_iff.1 h
   clear h
   have h := hq
   clear hq
   obtain ⟨q, h5, hq⟩ := Option.bind_eq_some_iff.1 h
   clear h
   have h := hq
   clear hq
   obtain ⟨rfl, rfl⟩ := Prod.mk.inj (Option.some.inj h)
   have H3 := Aside0.mk h3
   have H4 := Aside0.mk h4
   have H5 := Aside0.mk h5
   clear h h3 h4 h5
   go_enter Tryd.func10, Tryd.ntmps10
   go_upto_region 8 with (first | (go_at_call 31; refine (rGF.calls k p 0 _ H1.out).mono ?_; rintro e w1 ⟨rfl, hb1⟩; have HB1 := Aside0.mk hb1; clear hb1) | (go_at_call 32; refine (creelref_PathFault.calls k s 0 _ H2.out).mono ?_; rintro e w2 ⟨rfl, hb2⟩; have HB2 := Aside0.mk (below_step HB1.out hb2); clear hb2) | (go_at_call 33; refine (creelref_parts.calls k p 47 a _ H3.out).mono ?_; rintro e w3 ⟨v, rfl, hR, hb3⟩; obtain ⟨A, c, rfl, hc, hr⟩ := Kd.R_reads hR; have HR := Aside0.mk hr; have HC := Aside0.mk hc; have HB3 := Aside0.mk (below_step HB2.out hb3); clear hb3 hR hr hc))
   obtain ⟨g1, hg1⟩ : ∃ g1, g1 = w3.heap.size := ⟨_, rfl⟩
   have HK := Aside0.mk (blk_new w3 (.cells #[.slice A a.length c] 51 (0, 0)))
   rw [← hg1] at *
   have HR1 := Aside0.mk (Kd.C_alloc HR.out (.cells #[.slice A a.length c] 51 (0, 0)))
   have HB4 := Aside0.mk (bwA HB3.out (.cells #[.slice A a.length c] 51 (0, 0)))
   generalize hw : w3.alloc (.cells #[.slice A a.length c] 51 (0, 0)) = w4 at *
   clear hg1 hw HR HB3 HB2 HB1
   go_upto_region 9 with (go_at_call 33; refine (creelref_parts.calls k s 47 b _ H4.out).mono ?_; rintro e w5 ⟨v, rfl, hR, hb5⟩; obtain ⟨A2, c2, rfl, hc, hr⟩ := Kd.R_reads hR; have HR2 := Aside0.mk hr; have HC2 := Aside0.mk hc; have HB5 := Aside0.mk (below_step HB4.out hb5); have HK5 := Aside0.mk (blk_below HK.out hb5); have HR5 := Aside0.mk (Kd.C_below HR1.out hb5); have hca : ∀ o, (w5.alloc o).cell? ⟨g1, 0, none⟩ = some (.slice A a.length c) := (fun o => (blk_cell (blk_alloc (blk_below HK.out hb5) o) 0).trans rfl); clear hb5 hR hr hc)
   go_wp2_with (go_at_call 34; refine (rGT.tableB _ _ _ _ g1 _ q _ (fun W i q2 hb hs => rGT.starB A c g1 a i q2 W (Kd.C_below (Kd.C_alloc HR5.out _) hb) HC.out (blk_below (blk_alloc HK5.out _) hb) hs) (fun W i j q2 hb hs => rGT.fitB A c g1 A2 c2 _ a b i j q2 W (Kd.C_below (Kd.C_alloc HR5.out _) hb) HC.out (blk_below (blk_alloc HK5.out _) hb) (Kd.C_below (Kd.C_alloc HR2.out _) hb) HC2.out (blk_below (blk_new _ _) hb) hs) H5.out).mono ?_; rintro e w6 ⟨rfl, hb6⟩; have HB6 := Aside0.mk (below_step (bwA HB5.out _) hb6); clear hb6)
   go_ret2
   exact ⟨rfl, HB6.out⟩
  ·rw [if_neg c2] at h
   obtain ⟨rfl, rfl⟩ := Prod.mk.inj (Option.some.inj h)
   have c2b : (e2 != 0) = true := bne_iff_ne.mpr c2
   clear c2 h
   go_enter Tryd.func10, Tryd.ntmps10
   go_wp2_with (first | (go_at_call 31; refine (rGF.calls k p 0 _ H1.out).mono ?_; rintro e w1 ⟨rfl, hb1⟩; have HB1 := Aside0.mk hb1; clear hb1) | (go_at_call 32; refine (creelref_PathFault.calls k s e2 _ H2.out).mono ?_; rintro e w2 ⟨rfl, hb2⟩; have HB2 := Aside0.mk (below_step HB1.out hb2); clear hb2))
   go_ret2
   exact ⟨rfl, HB2.out⟩
 ·rw [if_neg c1] at h
  obtain ⟨rfl, rfl⟩ := Prod.mk.inj (Option.some.inj h)
  have c1b : (e1 != 0) = true := bne_iff_ne.mpr c1
  clear c1 h
  go_enter Tryd.func10, Tryd.ntmps10
  go_wp2_with ((go_at_call 31; refine (rGF.calls k p e1 _ H1.out).mono ?_; rintro e w1 ⟨rfl, hb1⟩; have HB1 := Aside0.mk hb1; clear hb1))
  go_ret2
  exact ⟨rfl, HB1.out⟩
end Go.Proofs.YtcbbcnmifohibaaDoor.All
end
section
namespace Go.Proofs.YtcbbcnmifohibaaDoor.All
open Go.RowKit Go.Proofs.YtcbbcnmifohibaaDoorW.PrintWords Go.Proofs.YtcbbcnmifohibaaDoorW.PrintLast Go.Proofs.YtcbbcnmifohibaaDoorW.PrintMore
open Go.Proofs.YtcbbcnmifohibaaDoorW.Mine
attribute [local go_sem] gtr_string leq_string geq_string
attribute [local go_sem] max2_int min2_int max_two min_two max_three min_three max_four min_four
set_option linter.unusedVariables false
set_option linter.unusedSimpArgs false
def creelref_taken.l0 : Nat → ByteArray → Bool → List (S58) → Int → Int → Option (Bool)
 | 0, _, _, _, _, _ => none
 | k + 1, x1, x5, x10, x11, x12 => if x12 < x11 then (if 0 ≤ x12 then (if x12 < (x10.length : Int) then ((rGT.f k ((rd_T58 x10 x12).f1) x1).bind fun bt103 => (if bt103.1 = true then (creelref_taken.l0 k x1 ((rd_T58 x10 x12).f0) x10 x11 (wrap64 (x12 + 1))) else (creelref_taken.l0 k x1 x5 x10 x11 (wrap64 (x12 + 1))))) else (none)) else (none)) else (some x5)
def creelref_taken.f (k : Nat) (l0 : List (S58)) (a1 : ByteArray) : Option (Bool) := creelref_taken.l0 k a1 true l0 (l0.length : Int) 0
set_option maxHeartbeats 8000000 in
set_option maxRecDepth 100000 in
theorem creelref_taken.calls (k : Nat) (A0 : Option Addr) (c0 : Nat) (l0 : List (S58)) (a1 : ByteArray) (r : Bool) (w : World) (hr0 : Kd.C k58 w A0 l0.length l0) (hc0 : l0.length ≤ c0) (h : creelref_taken.f k l0 a1 = some r) :
  Calls Tryd.prog 39 #[.slice A0 l0.length c0, .string a1] w fun e w' => e = .returned (.bool r) ∧ Below w.heap.size w w' := by
 have hu58 := Tryd.underlying58
 have HR0 := Aside0.mk hr0
 have HC0 := Aside0.mk hc0
 clear hr0 hc0
 have HB := Aside0.mk (Below.refl w.heap.size w)
 have H : (creelref_taken.l0 k a1 true l0 (l0.length : Int) 0) = some r := h
 clear h
 have H' := Aside0.mk H
 clear H
 go_enter Tryd.func39, Tryd.ntmps39
 go_wp2
 go_loopg [5, 12] k (fun kq v5 v12 w' => ∃ (x5_1 : Bool) (x12_1 : Int), v5 = .bool x5_1 ∧ v12 = .int .i64 x12_1 ∧ Aside0 (creelref_taken.l0 kq a1 x5_1 l0 (l0.length : Int) x12_1 = some r) ∧ Aside0 (kq ≤ k) ∧ Aside0 (Below w.heap.size w w'))
 case atStart => exact ⟨(true), (0), (by first | rfl | (simp; done) | (simp [*]; done)), (by first | rfl | (simp; done) | (simp [*]; done)), H', ⟨Nat.le_refl _⟩, ⟨by repeat (first | (with_reducible first | exact HB.out | apply bwA | apply pwbN | apply bw1) | exact HB.out)⟩⟩
 case round =>
  clear H'
  try clear p2
  obtain ⟨x5_1, x12_1, rfl, rfl, HA, HK1, HB⟩ := hrel
  cases gk with
  | zero => exact absurd HA.out (by simp [creelref_taken.l0])
  | succ k1 =>
   have H := HA.out
   clear HA
   simp only [creelref_taken.l0] at H
   by_cases c3 : x12_1 < (l0.length : Int)
   ·rw [if_pos c3] at H
    have c3b0 : decide (x12_1 < (l0.length : Int)) = true := decide_eq_true c3
    clear c3
    by_cases c4 : 0 ≤ x12_1
    ·rw [if_pos c4] at H
     have c4b0 : decide (0 ≤ x12_1) = true := decide_eq_true c4
     clear c4
     by_cases c5 : x12_1 < (l0.length : Int)
     ·rw [if_pos c5] at H
      have c5b0 : decide (x12_1 < (l0.length : Int)) = true := decide_eq_true c5
      clear c5
      replace H := Option.bind_eq_some_iff.mp H
      obtain ⟨⟨t103, t104⟩, A60, H⟩ := H
      replace H : (if t103 = true then (creelref_taken.l0 k1 a1 ((rd_T58 l0 x12_1).f0) l0 (l0.length : Int) (wrap64 (x12_1 + 1))) else (creelref_taken.l0 k1 a1 x5_1 l0 (l0.length : Int) (wrap64 (x12_1 + 1)))) = some r := H
      have A6 := Aside0.mk A60
      clear A60
      by_cases c7 : t103 = true
      ·subst c7
       have H1 : (creelref_taken.l0 k1 a1 ((rd_T58 l0 x12_1).f0) l0 (l0.length : Int) (wrap64 (x12_1 + 1))) = some r := by rw [if_pos rfl] at H; exact H
       clear H
       have H := H1
       clear H1
       have H' := Aside0.mk H
       clear H
       have p101 : 0 ≤ (x12_1 : Int) := of_decide_eq_true (by first | (with_reducible assumption) | assumption)
       have q101 : x12_1 < (l0.length : Int) := of_decide_eq_true (by first | (with_reducible assumption) | assumption)
       obtain ⟨ad101, e101, hx101_0, hx101_1⟩ := at_T58 HR0.out x12_1 p101 q101
       cases e101
       replace hx101_0 := (HB.out.cell (World.block_lt_of_cell? w _ hx101_0)).trans hx101_0
       replace hx101_1 := (HB.out.cell (World.block_lt_of_cell? w _ hx101_1)).trans hx101_1
       replace p101 := eq_true p101
       replace q101 := eq_true q101
       go_wp2_with (first | ((with_reducible refine gate_dst (N := 7) rfl ?_); refine box_event ?hg (N := 7) ?hd (cs := #[.bool false, .string (⟨#[]⟩ : ByteArray)]) (t := 58) ?hr ?_; (case hd => rfl); (case hg => rfl); (case hr => first | (go_simp; done) | (go_simp; rfl)); intro gb102 hg w8 hbox hb; have n0_ := Aside0.mk (below_step (by repeat (first | (with_reducible first | exact HB.out | apply bwA | apply pwbN | apply bw1) | exact HB.out)) hb); have n1_ := Aside0.mk (hbox); have n2_ := Aside0.mk ((by rw [hg]; exact (below_size (by repeat (first | (with_reducible first | exact HB.out | apply bwA | apply pwbN | apply bw1) | exact HB.out))) : w.heap.size ≤ gb102)); have n3_ := Aside0.mk ((by rw [hg]; exact (below_size (by repeat (first | (with_reducible first | exact HB.out | apply bwA | apply pwbN | apply bw1) | exact HB.out))) : w.heap.size ≤ gb102)); clear HB; have HB := n0_; have BK102 := n1_; have GW102 := n2_; have GE102 := n3_; clear n0_ n1_ n2_ n3_; clear hb hbox hg; obtain ⟨hcz9_0, hcz9_1, hfz9_0, hfz9_1⟩ := blkA2 BK102.out) | ((with_reducible refine gate_callee (f := 10) rfl ?_); refine goesL_ (some 20) rfl rfl Tryd.func10 (by kernel_rfl) rfl #[.string ((rd_T58 l0 x12_1).f1), .string a1] rfl (by (try simp only [List.map_toArray, List.map_cons, List.map_nil]); first | done | rfl | (simp only [List.length_drop, List.length_take]; rfl)) ?_; (with_reducible refine (rGT.calls k1 ((rd_T58 l0 x12_1).f1) a1 true t104 _ A6.out).mono ?_); rintro e w10 ⟨rfl, hb⟩; refine ⟨_, rfl, ?_⟩; have n0_ := Aside0.mk (blk_below (g := gb102) (o := .cells #[.bool ((rd_T58 l0 x12_1).f0), .string ((rd_T58 l0 x12_1).f1)] 58 (0, 0)) (by (with_reducible repeat (first | refine blk_drewN ?_ _ | refine blk_drew ?_ | refine blk_alloc ?_ _)); refine blk_put (cs := #[.bool ((rd_T58 l0 x12_1).f0), .string (⟨#[]⟩ : ByteArray)]) ?_ 1 _ rfl; (with_reducible repeat (first | refine blk_drewN ?_ _ | refine blk_drew ?_ | refine blk_alloc ?_ _)); refine blk_put (cs := #[.bool false, .string (⟨#[]⟩ : ByteArray)]) ?_ 0 _ rfl; (with_reducible repeat (first | refine blk_drewN ?_ _ | refine blk_drew ?_ | refine blk_alloc ?_ _)); exact BK102.out) hb); have n1_ := Aside0.mk (below_step (by repeat (first | (with_reducible first | exact HB.out | apply bwA | apply pwbN | apply bw1 | refine below_set ?_ GE102.out) | exact HB.out)) hb); clear BK102; clear HB; have BK102 := n0_; have HB := n1_; clear n0_ n1_; (try clear hb); (try clear hb2); (try clear hk); (try clear hi); obtain ⟨hcz11_0, hcz11_1, hfz11_0, hfz11_1⟩ := blkA2 BK102.out))
       go_roundg k1
       case measure => have := HK1.out; omega
       case rel => exact ⟨((rd_T58 l0 x12_1).f0), (wrap64 (x12_1 + 1)), (by first | rfl | (simp; done) | (simp [*]; done)), (by first | rfl | (simp; done) | (simp [*]; done)), H', ⟨by have := HK1.out; omega⟩, ⟨by repeat (first | (with_reducible first | exact HB.out | apply bwA | apply pwbN | apply bw1 | refine below_set ?_ GE102.out) | exact HB.out)⟩⟩
      ·replace c7 := Bool.eq_false_iff.mpr c7
       subst c7
       have H1 : (creelref_taken.l0 k1 a1 x5_1 l0 (l0.length : Int) (wrap64 (x12_1 + 1))) = some r := by rw [if_neg (show ¬ (false = true) by decide)] at H; exact H
       clear H
       have H := H1
       clear H1
       have H' := Aside0.mk H
       clear H
       have p101 : 0 ≤ (x12_1 : Int) := of_decide_eq_true (by first | (with_reducible assumption) | assumption)
       have q101 : x12_1 < (l0.length : Int) := of_decide_eq_true (by first | (with_reducible assumption) | assumption)
       obtain ⟨ad101, e101, hx101_0, hx101_1⟩ := at_T58 HR0.out x12_1 p101 q101
       cases e101
       replace hx101_0 := (HB.out.cell (World.block_lt_of_cell? w _ hx101_0)).trans hx101_0
       replace hx101_1 := (HB.out.cell (World.block_lt_of_cell? w _ hx101_1)).trans hx101_1
       replace p101 := eq_true p101
       replace q101 := eq_true q101
       go_wp2_with (first | ((with_reducible refine gate_dst (N := 7) rfl ?_); refine box_event ?hg (N := 7) ?hd (cs := #[.bool false, .string (⟨#[]⟩ : ByteArray)]) (t := 58) ?hr ?_; (case hd => rfl); (case hg => rfl); (case hr => first | (go_simp; done) | (go_simp; rfl)); intro gb102 hg w12 hbox hb; have n0_ := Aside0.mk (below_step (by repeat (first | (with_reducible first | exact HB.out | apply bwA | apply pwbN | apply bw1) | exact HB.out)) hb); have n1_ := Aside0.mk (hbox); have n2_ := Aside0.mk ((by rw [hg]; exact (below_size (by repeat (first | (with_reducible first | exact HB.out | apply bwA | apply pwbN | apply bw1) | exact HB.out))) : w.heap.size ≤ gb102)); have n3_ := Aside0.mk ((by rw [hg]; exact (below_size (by repeat (first | (with_reducible first | exact HB.out | apply bwA | apply pwbN | apply bw1) | exact HB.out))) : w.heap.size ≤ gb102)); clear HB; have HB := n0_; have BK102 := n1_; have GW102 := n2_; have GE102 := n3_; clear n0_ n1_ n2_ n3_; clear hb hbox hg; obtain ⟨hcz13_0, hcz13_1, hfz13_0, hfz13_1⟩ := blkA2 BK102.out) | ((with_reducible refine gate_callee (f := 10) rfl ?_); refine goesL_ (some 20) rfl rfl Tryd.func10 (by kernel_rfl) rfl #[.string ((rd_T58 l0 x12_1).f1), .string a1] rfl (by (try simp only [List.map_toArray, List.map_cons, List.map_nil]); first | done | rfl | (simp only [List.length_drop, List.length_take]; rfl)) ?_; (with_reducible refine (rGT.calls k1 ((rd_T58 l0 x12_1).f1) a1 false t104 _ A6.out).mono ?_); rintro e w14 ⟨rfl, hb⟩; refine ⟨_, rfl, ?_⟩; have n0_ := Aside0.mk (blk_below (g := gb102) (o := .cells #[.bool ((rd_T58 l0 x12_1).f0), .string ((rd_T58 l0 x12_1).f1)] 58 (0, 0)) (by (with_reducible repeat (first | refine blk_drewN ?_ _ | refine blk_drew ?_ | refine blk_alloc ?_ _)); refine blk_put (cs := #[.bool ((rd_T58 l0 x12_1).f0), .string (⟨#[]⟩ : ByteArray)]) ?_ 1 _ rfl; (with_reducible repeat (first | refine blk_drewN ?_ _ | refine blk_drew ?_ | refine blk_alloc ?_ _)); refine blk_put (cs := #[.bool false, .string (⟨#[]⟩ : ByteArray)]) ?_ 0 _ rfl; (with_reducible repeat (first | refine blk_drewN ?_ _ | refine blk_drew ?_ | refine blk_alloc ?_ _)); exact BK102.out) hb); have n1_ := Aside0.mk (below_step (by repeat (first | (with_reducible first | exact HB.out | apply bwA | apply pwbN | apply bw1 | refine below_set ?_ GE102.out) | exact HB.out)) hb); clear BK102; clear HB; have BK102 := n0_; have HB := n1_; clear n0_ n1_; (try clear hb); (try clear hb2); (try clear hk); (try clear hi)))
       go_roundg k1
       case measure => have := HK1.out; omega
       case rel => exact ⟨(x5_1), (wrap64 (x12_1 + 1)), (by first | rfl | (simp; done) | (simp [*]; done)), (by first | rfl | (simp; done) | (simp [*]; done)), H', ⟨by have := HK1.out; omega⟩, ⟨by repeat (first | (with_reducible first | exact HB.out | apply bwA | apply pwbN | apply bw1 | refine below_set ?_ GE102.out) | exact HB.out)⟩⟩
     ·rw [if_neg c5] at H
      exact absurd H (by simp)
    ·rw [if_neg c4] at H
     exact absurd H (by simp)
   ·rw [if_neg c3] at H
    have c3b0 : decide (x12_1 < (l0.length : Int)) = false := decide_eq_false c3
    clear c3
    obtain rfl := Option.some.inj H
    go_wp2
    go_ret
    exact ⟨by first | rfl | (simp [errW_none, errW_some] <;> rfl) | (simp [*, errW_none, errW_some] <;> rfl), by repeat (first | (with_reducible first | exact HB.out | apply bwA | apply pwbN | apply bw1) | exact HB.out)⟩
end Go.Proofs.YtcbbcnmifohibaaDoor.All
end
