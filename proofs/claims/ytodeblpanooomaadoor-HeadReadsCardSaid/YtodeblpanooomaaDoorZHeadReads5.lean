/- Made by programs of the prover: walks of Go functions, the words that they use, and plain laws, each text in a section of its own; no condition of its own. -/
import Derived.Test.YtodeblpanooomaaDoorZHeadReads2
section
namespace Go.Proofs.YtodeblpanooomaaDoor.All
open Go.RowKit Go.Proofs.YtodeblpanooomaaDoorW.PrintWords Go.Proofs.YtodeblpanooomaaDoorW.PrintLast Go.Proofs.YtodeblpanooomaaDoorW.PrintMore
open Go.Proofs.YtodeblpanooomaaDoorW.Mine
attribute [local go_sem] gtr_string leq_string geq_string
attribute [local go_sem] max2_int min2_int max_two min_two max_three min_three max_four min_four   -- for this text's walks alone
set_option linter.unusedVariables false
set_option linter.unusedSimpArgs false

/-! ### creelref_HeadSum: function 36 -/
def creelref_HeadSum.l0 : Nat → ByteArray → Int → Int → Option (Int × Int)
 | 0, _, _, _ => none
 | k + 1, x0, x4, x5 => if x5 < 512 then (if x5 ≥ 148 then (if x5 < 156 then (creelref_HeadSum.l0 k x0 (wrap64 (x4 + 32)) (wrap64 (x5 + 1))) else (if 0 ≤ x5 then (if x5 < (x0.size : Int) then (creelref_HeadSum.l0 k x0 (wrap64 (x4 + (wrap64 (bt x0 x5)))) (wrap64 (x5 + 1))) else (none)) else (none))) else (if 0 ≤ x5 then (if x5 < (x0.size : Int) then (creelref_HeadSum.l0 k x0 (wrap64 (x4 + (wrap64 (bt x0 x5)))) (wrap64 (x5 + 1))) else (none)) else (none))) else (some (x4, 0))
def creelref_HeadSum.f (k : Nat) (a0 : ByteArray) : Option (Int × Int) := if (a0.size : Int) = 512 then (creelref_HeadSum.l0 k a0 0 0) else (some (0, 1))
theorem creelref_HeadSum.mono_l : ∀ k, (∀ y0 y1 y2, LeO (creelref_HeadSum.l0 k y0 y1 y2) (creelref_HeadSum.l0 (k + 1) y0 y1 y2))
 | 0 => fun _ _ _ r h => by simp [creelref_HeadSum.l0] at h
 | k + 1 => by
  have ih0 := creelref_HeadSum.mono_l k
  ·intro y0 y1 y2
   unfold creelref_HeadSum.l0
   repeat' first
   | (with_reducible exact ih0 _ _ _)
   | (with_reducible exact LeO.refl _)
   | (with_reducible exact LeO.none _)
   | (with_reducible refine LeO.ite ?_ ?_)
   | (with_reducible refine LeO.bind ?_ (fun _ => ?_))
   | exact ih0 _ _ _
   | exact LeO.none _
   | refine LeO.ite ?_ ?_
   | refine LeO.bind ?_ (fun _ => ?_)
theorem creelref_HeadSum.mono : ∀ a0 k, LeO (creelref_HeadSum.f k a0) (creelref_HeadSum.f (k + 1) a0) := by
 intro a0 k
 have ih0 := creelref_HeadSum.mono_l k
 unfold creelref_HeadSum.f
 repeat' first
   | (with_reducible exact ih0 _ _ _)
   | (with_reducible exact LeO.refl _)
   | (with_reducible exact LeO.none _)
   | (with_reducible refine LeO.ite ?_ ?_)
   | (with_reducible refine LeO.bind ?_ (fun _ => ?_))
   | exact ih0 _ _ _
   | exact LeO.none _
   | refine LeO.ite ?_ ?_
   | refine LeO.bind ?_ (fun _ => ?_)
set_option maxHeartbeats 8000000 in
set_option maxRecDepth 100000 in
theorem creelref_HeadSum.calls (k : Nat) (a0 : ByteArray) (r1 : Int) (r2 : Int) (w : World) (h : creelref_HeadSum.f k a0 = some (r1, r2)) :
  Calls Tryd.prog 36 #[.string a0] w fun e w' => e = .returned (.tuple #[.int .i64 r1, .int .i64 r2]) ∧ Drawn0 w w' := by
 have H : (if (a0.size : Int) = 512 then (creelref_HeadSum.l0 k a0 0 0) else (some (0, 1))) = some (r1, r2) := h
 clear h
 by_cases c2 : (a0.size : Int) = 512
 ·rw [if_pos c2] at H
  have c2b0 : ((a0.size : Int) == 512) = true := beq_iff_eq.mpr c2
  have c2b1 : ((a0.size : Int) != 512) = false := bne_eq_false_iff_eq.mpr c2
  clear c2
  have H' := Aside0.mk H
  clear H
  go_enter Tryd.func36, Tryd.ntmps36
  go_wp2
  go_loopg [4, 5] k (fun kq v4 v5 w' => ∃ (x4_1 : Int) (x5_1 : Int), v4 = .int .i64 x4_1 ∧ v5 = .int .i64 x5_1 ∧ Aside0 (creelref_HeadSum.l0 kq a0 x4_1 x5_1 = some (r1, r2)) ∧ Aside0 (kq ≤ k) ∧ Drawn0 w w')
  case atStart => exact ⟨(0), (0), (by first | rfl | (simp; done) | (simp [*]; done)), (by first | rfl | (simp; done) | (simp [*]; done)), H', ⟨Nat.le_refl _⟩, by repeat (first | exact Drawn0.refl _ | apply Drawn0.step)⟩
  case round =>
   clear H'
   try clear c2
   try clear c2b0
   try clear c2b1
   try clear p2
   obtain ⟨x4_1, x5_1, rfl, rfl, HA, HK1, ⟨m1, rfl⟩⟩ := hrel
   cases gk with
   | zero => exact absurd HA.out (by simp [creelref_HeadSum.l0])
   | succ k1 =>
    have H := HA.out
    clear HA
    simp only [creelref_HeadSum.l0] at H
    by_cases c3 : x5_1 < 512
    ·rw [if_pos c3] at H
     have c3b0 : decide (x5_1 < 512) = true := decide_eq_true c3
     clear c3
     by_cases c4 : x5_1 ≥ 148
     ·rw [if_pos c4] at H
      have c4b0 : decide (148 ≤ x5_1) = true := decide_eq_true c4
      clear c4
      by_cases c5 : x5_1 < 156
      ·rw [if_pos c5] at H
       have c5b0 : decide (x5_1 < 156) = true := decide_eq_true c5
       clear c5
       have H' := Aside0.mk H
       clear H
       go_wp2
       go_roundg k1
       case measure => have := HK1.out; omega
       case rel => exact ⟨(wrap64 (x4_1 + 32)), (wrap64 (x5_1 + 1)), (by first | rfl | (simp; done) | (simp [*]; done)), (by first | rfl | (simp; done) | (simp [*]; done)), H', ⟨by have := HK1.out; omega⟩, by repeat (first | exact Drawn0.refl _ | apply Drawn0.step)⟩
      ·rw [if_neg c5] at H
       have c5b0 : decide (x5_1 < 156) = false := decide_eq_false c5
       clear c5
       by_cases c6 : 0 ≤ x5_1
       ·rw [if_pos c6] at H
        have c6b0 : decide (0 ≤ x5_1) = true := decide_eq_true c6
        clear c6
        by_cases c7 : x5_1 < (a0.size : Int)
        ·rw [if_pos c7] at H
         have c7b0 : decide (x5_1 < (a0.size : Int)) = true := decide_eq_true c7
         clear c7
         have H' := Aside0.mk H
         clear H
         have p8 : 0 ≤ (x5_1 : Int) := of_decide_eq_true (by first | (with_reducible assumption) | assumption)
         have q8 : x5_1 < (a0.size : Int) := of_decide_eq_true (by first | (with_reducible assumption) | assumption)
         have hx8 := bt_at a0 x5_1
         replace p8 := eq_true p8
         replace q8 := eq_true q8
         go_wp2
         go_roundg k1
         case measure => have := HK1.out; omega
         case rel => exact ⟨(wrap64 (x4_1 + (wrap64 (bt a0 x5_1)))), (wrap64 (x5_1 + 1)), (by first | rfl | (simp; done) | (simp [*]; done)), (by first | rfl | (simp; done) | (simp [*]; done)), H', ⟨by have := HK1.out; omega⟩, by repeat (first | exact Drawn0.refl _ | apply Drawn0.step)⟩
        ·rw [if_neg c7] at H
         exact absurd H (by simp)
       ·rw [if_neg c6] at H
        exact absurd H (by simp)
     ·rw [if_neg c4] at H
      have c4b0 : decide (148 ≤ x5_1) = false := decide_eq_false c4
      clear c4
      by_cases c9 : 0 ≤ x5_1
      ·rw [if_pos c9] at H
       have c9b0 : decide (0 ≤ x5_1) = true := decide_eq_true c9
       clear c9
       by_cases c10 : x5_1 < (a0.size : Int)
       ·rw [if_pos c10] at H
        have c10b0 : decide (x5_1 < (a0.size : Int)) = true := decide_eq_true c10
        clear c10
        have H' := Aside0.mk H
        clear H
        have p11 : 0 ≤ (x5_1 : Int) := of_decide_eq_true (by first | (with_reducible assumption) | assumption)
        have q11 : x5_1 < (a0.size : Int) := of_decide_eq_true (by first | (with_reducible assumption) | assumption)
        have hx11 := bt_at a0 x5_1
        replace p11 := eq_true p11
        replace q11 := eq_true q11
        go_wp2
        go_roundg k1
        case measure => have := HK1.out; omega
        case rel => exact ⟨(wrap64 (x4_1 + (wrap64 (bt a0 x5_1)))), (wrap64 (x5_1 + 1)), (by first | rfl | (simp; done) | (simp [*]; done)), (by first | rfl | (simp; done) | (simp [*]; done)), H', ⟨by have := HK1.out; omega⟩, by repeat (first | exact Drawn0.refl _ | apply Drawn0.step)⟩
       ·rw [if_neg c10] at H
        exact absurd H (by simp)
      ·rw [if_neg c9] at H
       exact absurd H (by simp)
    ·rw [if_neg c3] at H
     have c3b0 : decide (x5_1 < 512) = false := decide_eq_false c3
     clear c3
     simp only [Option.some.injEq, Prod.mk.injEq] at H
     obtain ⟨rfl, rfl⟩ := H
     go_wp2
     go_ret2
     exact ⟨by first | rfl | (simp; done) | (simp [*]; done), by repeat (first | exact Drawn0.refl _ | apply Drawn0.step)⟩
 ·rw [if_neg c2] at H
  have c2b0 : ((a0.size : Int) == 512) = false := beq_eq_false_iff_ne.mpr c2
  have c2b1 : ((a0.size : Int) != 512) = true := bne_iff_ne.mpr c2
  simp only [Option.some.injEq, Prod.mk.injEq] at H
  obtain ⟨rfl, rfl⟩ := H
  go_enter Tryd.func36, Tryd.ntmps36
  go_wp2
  go_ret2
  exact ⟨by first | rfl | (simp; done) | (simp [*]; done), by repeat (first | exact Drawn0.refl _ | apply Drawn0.step)⟩

end Go.Proofs.YtodeblpanooomaaDoor.All
end
section
namespace Go.Proofs.YtodeblpanooomaaDoor.All
open Go.RowKit Go.Proofs.YtodeblpanooomaaDoorW.PrintWords Go.Proofs.YtodeblpanooomaaDoorW.PrintLast Go.Proofs.YtodeblpanooomaaDoorW.PrintMore
open Go.Proofs.YtodeblpanooomaaDoorW.Mine
attribute [local go_sem] gtr_string leq_string geq_string
attribute [local go_sem] max2_int min2_int max_two min_two max_three min_three max_four min_four   -- for this text's walks alone
set_option linter.unusedVariables false
set_option linter.unusedSimpArgs false

/-! ### creelref_power: function 88 -/
def creelref_power.l0 : Nat → Int → Int → Int → Option (Int)
 | 0, _, _, _ => none
 | k + 1, x0, x3, x4 => if x4 < x0 then (creelref_power.l0 k x0 (wrap64 (x3 * 8)) (wrap64 (x4 + 1))) else (some x3)
def creelref_power.f (k : Nat) (a0 : Int) : Option (Int) := creelref_power.l0 k a0 1 0
theorem creelref_power.mono_l : ∀ k, (∀ y0 y1 y2, LeO (creelref_power.l0 k y0 y1 y2) (creelref_power.l0 (k + 1) y0 y1 y2))
 | 0 => fun _ _ _ r h => by simp [creelref_power.l0] at h
 | k + 1 => by
  have ih0 := creelref_power.mono_l k
  ·intro y0 y1 y2
   unfold creelref_power.l0
   repeat' first
   | (with_reducible exact ih0 _ _ _)
   | (with_reducible exact LeO.refl _)
   | (with_reducible exact LeO.none _)
   | (with_reducible refine LeO.ite ?_ ?_)
   | (with_reducible refine LeO.bind ?_ (fun _ => ?_))
   | exact ih0 _ _ _
   | exact LeO.none _
   | refine LeO.ite ?_ ?_
   | refine LeO.bind ?_ (fun _ => ?_)
theorem creelref_power.mono : ∀ a0 k, LeO (creelref_power.f k a0) (creelref_power.f (k + 1) a0) := by
 intro a0 k
 have ih0 := creelref_power.mono_l k
 unfold creelref_power.f
 repeat' first
   | (with_reducible exact ih0 _ _ _)
   | (with_reducible exact LeO.refl _)
   | (with_reducible exact LeO.none _)
   | (with_reducible refine LeO.ite ?_ ?_)
   | (with_reducible refine LeO.bind ?_ (fun _ => ?_))
   | exact ih0 _ _ _
   | exact LeO.none _
   | refine LeO.ite ?_ ?_
   | refine LeO.bind ?_ (fun _ => ?_)
set_option maxHeartbeats 8000000 in
set_option maxRecDepth 100000 in
theorem creelref_power.calls (k : Nat) (a0 : Int) (r : Int) (w : World) (h : creelref_power.f k a0 = some r) :
  Calls Tryd.prog 88 #[.int .i64 a0] w fun e w' => e = .returned (.int .i64 r) ∧ Drawn0 w w' := by
 have H : (creelref_power.l0 k a0 1 0) = some r := h
 clear h
 have H' := Aside0.mk H
 clear H
 go_enter Tryd.func88, Tryd.ntmps88
 go_wp2
 go_loopg [3, 4] k (fun kq v3 v4 w' => ∃ (x3_1 : Int) (x4_1 : Int), v3 = .int .i64 x3_1 ∧ v4 = .int .i64 x4_1 ∧ Aside0 (creelref_power.l0 kq a0 x3_1 x4_1 = some r) ∧ Aside0 (kq ≤ k) ∧ Drawn0 w w')
 case atStart => exact ⟨(1), (0), (by first | rfl | (simp; done) | (simp [*]; done)), (by first | rfl | (simp; done) | (simp [*]; done)), H', ⟨Nat.le_refl _⟩, by repeat (first | exact Drawn0.refl _ | apply Drawn0.step)⟩
 case round =>
  clear H'
  obtain ⟨x3_1, x4_1, rfl, rfl, HA, HK1, ⟨m1, rfl⟩⟩ := hrel
  cases gk with
  | zero => exact absurd HA.out (by simp [creelref_power.l0])
  | succ k1 =>
   have H := HA.out
   clear HA
   simp only [creelref_power.l0] at H
   by_cases c2 : x4_1 < a0
   ·rw [if_pos c2] at H
    have c2b0 : decide (x4_1 < a0) = true := decide_eq_true c2
    clear c2
    have H' := Aside0.mk H
    clear H
    go_wp2
    go_roundg k1
    case measure => have := HK1.out; omega
    case rel => exact ⟨(wrap64 (x3_1 * 8)), (wrap64 (x4_1 + 1)), (by first | rfl | (simp; done) | (simp [*]; done)), (by first | rfl | (simp; done) | (simp [*]; done)), H', ⟨by have := HK1.out; omega⟩, by repeat (first | exact Drawn0.refl _ | apply Drawn0.step)⟩
   ·rw [if_neg c2] at H
    have c2b0 : decide (x4_1 < a0) = false := decide_eq_false c2
    clear c2
    obtain rfl := Option.some.inj H
    go_wp2
    go_ret
    exact ⟨by first | rfl | (simp; done) | (simp [*]; done), by repeat (first | exact Drawn0.refl _ | apply Drawn0.step)⟩

end Go.Proofs.YtodeblpanooomaaDoor.All
end
section
namespace Go.Proofs.YtodeblpanooomaaDoor.All
open Go.RowKit Go.Proofs.YtodeblpanooomaaDoorW.PrintWords Go.Proofs.YtodeblpanooomaaDoorW.PrintLast Go.Proofs.YtodeblpanooomaaDoorW.PrintMore
open Go.Proofs.YtodeblpanooomaaDoorW.Mine
attribute [local go_sem] gtr_string leq_string geq_string
attribute [local go_sem] max2_int min2_int max_two min_two max_three min_three max_four min_four   -- for this text's walks alone
set_option linter.unusedVariables false
set_option linter.unusedSimpArgs false

/-! ### creelref_OctalMost: function 87 -/
def creelref_OctalMost.f (k : Nat) (a0 : Int) : Option (Int × Int) := if a0 < 2 then (some (0, 4)) else (if a0 > 12 then (some (0, 4)) else ((creelref_power.f k (wrap64 (a0 - 1))).bind fun t101 => (some (wrap64 (t101 - 1), 0))))
theorem creelref_OctalMost.mono : ∀ a0 k, LeO (creelref_OctalMost.f k a0) (creelref_OctalMost.f (k + 1) a0) := by
 intro a0 k
 unfold creelref_OctalMost.f
 repeat' first
   | (with_reducible exact creelref_power.mono _ _)
   | (with_reducible exact LeO.refl _)
   | (with_reducible exact LeO.none _)
   | (with_reducible refine LeO.ite ?_ ?_)
   | (with_reducible refine LeO.bind ?_ (fun _ => ?_))
   | exact creelref_power.mono _ _
   | exact LeO.none _
   | refine LeO.ite ?_ ?_
   | refine LeO.bind ?_ (fun _ => ?_)
set_option maxHeartbeats 8000000 in
set_option maxRecDepth 100000 in
theorem creelref_OctalMost.calls (k : Nat) (a0 : Int) (r1 : Int) (r2 : Int) (w : World) (h : creelref_OctalMost.f k a0 = some (r1, r2)) :
  Calls Tryd.prog 87 #[.int .i64 a0] w fun e w' => e = .returned (.tuple #[.int .i64 r1, .int .i64 r2]) ∧ Drawn0 w w' := by
 have H : (if a0 < 2 then (some (0, 4)) else (if a0 > 12 then (some (0, 4)) else ((creelref_power.f k (wrap64 (a0 - 1))).bind fun t101 => (some (wrap64 (t101 - 1), 0))))) = some (r1, r2) := h
 clear h
 by_cases c2 : a0 < 2
 ·rw [if_pos c2] at H
  have c2b0 : decide (a0 < 2) = true := decide_eq_true c2
  clear c2
  simp only [Option.some.injEq, Prod.mk.injEq] at H
  obtain ⟨rfl, rfl⟩ := H
  go_enter Tryd.func87, Tryd.ntmps87
  go_wp2
  go_ret2
  exact ⟨by first | rfl | (simp; done) | (simp [*]; done), by repeat (first | exact Drawn0.refl _ | apply Drawn0.step)⟩
 ·rw [if_neg c2] at H
  have c2b0 : decide (a0 < 2) = false := decide_eq_false c2
  clear c2
  by_cases c3 : a0 > 12
  ·rw [if_pos c3] at H
   have c3b0 : decide (12 < a0) = true := decide_eq_true c3
   clear c3
   simp only [Option.some.injEq, Prod.mk.injEq] at H
   obtain ⟨rfl, rfl⟩ := H
   go_enter Tryd.func87, Tryd.ntmps87
   go_wp2
   go_ret2
   exact ⟨by first | rfl | (simp; done) | (simp [*]; done), by repeat (first | exact Drawn0.refl _ | apply Drawn0.step)⟩
  ·rw [if_neg c3] at H
   have c3b0 : decide (12 < a0) = false := decide_eq_false c3
   clear c3
   replace H := Option.bind_eq_some_iff.mp H
   obtain ⟨t101, A40, H⟩ := H
   replace H : (some (wrap64 (t101 - 1), 0)) = some (r1, r2) := H
   have A4 := Aside0.mk A40
   clear A40
   simp only [Option.some.injEq, Prod.mk.injEq] at H
   obtain ⟨rfl, rfl⟩ := H
   go_enter Tryd.func87, Tryd.ntmps87
   go_wp2_with (first | ((with_reducible refine gate_callee (f := 88) rfl ?_); refine goesL_ (some 12) rfl rfl Tryd.func88 (by kernel_rfl) rfl #[.int .i64 (wrap64 (a0 - 1))] rfl (by (try simp only [List.map_toArray, List.map_cons, List.map_nil]); first | done | rfl | (simp only [List.length_drop, List.length_take]; rfl)) ?_; (with_reducible refine (creelref_power.calls k (wrap64 (a0 - 1)) t101 _ A4.out).mono ?_); rintro e w' ⟨rfl, ⟨nd, rfl⟩⟩; refine ⟨_, rfl, ?_⟩))
   go_ret2
   exact ⟨by first | rfl | (simp; done) | (simp [*]; done), by repeat (first | exact Drawn0.refl _ | apply Drawn0.step)⟩

end Go.Proofs.YtodeblpanooomaaDoor.All
end
section
namespace Go.Proofs.YtodeblpanooomaaDoor.All
open Go.RowKit Go.Proofs.YtodeblpanooomaaDoorW.PrintWords Go.Proofs.YtodeblpanooomaaDoorW.PrintLast Go.Proofs.YtodeblpanooomaaDoorW.PrintMore
open Go.Proofs.YtodeblpanooomaaDoorW.Mine
attribute [local go_sem] gtr_string leq_string geq_string
attribute [local go_sem] max2_int min2_int max_two min_two max_three min_three max_four min_four   -- for this text's walks alone
set_option linter.unusedVariables false
set_option linter.unusedSimpArgs false

/-! ### creelref_OctalText: function 37 -/
mutual
def creelref_OctalText.j0 : Nat → Int → Int → Bool → Option (ByteArray × Int)
 | 0, _, _, _ => none
 | k + 1, x0, x1, x23 => if x23 = true then (some ((⟨#[]⟩ : ByteArray), 4)) else (creelref_OctalText.l0 k x0 x1 (⟨#[]⟩ : ByteArray))
def creelref_OctalText.l0 : Nat → Int → Int → ByteArray → Option (ByteArray × Int)
 | 0, _, _, _ => none
 | k + 1, x0, x1, x8 => if (x8.size : Int) < (wrap64 (x1 - 1)) then (if 0 ≤ (Int.tmod x0 8) then (if (Int.tmod x0 8) ≤ (wrap64 ((Int.tmod x0 8) + 1)) then (if (wrap64 ((Int.tmod x0 8) + 1)) ≤ 8 then (if ((⟨#[48, 49, 50, 51, 52, 53, 54, 55]⟩ : ByteArray).extract ((Int.tmod x0 8) : Int).toNat ((wrap64 ((Int.tmod x0 8) + 1)) : Int).toNat).size + x8.size ≤ 9223372036854775807 then (creelref_OctalText.l0 k (wrap64 (Int.tdiv x0 8)) x1 (((⟨#[48, 49, 50, 51, 52, 53, 54, 55]⟩ : ByteArray).extract ((Int.tmod x0 8) : Int).toNat ((wrap64 ((Int.tmod x0 8) + 1)) : Int).toNat) ++ x8)) else (none)) else (none)) else (none)) else (none)) else (if x8.size + 1 ≤ 9223372036854775807 then (some (x8 ++ (⟨#[0]⟩ : ByteArray), 0)) else (none))
end
def creelref_OctalText.f (k : Nat) (a0 : Int) (a1 : Int) : Option (ByteArray × Int) := (creelref_OctalMost.f k a1).bind fun bt101 => (if bt101.2 = 0 then (if a0 < 0 then (creelref_OctalText.j0 k a0 a1 true) else (creelref_OctalText.j0 k a0 a1 (decide (a0 > bt101.1)))) else (some ((⟨#[]⟩ : ByteArray), bt101.2)))
theorem creelref_OctalText.mono_l : ∀ k, (∀ y0 y1 y2, LeO (creelref_OctalText.j0 k y0 y1 y2) (creelref_OctalText.j0 (k + 1) y0 y1 y2)) ∧ (∀ y0 y1 y2, LeO (creelref_OctalText.l0 k y0 y1 y2) (creelref_OctalText.l0 (k + 1) y0 y1 y2))
 | 0 => ⟨fun _ _ _ r h => by simp [creelref_OctalText.j0] at h, fun _ _ _ r h => by simp [creelref_OctalText.l0] at h⟩
 | k + 1 => by
  obtain ⟨ih0, ih1⟩ := creelref_OctalText.mono_l k
  refine ⟨?_, ?_⟩
  ·intro y0 y1 y2
   unfold creelref_OctalText.j0
   repeat' first
   | (with_reducible exact ih0 _ _ _)
   | (with_reducible exact ih1 _ _ _)
   | (with_reducible exact creelref_OctalMost.mono _ _)
   | (with_reducible exact LeO.refl _)
   | (with_reducible exact LeO.none _)
   | (with_reducible refine LeO.ite ?_ ?_)
   | (with_reducible refine LeO.bind ?_ (fun _ => ?_))
   | exact ih0 _ _ _
   | exact ih1 _ _ _
   | exact creelref_OctalMost.mono _ _
   | exact LeO.none _
   | refine LeO.ite ?_ ?_
   | refine LeO.bind ?_ (fun _ => ?_)
  ·intro y0 y1 y2
   unfold creelref_OctalText.l0
   repeat' first
   | (with_reducible exact ih0 _ _ _)
   | (with_reducible exact ih1 _ _ _)
   | (with_reducible exact creelref_OctalMost.mono _ _)
   | (with_reducible exact LeO.refl _)
   | (with_reducible exact LeO.none _)
   | (with_reducible refine LeO.ite ?_ ?_)
   | (with_reducible refine LeO.bind ?_ (fun _ => ?_))
   | exact ih0 _ _ _
   | exact ih1 _ _ _
   | exact creelref_OctalMost.mono _ _
   | exact LeO.none _
   | refine LeO.ite ?_ ?_
   | refine LeO.bind ?_ (fun _ => ?_)
theorem creelref_OctalText.mono : ∀ a0 a1 k, LeO (creelref_OctalText.f k a0 a1) (creelref_OctalText.f (k + 1) a0 a1) := by
 intro a0 a1 k
 obtain ⟨ih0, ih1⟩ := creelref_OctalText.mono_l k
 unfold creelref_OctalText.f
 repeat' first
   | (with_reducible exact ih0 _ _ _)
   | (with_reducible exact ih1 _ _ _)
   | (with_reducible exact creelref_OctalMost.mono _ _)
   | (with_reducible exact LeO.refl _)
   | (with_reducible exact LeO.none _)
   | (with_reducible refine LeO.ite ?_ ?_)
   | (with_reducible refine LeO.bind ?_ (fun _ => ?_))
   | exact ih0 _ _ _
   | exact ih1 _ _ _
   | exact creelref_OctalMost.mono _ _
   | exact LeO.none _
   | refine LeO.ite ?_ ?_
   | refine LeO.bind ?_ (fun _ => ?_)
set_option maxHeartbeats 8000000 in
set_option maxRecDepth 100000 in
theorem creelref_OctalText.calls (k : Nat) (a0 : Int) (a1 : Int) (r1 : ByteArray) (r2 : Int) (w : World) (h : creelref_OctalText.f k a0 a1 = some (r1, r2)) :
  Calls Tryd.prog 37 #[.int .i64 a0, .int .i64 a1] w fun e w' => e = .returned (.tuple #[.string r1, .int .i64 r2]) ∧ Drawn0 w w' := by
 have H : ((creelref_OctalMost.f k a1).bind fun bt101 => (if bt101.2 = 0 then (if a0 < 0 then (creelref_OctalText.j0 k a0 a1 true) else (creelref_OctalText.j0 k a0 a1 (decide (a0 > bt101.1)))) else (some ((⟨#[]⟩ : ByteArray), bt101.2)))) = some (r1, r2) := h
 clear h
 replace H := Option.bind_eq_some_iff.mp H
 obtain ⟨⟨t101, t102⟩, A30, H⟩ := H
 replace H : (if t102 = 0 then (if a0 < 0 then (creelref_OctalText.j0 k a0 a1 true) else (creelref_OctalText.j0 k a0 a1 (decide (a0 > t101)))) else (some ((⟨#[]⟩ : ByteArray), t102))) = some (r1, r2) := H
 have A3 := Aside0.mk A30
 clear A30
 by_cases c4 : t102 = 0
 ·rw [if_pos c4] at H
  have c4b0 : (t102 == 0) = true := beq_iff_eq.mpr c4
  have c4b1 : (t102 != 0) = false := bne_eq_false_iff_eq.mpr c4
  clear c4
  have HC5 := Aside0.mk H
  clear H
  go_enter Tryd.func37, Tryd.ntmps37
  go_upto_region 4 with (first | ((with_reducible refine gate_callee (f := 87) rfl ?_); refine goesL_ (some 11) rfl rfl Tryd.func87 (by kernel_rfl) rfl #[.int .i64 a1] rfl (by (try simp only [List.map_toArray, List.map_cons, List.map_nil]); first | done | rfl | (simp only [List.length_drop, List.length_take]; rfl)) ?_; (with_reducible refine (creelref_OctalMost.calls k a1 t101 t102 _ A3.out).mono ?_); rintro e w' ⟨rfl, ⟨nd, rfl⟩⟩; refine ⟨_, rfl, ?_⟩))
  (try simp only [Act.put, List.setIfInBounds_toArray, List.set_cons_zero, List.set_cons_succ])
  go_cut [23] (fun v23 wc => ∃ (kq : Nat) (x23_4 : Bool), v23 = .bool x23_4 ∧ Aside0 (creelref_OctalText.j0 kq a0 a1 x23_4 = some (r1, r2)) ∧ Aside0 (kq ≤ k) ∧ Drawn0 w wc)
  case first =>
   have H := HC5.out
   clear HC5
   by_cases c6 : a0 < 0
   ·rw [if_pos c6] at H
    have c6b0 : decide (a0 < 0) = true := decide_eq_true c6
    clear c6
    (first | rw [c6b0] | (simp only [i64_w, i32_w]; rw [c6b0]) | skip)
    have H' := Aside0.mk H
    clear H
    go_wp2
    go_meet
    case rel => exact ⟨_, (true), (by first | rfl | (simp; done) | (simp [*]; done)), H', ⟨by first | omega | exact Nat.le_refl _⟩, by repeat (first | exact Drawn0.refl _ | apply Drawn0.step)⟩
   ·rw [if_neg c6] at H
    have c6b0 : decide (a0 < 0) = false := decide_eq_false c6
    clear c6
    (first | rw [c6b0] | (simp only [i64_w, i32_w]; rw [c6b0]) | skip)
    have H' := Aside0.mk H
    clear H
    go_wp2
    go_meet
    case rel => exact ⟨_, (decide (a0 > t101)), (by first | rfl | (simp; done) | (simp [*]; done)), H', ⟨by first | omega | exact Nat.le_refl _⟩, by repeat (first | exact Drawn0.refl _ | apply Drawn0.step)⟩
  case rest =>
   clear HC5
   try clear p2
   try clear c3
   try clear c4
   try clear c4b0
   try clear c4b1
   try clear c6
   try clear c6b0
   obtain ⟨kq, x23_4, rfl, HA, HJ4, ⟨mc4, rfl⟩⟩ := hcut
   cases kq with
   | zero => exact absurd HA.out (by simp [creelref_OctalText.j0])
   | succ kj4 =>
    have H := HA.out
    clear HA
    simp only [creelref_OctalText.j0] at H
    by_cases c7 : x23_4 = true
    ·subst c7
     have H1 : (some ((⟨#[]⟩ : ByteArray), 4)) = some (r1, r2) := by rw [if_pos rfl] at H; exact H
     clear H
     have H := H1
     clear H1
     simp only [Option.some.injEq, Prod.mk.injEq] at H
     obtain ⟨rfl, rfl⟩ := H
     go_wp2
     go_ret2
     exact ⟨by first | rfl | (simp; done) | (simp [*]; done), by repeat (first | exact Drawn0.refl _ | apply Drawn0.step)⟩
    ·replace c7 := Bool.eq_false_iff.mpr c7
     subst c7
     have H1 : (creelref_OctalText.l0 kj4 a0 a1 (⟨#[]⟩ : ByteArray)) = some (r1, r2) := by rw [if_neg (show ¬ (false = true) by decide)] at H; exact H
     clear H
     have H := H1
     clear H1
     have H' := Aside0.mk H
     clear H
     go_wp2
     go_loopg [0, 8] kj4 (fun kq v0 v8 w' => ∃ (x0_2 : Int) (x8_2 : ByteArray), v0 = .int .i64 x0_2 ∧ v8 = .string x8_2 ∧ Aside0 (creelref_OctalText.l0 kq x0_2 a1 x8_2 = some (r1, r2)) ∧ Aside0 (kq ≤ kj4) ∧ Drawn0 w w')
     case atStart => exact ⟨(a0), ((⟨#[]⟩ : ByteArray)), (by first | rfl | (simp; done) | (simp [*]; done)), (by first | rfl | (simp; done) | (simp [*]; done)), H', ⟨Nat.le_refl _⟩, by repeat (first | exact Drawn0.refl _ | apply Drawn0.step)⟩
     case round =>
      clear H'
      try clear p2
      try clear c3
      try clear c4
      try clear c4b0
      try clear c4b1
      try clear c6
      try clear c6b0
      try clear c7
      try clear p2
      obtain ⟨x0_2, x8_2, rfl, rfl, HA, HK2, ⟨m2, rfl⟩⟩ := hrel
      cases gk with
      | zero => exact absurd HA.out (by simp [creelref_OctalText.l0])
      | succ k2 =>
       have H := HA.out
       clear HA
       simp only [creelref_OctalText.l0] at H
       by_cases c8 : (x8_2.size : Int) < (wrap64 (a1 - 1))
       ·rw [if_pos c8] at H
        have c8b0 : decide ((x8_2.size : Int) < (wrap64 (a1 - 1))) = true := decide_eq_true c8
        clear c8
        obtain ⟨ji9, hji9⟩ : ∃ j_ : Int, (Int.tmod x0_2 8) = j_ := ⟨_, rfl⟩
        replace H : (if 0 ≤ (ji9) then (if (ji9) ≤ (wrap64 ((ji9) + 1)) then (if (wrap64 ((ji9) + 1)) ≤ 8 then (if ((⟨#[48, 49, 50, 51, 52, 53, 54, 55]⟩ : ByteArray).extract ((ji9) : Int).toNat ((wrap64 ((ji9) + 1)) : Int).toNat).size + x8_2.size ≤ 9223372036854775807 then (creelref_OctalText.l0 k2 (wrap64 (Int.tdiv x0_2 8)) a1 (((⟨#[48, 49, 50, 51, 52, 53, 54, 55]⟩ : ByteArray).extract ((ji9) : Int).toNat ((wrap64 ((ji9) + 1)) : Int).toNat) ++ x8_2)) else (none)) else (none)) else (none)) else (none)) = some (r1, r2) := by first | (rw [hji9] at H; exact H) | (simp only [hji9] at H ⊢; exact H)
        by_cases c10 : 0 ≤ (ji9)
        ·rw [if_pos c10] at H
         have c10b0 := eq_true c10
         have c10b1 : decide (0 ≤ (ji9)) = true := decide_eq_true c10
         clear c10
         by_cases c11 : (ji9) ≤ (wrap64 ((ji9) + 1))
         ·rw [if_pos c11] at H
          have c11b0 := eq_true c11
          have c11b1 : decide ((ji9) ≤ (wrap64 ((ji9) + 1))) = true := decide_eq_true c11
          by_cases c12 : (wrap64 ((ji9) + 1)) ≤ 8
          ·rw [if_pos c12] at H
           have c12b0 := eq_true c12
           have c12b1 : decide ((wrap64 ((ji9) + 1)) ≤ 8) = true := decide_eq_true c12
           by_cases c13 : ((⟨#[48, 49, 50, 51, 52, 53, 54, 55]⟩ : ByteArray).extract ((ji9) : Int).toNat ((wrap64 ((ji9) + 1)) : Int).toNat).size + x8_2.size ≤ 9223372036854775807
           ·rw [if_pos c13] at H
            have c13b0 := eq_true c13
            have c13b1 : decide (((⟨#[48, 49, 50, 51, 52, 53, 54, 55]⟩ : ByteArray).extract ((ji9) : Int).toNat ((wrap64 ((ji9) + 1)) : Int).toNat).size + x8_2.size ≤ 9223372036854775807) = true := decide_eq_true c13
            try have c13b2 : (9223372036854775807 < ((⟨#[48, 49, 50, 51, 52, 53, 54, 55]⟩ : ByteArray).extract ((ji9) : Int).toNat ((wrap64 ((ji9) + 1)) : Int).toNat).size + x8_2.size) = False := eq_false (Nat.not_lt.2 c13)
            have H' := Aside0.mk H
            clear H
            go_wp2
            go_roundg k2
            case measure => have := HJ4.out; have := HK2.out; omega
            case rel => exact ⟨(wrap64 (Int.tdiv x0_2 8)), (((⟨#[48, 49, 50, 51, 52, 53, 54, 55]⟩ : ByteArray).extract ((ji9) : Int).toNat ((wrap64 ((ji9) + 1)) : Int).toNat) ++ x8_2), (by first | rfl | (simp; done) | (simp [*]; done)), (by first | rfl | (simp; done) | (simp only [← hji9] <;> (first | rfl | simp)) | (simp [*]; done)), H', ⟨by have := HJ4.out; have := HK2.out; omega⟩, by repeat (first | exact Drawn0.refl _ | apply Drawn0.step)⟩
           ·rw [if_neg c13] at H
            exact absurd H (by simp)
          ·rw [if_neg c12] at H
           exact absurd H (by simp)
         ·rw [if_neg c11] at H
          exact absurd H (by simp)
        ·rw [if_neg c10] at H
         exact absurd H (by simp)
       ·rw [if_neg c8] at H
        have c8b0 : decide ((x8_2.size : Int) < (wrap64 (a1 - 1))) = false := decide_eq_false c8
        clear c8
        by_cases c14 : x8_2.size + 1 ≤ 9223372036854775807
        ·rw [if_pos c14] at H
         have c14b0 := eq_true c14
         have c14b1 : decide (x8_2.size + 1 ≤ 9223372036854775807) = true := decide_eq_true c14
         try have c14b2 : (9223372036854775807 < x8_2.size + 1) = False := eq_false (Nat.not_lt.2 c14)
         simp only [Option.some.injEq, Prod.mk.injEq] at H
         obtain ⟨rfl, rfl⟩ := H
         go_wp2
         go_ret2
         exact ⟨by first | rfl | (simp; done) | (simp [*]; done), by repeat (first | exact Drawn0.refl _ | apply Drawn0.step)⟩
        ·rw [if_neg c14] at H
         exact absurd H (by simp)
 ·rw [if_neg c4] at H
  have c4b0 : (t102 == 0) = false := beq_eq_false_iff_ne.mpr c4
  have c4b1 : (t102 != 0) = true := bne_iff_ne.mpr c4
  simp only [Option.some.injEq, Prod.mk.injEq] at H
  obtain ⟨rfl, rfl⟩ := H
  go_enter Tryd.func37, Tryd.ntmps37
  go_wp2_with (first | ((with_reducible refine gate_callee (f := 87) rfl ?_); refine goesL_ (some 11) rfl rfl Tryd.func87 (by kernel_rfl) rfl #[.int .i64 a1] rfl (by (try simp only [List.map_toArray, List.map_cons, List.map_nil]); first | done | rfl | (simp only [List.length_drop, List.length_take]; rfl)) ?_; (with_reducible refine (creelref_OctalMost.calls k a1 t101 t102 _ A3.out).mono ?_); rintro e w' ⟨rfl, ⟨nd, rfl⟩⟩; refine ⟨_, rfl, ?_⟩))
  go_ret2
  exact ⟨by first | rfl | (simp; done) | (simp [*]; done), by repeat (first | exact Drawn0.refl _ | apply Drawn0.step)⟩

end Go.Proofs.YtodeblpanooomaaDoor.All
end
section
namespace Go.Proofs.YtodeblpanooomaaDoor.All
open Go.RowKit Go.Proofs.YtodeblpanooomaaDoorW.PrintWords Go.Proofs.YtodeblpanooomaaDoorW.PrintLast Go.Proofs.YtodeblpanooomaaDoorW.PrintMore
open Go.Proofs.YtodeblpanooomaaDoorW.Mine
attribute [local go_sem] gtr_string leq_string geq_string
attribute [local go_sem] max2_int min2_int max_two min_two max_three min_three max_four min_four   -- for this text's walks alone
set_option linter.unusedVariables false
set_option linter.unusedSimpArgs false

/-! ### creelref_zeros: function 45 -/
def creelref_zeros.l0 : Nat → Int → ByteArray → Int → Option (ByteArray)
 | 0, _, _, _ => none
 | k + 1, x0, x3, x4 => if x4 < x0 then (if x3.size + 1 ≤ 9223372036854775807 then (creelref_zeros.l0 k x0 (x3 ++ (⟨#[0]⟩ : ByteArray)) (wrap64 (x4 + 1))) else (none)) else (some x3)
def creelref_zeros.f (k : Nat) (a0 : Int) : Option (ByteArray) := creelref_zeros.l0 k a0 (⟨#[]⟩ : ByteArray) 0
theorem creelref_zeros.mono_l : ∀ k, (∀ y0 y1 y2, LeO (creelref_zeros.l0 k y0 y1 y2) (creelref_zeros.l0 (k + 1) y0 y1 y2))
 | 0 => fun _ _ _ r h => by simp [creelref_zeros.l0] at h
 | k + 1 => by
  have ih0 := creelref_zeros.mono_l k
  ·intro y0 y1 y2
   unfold creelref_zeros.l0
   repeat' first
   | (with_reducible exact ih0 _ _ _)
   | (with_reducible exact LeO.refl _)
   | (with_reducible exact LeO.none _)
   | (with_reducible refine LeO.ite ?_ ?_)
   | (with_reducible refine LeO.bind ?_ (fun _ => ?_))
   | exact ih0 _ _ _
   | exact LeO.none _
   | refine LeO.ite ?_ ?_
   | refine LeO.bind ?_ (fun _ => ?_)
theorem creelref_zeros.mono : ∀ a0 k, LeO (creelref_zeros.f k a0) (creelref_zeros.f (k + 1) a0) := by
 intro a0 k
 have ih0 := creelref_zeros.mono_l k
 unfold creelref_zeros.f
 repeat' first
   | (with_reducible exact ih0 _ _ _)
   | (with_reducible exact LeO.refl _)
   | (with_reducible exact LeO.none _)
   | (with_reducible refine LeO.ite ?_ ?_)
   | (with_reducible refine LeO.bind ?_ (fun _ => ?_))
   | exact ih0 _ _ _
   | exact LeO.none _
   | refine LeO.ite ?_ ?_
   | refine LeO.bind ?_ (fun _ => ?_)
set_option maxHeartbeats 8000000 in
set_option maxRecDepth 100000 in
theorem creelref_zeros.calls (k : Nat) (a0 : Int) (r : ByteArray) (w : World) (h : creelref_zeros.f k a0 = some r) :
  Calls Tryd.prog 45 #[.int .i64 a0] w fun e w' => e = .returned (.string r) ∧ Drawn0 w w' := by
 have H : (creelref_zeros.l0 k a0 (⟨#[]⟩ : ByteArray) 0) = some r := h
 clear h
 have H' := Aside0.mk H
 clear H
 go_enter Tryd.func45, Tryd.ntmps45
 go_wp2
 go_loopg [3, 4] k (fun kq v3 v4 w' => ∃ (x3_1 : ByteArray) (x4_1 : Int), v3 = .string x3_1 ∧ v4 = .int .i64 x4_1 ∧ Aside0 (creelref_zeros.l0 kq a0 x3_1 x4_1 = some r) ∧ Aside0 (kq ≤ k) ∧ Drawn0 w w')
 case atStart => exact ⟨((⟨#[]⟩ : ByteArray)), (0), (by first | rfl | (simp; done) | (simp [*]; done)), (by first | rfl | (simp; done) | (simp [*]; done)), H', ⟨Nat.le_refl _⟩, by repeat (first | exact Drawn0.refl _ | apply Drawn0.step)⟩
 case round =>
  clear H'
  obtain ⟨x3_1, x4_1, rfl, rfl, HA, HK1, ⟨m1, rfl⟩⟩ := hrel
  cases gk with
  | zero => exact absurd HA.out (by simp [creelref_zeros.l0])
  | succ k1 =>
   have H := HA.out
   clear HA
   simp only [creelref_zeros.l0] at H
   by_cases c2 : x4_1 < a0
   ·rw [if_pos c2] at H
    have c2b0 : decide (x4_1 < a0) = true := decide_eq_true c2
    clear c2
    by_cases c3 : x3_1.size + 1 ≤ 9223372036854775807
    ·rw [if_pos c3] at H
     have c3b0 := eq_true c3
     have c3b1 : decide (x3_1.size + 1 ≤ 9223372036854775807) = true := decide_eq_true c3
     try have c3b2 : (9223372036854775807 < x3_1.size + 1) = False := eq_false (Nat.not_lt.2 c3)
     have H' := Aside0.mk H
     clear H
     go_wp2
     go_roundg k1
     case measure => have := HK1.out; omega
     case rel => exact ⟨(x3_1 ++ (⟨#[0]⟩ : ByteArray)), (wrap64 (x4_1 + 1)), (by first | rfl | (simp; done) | (simp [*]; done)), (by first | rfl | (simp; done) | (simp [*]; done)), H', ⟨by have := HK1.out; omega⟩, by repeat (first | exact Drawn0.refl _ | apply Drawn0.step)⟩
    ·rw [if_neg c3] at H
     exact absurd H (by simp)
   ·rw [if_neg c2] at H
    have c2b0 : decide (x4_1 < a0) = false := decide_eq_false c2
    clear c2
    obtain rfl := Option.some.inj H
    go_wp2
    go_ret
    exact ⟨by first | rfl | (simp; done) | (simp [*]; done), by repeat (first | exact Drawn0.refl _ | apply Drawn0.step)⟩

end Go.Proofs.YtodeblpanooomaaDoor.All
end
section
namespace Go.Proofs.YtodeblpanooomaaDoor.All
open Go.RowKit Go.Proofs.YtodeblpanooomaaDoorW.PrintWords Go.Proofs.YtodeblpanooomaaDoorW.PrintLast Go.Proofs.YtodeblpanooomaaDoorW.PrintMore
open Go.Proofs.YtodeblpanooomaaDoorW.Mine
attribute [local go_sem] gtr_string leq_string geq_string
attribute [local go_sem] max2_int min2_int max_two min_two max_three min_three max_four min_four   -- for this text's walks alone
set_option linter.unusedVariables false
set_option linter.unusedSimpArgs false

/-! ### creelref_FieldOf: function 40 -/
mutual
def creelref_FieldOf.j0 : Nat → ByteArray → Bool → Bool → Option (ByteArray × Int)
 | 0, _, _, _ => none
 | k + 1, x0, x1, x13 => if x13 = true then (some ((⟨#[]⟩ : ByteArray), 4)) else (creelref_FieldOf.l0 k x0 x1 0)
def creelref_FieldOf.l0 : Nat → ByteArray → Bool → Int → Option (ByteArray × Int)
 | 0, _, _, _ => none
 | k + 1, x0, x1, x6 => if x6 < (x0.size : Int) then (if 0 ≤ x6 then (if (bt x0 x6) = 0 then (if x6 = (x0.size : Int) then (if x1 = true then (if x6 ≤ (x0.size : Int) then ((creelref_zeros.f k (wrap64 ((x0.size : Int) - x6))).bind fun t101 => (if (x0.extract (x6 : Int).toNat x0.size).toList = t101.toList then (some (x0.extract 0 (x6 : Int).toNat, 0)) else (some ((⟨#[]⟩ : ByteArray), 3)))) else (none)) else (some ((⟨#[]⟩ : ByteArray), 3))) else (if x6 ≤ (x0.size : Int) then ((creelref_zeros.f k (wrap64 ((x0.size : Int) - x6))).bind fun t102 => (if (x0.extract (x6 : Int).toNat x0.size).toList = t102.toList then (some (x0.extract 0 (x6 : Int).toNat, 0)) else (some ((⟨#[]⟩ : ByteArray), 3)))) else (none))) else (creelref_FieldOf.l0 k x0 x1 (wrap64 (x6 + 1)))) else (none)) else (if x6 = (x0.size : Int) then (if x1 = true then (if 0 ≤ x6 then (if x6 ≤ (x0.size : Int) then ((creelref_zeros.f k (wrap64 ((x0.size : Int) - x6))).bind fun t103 => (if (x0.extract (x6 : Int).toNat x0.size).toList = t103.toList then (some (x0.extract 0 (x6 : Int).toNat, 0)) else (some ((⟨#[]⟩ : ByteArray), 3)))) else (none)) else (none)) else (some ((⟨#[]⟩ : ByteArray), 3))) else (if 0 ≤ x6 then (if x6 ≤ (x0.size : Int) then ((creelref_zeros.f k (wrap64 ((x0.size : Int) - x6))).bind fun t104 => (if (x0.extract (x6 : Int).toNat x0.size).toList = t104.toList then (some (x0.extract 0 (x6 : Int).toNat, 0)) else (some ((⟨#[]⟩ : ByteArray), 3)))) else (none)) else (none)))
end
def creelref_FieldOf.f (k : Nat) (a0 : ByteArray) (a1 : Bool) : Option (ByteArray × Int) := if a0.toList = ([] : List UInt8) then (creelref_FieldOf.j0 k a0 a1 true) else (creelref_FieldOf.j0 k a0 a1 (decide ((a0.size : Int) > 512)))
theorem creelref_FieldOf.mono_l : ∀ k, (∀ y0 y1 y2, LeO (creelref_FieldOf.j0 k y0 y1 y2) (creelref_FieldOf.j0 (k + 1) y0 y1 y2)) ∧ (∀ y0 y1 y2, LeO (creelref_FieldOf.l0 k y0 y1 y2) (creelref_FieldOf.l0 (k + 1) y0 y1 y2))
 | 0 => ⟨fun _ _ _ r h => by simp [creelref_FieldOf.j0] at h, fun _ _ _ r h => by simp [creelref_FieldOf.l0] at h⟩
 | k + 1 => by
  obtain ⟨ih0, ih1⟩ := creelref_FieldOf.mono_l k
  refine ⟨?_, ?_⟩
  ·intro y0 y1 y2
   unfold creelref_FieldOf.j0
   repeat' first
   | (with_reducible exact ih0 _ _ _)
   | (with_reducible exact ih1 _ _ _)
   | (with_reducible exact creelref_zeros.mono _ _)
   | (with_reducible exact LeO.refl _)
   | (with_reducible exact LeO.none _)
   | (with_reducible refine LeO.ite ?_ ?_)
   | (with_reducible refine LeO.bind ?_ (fun _ => ?_))
   | exact ih0 _ _ _
   | exact ih1 _ _ _
   | exact creelref_zeros.mono _ _
   | exact LeO.none _
   | refine LeO.ite ?_ ?_
   | refine LeO.bind ?_ (fun _ => ?_)
  ·intro y0 y1 y2
   unfold creelref_FieldOf.l0
   repeat' first
   | (with_reducible exact ih0 _ _ _)
   | (with_reducible exact ih1 _ _ _)
   | (with_reducible exact creelref_zeros.mono _ _)
   | (with_reducible exact LeO.refl _)
   | (with_reducible exact LeO.none _)
   | (with_reducible refine LeO.ite ?_ ?_)
   | (with_reducible refine LeO.bind ?_ (fun _ => ?_))
   | exact ih0 _ _ _
   | exact ih1 _ _ _
   | exact creelref_zeros.mono _ _
   | exact LeO.none _
   | refine LeO.ite ?_ ?_
   | refine LeO.bind ?_ (fun _ => ?_)
theorem creelref_FieldOf.mono : ∀ a0 a1 k, LeO (creelref_FieldOf.f k a0 a1) (creelref_FieldOf.f (k + 1) a0 a1) := by
 intro a0 a1 k
 obtain ⟨ih0, ih1⟩ := creelref_FieldOf.mono_l k
 unfold creelref_FieldOf.f
 repeat' first
   | (with_reducible exact ih0 _ _ _)
   | (with_reducible exact ih1 _ _ _)
   | (with_reducible exact creelref_zeros.mono _ _)
   | (with_reducible exact LeO.refl _)
   | (with_reducible exact LeO.none _)
   | (with_reducible refine LeO.ite ?_ ?_)
   | (with_reducible refine LeO.bind ?_ (fun _ => ?_))
   | exact ih0 _ _ _
   | exact ih1 _ _ _
   | exact creelref_zeros.mono _ _
   | exact LeO.none _
   | refine LeO.ite ?_ ?_
   | refine LeO.bind ?_ (fun _ => ?_)
set_option maxHeartbeats 8000000 in
set_option maxRecDepth 100000 in
theorem creelref_FieldOf.calls (k : Nat) (a0 : ByteArray) (a1 : Bool) (r1 : ByteArray) (r2 : Int) (w : World) (h : creelref_FieldOf.f k a0 a1 = some (r1, r2)) :
  Calls Tryd.prog 40 #[.string a0, .bool a1] w fun e w' => e = .returned (.tuple #[.string r1, .int .i64 r2]) ∧ Drawn0 w w' := by
 have H : (if a0.toList = ([] : List UInt8) then (creelref_FieldOf.j0 k a0 a1 true) else (creelref_FieldOf.j0 k a0 a1 (decide ((a0.size : Int) > 512)))) = some (r1, r2) := h
 clear h
 have HC3 := Aside0.mk H
 clear H
 go_enter Tryd.func40, Tryd.ntmps40
 go_upto_region 1 with (fail)
 repeat (go_quiet (fail); go_upto_region 1 with (fail))
 go_cut [13] (fun v13 wc => ∃ (kq : Nat) (x13_2 : Bool), v13 = .bool x13_2 ∧ Aside0 (creelref_FieldOf.j0 kq a0 a1 x13_2 = some (r1, r2)) ∧ Aside0 (kq ≤ k) ∧ Drawn0 w wc)
 case first =>
  have H := HC3.out
  clear HC3
  by_cases c4 : a0.toList = ([] : List UInt8)
  ·rw [if_pos c4] at H
   have c4b0 : (a0.toList == ([] : List UInt8)) = true := beq_iff_eq.mpr c4
   have c4b1 : (a0.toList != ([] : List UInt8)) = false := bne_eq_false_iff_eq.mpr c4
   clear c4
   (first | rw [c4b0] | (simp only [i64_w, i32_w]; rw [c4b0]) | skip)
   have H' := Aside0.mk H
   clear H
   go_wp2
   repeat (go_quiet (fail); try go_wp2)
   go_meet
   case rel => exact ⟨_, (true), (by first | rfl | (simp; done) | (simp [*]; done)), H', ⟨by first | omega | exact Nat.le_refl _⟩, by repeat (first | exact Drawn0.refl _ | apply Drawn0.step)⟩
  ·rw [if_neg c4] at H
   have c4b0 : (a0.toList == ([] : List UInt8)) = false := beq_eq_false_iff_ne.mpr c4
   have c4b1 : (a0.toList != ([] : List UInt8)) = true := bne_iff_ne.mpr c4
   (first | rw [c4b0] | (simp only [i64_w, i32_w]; rw [c4b0]) | skip)
   have H' := Aside0.mk H
   clear H
   go_wp2
   repeat (go_quiet (fail); try go_wp2)
   go_meet
   case rel => exact ⟨_, (decide ((a0.size : Int) > 512)), (by first | rfl | (simp; done) | (simp [*]; done)), H', ⟨by first | omega | exact Nat.le_refl _⟩, by repeat (first | exact Drawn0.refl _ | apply Drawn0.step)⟩
 case rest =>
  clear HC3
  try clear p2
  try clear c4
  try clear c4b0
  try clear c4b1
  obtain ⟨kq, x13_2, rfl, HA, HJ2, ⟨mc2, rfl⟩⟩ := hcut
  cases kq with
  | zero => exact absurd HA.out (by simp [creelref_FieldOf.j0])
  | succ kj2 =>
   have H := HA.out
   clear HA
   simp only [creelref_FieldOf.j0] at H
   by_cases c5 : x13_2 = true
   ·subst c5
    have H1 : (some ((⟨#[]⟩ : ByteArray), 4)) = some (r1, r2) := by rw [if_pos rfl] at H; exact H
    clear H
    have H := H1
    clear H1
    simp only [Option.some.injEq, Prod.mk.injEq] at H
    obtain ⟨rfl, rfl⟩ := H
    go_wp2
    repeat (go_quiet (fail); try go_wp2)
    go_ret2
    exact ⟨by first | rfl | (simp; done) | (simp [*]; done), by repeat (first | exact Drawn0.refl _ | apply Drawn0.step)⟩
   ·replace c5 := Bool.eq_false_iff.mpr c5
    subst c5
    have H1 : (creelref_FieldOf.l0 kj2 a0 a1 0) = some (r1, r2) := by rw [if_neg (show ¬ (false = true) by decide)] at H; exact H
    clear H
    have H := H1
    clear H1
    have H' := Aside0.mk H
    clear H
    go_wp2
    repeat (go_quiet (fail); try go_wp2)
    go_loopg [6] kj2 (fun kq v6 w' => ∃ (x6_2 : Int), v6 = .int .i64 x6_2 ∧ Aside0 (creelref_FieldOf.l0 kq a0 a1 x6_2 = some (r1, r2)) ∧ Aside0 (kq ≤ kj2) ∧ Drawn0 w w')
    case atStart => exact ⟨(0), (by first | rfl | (simp; done) | (simp [*]; done)), H', ⟨Nat.le_refl _⟩, by repeat (first | exact Drawn0.refl _ | apply Drawn0.step)⟩
    case round =>
     clear H'
     try clear c2
     try clear p2
     try clear c4
     try clear c4b0
     try clear c4b1
     try clear c5
     try clear p2
     obtain ⟨x6_2, rfl, HA, HK2, ⟨m2, rfl⟩⟩ := hrel
     cases gk with
     | zero => exact absurd HA.out (by simp [creelref_FieldOf.l0])
     | succ k2 =>
      have H := HA.out
      clear HA
      simp only [creelref_FieldOf.l0] at H
      by_cases c6 : x6_2 < (a0.size : Int)
      ·rw [if_pos c6] at H
       have c6b0 : decide (x6_2 < (a0.size : Int)) = true := decide_eq_true c6
       clear c6
       by_cases c7 : 0 ≤ x6_2
       ·rw [if_pos c7] at H
        have c7b0 : decide (0 ≤ x6_2) = true := decide_eq_true c7
        clear c7
        by_cases c9 : (bt a0 x6_2) = 0
        ·rw [if_pos c9] at H
         have c9b0 : ((bt a0 x6_2) == 0) = true := beq_iff_eq.mpr c9
         have c9b1 : ((bt a0 x6_2) != 0) = false := bne_eq_false_iff_eq.mpr c9
         clear c9
         by_cases c10 : x6_2 = (a0.size : Int)
         ·rw [if_pos c10] at H
          have c10b0 : (x6_2 == (a0.size : Int)) = true := beq_iff_eq.mpr c10
          have c10b1 : (x6_2 != (a0.size : Int)) = false := bne_eq_false_iff_eq.mpr c10
          clear c10
          by_cases c11 : a1 = true
          ·subst c11
           have H1 : (if x6_2 ≤ (a0.size : Int) then ((creelref_zeros.f k2 (wrap64 ((a0.size : Int) - x6_2))).bind fun t101 => (if (a0.extract (x6_2 : Int).toNat a0.size).toList = t101.toList then (some (a0.extract 0 (x6_2 : Int).toNat, 0)) else (some ((⟨#[]⟩ : ByteArray), 3)))) else (none)) = some (r1, r2) := by rw [if_pos rfl] at H; exact H
           clear H
           have H := H1
           clear H1
           have c12b0 := eq_true (of_decide_eq_true (by first | (with_reducible assumption) | assumption) : 0 ≤ x6_2)
           by_cases c13 : x6_2 ≤ (a0.size : Int)
           ·rw [if_pos c13] at H
            have c13b0 := eq_true c13
            have c13b1 : decide (x6_2 ≤ (a0.size : Int)) = true := decide_eq_true c13
            clear c13
            replace H := Option.bind_eq_some_iff.mp H
            obtain ⟨t101, A140, H⟩ := H
            replace H : (if (a0.extract (x6_2 : Int).toNat a0.size).toList = t101.toList then (some (a0.extract 0 (x6_2 : Int).toNat, 0)) else (some ((⟨#[]⟩ : ByteArray), 3))) = some (r1, r2) := H
            have A14 := Aside0.mk A140
            clear A140
            by_cases c15 : (a0.extract (x6_2 : Int).toNat a0.size).toList = t101.toList
            ·rw [if_pos c15] at H
             have c15b0 : ((a0.extract (x6_2 : Int).toNat a0.size).toList == t101.toList) = true := beq_iff_eq.mpr c15
             have c15b1 : ((a0.extract (x6_2 : Int).toNat a0.size).toList != t101.toList) = false := bne_eq_false_iff_eq.mpr c15
             clear c15
             have c16b0 := eq_true (of_decide_eq_true (by first | (with_reducible assumption) | assumption) : 0 ≤ x6_2)
             have c17b0 := eq_true (of_decide_eq_true (by first | (with_reducible assumption) | assumption) : x6_2 ≤ (a0.size : Int))
             simp only [Option.some.injEq, Prod.mk.injEq] at H
             obtain ⟨rfl, rfl⟩ := H
             have p8 : 0 ≤ (x6_2 : Int) := of_decide_eq_true (by first | (with_reducible assumption) | assumption)
             have q8 : x6_2 < (a0.size : Int) := of_decide_eq_true (by first | (with_reducible assumption) | assumption)
             have hx8 := bt_at a0 x6_2
             replace p8 := eq_true p8
             replace q8 := eq_true q8
             go_wp2_with (first | (go_at_call 45; (with_reducible refine (creelref_zeros.calls k2 (wrap64 ((a0.size : Int) - x6_2)) t101 _ A14.out).mono ?_); rintro e w' ⟨rfl, ⟨nd, rfl⟩⟩; (try first | exact ⟨rfl, _, World.drewN_drewN _ _ _⟩ | exact ⟨rfl, _, Eq.trans (World.drewN_drewN _ _ _) (congrArg (World.drewN _) (Nat.add_assoc _ _ _))⟩)))
             repeat (go_quiet (first | (go_at_call 45; (with_reducible refine (creelref_zeros.calls k2 (wrap64 ((a0.size : Int) - x6_2)) t101 _ A14.out).mono ?_); rintro e w' ⟨rfl, ⟨nd, rfl⟩⟩; (try first | exact ⟨rfl, _, World.drewN_drewN _ _ _⟩ | exact ⟨rfl, _, Eq.trans (World.drewN_drewN _ _ _) (congrArg (World.drewN _) (Nat.add_assoc _ _ _))⟩))); try go_wp2_with (first | (go_at_call 45; (with_reducible refine (creelref_zeros.calls k2 (wrap64 ((a0.size : Int) - x6_2)) t101 _ A14.out).mono ?_); rintro e w' ⟨rfl, ⟨nd, rfl⟩⟩; (try first | exact ⟨rfl, _, World.drewN_drewN _ _ _⟩ | exact ⟨rfl, _, Eq.trans (World.drewN_drewN _ _ _) (congrArg (World.drewN _) (Nat.add_assoc _ _ _))⟩))))
             go_ret2
             exact ⟨by first | rfl | (simp; done) | (simp [*]; done), by repeat (first | exact Drawn0.refl _ | apply Drawn0.step)⟩
            ·rw [if_neg c15] at H
             have c15b0 : ((a0.extract (x6_2 : Int).toNat a0.size).toList == t101.toList) = false := beq_eq_false_iff_ne.mpr c15
             have c15b1 : ((a0.extract (x6_2 : Int).toNat a0.size).toList != t101.toList) = true := bne_iff_ne.mpr c15
             simp only [Option.some.injEq, Prod.mk.injEq] at H
             obtain ⟨rfl, rfl⟩ := H
             have p8 : 0 ≤ (x6_2 : Int) := of_decide_eq_true (by first | (with_reducible assumption) | assumption)
             have q8 : x6_2 < (a0.size : Int) := of_decide_eq_true (by first | (with_reducible assumption) | assumption)
             have hx8 := bt_at a0 x6_2
             replace p8 := eq_true p8
             replace q8 := eq_true q8
             go_wp2_with (first | (go_at_call 45; (with_reducible refine (creelref_zeros.calls k2 (wrap64 ((a0.size : Int) - x6_2)) t101 _ A14.out).mono ?_); rintro e w' ⟨rfl, ⟨nd, rfl⟩⟩; (try first | exact ⟨rfl, _, World.drewN_drewN _ _ _⟩ | exact ⟨rfl, _, Eq.trans (World.drewN_drewN _ _ _) (congrArg (World.drewN _) (Nat.add_assoc _ _ _))⟩)))
             repeat (go_quiet (first | (go_at_call 45; (with_reducible refine (creelref_zeros.calls k2 (wrap64 ((a0.size : Int) - x6_2)) t101 _ A14.out).mono ?_); rintro e w' ⟨rfl, ⟨nd, rfl⟩⟩; (try first | exact ⟨rfl, _, World.drewN_drewN _ _ _⟩ | exact ⟨rfl, _, Eq.trans (World.drewN_drewN _ _ _) (congrArg (World.drewN _) (Nat.add_assoc _ _ _))⟩))); try go_wp2_with (first | (go_at_call 45; (with_reducible refine (creelref_zeros.calls k2 (wrap64 ((a0.size : Int) - x6_2)) t101 _ A14.out).mono ?_); rintro e w' ⟨rfl, ⟨nd, rfl⟩⟩; (try first | exact ⟨rfl, _, World.drewN_drewN _ _ _⟩ | exact ⟨rfl, _, Eq.trans (World.drewN_drewN _ _ _) (congrArg (World.drewN _) (Nat.add_assoc _ _ _))⟩))))
             go_ret2
             exact ⟨by first | rfl | (simp; done) | (simp [*]; done), by repeat (first | exact Drawn0.refl _ | apply Drawn0.step)⟩
           ·rw [if_neg c13] at H
            exact absurd H (by simp)
          ·replace c11 := Bool.eq_false_iff.mpr c11
           subst c11
           have H1 : (some ((⟨#[]⟩ : ByteArray), 3)) = some (r1, r2) := by rw [if_neg (show ¬ (false = true) by decide)] at H; exact H
           clear H
           have H := H1
           clear H1
           simp only [Option.some.injEq, Prod.mk.injEq] at H
           obtain ⟨rfl, rfl⟩ := H
           have p8 : 0 ≤ (x6_2 : Int) := of_decide_eq_true (by first | (with_reducible assumption) | assumption)
           have q8 : x6_2 < (a0.size : Int) := of_decide_eq_true (by first | (with_reducible assumption) | assumption)
           have hx8 := bt_at a0 x6_2
           replace p8 := eq_true p8
           replace q8 := eq_true q8
           go_wp2
           repeat (go_quiet (fail); try go_wp2)
           go_ret2
           exact ⟨by first | rfl | (simp; done) | (simp [*]; done), by repeat (first | exact Drawn0.refl _ | apply Drawn0.step)⟩
         ·rw [if_neg c10] at H
          have c10b0 : (x6_2 == (a0.size : Int)) = false := beq_eq_false_iff_ne.mpr c10
          have c10b1 : (x6_2 != (a0.size : Int)) = true := bne_iff_ne.mpr c10
          have c18b0 := eq_true (of_decide_eq_true (by first | (with_reducible assumption) | assumption) : 0 ≤ x6_2)
          by_cases c19 : x6_2 ≤ (a0.size : Int)
          ·rw [if_pos c19] at H
           have c19b0 := eq_true c19
           have c19b1 : decide (x6_2 ≤ (a0.size : Int)) = true := decide_eq_true c19
           clear c19
           replace H := Option.bind_eq_some_iff.mp H
           obtain ⟨t102, A200, H⟩ := H
           replace H : (if (a0.extract (x6_2 : Int).toNat a0.size).toList = t102.toList then (some (a0.extract 0 (x6_2 : Int).toNat, 0)) else (some ((⟨#[]⟩ : ByteArray), 3))) = some (r1, r2) := H
           have A20 := Aside0.mk A200
           clear A200
           by_cases c21 : (a0.extract (x6_2 : Int).toNat a0.size).toList = t102.toList
           ·rw [if_pos c21] at H
            have c21b0 : ((a0.extract (x6_2 : Int).toNat a0.size).toList == t102.toList) = true := beq_iff_eq.mpr c21
            have c21b1 : ((a0.extract (x6_2 : Int).toNat a0.size).toList != t102.toList) = false := bne_eq_false_iff_eq.mpr c21
            clear c21
            have c22b0 := eq_true (of_decide_eq_true (by first | (with_reducible assumption) | assumption) : 0 ≤ x6_2)
            have c23b0 := eq_true (of_decide_eq_true (by first | (with_reducible assumption) | assumption) : x6_2 ≤ (a0.size : Int))
            simp only [Option.some.injEq, Prod.mk.injEq] at H
            obtain ⟨rfl, rfl⟩ := H
            have p8 : 0 ≤ (x6_2 : Int) := of_decide_eq_true (by first | (with_reducible assumption) | assumption)
            have q8 : x6_2 < (a0.size : Int) := of_decide_eq_true (by first | (with_reducible assumption) | assumption)
            have hx8 := bt_at a0 x6_2
            replace p8 := eq_true p8
            replace q8 := eq_true q8
            go_wp2_with (first | (go_at_call 45; (with_reducible refine (creelref_zeros.calls k2 (wrap64 ((a0.size : Int) - x6_2)) t102 _ A20.out).mono ?_); rintro e w' ⟨rfl, ⟨nd, rfl⟩⟩; (try first | exact ⟨rfl, _, World.drewN_drewN _ _ _⟩ | exact ⟨rfl, _, Eq.trans (World.drewN_drewN _ _ _) (congrArg (World.drewN _) (Nat.add_assoc _ _ _))⟩)))
            repeat (go_quiet (first | (go_at_call 45; (with_reducible refine (creelref_zeros.calls k2 (wrap64 ((a0.size : Int) - x6_2)) t102 _ A20.out).mono ?_); rintro e w' ⟨rfl, ⟨nd, rfl⟩⟩; (try first | exact ⟨rfl, _, World.drewN_drewN _ _ _⟩ | exact ⟨rfl, _, Eq.trans (World.drewN_drewN _ _ _) (congrArg (World.drewN _) (Nat.add_assoc _ _ _))⟩))); try go_wp2_with (first | (go_at_call 45; (with_reducible refine (creelref_zeros.calls k2 (wrap64 ((a0.size : Int) - x6_2)) t102 _ A20.out).mono ?_); rintro e w' ⟨rfl, ⟨nd, rfl⟩⟩; (try first | exact ⟨rfl, _, World.drewN_drewN _ _ _⟩ | exact ⟨rfl, _, Eq.trans (World.drewN_drewN _ _ _) (congrArg (World.drewN _) (Nat.add_assoc _ _ _))⟩))))
            go_ret2
            exact ⟨by first | rfl | (simp; done) | (simp [*]; done), by repeat (first | exact Drawn0.refl _ | apply Drawn0.step)⟩
           ·rw [if_neg c21] at H
            have c21b0 : ((a0.extract (x6_2 : Int).toNat a0.size).toList == t102.toList) = false := beq_eq_false_iff_ne.mpr c21
            have c21b1 : ((a0.extract (x6_2 : Int).toNat a0.size).toList != t102.toList) = true := bne_iff_ne.mpr c21
            simp only [Option.some.injEq, Prod.mk.injEq] at H
            obtain ⟨rfl, rfl⟩ := H
            have p8 : 0 ≤ (x6_2 : Int) := of_decide_eq_true (by first | (with_reducible assumption) | assumption)
            have q8 : x6_2 < (a0.size : Int) := of_decide_eq_true (by first | (with_reducible assumption) | assumption)
            have hx8 := bt_at a0 x6_2
            replace p8 := eq_true p8
            replace q8 := eq_true q8
            go_wp2_with (first | (go_at_call 45; (with_reducible refine (creelref_zeros.calls k2 (wrap64 ((a0.size : Int) - x6_2)) t102 _ A20.out).mono ?_); rintro e w' ⟨rfl, ⟨nd, rfl⟩⟩; (try first | exact ⟨rfl, _, World.drewN_drewN _ _ _⟩ | exact ⟨rfl, _, Eq.trans (World.drewN_drewN _ _ _) (congrArg (World.drewN _) (Nat.add_assoc _ _ _))⟩)))
            repeat (go_quiet (first | (go_at_call 45; (with_reducible refine (creelref_zeros.calls k2 (wrap64 ((a0.size : Int) - x6_2)) t102 _ A20.out).mono ?_); rintro e w' ⟨rfl, ⟨nd, rfl⟩⟩; (try first | exact ⟨rfl, _, World.drewN_drewN _ _ _⟩ | exact ⟨rfl, _, Eq.trans (World.drewN_drewN _ _ _) (congrArg (World.drewN _) (Nat.add_assoc _ _ _))⟩))); try go_wp2_with (first | (go_at_call 45; (with_reducible refine (creelref_zeros.calls k2 (wrap64 ((a0.size : Int) - x6_2)) t102 _ A20.out).mono ?_); rintro e w' ⟨rfl, ⟨nd, rfl⟩⟩; (try first | exact ⟨rfl, _, World.drewN_drewN _ _ _⟩ | exact ⟨rfl, _, Eq.trans (World.drewN_drewN _ _ _) (congrArg (World.drewN _) (Nat.add_assoc _ _ _))⟩))))
            go_ret2
            exact ⟨by first | rfl | (simp; done) | (simp [*]; done), by repeat (first | exact Drawn0.refl _ | apply Drawn0.step)⟩
          ·rw [if_neg c19] at H
           exact absurd H (by simp)
        ·rw [if_neg c9] at H
         have c9b0 : ((bt a0 x6_2) == 0) = false := beq_eq_false_iff_ne.mpr c9
         have c9b1 : ((bt a0 x6_2) != 0) = true := bne_iff_ne.mpr c9
         have H' := Aside0.mk H
         clear H
         have p8 : 0 ≤ (x6_2 : Int) := of_decide_eq_true (by first | (with_reducible assumption) | assumption)
         have q8 : x6_2 < (a0.size : Int) := of_decide_eq_true (by first | (with_reducible assumption) | assumption)
         have hx8 := bt_at a0 x6_2
         replace p8 := eq_true p8
         replace q8 := eq_true q8
         go_wp2
         repeat (go_quiet (fail); try go_wp2)
         go_roundg k2
         case measure => have := HJ2.out; have := HK2.out; omega
         case rel => exact ⟨(wrap64 (x6_2 + 1)), (by first | rfl | (simp; done) | (simp [*]; done)), H', ⟨by have := HJ2.out; have := HK2.out; omega⟩, by repeat (first | exact Drawn0.refl _ | apply Drawn0.step)⟩
       ·rw [if_neg c7] at H
        exact absurd H (by simp)
      ·rw [if_neg c6] at H
       have c6b0 : decide (x6_2 < (a0.size : Int)) = false := decide_eq_false c6
       clear c6
       by_cases c24 : x6_2 = (a0.size : Int)
       ·rw [if_pos c24] at H
        have c24b0 : (x6_2 == (a0.size : Int)) = true := beq_iff_eq.mpr c24
        have c24b1 : (x6_2 != (a0.size : Int)) = false := bne_eq_false_iff_eq.mpr c24
        clear c24
        by_cases c25 : a1 = true
        ·subst c25
         have H1 : (if 0 ≤ x6_2 then (if x6_2 ≤ (a0.size : Int) then ((creelref_zeros.f k2 (wrap64 ((a0.size : Int) - x6_2))).bind fun t103 => (if (a0.extract (x6_2 : Int).toNat a0.size).toList = t103.toList then (some (a0.extract 0 (x6_2 : Int).toNat, 0)) else (some ((⟨#[]⟩ : ByteArray), 3)))) else (none)) else (none)) = some (r1, r2) := by rw [if_pos rfl] at H; exact H
         clear H
         have H := H1
         clear H1
         by_cases c26 : 0 ≤ x6_2
         ·rw [if_pos c26] at H
          have c26b0 := eq_true c26
          have c26b1 : decide (0 ≤ x6_2) = true := decide_eq_true c26
          clear c26
          by_cases c27 : x6_2 ≤ (a0.size : Int)
          ·rw [if_pos c27] at H
           have c27b0 := eq_true c27
           have c27b1 : decide (x6_2 ≤ (a0.size : Int)) = true := decide_eq_true c27
           clear c27
           replace H := Option.bind_eq_some_iff.mp H
           obtain ⟨t103, A280, H⟩ := H
           replace H : (if (a0.extract (x6_2 : Int).toNat a0.size).toList = t103.toList then (some (a0.extract 0 (x6_2 : Int).toNat, 0)) else (some ((⟨#[]⟩ : ByteArray), 3))) = some (r1, r2) := H
           have A28 := Aside0.mk A280
           clear A280
           by_cases c29 : (a0.extract (x6_2 : Int).toNat a0.size).toList = t103.toList
           ·rw [if_pos c29] at H
            have c29b0 : ((a0.extract (x6_2 : Int).toNat a0.size).toList == t103.toList) = true := beq_iff_eq.mpr c29
            have c29b1 : ((a0.extract (x6_2 : Int).toNat a0.size).toList != t103.toList) = false := bne_eq_false_iff_eq.mpr c29
            clear c29
            have c30b0 := eq_true (of_decide_eq_true (by first | (with_reducible assumption) | assumption) : 0 ≤ x6_2)
            have c31b0 := eq_true (of_decide_eq_true (by first | (with_reducible assumption) | assumption) : x6_2 ≤ (a0.size : Int))
            simp only [Option.some.injEq, Prod.mk.injEq] at H
            obtain ⟨rfl, rfl⟩ := H
            go_wp2_with (first | (go_at_call 45; (with_reducible refine (creelref_zeros.calls k2 (wrap64 ((a0.size : Int) - x6_2)) t103 _ A28.out).mono ?_); rintro e w' ⟨rfl, ⟨nd, rfl⟩⟩; (try first | exact ⟨rfl, _, World.drewN_drewN _ _ _⟩ | exact ⟨rfl, _, Eq.trans (World.drewN_drewN _ _ _) (congrArg (World.drewN _) (Nat.add_assoc _ _ _))⟩)))
            repeat (go_quiet (first | (go_at_call 45; (with_reducible refine (creelref_zeros.calls k2 (wrap64 ((a0.size : Int) - x6_2)) t103 _ A28.out).mono ?_); rintro e w' ⟨rfl, ⟨nd, rfl⟩⟩; (try first | exact ⟨rfl, _, World.drewN_drewN _ _ _⟩ | exact ⟨rfl, _, Eq.trans (World.drewN_drewN _ _ _) (congrArg (World.drewN _) (Nat.add_assoc _ _ _))⟩))); try go_wp2_with (first | (go_at_call 45; (with_reducible refine (creelref_zeros.calls k2 (wrap64 ((a0.size : Int) - x6_2)) t103 _ A28.out).mono ?_); rintro e w' ⟨rfl, ⟨nd, rfl⟩⟩; (try first | exact ⟨rfl, _, World.drewN_drewN _ _ _⟩ | exact ⟨rfl, _, Eq.trans (World.drewN_drewN _ _ _) (congrArg (World.drewN _) (Nat.add_assoc _ _ _))⟩))))
            go_ret2
            exact ⟨by first | rfl | (simp; done) | (simp [*]; done), by repeat (first | exact Drawn0.refl _ | apply Drawn0.step)⟩
           ·rw [if_neg c29] at H
            have c29b0 : ((a0.extract (x6_2 : Int).toNat a0.size).toList == t103.toList) = false := beq_eq_false_iff_ne.mpr c29
            have c29b1 : ((a0.extract (x6_2 : Int).toNat a0.size).toList != t103.toList) = true := bne_iff_ne.mpr c29
            simp only [Option.some.injEq, Prod.mk.injEq] at H
            obtain ⟨rfl, rfl⟩ := H
            go_wp2_with (first | (go_at_call 45; (with_reducible refine (creelref_zeros.calls k2 (wrap64 ((a0.size : Int) - x6_2)) t103 _ A28.out).mono ?_); rintro e w' ⟨rfl, ⟨nd, rfl⟩⟩; (try first | exact ⟨rfl, _, World.drewN_drewN _ _ _⟩ | exact ⟨rfl, _, Eq.trans (World.drewN_drewN _ _ _) (congrArg (World.drewN _) (Nat.add_assoc _ _ _))⟩)))
            repeat (go_quiet (first | (go_at_call 45; (with_reducible refine (creelref_zeros.calls k2 (wrap64 ((a0.size : Int) - x6_2)) t103 _ A28.out).mono ?_); rintro e w' ⟨rfl, ⟨nd, rfl⟩⟩; (try first | exact ⟨rfl, _, World.drewN_drewN _ _ _⟩ | exact ⟨rfl, _, Eq.trans (World.drewN_drewN _ _ _) (congrArg (World.drewN _) (Nat.add_assoc _ _ _))⟩))); try go_wp2_with (first | (go_at_call 45; (with_reducible refine (creelref_zeros.calls k2 (wrap64 ((a0.size : Int) - x6_2)) t103 _ A28.out).mono ?_); rintro e w' ⟨rfl, ⟨nd, rfl⟩⟩; (try first | exact ⟨rfl, _, World.drewN_drewN _ _ _⟩ | exact ⟨rfl, _, Eq.trans (World.drewN_drewN _ _ _) (congrArg (World.drewN _) (Nat.add_assoc _ _ _))⟩))))
            go_ret2
            exact ⟨by first | rfl | (simp; done) | (simp [*]; done), by repeat (first | exact Drawn0.refl _ | apply Drawn0.step)⟩
          ·rw [if_neg c27] at H
           exact absurd H (by simp)
         ·rw [if_neg c26] at H
          exact absurd H (by simp)
        ·replace c25 := Bool.eq_false_iff.mpr c25
         subst c25
         have H1 : (some ((⟨#[]⟩ : ByteArray), 3)) = some (r1, r2) := by rw [if_neg (show ¬ (false = true) by decide)] at H; exact H
         clear H
         have H := H1
         clear H1
         simp only [Option.some.injEq, Prod.mk.injEq] at H
         obtain ⟨rfl, rfl⟩ := H
         go_wp2
         repeat (go_quiet (fail); try go_wp2)
         go_ret2
         exact ⟨by first | rfl | (simp; done) | (simp [*]; done), by repeat (first | exact Drawn0.refl _ | apply Drawn0.step)⟩
       ·rw [if_neg c24] at H
        have c24b0 : (x6_2 == (a0.size : Int)) = false := beq_eq_false_iff_ne.mpr c24
        have c24b1 : (x6_2 != (a0.size : Int)) = true := bne_iff_ne.mpr c24
        by_cases c32 : 0 ≤ x6_2
        ·rw [if_pos c32] at H
         have c32b0 := eq_true c32
         have c32b1 : decide (0 ≤ x6_2) = true := decide_eq_true c32
         clear c32
         by_cases c33 : x6_2 ≤ (a0.size : Int)
         ·rw [if_pos c33] at H
          have c33b0 := eq_true c33
          have c33b1 : decide (x6_2 ≤ (a0.size : Int)) = true := decide_eq_true c33
          clear c33
          replace H := Option.bind_eq_some_iff.mp H
          obtain ⟨t104, A340, H⟩ := H
          replace H : (if (a0.extract (x6_2 : Int).toNat a0.size).toList = t104.toList then (some (a0.extract 0 (x6_2 : Int).toNat, 0)) else (some ((⟨#[]⟩ : ByteArray), 3))) = some (r1, r2) := H
          have A34 := Aside0.mk A340
          clear A340
          by_cases c35 : (a0.extract (x6_2 : Int).toNat a0.size).toList = t104.toList
          ·rw [if_pos c35] at H
           have c35b0 : ((a0.extract (x6_2 : Int).toNat a0.size).toList == t104.toList) = true := beq_iff_eq.mpr c35
           have c35b1 : ((a0.extract (x6_2 : Int).toNat a0.size).toList != t104.toList) = false := bne_eq_false_iff_eq.mpr c35
           clear c35
           have c36b0 := eq_true (of_decide_eq_true (by first | (with_reducible assumption) | assumption) : 0 ≤ x6_2)
           have c37b0 := eq_true (of_decide_eq_true (by first | (with_reducible assumption) | assumption) : x6_2 ≤ (a0.size : Int))
           simp only [Option.some.injEq, Prod.mk.injEq] at H
           obtain ⟨rfl, rfl⟩ := H
           go_wp2_with (first | (go_at_call 45; (with_reducible refine (creelref_zeros.calls k2 (wrap64 ((a0.size : Int) - x6_2)) t104 _ A34.out).mono ?_); rintro e w' ⟨rfl, ⟨nd, rfl⟩⟩; (try first | exact ⟨rfl, _, World.drewN_drewN _ _ _⟩ | exact ⟨rfl, _, Eq.trans (World.drewN_drewN _ _ _) (congrArg (World.drewN _) (Nat.add_assoc _ _ _))⟩)))
           repeat (go_quiet (first | (go_at_call 45; (with_reducible refine (creelref_zeros.calls k2 (wrap64 ((a0.size : Int) - x6_2)) t104 _ A34.out).mono ?_); rintro e w' ⟨rfl, ⟨nd, rfl⟩⟩; (try first | exact ⟨rfl, _, World.drewN_drewN _ _ _⟩ | exact ⟨rfl, _, Eq.trans (World.drewN_drewN _ _ _) (congrArg (World.drewN _) (Nat.add_assoc _ _ _))⟩))); try go_wp2_with (first | (go_at_call 45; (with_reducible refine (creelref_zeros.calls k2 (wrap64 ((a0.size : Int) - x6_2)) t104 _ A34.out).mono ?_); rintro e w' ⟨rfl, ⟨nd, rfl⟩⟩; (try first | exact ⟨rfl, _, World.drewN_drewN _ _ _⟩ | exact ⟨rfl, _, Eq.trans (World.drewN_drewN _ _ _) (congrArg (World.drewN _) (Nat.add_assoc _ _ _))⟩))))
           go_ret2
           exact ⟨by first | rfl | (simp; done) | (simp [*]; done), by repeat (first | exact Drawn0.refl _ | apply Drawn0.step)⟩
          ·rw [if_neg c35] at H
           have c35b0 : ((a0.extract (x6_2 : Int).toNat a0.size).toList == t104.toList) = false := beq_eq_false_iff_ne.mpr c35
           have c35b1 : ((a0.extract (x6_2 : Int).toNat a0.size).toList != t104.toList) = true := bne_iff_ne.mpr c35
           simp only [Option.some.injEq, Prod.mk.injEq] at H
           obtain ⟨rfl, rfl⟩ := H
           go_wp2_with (first | (go_at_call 45; (with_reducible refine (creelref_zeros.calls k2 (wrap64 ((a0.size : Int) - x6_2)) t104 _ A34.out).mono ?_); rintro e w' ⟨rfl, ⟨nd, rfl⟩⟩; (try first | exact ⟨rfl, _, World.drewN_drewN _ _ _⟩ | exact ⟨rfl, _, Eq.trans (World.drewN_drewN _ _ _) (congrArg (World.drewN _) (Nat.add_assoc _ _ _))⟩)))
           repeat (go_quiet (first | (go_at_call 45; (with_reducible refine (creelref_zeros.calls k2 (wrap64 ((a0.size : Int) - x6_2)) t104 _ A34.out).mono ?_); rintro e w' ⟨rfl, ⟨nd, rfl⟩⟩; (try first | exact ⟨rfl, _, World.drewN_drewN _ _ _⟩ | exact ⟨rfl, _, Eq.trans (World.drewN_drewN _ _ _) (congrArg (World.drewN _) (Nat.add_assoc _ _ _))⟩))); try go_wp2_with (first | (go_at_call 45; (with_reducible refine (creelref_zeros.calls k2 (wrap64 ((a0.size : Int) - x6_2)) t104 _ A34.out).mono ?_); rintro e w' ⟨rfl, ⟨nd, rfl⟩⟩; (try first | exact ⟨rfl, _, World.drewN_drewN _ _ _⟩ | exact ⟨rfl, _, Eq.trans (World.drewN_drewN _ _ _) (congrArg (World.drewN _) (Nat.add_assoc _ _ _))⟩))))
           go_ret2
           exact ⟨by first | rfl | (simp; done) | (simp [*]; done), by repeat (first | exact Drawn0.refl _ | apply Drawn0.step)⟩
         ·rw [if_neg c33] at H
          exact absurd H (by simp)
        ·rw [if_neg c32] at H
         exact absurd H (by simp)

end Go.Proofs.YtodeblpanooomaaDoor.All
end
section
namespace Go.Proofs.YtodeblpanooomaaDoor.All
open Go.RowKit Go.Proofs.YtodeblpanooomaaDoorW.PrintWords Go.Proofs.YtodeblpanooomaaDoorW.PrintLast Go.Proofs.YtodeblpanooomaaDoorW.PrintMore
open Go.Proofs.YtodeblpanooomaaDoorW.Mine
attribute [local go_sem] gtr_string leq_string geq_string
attribute [local go_sem] max2_int min2_int max_two min_two max_three min_three max_four min_four   -- for this text's walks alone
set_option linter.unusedVariables false
set_option linter.unusedSimpArgs false

/-! ### creelref_OctalOf: function 42 -/
mutual
def creelref_OctalOf.j0 : Nat → ByteArray → Bool → Option (Int × Int)
 | 0, _, _ => none
 | k + 1, x0, x13 => if x13 = true then (some (0, 4)) else (creelref_OctalOf.l0 k x0 0 0)
def creelref_OctalOf.l0 : Nat → ByteArray → Int → Int → Option (Int × Int)
 | 0, _, _, _ => none
 | k + 1, x0, x4, x5 => if x5 < (wrap64 ((x0.size : Int) - 1)) then (if 0 ≤ x5 then (if x5 < (x0.size : Int) then (if (bt x0 x5) < 48 then (some (0, 3)) else (if (bt x0 x5) > 55 then (some (0, 3)) else ((creelref_power.f k (wrap64 ((wrap64 ((x0.size : Int) - 2)) - x5))).bind fun t101 => (creelref_OctalOf.l0 k x0 (wrap64 (x4 + (wrap64 ((wrap64 ((wrap64 (bt x0 x5)) - 48)) * t101)))) (wrap64 (x5 + 1)))))) else (none)) else (none)) else (if 0 ≤ (wrap64 ((x0.size : Int) - 1)) then (if (wrap64 ((x0.size : Int) - 1)) < (x0.size : Int) then (if (bt x0 (wrap64 ((x0.size : Int) - 1))) = 0 then (some (x4, 0)) else (some (0, 3))) else (none)) else (none))
end
def creelref_OctalOf.f (k : Nat) (a0 : ByteArray) : Option (Int × Int) := if (a0.size : Int) < 2 then (creelref_OctalOf.j0 k a0 true) else (creelref_OctalOf.j0 k a0 (decide ((a0.size : Int) > 12)))
theorem creelref_OctalOf.mono_l : ∀ k, (∀ y0 y1, LeO (creelref_OctalOf.j0 k y0 y1) (creelref_OctalOf.j0 (k + 1) y0 y1)) ∧ (∀ y0 y1 y2, LeO (creelref_OctalOf.l0 k y0 y1 y2) (creelref_OctalOf.l0 (k + 1) y0 y1 y2))
 | 0 => ⟨fun _ _ r h => by simp [creelref_OctalOf.j0] at h, fun _ _ _ r h => by simp [creelref_OctalOf.l0] at h⟩
 | k + 1 => by
  obtain ⟨ih0, ih1⟩ := creelref_OctalOf.mono_l k
  refine ⟨?_, ?_⟩
  ·intro y0 y1
   unfold creelref_OctalOf.j0
   repeat' first
   | (with_reducible exact ih0 _ _)
   | (with_reducible exact ih1 _ _ _)
   | (with_reducible exact creelref_power.mono _ _)
   | (with_reducible exact LeO.refl _)
   | (with_reducible exact LeO.none _)
   | (with_reducible refine LeO.ite ?_ ?_)
   | (with_reducible refine LeO.bind ?_ (fun _ => ?_))
   | exact ih0 _ _
   | exact ih1 _ _ _
   | exact creelref_power.mono _ _
   | exact LeO.none _
   | refine LeO.ite ?_ ?_
   | refine LeO.bind ?_ (fun _ => ?_)
  ·intro y0 y1 y2
   unfold creelref_OctalOf.l0
   repeat' first
   | (with_reducible exact ih0 _ _)
   | (with_reducible exact ih1 _ _ _)
   | (with_reducible exact creelref_power.mono _ _)
   | (with_reducible exact LeO.refl _)
   | (with_reducible exact LeO.none _)
   | (with_reducible refine LeO.ite ?_ ?_)
   | (with_reducible refine LeO.bind ?_ (fun _ => ?_))
   | exact ih0 _ _
   | exact ih1 _ _ _
   | exact creelref_power.mono _ _
   | exact LeO.none _
   | refine LeO.ite ?_ ?_
   | refine LeO.bind ?_ (fun _ => ?_)
theorem creelref_OctalOf.mono : ∀ a0 k, LeO (creelref_OctalOf.f k a0) (creelref_OctalOf.f (k + 1) a0) := by
 intro a0 k
 obtain ⟨ih0, ih1⟩ := creelref_OctalOf.mono_l k
 unfold creelref_OctalOf.f
 repeat' first
   | (with_reducible exact ih0 _ _)
   | (with_reducible exact ih1 _ _ _)
   | (with_reducible exact creelref_power.mono _ _)
   | (with_reducible exact LeO.refl _)
   | (with_reducible exact LeO.none _)
   | (with_reducible refine LeO.ite ?_ ?_)
   | (with_reducible refine LeO.bind ?_ (fun _ => ?_))
   | exact ih0 _ _
   | exact ih1 _ _ _
   | exact creelref_power.mono _ _
   | exact LeO.none _
   | refine LeO.ite ?_ ?_
   | refine LeO.bind ?_ (fun _ => ?_)
set_option maxHeartbeats 8000000 in
set_option maxRecDepth 100000 in
theorem creelref_OctalOf.calls (k : Nat) (a0 : ByteArray) (r1 : Int) (r2 : Int) (w : World) (h : creelref_OctalOf.f k a0 = some (r1, r2)) :
  Calls Tryd.prog 42 #[.string a0] w fun e w' => e = .returned (.tuple #[.int .i64 r1, .int .i64 r2]) ∧ Drawn0 w w' := by
 have H : (if (a0.size : Int) < 2 then (creelref_OctalOf.j0 k a0 true) else (creelref_OctalOf.j0 k a0 (decide ((a0.size : Int) > 12)))) = some (r1, r2) := h
 clear h
 have HC2 := Aside0.mk H
 clear H
 go_enter Tryd.func42, Tryd.ntmps42
 go_upto_region 1 with (fail)
 repeat (go_quiet (fail); go_upto_region 1 with (fail))
 go_cut [13] (fun v13 wc => ∃ (kq : Nat) (x13_1 : Bool), v13 = .bool x13_1 ∧ Aside0 (creelref_OctalOf.j0 kq a0 x13_1 = some (r1, r2)) ∧ Aside0 (kq ≤ k) ∧ Drawn0 w wc)
 case first =>
  have H := HC2.out
  clear HC2
  by_cases c3 : (a0.size : Int) < 2
  ·rw [if_pos c3] at H
   have c3b0 : decide ((a0.size : Int) < 2) = true := decide_eq_true c3
   have c3b1 : decide (a0.size < 2) = true := decide_eq_true (by omega)
   clear c3
   (first | rw [c3b0] | (simp only [i64_w, i32_w]; rw [c3b0]) | skip)
   have H' := Aside0.mk H
   clear H
   go_wp2
   repeat (go_quiet (fail); try go_wp2)
   go_meet
   case rel => exact ⟨_, (true), (by first | rfl | (simp; done) | (simp [*]; done)), H', ⟨by first | omega | exact Nat.le_refl _⟩, by repeat (first | exact Drawn0.refl _ | apply Drawn0.step)⟩
  ·rw [if_neg c3] at H
   have c3b0 : decide ((a0.size : Int) < 2) = false := decide_eq_false c3
   have c3b1 : decide (a0.size < 2) = false := decide_eq_false (by omega)
   clear c3
   (first | rw [c3b0] | (simp only [i64_w, i32_w]; rw [c3b0]) | skip)
   have H' := Aside0.mk H
   clear H
   go_wp2
   repeat (go_quiet (fail); try go_wp2)
   go_meet
   case rel => exact ⟨_, (decide ((a0.size : Int) > 12)), (by first | rfl | (simp; done) | (simp [*]; done)), H', ⟨by first | omega | exact Nat.le_refl _⟩, by repeat (first | exact Drawn0.refl _ | apply Drawn0.step)⟩
 case rest =>
  clear HC2
  try clear p2
  try clear c3
  try clear c3b0
  try clear c3b1
  obtain ⟨kq, x13_1, rfl, HA, HJ1, ⟨mc1, rfl⟩⟩ := hcut
  cases kq with
  | zero => exact absurd HA.out (by simp [creelref_OctalOf.j0])
  | succ kj1 =>
   have H := HA.out
   clear HA
   simp only [creelref_OctalOf.j0] at H
   by_cases c4 : x13_1 = true
   ·subst c4
    have H1 : (some (0, 4)) = some (r1, r2) := by rw [if_pos rfl] at H; exact H
    clear H
    have H := H1
    clear H1
    simp only [Option.some.injEq, Prod.mk.injEq] at H
    obtain ⟨rfl, rfl⟩ := H
    go_wp2
    repeat (go_quiet (fail); try go_wp2)
    go_ret2
    exact ⟨by first | rfl | (simp; done) | (simp [*]; done), by repeat (first | exact Drawn0.refl _ | apply Drawn0.step)⟩
   ·replace c4 := Bool.eq_false_iff.mpr c4
    subst c4
    have H1 : (creelref_OctalOf.l0 kj1 a0 0 0) = some (r1, r2) := by rw [if_neg (show ¬ (false = true) by decide)] at H; exact H
    clear H
    have H := H1
    clear H1
    have H' := Aside0.mk H
    clear H
    go_wp2
    repeat (go_quiet (fail); try go_wp2)
    go_loopg [4, 5] kj1 (fun kq v4 v5 w' => ∃ (x4_2 : Int) (x5_2 : Int), v4 = .int .i64 x4_2 ∧ v5 = .int .i64 x5_2 ∧ Aside0 (creelref_OctalOf.l0 kq a0 x4_2 x5_2 = some (r1, r2)) ∧ Aside0 (kq ≤ kj1) ∧ Drawn0 w w')
    case atStart => exact ⟨(0), (0), (by first | rfl | (simp; done) | (simp [*]; done)), (by first | rfl | (simp; done) | (simp [*]; done)), H', ⟨Nat.le_refl _⟩, by repeat (first | exact Drawn0.refl _ | apply Drawn0.step)⟩
    case round =>
     clear H'
     try clear c1
     try clear p2
     try clear c3
     try clear c3b0
     try clear c3b1
     try clear c4
     try clear p2
     obtain ⟨x4_2, x5_2, rfl, rfl, HA, HK2, ⟨m2, rfl⟩⟩ := hrel
     cases gk with
     | zero => exact absurd HA.out (by simp [creelref_OctalOf.l0])
     | succ k2 =>
      have H := HA.out
      clear HA
      simp only [creelref_OctalOf.l0] at H
      by_cases c5 : x5_2 < (wrap64 ((a0.size : Int) - 1))
      ·rw [if_pos c5] at H
       have c5b0 : decide (x5_2 < (wrap64 ((a0.size : Int) - 1))) = true := decide_eq_true c5
       clear c5
       by_cases c6 : 0 ≤ x5_2
       ·rw [if_pos c6] at H
        have c6b0 : decide (0 ≤ x5_2) = true := decide_eq_true c6
        clear c6
        by_cases c7 : x5_2 < (a0.size : Int)
        ·rw [if_pos c7] at H
         have c7b0 : decide (x5_2 < (a0.size : Int)) = true := decide_eq_true c7
         clear c7
         by_cases c9 : (bt a0 x5_2) < 48
         ·rw [if_pos c9] at H
          have c9b0 : decide ((bt a0 x5_2) < 48) = true := decide_eq_true c9
          clear c9
          simp only [Option.some.injEq, Prod.mk.injEq] at H
          obtain ⟨rfl, rfl⟩ := H
          have p8 : 0 ≤ (x5_2 : Int) := of_decide_eq_true (by first | (with_reducible assumption) | assumption)
          have q8 : x5_2 < (a0.size : Int) := of_decide_eq_true (by first | (with_reducible assumption) | assumption)
          have hx8 := bt_at a0 x5_2
          replace p8 := eq_true p8
          replace q8 := eq_true q8
          go_wp2
          repeat (go_quiet (fail); try go_wp2)
          go_ret2
          exact ⟨by first | rfl | (simp; done) | (simp [*]; done), by repeat (first | exact Drawn0.refl _ | apply Drawn0.step)⟩
         ·rw [if_neg c9] at H
          have c9b0 : decide ((bt a0 x5_2) < 48) = false := decide_eq_false c9
          clear c9
          by_cases c11 : (bt a0 x5_2) > 55
          ·rw [if_pos c11] at H
           have c11b0 : decide (55 < (bt a0 x5_2)) = true := decide_eq_true c11
           clear c11
           simp only [Option.some.injEq, Prod.mk.injEq] at H
           obtain ⟨rfl, rfl⟩ := H
           have p8 : 0 ≤ (x5_2 : Int) := of_decide_eq_true (by first | (with_reducible assumption) | assumption)
           have q8 : x5_2 < (a0.size : Int) := of_decide_eq_true (by first | (with_reducible assumption) | assumption)
           have hx8 := bt_at a0 x5_2
           replace p8 := eq_true p8
           replace q8 := eq_true q8
           have p10 : 0 ≤ (x5_2 : Int) := of_decide_eq_true (by first | (with_reducible assumption) | assumption)
           have q10 : x5_2 < (a0.size : Int) := of_decide_eq_true (by first | (with_reducible assumption) | assumption)
           have hx10 := bt_at a0 x5_2
           replace p10 := eq_true p10
           replace q10 := eq_true q10
           go_wp2
           repeat (go_quiet (fail); try go_wp2)
           go_ret2
           exact ⟨by first | rfl | (simp; done) | (simp [*]; done), by repeat (first | exact Drawn0.refl _ | apply Drawn0.step)⟩
          ·rw [if_neg c11] at H
           have c11b0 : decide (55 < (bt a0 x5_2)) = false := decide_eq_false c11
           clear c11
           replace H := Option.bind_eq_some_iff.mp H
           obtain ⟨t101, A130, H⟩ := H
           replace H : (creelref_OctalOf.l0 k2 a0 (wrap64 (x4_2 + (wrap64 ((wrap64 ((wrap64 (bt a0 x5_2)) - 48)) * t101)))) (wrap64 (x5_2 + 1))) = some (r1, r2) := H
           have A13 := Aside0.mk A130
           clear A130
           have H' := Aside0.mk H
           clear H
           have p8 : 0 ≤ (x5_2 : Int) := of_decide_eq_true (by first | (with_reducible assumption) | assumption)
           have q8 : x5_2 < (a0.size : Int) := of_decide_eq_true (by first | (with_reducible assumption) | assumption)
           have hx8 := bt_at a0 x5_2
           replace p8 := eq_true p8
           replace q8 := eq_true q8
           have p10 : 0 ≤ (x5_2 : Int) := of_decide_eq_true (by first | (with_reducible assumption) | assumption)
           have q10 : x5_2 < (a0.size : Int) := of_decide_eq_true (by first | (with_reducible assumption) | assumption)
           have hx10 := bt_at a0 x5_2
           replace p10 := eq_true p10
           replace q10 := eq_true q10
           have p12 : 0 ≤ (x5_2 : Int) := of_decide_eq_true (by first | (with_reducible assumption) | assumption)
           have q12 : x5_2 < (a0.size : Int) := of_decide_eq_true (by first | (with_reducible assumption) | assumption)
           have hx12 := bt_at a0 x5_2
           replace p12 := eq_true p12
           replace q12 := eq_true q12
           go_wp2_with (first | (go_at_call 88; (with_reducible refine (creelref_power.calls k2 (wrap64 ((wrap64 ((a0.size : Int) - 2)) - x5_2)) t101 _ A13.out).mono ?_); rintro e w' ⟨rfl, ⟨nd, rfl⟩⟩; (try first | exact ⟨rfl, _, World.drewN_drewN _ _ _⟩ | exact ⟨rfl, _, Eq.trans (World.drewN_drewN _ _ _) (congrArg (World.drewN _) (Nat.add_assoc _ _ _))⟩)))
           repeat (go_quiet (first | (go_at_call 88; (with_reducible refine (creelref_power.calls k2 (wrap64 ((wrap64 ((a0.size : Int) - 2)) - x5_2)) t101 _ A13.out).mono ?_); rintro e w' ⟨rfl, ⟨nd, rfl⟩⟩; (try first | exact ⟨rfl, _, World.drewN_drewN _ _ _⟩ | exact ⟨rfl, _, Eq.trans (World.drewN_drewN _ _ _) (congrArg (World.drewN _) (Nat.add_assoc _ _ _))⟩))); try go_wp2_with (first | (go_at_call 88; (with_reducible refine (creelref_power.calls k2 (wrap64 ((wrap64 ((a0.size : Int) - 2)) - x5_2)) t101 _ A13.out).mono ?_); rintro e w' ⟨rfl, ⟨nd, rfl⟩⟩; (try first | exact ⟨rfl, _, World.drewN_drewN _ _ _⟩ | exact ⟨rfl, _, Eq.trans (World.drewN_drewN _ _ _) (congrArg (World.drewN _) (Nat.add_assoc _ _ _))⟩))))
           go_roundg k2
           case measure => have := HJ1.out; have := HK2.out; omega
           case rel => exact ⟨(wrap64 (x4_2 + (wrap64 ((wrap64 ((wrap64 (bt a0 x5_2)) - 48)) * t101)))), (wrap64 (x5_2 + 1)), (by first | rfl | (simp; done) | (simp [*]; done)), (by first | rfl | (simp; done) | (simp [*]; done)), H', ⟨by have := HJ1.out; have := HK2.out; omega⟩, by repeat (first | exact Drawn0.refl _ | apply Drawn0.step)⟩
        ·rw [if_neg c7] at H
         exact absurd H (by simp)
       ·rw [if_neg c6] at H
        exact absurd H (by simp)
      ·rw [if_neg c5] at H
       have c5b0 : decide (x5_2 < (wrap64 ((a0.size : Int) - 1))) = false := decide_eq_false c5
       clear c5
       obtain ⟨ji14, hji14⟩ : ∃ j_ : Int, (wrap64 ((a0.size : Int) - 1)) = j_ := ⟨_, rfl⟩
       replace H : (if 0 ≤ (ji14) then (if (ji14) < (a0.size : Int) then (if (bt a0 (ji14)) = 0 then (some (x4_2, 0)) else (some (0, 3))) else (none)) else (none)) = some (r1, r2) := by first | (rw [hji14] at H; exact H) | (simp only [hji14] at H ⊢; exact H)
       (try rw [hji14] at c5b0)
       have hji14w : (IntKind.i64.wrap ((a0.size : Int) - 1)) = ji14 := (i64_w _).trans hji14
       by_cases c15 : 0 ≤ (ji14)
       ·rw [if_pos c15] at H
        have c15b0 : decide (0 ≤ (ji14)) = true := decide_eq_true c15
        clear c15
        by_cases c16 : (ji14) < (a0.size : Int)
        ·rw [if_pos c16] at H
         have c16b0 : decide ((ji14) < (a0.size : Int)) = true := decide_eq_true c16
         clear c16
         by_cases c18 : (bt a0 (ji14)) = 0
         ·rw [if_pos c18] at H
          have c18b0 : ((bt a0 (ji14)) == 0) = true := beq_iff_eq.mpr c18
          have c18b1 : ((bt a0 (ji14)) != 0) = false := bne_eq_false_iff_eq.mpr c18
          clear c18
          simp only [Option.some.injEq, Prod.mk.injEq] at H
          obtain ⟨rfl, rfl⟩ := H
          have p17 : 0 ≤ ((ji14) : Int) := of_decide_eq_true (by first | (with_reducible assumption) | assumption)
          have q17 : (ji14) < (a0.size : Int) := of_decide_eq_true (by first | (with_reducible assumption) | assumption)
          have hx17 := bt_at a0 (ji14)
          replace p17 := eq_true p17
          replace q17 := eq_true q17
          go_wp2
          repeat (go_quiet (fail); try go_wp2)
          go_ret2
          exact ⟨by first | rfl | (simp; done) | (simp only [← hji14] <;> (first | rfl | simp)) | (simp [*]; done), by repeat (first | exact Drawn0.refl _ | apply Drawn0.step)⟩
         ·rw [if_neg c18] at H
          have c18b0 : ((bt a0 (ji14)) == 0) = false := beq_eq_false_iff_ne.mpr c18
          have c18b1 : ((bt a0 (ji14)) != 0) = true := bne_iff_ne.mpr c18
          simp only [Option.some.injEq, Prod.mk.injEq] at H
          obtain ⟨rfl, rfl⟩ := H
          have p17 : 0 ≤ ((ji14) : Int) := of_decide_eq_true (by first | (with_reducible assumption) | assumption)
          have q17 : (ji14) < (a0.size : Int) := of_decide_eq_true (by first | (with_reducible assumption) | assumption)
          have hx17 := bt_at a0 (ji14)
          replace p17 := eq_true p17
          replace q17 := eq_true q17
          go_wp2
          repeat (go_quiet (fail); try go_wp2)
          go_ret2
          exact ⟨by first | rfl | (simp; done) | (simp only [← hji14] <;> (first | rfl | simp)) | (simp [*]; done), by repeat (first | exact Drawn0.refl _ | apply Drawn0.step)⟩
        ·rw [if_neg c16] at H
         exact absurd H (by simp)
       ·rw [if_neg c15] at H
        exact absurd H (by simp)

end Go.Proofs.YtodeblpanooomaaDoor.All
end
section
namespace Go.Proofs.YtodeblpanooomaaDoor.All
open Go.RowKit Go.Proofs.YtodeblpanooomaaDoorW.PrintWords Go.Proofs.YtodeblpanooomaaDoorW.PrintLast Go.Proofs.YtodeblpanooomaaDoorW.PrintMore
open Go.Proofs.YtodeblpanooomaaDoorW.Mine
attribute [local go_sem] gtr_string leq_string geq_string
attribute [local go_sem] max2_int min2_int max_two min_two max_three min_three max_four min_four   -- for this text's walks alone
set_option linter.unusedVariables false
set_option linter.unusedSimpArgs false

/-! ### creelref_has: function 44 -/
def creelref_has.l0 : Nat → ByteArray → Int → Int → Option (Bool)
 | 0, _, _, _ => none
 | k + 1, x0, x1, x5 => if x5 < (x0.size : Int) then (if 0 ≤ x5 then (if (bt x0 x5) = x1 then (some true) else (creelref_has.l0 k x0 x1 (wrap64 (x5 + 1)))) else (none)) else (some false)
def creelref_has.f (k : Nat) (a0 : ByteArray) (a1 : Int) : Option (Bool) := creelref_has.l0 k a0 a1 0
theorem creelref_has.mono_l : ∀ k, (∀ y0 y1 y2, LeO (creelref_has.l0 k y0 y1 y2) (creelref_has.l0 (k + 1) y0 y1 y2))
 | 0 => fun _ _ _ r h => by simp [creelref_has.l0] at h
 | k + 1 => by
  have ih0 := creelref_has.mono_l k
  ·intro y0 y1 y2
   unfold creelref_has.l0
   repeat' first
   | (with_reducible exact ih0 _ _ _)
   | (with_reducible exact LeO.refl _)
   | (with_reducible exact LeO.none _)
   | (with_reducible refine LeO.ite ?_ ?_)
   | (with_reducible refine LeO.bind ?_ (fun _ => ?_))
   | exact ih0 _ _ _
   | exact LeO.none _
   | refine LeO.ite ?_ ?_
   | refine LeO.bind ?_ (fun _ => ?_)
theorem creelref_has.mono : ∀ a0 a1 k, LeO (creelref_has.f k a0 a1) (creelref_has.f (k + 1) a0 a1) := by
 intro a0 a1 k
 have ih0 := creelref_has.mono_l k
 unfold creelref_has.f
 repeat' first
   | (with_reducible exact ih0 _ _ _)
   | (with_reducible exact LeO.refl _)
   | (with_reducible exact LeO.none _)
   | (with_reducible refine LeO.ite ?_ ?_)
   | (with_reducible refine LeO.bind ?_ (fun _ => ?_))
   | exact ih0 _ _ _
   | exact LeO.none _
   | refine LeO.ite ?_ ?_
   | refine LeO.bind ?_ (fun _ => ?_)
set_option maxHeartbeats 8000000 in
set_option maxRecDepth 100000 in
theorem creelref_has.calls (k : Nat) (a0 : ByteArray) (a1 : Int) (r : Bool) (w : World) (h : creelref_has.f k a0 a1 = some r) :
  Calls Tryd.prog 44 #[.string a0, .int .u8 a1] w fun e w' => e = .returned (.bool r) ∧ Drawn0 w w' := by
 have H : (creelref_has.l0 k a0 a1 0) = some r := h
 clear h
 have H' := Aside0.mk H
 clear H
 go_enter Tryd.func44, Tryd.ntmps44
 go_wp2
 go_loopg [5] k (fun kq v5 w' => ∃ (x5_1 : Int), v5 = .int .i64 x5_1 ∧ Aside0 (creelref_has.l0 kq a0 a1 x5_1 = some r) ∧ Aside0 (kq ≤ k) ∧ Drawn0 w w')
 case atStart => exact ⟨(0), (by first | rfl | (simp; done) | (simp [*]; done)), H', ⟨Nat.le_refl _⟩, by repeat (first | exact Drawn0.refl _ | apply Drawn0.step)⟩
 case round =>
  clear H'
  try clear p2
  obtain ⟨x5_1, rfl, HA, HK1, ⟨m1, rfl⟩⟩ := hrel
  cases gk with
  | zero => exact absurd HA.out (by simp [creelref_has.l0])
  | succ k1 =>
   have H := HA.out
   clear HA
   simp only [creelref_has.l0] at H
   by_cases c3 : x5_1 < (a0.size : Int)
   ·rw [if_pos c3] at H
    have c3b0 : decide (x5_1 < (a0.size : Int)) = true := decide_eq_true c3
    clear c3
    by_cases c4 : 0 ≤ x5_1
    ·rw [if_pos c4] at H
     have c4b0 : decide (0 ≤ x5_1) = true := decide_eq_true c4
     clear c4
     by_cases c6 : (bt a0 x5_1) = a1
     ·rw [if_pos c6] at H
      have c6b0 : ((bt a0 x5_1) == a1) = true := beq_iff_eq.mpr c6
      have c6b1 : ((bt a0 x5_1) != a1) = false := bne_eq_false_iff_eq.mpr c6
      clear c6
      obtain rfl := Option.some.inj H
      have p5 : 0 ≤ (x5_1 : Int) := of_decide_eq_true (by first | (with_reducible assumption) | assumption)
      have q5 : x5_1 < (a0.size : Int) := of_decide_eq_true (by first | (with_reducible assumption) | assumption)
      have hx5 := bt_at a0 x5_1
      replace p5 := eq_true p5
      replace q5 := eq_true q5
      go_wp2
      go_ret
      exact ⟨by first | rfl | (simp; done) | (simp [*]; done), by repeat (first | exact Drawn0.refl _ | apply Drawn0.step)⟩
     ·rw [if_neg c6] at H
      have c6b0 : ((bt a0 x5_1) == a1) = false := beq_eq_false_iff_ne.mpr c6
      have c6b1 : ((bt a0 x5_1) != a1) = true := bne_iff_ne.mpr c6
      have H' := Aside0.mk H
      clear H
      have p5 : 0 ≤ (x5_1 : Int) := of_decide_eq_true (by first | (with_reducible assumption) | assumption)
      have q5 : x5_1 < (a0.size : Int) := of_decide_eq_true (by first | (with_reducible assumption) | assumption)
      have hx5 := bt_at a0 x5_1
      replace p5 := eq_true p5
      replace q5 := eq_true q5
      go_wp2
      go_roundg k1
      case measure => have := HK1.out; omega
      case rel => exact ⟨(wrap64 (x5_1 + 1)), (by first | rfl | (simp; done) | (simp [*]; done)), H', ⟨by have := HK1.out; omega⟩, by repeat (first | exact Drawn0.refl _ | apply Drawn0.step)⟩
    ·rw [if_neg c4] at H
     exact absurd H (by simp)
   ·rw [if_neg c3] at H
    have c3b0 : decide (x5_1 < (a0.size : Int)) = false := decide_eq_false c3
    clear c3
    obtain rfl := Option.some.inj H
    go_wp2
    go_ret
    exact ⟨by first | rfl | (simp; done) | (simp [*]; done), by repeat (first | exact Drawn0.refl _ | apply Drawn0.step)⟩

end Go.Proofs.YtodeblpanooomaaDoor.All
end
