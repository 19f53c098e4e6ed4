/- Made by a program of the prover (over the print of the kit): a Lean function with the answers of a Go function, and the proof that the call comes to them; conditions: those in the statements alone. -/
import Derived.Test.YtmcofelbcjgagaaK
import Derived.Test.YtmcofelbcjgagaaFCreelrefPower
import Derived.Test.YtmcofelbcjgagaaFCreelrefModeText
namespace Go.Proofs.Ytmcofelbcjgagaa.All
open Go.RowKit Go.Proofs.YtmcofelbcjgagaaW.PrintWords Go.Proofs.YtmcofelbcjgagaaW.PrintLast Go.Proofs.YtmcofelbcjgagaaW.PrintMore
open Go.Proofs.YtmcofelbcjgagaaW.Mine
attribute [local go_sem] gtr_string leq_string geq_string
attribute [local go_sem] max2_int min2_int max_two min_two max_three min_three max_four min_four   -- for this text's walks alone
set_option linter.unusedVariables false
set_option linter.unusedSimpArgs false

/-! ### creelref_ModeOf: function 9 -/
mutual
def creelref_ModeOf.l0 : Nat → ByteArray → Int → Int → Option (Int × Int)
  | 0, _, _, _ => none
  | k + 1, x0, x4, x5 => if x5 ≥ 0 then (if 0 ≤ (wrap64 (6 - (wrap64 (3 * x5)))) then (if (wrap64 (6 - (wrap64 (3 * x5)))) ≤ (wrap64 (9 - (wrap64 (3 * x5)))) then (if (wrap64 (9 - (wrap64 (3 * x5)))) ≤ (x0.size : Int) then (creelref_ModeOf.l1 k x0 x4 x5 (x0.extract ((wrap64 (6 - (wrap64 (3 * x5)))) : Int).toNat ((wrap64 (9 - (wrap64 (3 * x5)))) : Int).toNat) false 0) else (none)) else (none)) else (none)) else (some (x4, 0))
def creelref_ModeOf.l1 : Nat → ByteArray → Int → Int → ByteArray → Bool → Int → Option (Int × Int)
  | 0, _, _, _, _, _, _ => none
  | k + 1, x0, x4, x5, x6, x7, x8 => if x8 < 16 then ((creelref_power.f k x5).bind fun t101 => (if 0 ≤ x5 then ((creelref_ModeText.f (wrap64 ((wrap64 ((Int.tmod x8 8) * t101)) + (shl .i64 (wrap64 ((wrap64 (Int.tdiv x8 8)) * 512)) x5)))).bind fun bt102 => (if 0 ≤ (wrap64 (6 - (wrap64 (3 * x5)))) then (if (wrap64 (6 - (wrap64 (3 * x5)))) ≤ (wrap64 (9 - (wrap64 (3 * x5)))) then (if (wrap64 (9 - (wrap64 (3 * x5)))) ≤ (bt102.1.size : Int) then (if (bt102.1.extract ((wrap64 (6 - (wrap64 (3 * x5)))) : Int).toNat ((wrap64 (9 - (wrap64 (3 * x5)))) : Int).toNat).toList = x6.toList then (creelref_ModeOf.l1 k x0 (wrap64 (x4 + (wrap64 ((wrap64 ((Int.tmod x8 8) * t101)) + (shl .i64 (wrap64 ((wrap64 (Int.tdiv x8 8)) * 512)) x5))))) x5 x6 true (wrap64 (x8 + 1))) else (creelref_ModeOf.l1 k x0 x4 x5 x6 x7 (wrap64 (x8 + 1)))) else (none)) else (none)) else (none))) else (none))) else (if x7 = true then (creelref_ModeOf.l0 k x0 x4 (wrap64 (x5 - 1))) else (some (0, 3)))
end
def creelref_ModeOf.f (k : Nat) (a0 : ByteArray) : Option (Int × Int) := if (a0.size : Int) = 9 then (creelref_ModeOf.l0 k a0 0 2) else (some (0, 1))
theorem creelref_ModeOf.mono_l : ∀ k, (∀ y0 y1 y2, LeO (creelref_ModeOf.l0 k y0 y1 y2) (creelref_ModeOf.l0 (k + 1) y0 y1 y2)) ∧ (∀ y0 y1 y2 y3 y4 y5, LeO (creelref_ModeOf.l1 k y0 y1 y2 y3 y4 y5) (creelref_ModeOf.l1 (k + 1) y0 y1 y2 y3 y4 y5))
  | 0 => ⟨fun _ _ _ r h => by simp [creelref_ModeOf.l0] at h, fun _ _ _ _ _ _ r h => by simp [creelref_ModeOf.l1] at h⟩
  | k + 1 => by
    obtain ⟨ih0, ih1⟩ := creelref_ModeOf.mono_l k
    refine ⟨?_, ?_⟩
    · intro y0 y1 y2
      unfold creelref_ModeOf.l0
      repeat' first
      | (with_reducible exact ih0 _ _ _)
      | (with_reducible exact ih1 _ _ _ _ _ _)
      | (with_reducible exact creelref_power.mono _ _)
      | (with_reducible exact LeO.refl _)
      | (with_reducible exact LeO.none _)
      | (with_reducible refine LeO.ite ?_ ?_)
      | (with_reducible refine LeO.bind ?_ (fun _ => ?_))
      | exact ih0 _ _ _
      | exact ih1 _ _ _ _ _ _
      | exact creelref_power.mono _ _
      | exact LeO.none _
      | refine LeO.ite ?_ ?_
      | refine LeO.bind ?_ (fun _ => ?_)
    · intro y0 y1 y2 y3 y4 y5
      unfold creelref_ModeOf.l1
      repeat' first
      | (with_reducible exact ih0 _ _ _)
      | (with_reducible exact ih1 _ _ _ _ _ _)
      | (with_reducible exact creelref_power.mono _ _)
      | (with_reducible exact LeO.refl _)
      | (with_reducible exact LeO.none _)
      | (with_reducible refine LeO.ite ?_ ?_)
      | (with_reducible refine LeO.bind ?_ (fun _ => ?_))
      | exact ih0 _ _ _
      | exact ih1 _ _ _ _ _ _
      | exact creelref_power.mono _ _
      | exact LeO.none _
      | refine LeO.ite ?_ ?_
      | refine LeO.bind ?_ (fun _ => ?_)
theorem creelref_ModeOf.mono : ∀ a0 k, LeO (creelref_ModeOf.f k a0) (creelref_ModeOf.f (k + 1) a0) := by
  intro a0 k
  obtain ⟨ih0, ih1⟩ := creelref_ModeOf.mono_l k
  unfold creelref_ModeOf.f
  repeat' first
      | (with_reducible exact ih0 _ _ _)
      | (with_reducible exact ih1 _ _ _ _ _ _)
      | (with_reducible exact creelref_power.mono _ _)
      | (with_reducible exact LeO.refl _)
      | (with_reducible exact LeO.none _)
      | (with_reducible refine LeO.ite ?_ ?_)
      | (with_reducible refine LeO.bind ?_ (fun _ => ?_))
      | exact ih0 _ _ _
      | exact ih1 _ _ _ _ _ _
      | exact creelref_power.mono _ _
      | exact LeO.none _
      | refine LeO.ite ?_ ?_
      | refine LeO.bind ?_ (fun _ => ?_)
set_option maxHeartbeats 8000000 in
set_option maxRecDepth 100000 in
theorem creelref_ModeOf.calls (k : Nat) (a0 : ByteArray) (r1 : Int) (r2 : Int) (w : World) (h : creelref_ModeOf.f k a0 = some (r1, r2)) :
    Calls Try.prog 9 #[.string a0] w fun e w' => e = .returned (.tuple #[.int .i64 r1, .int .i64 r2]) ∧ Below w.heap.size w w' := by
  have HB := Aside0.mk (Below.refl w.heap.size w)
  have H : (if (a0.size : Int) = 9 then (creelref_ModeOf.l0 k a0 0 2) else (some (0, 1))) = some (r1, r2) := h
  clear h
  by_cases c2 : (a0.size : Int) = 9
  · rw [if_pos c2] at H
    have c2b0 : ((a0.size : Int) == 9) = true := beq_iff_eq.mpr c2
    have c2b1 : ((a0.size : Int) != 9) = false := bne_eq_false_iff_eq.mpr c2
    clear c2
    have H' := Aside0.mk H
    clear H
    go_enter Try.func9, Try.ntmps9
    go_wp2
    repeat (go_quiet (fail); try go_wp2)
    go_loopg [4, 5] k (fun kq v4 v5 w' => ∃ (x4_1 : Int) (x5_1 : Int), v4 = .int .i64 x4_1 ∧ v5 = .int .i64 x5_1 ∧ Aside0 (creelref_ModeOf.l0 kq a0 x4_1 x5_1 = some (r1, r2)) ∧ Aside0 (kq ≤ k) ∧ Aside0 (Below w.heap.size w w'))
    case atStart => exact ⟨(0), (2), (by first | rfl | (simp; done) | (simp [*]; done)), (by first | rfl | (simp; done) | (simp [*]; done)), H', ⟨Nat.le_refl _⟩, ⟨by repeat (first | (with_reducible first | exact HB.out | apply below_alloc | apply pw_below_drewN | apply below_drew1) | exact HB.out)⟩⟩
    case round =>
      clear H'
      try clear c2
      try clear c2b0
      try clear c2b1
      try clear p2
      obtain ⟨x4_1, x5_1, rfl, rfl, HA, HK1, HB⟩ := hrel
      cases gk with
      | zero => exact absurd HA.out (by simp [creelref_ModeOf.l0])
      | succ k1 =>
        have H := HA.out
        clear HA
        simp only [creelref_ModeOf.l0] at H
        by_cases c3 : x5_1 ≥ 0
        · rw [if_pos c3] at H
          have c3b0 : decide (0 ≤ x5_1) = true := decide_eq_true c3
          clear c3
          obtain ⟨ji4, hji4⟩ : ∃ j_ : Int, (wrap64 (6 - (wrap64 (3 * x5_1)))) = j_ := ⟨_, rfl⟩
          replace H : (if 0 ≤ (ji4) then (if (ji4) ≤ (wrap64 (9 - (wrap64 (3 * x5_1)))) then (if (wrap64 (9 - (wrap64 (3 * x5_1)))) ≤ (a0.size : Int) then (creelref_ModeOf.l1 k1 a0 x4_1 x5_1 (a0.extract ((ji4) : Int).toNat ((wrap64 (9 - (wrap64 (3 * x5_1)))) : Int).toNat) false 0) else (none)) else (none)) else (none)) = some (r1, r2) := by first | (rw [hji4] at H; exact H) | (simp only [hji4] at H ⊢; exact H)
          have hji4w : (IntKind.i64.wrap (6 - (wrap64 (3 * x5_1)))) = ji4 := (i64_w _).trans hji4
          by_cases c5 : 0 ≤ (ji4)
          · rw [if_pos c5] at H
            have c5b0 := eq_true c5
            have c5b1 : decide (0 ≤ (ji4)) = true := decide_eq_true c5
            clear c5
            by_cases c6 : (ji4) ≤ (wrap64 (9 - (wrap64 (3 * x5_1))))
            · rw [if_pos c6] at H
              have c6b0 := eq_true c6
              have c6b1 : decide ((ji4) ≤ (wrap64 (9 - (wrap64 (3 * x5_1))))) = true := decide_eq_true c6
              clear c6
              by_cases c7 : (wrap64 (9 - (wrap64 (3 * x5_1)))) ≤ (a0.size : Int)
              · rw [if_pos c7] at H
                have c7b0 := eq_true c7
                have c7b1 : decide ((wrap64 (9 - (wrap64 (3 * x5_1)))) ≤ (a0.size : Int)) = true := decide_eq_true c7
                clear c7
                have H' := Aside0.mk H
                clear H
                go_wp2
                repeat (go_quiet (fail); try go_wp2)
                go_loopg [4, 7, 8] k1 (fun kq v4 v7 v8 w' => ∃ (x4_2 : Int) (x7_2 : Bool) (x8_2 : Int), v4 = .int .i64 x4_2 ∧ v7 = .bool x7_2 ∧ v8 = .int .i64 x8_2 ∧ Aside0 (creelref_ModeOf.l1 kq a0 x4_2 x5_1 (a0.extract ((ji4) : Int).toNat ((wrap64 (9 - (wrap64 (3 * x5_1)))) : Int).toNat) x7_2 x8_2 = some (r1, r2)) ∧ Aside0 (kq ≤ k1) ∧ Aside0 (Below w.heap.size w w'))
                case atStart => exact ⟨(x4_1), (false), (0), (by first | rfl | (simp; done) | (simp [*]; done)), (by first | rfl | (simp; done) | (simp [*]; done)), (by first | rfl | (simp; done) | (simp [*]; done)), H', ⟨Nat.le_refl _⟩, ⟨by repeat (first | (with_reducible first | exact HB.out | apply below_alloc | apply pw_below_drewN | apply below_drew1) | exact HB.out)⟩⟩
                case round =>
                  clear H'
                  try clear c2
                  try clear c2b0
                  try clear c2b1
                  try clear p2
                  try clear c3
                  try clear c3b0
                  try clear c5
                  try clear c5b0
                  try clear c5b1
                  try clear c6
                  try clear c6b0
                  try clear c6b1
                  try clear p6
                  try clear c7
                  try clear c7b0
                  try clear c7b1
                  try clear p2
                  obtain ⟨x4_2, x7_2, x8_2, rfl, rfl, rfl, HA, HK2, HB⟩ := hrel
                  cases gk with
                  | zero => exact absurd HA.out (by simp [creelref_ModeOf.l1])
                  | succ k2 =>
                    have H := HA.out
                    clear HA
                    simp only [creelref_ModeOf.l1] at H
                    by_cases c8 : x8_2 < 16
                    · rw [if_pos c8] at H
                      have c8b0 : decide (x8_2 < 16) = true := decide_eq_true c8
                      clear c8
                      replace H := Option.bind_eq_some_iff.mp H
                      obtain ⟨t101, A90, H⟩ := H
                      replace H : (if 0 ≤ x5_1 then ((creelref_ModeText.f (wrap64 ((wrap64 ((Int.tmod x8_2 8) * t101)) + (shl .i64 (wrap64 ((wrap64 (Int.tdiv x8_2 8)) * 512)) x5_1)))).bind fun bt102 => (if 0 ≤ (wrap64 (6 - (wrap64 (3 * x5_1)))) then (if (wrap64 (6 - (wrap64 (3 * x5_1)))) ≤ (wrap64 (9 - (wrap64 (3 * x5_1)))) then (if (wrap64 (9 - (wrap64 (3 * x5_1)))) ≤ (bt102.1.size : Int) then (if (bt102.1.extract ((wrap64 (6 - (wrap64 (3 * x5_1)))) : Int).toNat ((wrap64 (9 - (wrap64 (3 * x5_1)))) : Int).toNat).toList = (a0.extract ((ji4) : Int).toNat ((wrap64 (9 - (wrap64 (3 * x5_1)))) : Int).toNat).toList then (creelref_ModeOf.l1 k2 a0 (wrap64 (x4_2 + (wrap64 ((wrap64 ((Int.tmod x8_2 8) * t101)) + (shl .i64 (wrap64 ((wrap64 (Int.tdiv x8_2 8)) * 512)) x5_1))))) x5_1 (a0.extract ((ji4) : Int).toNat ((wrap64 (9 - (wrap64 (3 * x5_1)))) : Int).toNat) true (wrap64 (x8_2 + 1))) else (creelref_ModeOf.l1 k2 a0 x4_2 x5_1 (a0.extract ((ji4) : Int).toNat ((wrap64 (9 - (wrap64 (3 * x5_1)))) : Int).toNat) x7_2 (wrap64 (x8_2 + 1)))) else (none)) else (none)) else (none))) else (none)) = some (r1, r2) := H
                      have A9 := Aside0.mk A90
                      clear A90
                      by_cases c10 : 0 ≤ x5_1
                      · rw [if_pos c10] at H
                        have c10b0 := eq_true c10
                        have c10b1 : decide (0 ≤ x5_1) = true := decide_eq_true c10
                        clear c10
                        obtain ⟨ji11, hji11⟩ : ∃ j_ : Int, (shl .i64 (wrap64 ((wrap64 (Int.tdiv x8_2 8)) * 512)) x5_1) = j_ := ⟨_, rfl⟩
                        replace H : ((creelref_ModeText.f (wrap64 ((wrap64 ((Int.tmod x8_2 8) * t101)) + (ji11)))).bind fun bt102 => (if 0 ≤ (wrap64 (6 - (wrap64 (3 * x5_1)))) then (if (wrap64 (6 - (wrap64 (3 * x5_1)))) ≤ (wrap64 (9 - (wrap64 (3 * x5_1)))) then (if (wrap64 (9 - (wrap64 (3 * x5_1)))) ≤ (bt102.1.size : Int) then (if (bt102.1.extract ((wrap64 (6 - (wrap64 (3 * x5_1)))) : Int).toNat ((wrap64 (9 - (wrap64 (3 * x5_1)))) : Int).toNat).toList = (a0.extract ((ji4) : Int).toNat ((wrap64 (9 - (wrap64 (3 * x5_1)))) : Int).toNat).toList then (creelref_ModeOf.l1 k2 a0 (wrap64 (x4_2 + (wrap64 ((wrap64 ((Int.tmod x8_2 8) * t101)) + (ji11))))) x5_1 (a0.extract ((ji4) : Int).toNat ((wrap64 (9 - (wrap64 (3 * x5_1)))) : Int).toNat) true (wrap64 (x8_2 + 1))) else (creelref_ModeOf.l1 k2 a0 x4_2 x5_1 (a0.extract ((ji4) : Int).toNat ((wrap64 (9 - (wrap64 (3 * x5_1)))) : Int).toNat) x7_2 (wrap64 (x8_2 + 1)))) else (none)) else (none)) else (none))) = some (r1, r2) := by first | (rw [hji11] at H; exact H) | (simp only [hji11] at H ⊢; exact H)
                        (try rw [hji11] at A9)
                        have hji11_ : (IntKind.i64.wrap ((wrap64 ((wrap64 (Int.tdiv x8_2 8)) * 512)) * 2 ^ min x5_1.toNat 64)) = ji11 := hji11
                        have hji11z : x5_1 ≤ 64 → (IntKind.i64.wrap ((wrap64 ((wrap64 (Int.tdiv x8_2 8)) * 512)) * 2 ^ x5_1.toNat)) = ji11 := shl_small hji11
                        have hji11y : (wrap64 ((wrap64 ((wrap64 (Int.tdiv x8_2 8)) * 512)) * 2 ^ min x5_1.toNat 64)) = ji11 := (i64_w _).symm.trans hji11_
                        have hji11x : x5_1 ≤ 64 → (wrap64 ((wrap64 ((wrap64 (Int.tdiv x8_2 8)) * 512)) * 2 ^ x5_1.toNat)) = ji11 := fun h_ => (i64_w _).symm.trans (hji11z h_)
                        replace H := Option.bind_eq_some_iff.mp H
                        obtain ⟨⟨t102, t103⟩, A120, H⟩ := H
                        replace H : (if 0 ≤ (wrap64 (6 - (wrap64 (3 * x5_1)))) then (if (wrap64 (6 - (wrap64 (3 * x5_1)))) ≤ (wrap64 (9 - (wrap64 (3 * x5_1)))) then (if (wrap64 (9 - (wrap64 (3 * x5_1)))) ≤ (t102.size : Int) then (if (t102.extract ((wrap64 (6 - (wrap64 (3 * x5_1)))) : Int).toNat ((wrap64 (9 - (wrap64 (3 * x5_1)))) : Int).toNat).toList = (a0.extract ((ji4) : Int).toNat ((wrap64 (9 - (wrap64 (3 * x5_1)))) : Int).toNat).toList then (creelref_ModeOf.l1 k2 a0 (wrap64 (x4_2 + (wrap64 ((wrap64 ((Int.tmod x8_2 8) * t101)) + (ji11))))) x5_1 (a0.extract ((ji4) : Int).toNat ((wrap64 (9 - (wrap64 (3 * x5_1)))) : Int).toNat) true (wrap64 (x8_2 + 1))) else (creelref_ModeOf.l1 k2 a0 x4_2 x5_1 (a0.extract ((ji4) : Int).toNat ((wrap64 (9 - (wrap64 (3 * x5_1)))) : Int).toNat) x7_2 (wrap64 (x8_2 + 1)))) else (none)) else (none)) else (none)) = some (r1, r2) := H
                        have A12 := Aside0.mk A120
                        clear A120
                        have hji13 : (wrap64 (6 - (wrap64 (3 * x5_1)))) = ji4 := hji4
                        replace H : (if 0 ≤ (ji4) then (if (ji4) ≤ (wrap64 (9 - (wrap64 (3 * x5_1)))) then (if (wrap64 (9 - (wrap64 (3 * x5_1)))) ≤ (t102.size : Int) then (if (t102.extract ((ji4) : Int).toNat ((wrap64 (9 - (wrap64 (3 * x5_1)))) : Int).toNat).toList = (a0.extract ((ji4) : Int).toNat ((wrap64 (9 - (wrap64 (3 * x5_1)))) : Int).toNat).toList then (creelref_ModeOf.l1 k2 a0 (wrap64 (x4_2 + (wrap64 ((wrap64 ((Int.tmod x8_2 8) * t101)) + (ji11))))) x5_1 (a0.extract ((ji4) : Int).toNat ((wrap64 (9 - (wrap64 (3 * x5_1)))) : Int).toNat) true (wrap64 (x8_2 + 1))) else (creelref_ModeOf.l1 k2 a0 x4_2 x5_1 (a0.extract ((ji4) : Int).toNat ((wrap64 (9 - (wrap64 (3 * x5_1)))) : Int).toNat) x7_2 (wrap64 (x8_2 + 1)))) else (none)) else (none)) else (none)) = some (r1, r2) := by first | (rw [hji13] at H; exact H) | (simp only [hji13] at H ⊢; exact H)
                        (try rw [hji13] at A9)
                        (try rw [hji13] at A12)
                        have hji13w : (IntKind.i64.wrap (6 - (wrap64 (3 * x5_1)))) = ji4 := (i64_w _).trans hji13
                        by_cases c14 : 0 ≤ (ji4)
                        · rw [if_pos c14] at H
                          have c14b0 := eq_true c14
                          have c14b1 : decide (0 ≤ (ji4)) = true := decide_eq_true c14
                          clear c14
                          by_cases c15 : (ji4) ≤ (wrap64 (9 - (wrap64 (3 * x5_1))))
                          · rw [if_pos c15] at H
                            have c15b0 := eq_true c15
                            have c15b1 : decide ((ji4) ≤ (wrap64 (9 - (wrap64 (3 * x5_1))))) = true := decide_eq_true c15
                            clear c15
                            by_cases c16 : (wrap64 (9 - (wrap64 (3 * x5_1)))) ≤ (t102.size : Int)
                            · rw [if_pos c16] at H
                              have c16b0 := eq_true c16
                              have c16b1 : decide ((wrap64 (9 - (wrap64 (3 * x5_1)))) ≤ (t102.size : Int)) = true := decide_eq_true c16
                              clear c16
                              by_cases c17 : (t102.extract ((ji4) : Int).toNat ((wrap64 (9 - (wrap64 (3 * x5_1)))) : Int).toNat).toList = (a0.extract ((ji4) : Int).toNat ((wrap64 (9 - (wrap64 (3 * x5_1)))) : Int).toNat).toList
                              · rw [if_pos c17] at H
                                have c17b0 : ((t102.extract ((ji4) : Int).toNat ((wrap64 (9 - (wrap64 (3 * x5_1)))) : Int).toNat).toList == (a0.extract ((ji4) : Int).toNat ((wrap64 (9 - (wrap64 (3 * x5_1)))) : Int).toNat).toList) = true := beq_iff_eq.mpr c17
                                have c17b1 : ((t102.extract ((ji4) : Int).toNat ((wrap64 (9 - (wrap64 (3 * x5_1)))) : Int).toNat).toList != (a0.extract ((ji4) : Int).toNat ((wrap64 (9 - (wrap64 (3 * x5_1)))) : Int).toNat).toList) = false := bne_eq_false_iff_eq.mpr c17
                                clear c17
                                have H' := Aside0.mk H
                                clear H
                                go_wp2_with (first | (go_at_call 13; (with_reducible refine (creelref_power.calls k2 x5_1 t101 _ A9.out).mono ?_); rintro e w' ⟨rfl, ⟨nd, rfl⟩⟩; (try first | exact ⟨rfl, _, World.drewN_drewN _ _ _⟩ | exact ⟨rfl, _, Eq.trans (World.drewN_drewN _ _ _) (congrArg (World.drewN _) (Nat.add_assoc _ _ _))⟩)) | (go_at_call 7; (with_reducible refine (creelref_ModeText.calls (wrap64 ((wrap64 ((Int.tmod x8_2 8) * t101)) + (ji11))) t102 t103 _ A12.out).mono ?_); rintro e w18 ⟨rfl, hb⟩; have n0_ := Aside0.mk (below_step (by repeat (first | (with_reducible first | exact HB.out | apply below_alloc | apply pw_below_drewN | apply below_drew1) | exact HB.out)) hb); clear HB; have HB := n0_; clear n0_; (try clear hb); (try clear hb2); (try clear hk); (try clear hi)))
                                repeat (go_quiet (first | (go_at_call 13; (with_reducible refine (creelref_power.calls k2 x5_1 t101 _ A9.out).mono ?_); rintro e w' ⟨rfl, ⟨nd, rfl⟩⟩; (try first | exact ⟨rfl, _, World.drewN_drewN _ _ _⟩ | exact ⟨rfl, _, Eq.trans (World.drewN_drewN _ _ _) (congrArg (World.drewN _) (Nat.add_assoc _ _ _))⟩)) | (go_at_call 7; (with_reducible refine (creelref_ModeText.calls (wrap64 ((wrap64 ((Int.tmod x8_2 8) * t101)) + (ji11))) t102 t103 _ A12.out).mono ?_); rintro e w18 ⟨rfl, hb⟩; have n0_ := Aside0.mk (below_step (by repeat (first | (with_reducible first | exact HB.out | apply below_alloc | apply pw_below_drewN | apply below_drew1) | exact HB.out)) hb); clear HB; have HB := n0_; clear n0_; (try clear hb); (try clear hb2); (try clear hk); (try clear hi))); try go_wp2_with (first | (go_at_call 13; (with_reducible refine (creelref_power.calls k2 x5_1 t101 _ A9.out).mono ?_); rintro e w' ⟨rfl, ⟨nd, rfl⟩⟩; (try first | exact ⟨rfl, _, World.drewN_drewN _ _ _⟩ | exact ⟨rfl, _, Eq.trans (World.drewN_drewN _ _ _) (congrArg (World.drewN _) (Nat.add_assoc _ _ _))⟩)) | (go_at_call 7; (with_reducible refine (creelref_ModeText.calls (wrap64 ((wrap64 ((Int.tmod x8_2 8) * t101)) + (ji11))) t102 t103 _ A12.out).mono ?_); rintro e w18 ⟨rfl, hb⟩; have n0_ := Aside0.mk (below_step (by repeat (first | (with_reducible first | exact HB.out | apply below_alloc | apply pw_below_drewN | apply below_drew1) | exact HB.out)) hb); clear HB; have HB := n0_; clear n0_; (try clear hb); (try clear hb2); (try clear hk); (try clear hi))))
                                go_roundg k2
                                case measure => have := HK1.out; have := HK2.out; omega
                                case rel => exact ⟨(wrap64 (x4_2 + (wrap64 ((wrap64 ((Int.tmod x8_2 8) * t101)) + (ji11))))), (true), (wrap64 (x8_2 + 1)), (by first | rfl | (simp; done) | (simp only [← hji11] <;> (first | rfl | simp)) | (simp [*]; done)), (by first | rfl | (simp; done) | (simp [*]; done)), (by first | rfl | (simp; done) | (simp [*]; done)), H', ⟨by have := HK1.out; have := HK2.out; omega⟩, ⟨by repeat (first | (with_reducible first | exact HB.out | apply below_alloc | apply pw_below_drewN | apply below_drew1) | exact HB.out)⟩⟩
                              · rw [if_neg c17] at H
                                have c17b0 : ((t102.extract ((ji4) : Int).toNat ((wrap64 (9 - (wrap64 (3 * x5_1)))) : Int).toNat).toList == (a0.extract ((ji4) : Int).toNat ((wrap64 (9 - (wrap64 (3 * x5_1)))) : Int).toNat).toList) = false := beq_eq_false_iff_ne.mpr c17
                                have c17b1 : ((t102.extract ((ji4) : Int).toNat ((wrap64 (9 - (wrap64 (3 * x5_1)))) : Int).toNat).toList != (a0.extract ((ji4) : Int).toNat ((wrap64 (9 - (wrap64 (3 * x5_1)))) : Int).toNat).toList) = true := bne_iff_ne.mpr c17
                                have H' := Aside0.mk H
                                clear H
                                go_wp2_with (first | (go_at_call 13; (with_reducible refine (creelref_power.calls k2 x5_1 t101 _ A9.out).mono ?_); rintro e w' ⟨rfl, ⟨nd, rfl⟩⟩; (try first | exact ⟨rfl, _, World.drewN_drewN _ _ _⟩ | exact ⟨rfl, _, Eq.trans (World.drewN_drewN _ _ _) (congrArg (World.drewN _) (Nat.add_assoc _ _ _))⟩)) | (go_at_call 7; (with_reducible refine (creelref_ModeText.calls (wrap64 ((wrap64 ((Int.tmod x8_2 8) * t101)) + (ji11))) t102 t103 _ A12.out).mono ?_); rintro e w19 ⟨rfl, hb⟩; have n0_ := Aside0.mk (below_step (by repeat (first | (with_reducible first | exact HB.out | apply below_alloc | apply pw_below_drewN | apply below_drew1) | exact HB.out)) hb); clear HB; have HB := n0_; clear n0_; (try clear hb); (try clear hb2); (try clear hk); (try clear hi)))
                                repeat (go_quiet (first | (go_at_call 13; (with_reducible refine (creelref_power.calls k2 x5_1 t101 _ A9.out).mono ?_); rintro e w' ⟨rfl, ⟨nd, rfl⟩⟩; (try first | exact ⟨rfl, _, World.drewN_drewN _ _ _⟩ | exact ⟨rfl, _, Eq.trans (World.drewN_drewN _ _ _) (congrArg (World.drewN _) (Nat.add_assoc _ _ _))⟩)) | (go_at_call 7; (with_reducible refine (creelref_ModeText.calls (wrap64 ((wrap64 ((Int.tmod x8_2 8) * t101)) + (ji11))) t102 t103 _ A12.out).mono ?_); rintro e w19 ⟨rfl, hb⟩; have n0_ := Aside0.mk (below_step (by repeat (first | (with_reducible first | exact HB.out | apply below_alloc | apply pw_below_drewN | apply below_drew1) | exact HB.out)) hb); clear HB; have HB := n0_; clear n0_; (try clear hb); (try clear hb2); (try clear hk); (try clear hi))); try go_wp2_with (first | (go_at_call 13; (with_reducible refine (creelref_power.calls k2 x5_1 t101 _ A9.out).mono ?_); rintro e w' ⟨rfl, ⟨nd, rfl⟩⟩; (try first | exact ⟨rfl, _, World.drewN_drewN _ _ _⟩ | exact ⟨rfl, _, Eq.trans (World.drewN_drewN _ _ _) (congrArg (World.drewN _) (Nat.add_assoc _ _ _))⟩)) | (go_at_call 7; (with_reducible refine (creelref_ModeText.calls (wrap64 ((wrap64 ((Int.tmod x8_2 8) * t101)) + (ji11))) t102 t103 _ A12.out).mono ?_); rintro e w19 ⟨rfl, hb⟩; have n0_ := Aside0.mk (below_step (by repeat (first | (with_reducible first | exact HB.out | apply below_alloc | apply pw_below_drewN | apply below_drew1) | exact HB.out)) hb); clear HB; have HB := n0_; clear n0_; (try clear hb); (try clear hb2); (try clear hk); (try clear hi))))
                                go_roundg k2
                                case measure => have := HK1.out; have := HK2.out; omega
                                case rel => exact ⟨(x4_2), (x7_2), (wrap64 (x8_2 + 1)), (by first | rfl | (simp; done) | (simp [*]; done)), (by first | rfl | (simp; done) | (simp [*]; done)), (by first | rfl | (simp; done) | (simp [*]; done)), H', ⟨by have := HK1.out; have := HK2.out; omega⟩, ⟨by repeat (first | (with_reducible first | exact HB.out | apply below_alloc | apply pw_below_drewN | apply below_drew1) | exact HB.out)⟩⟩
                            · rw [if_neg c16] at H
                              exact absurd H (by simp)
                          · rw [if_neg c15] at H
                            exact absurd H (by simp)
                        · rw [if_neg c14] at H
                          exact absurd H (by simp)
                      · rw [if_neg c10] at H
                        exact absurd H (by simp)
                    · rw [if_neg c8] at H
                      have c8b0 : decide (x8_2 < 16) = false := decide_eq_false c8
                      clear c8
                      by_cases c20 : x7_2 = true
                      · subst c20
                        have H1 : (creelref_ModeOf.l0 k2 a0 x4_2 (wrap64 (x5_1 - 1))) = some (r1, r2) := by rw [if_pos rfl] at H; exact H
                        clear H
                        have H := H1
                        clear H1
                        have H' := Aside0.mk H
                        clear H
                        go_wp2
                        repeat (go_quiet (fail); try go_wp2)
                        go_roundg k2
                        case measure => have := HK1.out; have := HK2.out; omega
                        case rel => exact ⟨(x4_2), (wrap64 (x5_1 - 1)), (by first | rfl | (simp; done) | (simp [*]; done)), (by first | rfl | (simp; done) | (simp [*]; done)), H', ⟨by have := HK1.out; have := HK2.out; omega⟩, ⟨by repeat (first | (with_reducible first | exact HB.out | apply below_alloc | apply pw_below_drewN | apply below_drew1) | exact HB.out)⟩⟩
                      · replace c20 := Bool.eq_false_iff.mpr c20
                        subst c20
                        have H1 : (some (0, 3)) = some (r1, r2) := by rw [if_neg (show ¬ (false = true) by decide)] at H; exact H
                        clear H
                        have H := H1
                        clear H1
                        simp only [Option.some.injEq, Prod.mk.injEq] at H
                        obtain ⟨rfl, rfl⟩ := H
                        go_wp2
                        repeat (go_quiet (fail); try go_wp2)
                        go_ret2
                        exact ⟨by first | rfl | (simp [errW_none, errW_some] <;> rfl) | (simp only [← hji4]; first | rfl | (simp [errW_none, errW_some] <;> rfl)) | (simp [*, errW_none, errW_some] <;> rfl), by repeat (first | (with_reducible first | exact HB.out | apply below_alloc | apply pw_below_drewN | apply below_drew1) | exact HB.out)⟩
              · rw [if_neg c7] at H
                exact absurd H (by simp)
            · rw [if_neg c6] at H
              exact absurd H (by simp)
          · rw [if_neg c5] at H
            exact absurd H (by simp)
        · rw [if_neg c3] at H
          have c3b0 : decide (0 ≤ x5_1) = false := decide_eq_false c3
          clear c3
          simp only [Option.some.injEq, Prod.mk.injEq] at H
          obtain ⟨rfl, rfl⟩ := H
          go_wp2
          repeat (go_quiet (fail); try go_wp2)
          go_ret2
          exact ⟨by first | rfl | (simp [errW_none, errW_some] <;> rfl) | (simp [*, errW_none, errW_some] <;> rfl), by repeat (first | (with_reducible first | exact HB.out | apply below_alloc | apply pw_below_drewN | apply below_drew1) | exact HB.out)⟩
  · rw [if_neg c2] at H
    have c2b0 : ((a0.size : Int) == 9) = false := beq_eq_false_iff_ne.mpr c2
    have c2b1 : ((a0.size : Int) != 9) = true := bne_iff_ne.mpr c2
    simp only [Option.some.injEq, Prod.mk.injEq] at H
    obtain ⟨rfl, rfl⟩ := H
    go_enter Try.func9, Try.ntmps9
    go_wp2
    repeat (go_quiet (fail); try go_wp2)
    go_ret2
    exact ⟨by first | rfl | (simp [errW_none, errW_some] <;> rfl) | (simp [*, errW_none, errW_some] <;> rfl), by repeat (first | (with_reducible first | exact HB.out | apply below_alloc | apply pw_below_drewN | apply below_drew1) | exact HB.out)⟩

end Go.Proofs.Ytmcofelbcjgagaa.All
