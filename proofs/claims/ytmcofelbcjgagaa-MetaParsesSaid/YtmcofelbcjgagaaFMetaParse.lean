/- Made by a program of the prover (over the print of the kit): a Lean function with the answers of a Go function, and the proof that the call comes to them; conditions: those in the statements alone. -/
import Derived.Test.YtmcofelbcjgagaaK
namespace Go.Proofs.Ytmcofelbcjgagaa.All
open Go.RowKit Go.Proofs.YtmcofelbcjgagaaW.PrintWords Go.Proofs.YtmcofelbcjgagaaW.PrintLast Go.Proofs.YtmcofelbcjgagaaW.PrintMore
open Go.Proofs.YtmcofelbcjgagaaW.Mine
attribute [local go_sem] gtr_string leq_string geq_string
attribute [local go_sem] max2_int min2_int max_two min_two max_three min_three max_four min_four   -- for this text's walks alone
set_option linter.unusedVariables false
set_option linter.unusedSimpArgs false

/-! ### meta_Parse: function 8 -/
mutual
def meta_Parse.l0 : Nat → ByteArray → Int → Int → Int → Option (Int × Int)
  | 0, _, _, _, _ => none
  | k + 1, x0, x4, x15, x16 => if x16 < x15 then (if 0 ≤ (wrap64 (11 - (wrap64 (Int.tdiv x16 3)))) then (if x16 = 8 then (meta_Parse.j1 k x0 x4 x16 ((Int.tmod x16 3) == 2) (shl .i64 1 (wrap64 (11 - (wrap64 (Int.tdiv x16 3))))) 116 84 x15 x16) else (meta_Parse.j1 k x0 x4 x16 ((Int.tmod x16 3) == 2) (shl .i64 1 (wrap64 (11 - (wrap64 (Int.tdiv x16 3))))) 115 83 x15 x16)) else (none)) else (some (x4, 0))
def meta_Parse.j1 : Nat → ByteArray → Int → Int → Bool → Int → Int → Int → Int → Int → Option (Int × Int)
  | 0, _, _, _, _, _, _, _, _, _ => none
  | k + 1, x0, x4, x5, x6, x7, x8, x9, x15, x16 => if 0 ≤ x5 then (if x5 < (x0.size : Int) then (if x5 < 9 then (if (bt x0 x5) = (bt (⟨#[114, 119, 120, 114, 119, 120, 114, 119, 120]⟩ : ByteArray) x5) then (if 0 ≤ (wrap64 (8 - x5)) then (meta_Parse.l0 k x0 (Go.bits .or .i64 x4 (shl .i64 1 (wrap64 (8 - x5)))) x15 (wrap64 (x16 + 1))) else (none)) else (if x6 = true then (meta_Parse.j2 k x0 x4 x5 x6 x7 x9 (bt x0 x5) x15 x16 ((bt x0 x5) == x8)) else (meta_Parse.j2 k x0 x4 x5 x6 x7 x9 (bt x0 x5) x15 x16 false))) else (none)) else (none)) else (none)
def meta_Parse.j2 : Nat → ByteArray → Int → Int → Bool → Int → Int → Int → Int → Int → Bool → Option (Int × Int)
  | 0, _, _, _, _, _, _, _, _, _, _ => none
  | k + 1, x0, x4, x5, x6, x7, x9, x10, x15, x16, x41 => if x41 = true then (if 0 ≤ (wrap64 (8 - x5)) then (meta_Parse.l0 k x0 (Go.bits .or .i64 x4 (Go.bits .or .i64 (shl .i64 1 (wrap64 (8 - x5))) x7)) x15 (wrap64 (x16 + 1))) else (none)) else (if x6 = true then (meta_Parse.j3 k x0 x4 x7 x10 x15 x16 (x10 == x9)) else (meta_Parse.j3 k x0 x4 x7 x10 x15 x16 false))
def meta_Parse.j3 : Nat → ByteArray → Int → Int → Int → Int → Int → Bool → Option (Int × Int)
  | 0, _, _, _, _, _, _, _ => none
  | k + 1, x0, x4, x7, x10, x15, x16, x55 => if x55 = true then (meta_Parse.l0 k x0 (Go.bits .or .i64 x4 x7) x15 (wrap64 (x16 + 1))) else (if x10 = 45 then (meta_Parse.l0 k x0 x4 x15 (wrap64 (x16 + 1))) else (some (0, 3)))
end
def meta_Parse.f (k : Nat) (a0 : ByteArray) : Option (Int × Int) := if (a0.size : Int) = 9 then (meta_Parse.l0 k a0 0 (a0.size : Int) 0) else (some (0, 1))
theorem meta_Parse.mono_l : ∀ k, (∀ y0 y1 y2 y3, LeO (meta_Parse.l0 k y0 y1 y2 y3) (meta_Parse.l0 (k + 1) y0 y1 y2 y3)) ∧ (∀ y0 y1 y2 y3 y4 y5 y6 y7 y8, LeO (meta_Parse.j1 k y0 y1 y2 y3 y4 y5 y6 y7 y8) (meta_Parse.j1 (k + 1) y0 y1 y2 y3 y4 y5 y6 y7 y8)) ∧ (∀ y0 y1 y2 y3 y4 y5 y6 y7 y8 y9, LeO (meta_Parse.j2 k y0 y1 y2 y3 y4 y5 y6 y7 y8 y9) (meta_Parse.j2 (k + 1) y0 y1 y2 y3 y4 y5 y6 y7 y8 y9)) ∧ (∀ y0 y1 y2 y3 y4 y5 y6, LeO (meta_Parse.j3 k y0 y1 y2 y3 y4 y5 y6) (meta_Parse.j3 (k + 1) y0 y1 y2 y3 y4 y5 y6))
  | 0 => ⟨fun _ _ _ _ r h => by simp [meta_Parse.l0] at h, fun _ _ _ _ _ _ _ _ _ r h => by simp [meta_Parse.j1] at h, fun _ _ _ _ _ _ _ _ _ _ r h => by simp [meta_Parse.j2] at h, fun _ _ _ _ _ _ _ r h => by simp [meta_Parse.j3] at h⟩
  | k + 1 => by
    obtain ⟨ih0, ih1, ih2, ih3⟩ := meta_Parse.mono_l k
    refine ⟨?_, ?_, ?_, ?_⟩
    · intro y0 y1 y2 y3
      unfold meta_Parse.l0
      repeat' first
      | (with_reducible exact ih0 _ _ _ _)
      | (with_reducible exact ih1 _ _ _ _ _ _ _ _ _)
      | (with_reducible exact ih2 _ _ _ _ _ _ _ _ _ _)
      | (with_reducible exact ih3 _ _ _ _ _ _ _)
      | (with_reducible exact LeO.refl _)
      | (with_reducible exact LeO.none _)
      | (with_reducible refine LeO.ite ?_ ?_)
      | (with_reducible refine LeO.bind ?_ (fun _ => ?_))
      | exact ih0 _ _ _ _
      | exact ih1 _ _ _ _ _ _ _ _ _
      | exact ih2 _ _ _ _ _ _ _ _ _ _
      | exact ih3 _ _ _ _ _ _ _
      | exact LeO.none _
      | refine LeO.ite ?_ ?_
      | refine LeO.bind ?_ (fun _ => ?_)
    · intro y0 y1 y2 y3 y4 y5 y6 y7 y8
      unfold meta_Parse.j1
      repeat' first
      | (with_reducible exact ih0 _ _ _ _)
      | (with_reducible exact ih1 _ _ _ _ _ _ _ _ _)
      | (with_reducible exact ih2 _ _ _ _ _ _ _ _ _ _)
      | (with_reducible exact ih3 _ _ _ _ _ _ _)
      | (with_reducible exact LeO.refl _)
      | (with_reducible exact LeO.none _)
      | (with_reducible refine LeO.ite ?_ ?_)
      | (with_reducible refine LeO.bind ?_ (fun _ => ?_))
      | exact ih0 _ _ _ _
      | exact ih1 _ _ _ _ _ _ _ _ _
      | exact ih2 _ _ _ _ _ _ _ _ _ _
      | exact ih3 _ _ _ _ _ _ _
      | exact LeO.none _
      | refine LeO.ite ?_ ?_
      | refine LeO.bind ?_ (fun _ => ?_)
    · intro y0 y1 y2 y3 y4 y5 y6 y7 y8 y9
      unfold meta_Parse.j2
      repeat' first
      | (with_reducible exact ih0 _ _ _ _)
      | (with_reducible exact ih1 _ _ _ _ _ _ _ _ _)
      | (with_reducible exact ih2 _ _ _ _ _ _ _ _ _ _)
      | (with_reducible exact ih3 _ _ _ _ _ _ _)
      | (with_reducible exact LeO.refl _)
      | (with_reducible exact LeO.none _)
      | (with_reducible refine LeO.ite ?_ ?_)
      | (with_reducible refine LeO.bind ?_ (fun _ => ?_))
      | exact ih0 _ _ _ _
      | exact ih1 _ _ _ _ _ _ _ _ _
      | exact ih2 _ _ _ _ _ _ _ _ _ _
      | exact ih3 _ _ _ _ _ _ _
      | exact LeO.none _
      | refine LeO.ite ?_ ?_
      | refine LeO.bind ?_ (fun _ => ?_)
    · intro y0 y1 y2 y3 y4 y5 y6
      unfold meta_Parse.j3
      repeat' first
      | (with_reducible exact ih0 _ _ _ _)
      | (with_reducible exact ih1 _ _ _ _ _ _ _ _ _)
      | (with_reducible exact ih2 _ _ _ _ _ _ _ _ _ _)
      | (with_reducible exact ih3 _ _ _ _ _ _ _)
      | (with_reducible exact LeO.refl _)
      | (with_reducible exact LeO.none _)
      | (with_reducible refine LeO.ite ?_ ?_)
      | (with_reducible refine LeO.bind ?_ (fun _ => ?_))
      | exact ih0 _ _ _ _
      | exact ih1 _ _ _ _ _ _ _ _ _
      | exact ih2 _ _ _ _ _ _ _ _ _ _
      | exact ih3 _ _ _ _ _ _ _
      | exact LeO.none _
      | refine LeO.ite ?_ ?_
      | refine LeO.bind ?_ (fun _ => ?_)
theorem meta_Parse.mono : ∀ a0 k, LeO (meta_Parse.f k a0) (meta_Parse.f (k + 1) a0) := by
  intro a0 k
  obtain ⟨ih0, ih1, ih2, ih3⟩ := meta_Parse.mono_l k
  unfold meta_Parse.f
  repeat' first
      | (with_reducible exact ih0 _ _ _ _)
      | (with_reducible exact ih1 _ _ _ _ _ _ _ _ _)
      | (with_reducible exact ih2 _ _ _ _ _ _ _ _ _ _)
      | (with_reducible exact ih3 _ _ _ _ _ _ _)
      | (with_reducible exact LeO.refl _)
      | (with_reducible exact LeO.none _)
      | (with_reducible refine LeO.ite ?_ ?_)
      | (with_reducible refine LeO.bind ?_ (fun _ => ?_))
      | exact ih0 _ _ _ _
      | exact ih1 _ _ _ _ _ _ _ _ _
      | exact ih2 _ _ _ _ _ _ _ _ _ _
      | exact ih3 _ _ _ _ _ _ _
      | exact LeO.none _
      | refine LeO.ite ?_ ?_
      | refine LeO.bind ?_ (fun _ => ?_)
set_option maxHeartbeats 8000000 in
set_option maxRecDepth 100000 in
theorem meta_Parse.calls (k : Nat) (a0 : ByteArray) (r1 : Int) (r2 : Int) (w : World) (h : meta_Parse.f k a0 = some (r1, r2)) :
    Calls Try.prog 8 #[.string a0] w fun e w' => e = .returned (.tuple #[.int .i64 r1, .int .i64 r2]) ∧ Drawn0 w w' := by
  have H : (if (a0.size : Int) = 9 then (meta_Parse.l0 k a0 0 (a0.size : Int) 0) else (some (0, 1))) = some (r1, r2) := h
  clear h
  by_cases c2 : (a0.size : Int) = 9
  · rw [if_pos c2] at H
    have c2b0 : ((a0.size : Int) == 9) = true := beq_iff_eq.mpr c2
    have c2b1 : ((a0.size : Int) != 9) = false := bne_eq_false_iff_eq.mpr c2
    clear c2
    have H' := Aside0.mk H
    clear H
    go_enter Try.func8, Try.ntmps8
    go_wp2
    go_loopg [4, 16] k (fun kq v4 v16 w' => ∃ (x4_1 : Int) (x16_1 : Int), v4 = .int .i64 x4_1 ∧ v16 = .int .i64 x16_1 ∧ Aside0 (meta_Parse.l0 kq a0 x4_1 (a0.size : Int) x16_1 = some (r1, r2)) ∧ Aside0 (kq ≤ k) ∧ Drawn0 w w')
    case atStart => exact ⟨(0), (0), (by first | rfl | (simp; done) | (simp [*]; done)), (by first | rfl | (simp; done) | (simp [*]; done)), H', ⟨Nat.le_refl _⟩, by repeat (first | exact Drawn0.refl _ | apply Drawn0.step)⟩
    case round =>
      clear H'
      try clear c2
      try clear c2b0
      try clear c2b1
      try clear p2
      obtain ⟨x4_1, x16_1, rfl, rfl, HA, HK1, ⟨m1, rfl⟩⟩ := hrel
      cases gk with
      | zero => exact absurd HA.out (by simp [meta_Parse.l0])
      | succ k1 =>
        have H := HA.out
        clear HA
        simp only [meta_Parse.l0] at H
        by_cases c3 : x16_1 < (a0.size : Int)
        · rw [if_pos c3] at H
          have c3b0 : decide (x16_1 < (a0.size : Int)) = true := decide_eq_true c3
          clear c3
          obtain ⟨ji4, hji4⟩ : ∃ j_ : Int, (wrap64 (11 - (wrap64 (Int.tdiv x16_1 3)))) = j_ := ⟨_, rfl⟩
          replace H : (if 0 ≤ (ji4) then (if x16_1 = 8 then (meta_Parse.j1 k1 a0 x4_1 x16_1 ((Int.tmod x16_1 3) == 2) (shl .i64 1 (ji4)) 116 84 (a0.size : Int) x16_1) else (meta_Parse.j1 k1 a0 x4_1 x16_1 ((Int.tmod x16_1 3) == 2) (shl .i64 1 (ji4)) 115 83 (a0.size : Int) x16_1)) else (none)) = some (r1, r2) := by first | (rw [hji4] at H; exact H) | (simp only [hji4] at H ⊢; exact H)
          have hji4w : (IntKind.i64.wrap (11 - (wrap64 (Int.tdiv x16_1 3)))) = ji4 := (i64_w _).trans hji4
          by_cases c5 : 0 ≤ (ji4)
          · rw [if_pos c5] at H
            have c5b0 := eq_true c5
            have c5b1 : decide (0 ≤ (ji4)) = true := decide_eq_true c5
            clear c5
            obtain ⟨ji6, hji6⟩ : ∃ j_ : Int, (shl .i64 1 (ji4)) = j_ := ⟨_, rfl⟩
            replace H : (if x16_1 = 8 then (meta_Parse.j1 k1 a0 x4_1 x16_1 ((Int.tmod x16_1 3) == 2) ji6 116 84 (a0.size : Int) x16_1) else (meta_Parse.j1 k1 a0 x4_1 x16_1 ((Int.tmod x16_1 3) == 2) ji6 115 83 (a0.size : Int) x16_1)) = some (r1, r2) := by first | (rw [hji6] at H; exact H) | (simp only [hji6] at H ⊢; exact H)
            have hji6_ : (IntKind.i64.wrap (1 * 2 ^ min (ji4).toNat 64)) = ji6 := hji6
            have hji6z : (ji4) ≤ 64 → (IntKind.i64.wrap (1 * 2 ^ (ji4).toNat)) = ji6 := shl_small hji6
            have hji6u : (IntKind.i64.wrap (2 ^ min (ji4).toNat 64)) = ji6 := by have h_ := hji6_; rw [Int.one_mul] at h_; exact h_
            have hji6v : (ji4) ≤ 64 → (IntKind.i64.wrap (2 ^ (ji4).toNat)) = ji6 := fun hle_ => by have h_ := hji6z hle_; rw [Int.one_mul] at h_; exact h_
            have hji6y : (wrap64 (1 * 2 ^ min (ji4).toNat 64)) = ji6 := (i64_w _).symm.trans hji6_
            have hji6x : (ji4) ≤ 64 → (wrap64 (1 * 2 ^ (ji4).toNat)) = ji6 := fun h_ => (i64_w _).symm.trans (hji6z h_)
            have HC7 := Aside0.mk H
            clear H
            go_upto_if 27 with (fail)
            go_cut [8, 9] (fun v8 v9 wc => ∃ (kq : Nat) (x8_6 : Int) (x9_6 : Int), v8 = .int .u8 x8_6 ∧ v9 = .int .u8 x9_6 ∧ Aside0 (meta_Parse.j1 kq a0 x4_1 x16_1 ((Int.tmod x16_1 3) == 2) ji6 x8_6 x9_6 (a0.size : Int) x16_1 = some (r1, r2)) ∧ Aside0 (kq ≤ k1) ∧ Drawn0 w wc)
            case first =>
              have H := HC7.out
              clear HC7
              by_cases c8 : x16_1 = 8
              · rw [if_pos c8] at H
                have c8b0 : (x16_1 == 8) = true := beq_iff_eq.mpr c8
                have c8b1 : (x16_1 != 8) = false := bne_eq_false_iff_eq.mpr c8
                clear c8
                (first | rw [c8b0] | (simp only [i64_w, i32_w]; rw [c8b0]) | skip)
                have H' := Aside0.mk H
                clear H
                go_wp2
                go_meet
                case rel => exact ⟨_, (116), (84), (by first | rfl | (simp; done) | (simp [*]; done)), (by first | rfl | (simp; done) | (simp [*]; done)), H', ⟨by have := HK1.out; first | omega | exact Nat.le_refl _⟩, by repeat (first | exact Drawn0.refl _ | apply Drawn0.step)⟩
              · rw [if_neg c8] at H
                have c8b0 : (x16_1 == 8) = false := beq_eq_false_iff_ne.mpr c8
                have c8b1 : (x16_1 != 8) = true := bne_iff_ne.mpr c8
                (first | rw [c8b0] | (simp only [i64_w, i32_w]; rw [c8b0]) | skip)
                have H' := Aside0.mk H
                clear H
                go_wp2
                go_meet
                case rel => exact ⟨_, (115), (83), (by first | rfl | (simp; done) | (simp [*]; done)), (by first | rfl | (simp; done) | (simp [*]; done)), H', ⟨by have := HK1.out; first | omega | exact Nat.le_refl _⟩, by repeat (first | exact Drawn0.refl _ | apply Drawn0.step)⟩
            case rest =>
              clear HC7
              try clear c2
              try clear c2b0
              try clear c2b1
              try clear p2
              try clear c3
              try clear c3b0
              try clear c5
              try clear c5b0
              try clear c5b1
              try clear p6
              try clear c8
              try clear c8b0
              try clear c8b1
              try clear p2
              obtain ⟨kq, x8_6, x9_6, rfl, rfl, HA, HJ6, ⟨mc6, rfl⟩⟩ := hcut
              cases kq with
              | zero => exact absurd HA.out (by simp [meta_Parse.j1])
              | succ kj6 =>
                have H := HA.out
                clear HA
                simp only [meta_Parse.j1] at H
                by_cases c9 : 0 ≤ x16_1
                · rw [if_pos c9] at H
                  have c9b0 : decide (0 ≤ x16_1) = true := decide_eq_true c9
                  clear c9
                  by_cases c10 : x16_1 < (a0.size : Int)
                  · rw [if_pos c10] at H
                    have c10b0 : decide (x16_1 < (a0.size : Int)) = true := decide_eq_true c10
                    clear c10
                    by_cases c12 : x16_1 < 9
                    · rw [if_pos c12] at H
                      have c12b0 : decide (x16_1 < 9) = true := decide_eq_true c12
                      clear c12
                      by_cases c14 : (bt a0 x16_1) = (bt (⟨#[114, 119, 120, 114, 119, 120, 114, 119, 120]⟩ : ByteArray) x16_1)
                      · rw [if_pos c14] at H
                        have c14b0 : ((bt a0 x16_1) == (bt (⟨#[114, 119, 120, 114, 119, 120, 114, 119, 120]⟩ : ByteArray) x16_1)) = true := beq_iff_eq.mpr c14
                        have c14b1 : ((bt a0 x16_1) != (bt (⟨#[114, 119, 120, 114, 119, 120, 114, 119, 120]⟩ : ByteArray) x16_1)) = false := bne_eq_false_iff_eq.mpr c14
                        clear c14
                        obtain ⟨ji15, hji15⟩ : ∃ j_ : Int, (wrap64 (8 - x16_1)) = j_ := ⟨_, rfl⟩
                        replace H : (if 0 ≤ (ji15) then (meta_Parse.l0 kj6 a0 (Go.bits .or .i64 x4_1 (shl .i64 1 (ji15))) (a0.size : Int) (wrap64 (x16_1 + 1))) else (none)) = some (r1, r2) := by first | (rw [hji15] at H; exact H) | (simp only [hji15] at H ⊢; exact H)
                        have hji15w : (IntKind.i64.wrap (8 - x16_1)) = ji15 := (i64_w _).trans hji15
                        by_cases c16 : 0 ≤ (ji15)
                        · rw [if_pos c16] at H
                          have c16b0 := eq_true c16
                          have c16b1 : decide (0 ≤ (ji15)) = true := decide_eq_true c16
                          clear c16
                          obtain ⟨ji17, hji17⟩ : ∃ j_ : Int, (shl .i64 1 (ji15)) = j_ := ⟨_, rfl⟩
                          replace H : (meta_Parse.l0 kj6 a0 (Go.bits .or .i64 x4_1 (ji17)) (a0.size : Int) (wrap64 (x16_1 + 1))) = some (r1, r2) := by first | (rw [hji17] at H; exact H) | (simp only [hji17] at H ⊢; exact H)
                          have hji17_ : (IntKind.i64.wrap (1 * 2 ^ min (ji15).toNat 64)) = ji17 := hji17
                          have hji17z : (ji15) ≤ 64 → (IntKind.i64.wrap (1 * 2 ^ (ji15).toNat)) = ji17 := shl_small hji17
                          have hji17u : (IntKind.i64.wrap (2 ^ min (ji15).toNat 64)) = ji17 := by have h_ := hji17_; rw [Int.one_mul] at h_; exact h_
                          have hji17v : (ji15) ≤ 64 → (IntKind.i64.wrap (2 ^ (ji15).toNat)) = ji17 := fun hle_ => by have h_ := hji17z hle_; rw [Int.one_mul] at h_; exact h_
                          have hji17y : (wrap64 (1 * 2 ^ min (ji15).toNat 64)) = ji17 := (i64_w _).symm.trans hji17_
                          have hji17x : (ji15) ≤ 64 → (wrap64 (1 * 2 ^ (ji15).toNat)) = ji17 := fun h_ => (i64_w _).symm.trans (hji17z h_)
                          have H' := Aside0.mk H
                          clear H
                          have p11 : 0 ≤ (x16_1 : Int) := of_decide_eq_true (by first | (with_reducible assumption) | assumption)
                          have q11 : x16_1 < (a0.size : Int) := of_decide_eq_true (by first | (with_reducible assumption) | assumption)
                          have hx11 := bt_at a0 x16_1
                          replace p11 := eq_true p11
                          replace q11 := eq_true q11
                          have p13 : 0 ≤ (x16_1 : Int) := of_decide_eq_true (by first | (with_reducible assumption) | assumption)
                          have q13 : x16_1 < (9 : Int) := of_decide_eq_true (by first | (with_reducible assumption) | assumption)
                          have hx13 := bt_at (⟨#[114, 119, 120, 114, 119, 120, 114, 119, 120]⟩ : ByteArray) x16_1
                          replace p13 := eq_true p13
                          replace q13 := eq_true q13
                          go_wp2
                          go_roundg kj6
                          case measure => have := HK1.out; have := HJ6.out; omega
                          case rel => exact ⟨(Go.bits .or .i64 x4_1 (ji17)), (wrap64 (x16_1 + 1)), (by first | rfl | (simp; done) | (simp only [← hji17] <;> (first | rfl | simp)) | (simp [*]; done)), (by first | rfl | (simp; done) | (simp [*]; done)), H', ⟨by have := HK1.out; have := HJ6.out; omega⟩, by repeat (first | exact Drawn0.refl _ | apply Drawn0.step)⟩
                        · rw [if_neg c16] at H
                          exact absurd H (by simp)
                      · rw [if_neg c14] at H
                        have c14b0 : ((bt a0 x16_1) == (bt (⟨#[114, 119, 120, 114, 119, 120, 114, 119, 120]⟩ : ByteArray) x16_1)) = false := beq_eq_false_iff_ne.mpr c14
                        have c14b1 : ((bt a0 x16_1) != (bt (⟨#[114, 119, 120, 114, 119, 120, 114, 119, 120]⟩ : ByteArray) x16_1)) = true := bne_iff_ne.mpr c14
                        have HC18 := Aside0.mk H
                        clear H
                        have p11 : 0 ≤ (x16_1 : Int) := of_decide_eq_true (by first | (with_reducible assumption) | assumption)
                        have q11 : x16_1 < (a0.size : Int) := of_decide_eq_true (by first | (with_reducible assumption) | assumption)
                        have hx11 := bt_at a0 x16_1
                        replace p11 := eq_true p11
                        replace q11 := eq_true q11
                        have p13 : 0 ≤ (x16_1 : Int) := of_decide_eq_true (by first | (with_reducible assumption) | assumption)
                        have q13 : x16_1 < (9 : Int) := of_decide_eq_true (by first | (with_reducible assumption) | assumption)
                        have hx13 := bt_at (⟨#[114, 119, 120, 114, 119, 120, 114, 119, 120]⟩ : ByteArray) x16_1
                        replace p13 := eq_true p13
                        replace q13 := eq_true q13
                        go_upto_region 15 with (fail)
                        go_cut [41] (fun v41 wc => ∃ (kq : Nat) (x41_17 : Bool), v41 = .bool x41_17 ∧ Aside0 (meta_Parse.j2 kq a0 x4_1 x16_1 ((Int.tmod x16_1 3) == 2) ji6 x9_6 (bt a0 x16_1) (a0.size : Int) x16_1 x41_17 = some (r1, r2)) ∧ Aside0 (kq ≤ kj6) ∧ Drawn0 w wc)
                        case first =>
                          have H := HC18.out
                          clear HC18
                          by_cases c19 : ((Int.tmod x16_1 3) == 2) = true
                          · rw [if_pos c19] at H
                            have c19b0 : ((Int.tmod x16_1 3) == 2) = true := c19
                            (try (have c19b1 : decide ((Int.tmod x16_1 3) = 2) = true := by simpa using c19))
                            (try (have c19b2 : ((Int.tmod x16_1 3) == 2) = true := by simpa using c19))
                            clear c19
                            generalize ((Int.tmod x16_1 3) == 2) = b6_ at *; subst c19b0
                            have H' := Aside0.mk H
                            clear H
                            go_wp2
                            go_meet
                            case rel => exact ⟨_, (((bt a0 x16_1) == x8_6)), (by first | rfl | (simp; done) | (simp [*]; done)), H', ⟨by have := HK1.out; have := HJ6.out; first | omega | exact Nat.le_refl _⟩, by repeat (first | exact Drawn0.refl _ | apply Drawn0.step)⟩
                          · rw [if_neg c19] at H
                            have c19b0 : ((Int.tmod x16_1 3) == 2) = false := by simpa using c19
                            (try (have c19b1 : decide ((Int.tmod x16_1 3) = 2) = false := by simpa using c19))
                            (try (have c19b2 : ((Int.tmod x16_1 3) == 2) = false := by simpa using c19))
                            (try (have c19b3 : ¬ ((Int.tmod x16_1 3) = 2) := by simpa using c19))
                            clear c19
                            generalize ((Int.tmod x16_1 3) == 2) = b6_ at *; subst c19b0
                            have H' := Aside0.mk H
                            clear H
                            go_wp2
                            go_meet
                            case rel => exact ⟨_, (false), (by first | rfl | (simp; done) | (simp [*]; done)), H', ⟨by have := HK1.out; have := HJ6.out; first | omega | exact Nat.le_refl _⟩, by repeat (first | exact Drawn0.refl _ | apply Drawn0.step)⟩
                        case rest =>
                          clear HC18
                          try clear c1
                          try clear p1
                          try clear q1
                          try clear hx1
                          try clear c2
                          try clear c2b0
                          try clear c2b1
                          try clear p2
                          try clear c3
                          try clear c3b0
                          try clear c5
                          try clear c5b0
                          try clear c5b1
                          try clear c6
                          try clear p6
                          try clear c8
                          try clear c8b0
                          try clear c8b1
                          try clear c9
                          try clear c9b0
                          try clear c10
                          try clear c10b0
                          try clear p11
                          try clear q11
                          try clear hx11
                          try clear c12
                          try clear c12b0
                          try clear p13
                          try clear q13
                          try clear hx13
                          try clear c14
                          try clear c14b0
                          try clear c14b1
                          try clear c16
                          try clear c16b0
                          try clear c16b1
                          try clear c19
                          try clear c19b0
                          try clear c19b1
                          try clear c19b2
                          try clear p11
                          try clear p13
                          try clear p2
                          try clear p6
                          try clear q11
                          try clear q13
                          obtain ⟨kq, x41_17, rfl, HA, HJ17, ⟨mc17, rfl⟩⟩ := hcut
                          cases kq with
                          | zero => exact absurd HA.out (by simp [meta_Parse.j2])
                          | succ kj17 =>
                            have H := HA.out
                            clear HA
                            simp only [meta_Parse.j2] at H
                            by_cases c20 : x41_17 = true
                            · subst c20
                              have H1 : (if 0 ≤ (wrap64 (8 - x16_1)) then (meta_Parse.l0 kj17 a0 (Go.bits .or .i64 x4_1 (Go.bits .or .i64 (shl .i64 1 (wrap64 (8 - x16_1))) ji6)) (a0.size : Int) (wrap64 (x16_1 + 1))) else (none)) = some (r1, r2) := by rw [if_pos rfl] at H; exact H
                              clear H
                              have H := H1
                              clear H1
                              obtain ⟨ji21, hji21⟩ : ∃ j_ : Int, (wrap64 (8 - x16_1)) = j_ := ⟨_, rfl⟩
                              replace H : (if 0 ≤ (ji21) then (meta_Parse.l0 kj17 a0 (Go.bits .or .i64 x4_1 (Go.bits .or .i64 (shl .i64 1 (ji21)) ji6)) (a0.size : Int) (wrap64 (x16_1 + 1))) else (none)) = some (r1, r2) := by first | (rw [hji21] at H; exact H) | (simp only [hji21] at H ⊢; exact H)
                              have hji21w : (IntKind.i64.wrap (8 - x16_1)) = ji21 := (i64_w _).trans hji21
                              by_cases c22 : 0 ≤ (ji21)
                              · rw [if_pos c22] at H
                                have c22b0 := eq_true c22
                                have c22b1 : decide (0 ≤ (ji21)) = true := decide_eq_true c22
                                clear c22
                                obtain ⟨ji23, hji23⟩ : ∃ j_ : Int, (shl .i64 1 (ji21)) = j_ := ⟨_, rfl⟩
                                replace H : (meta_Parse.l0 kj17 a0 (Go.bits .or .i64 x4_1 (Go.bits .or .i64 (ji23) ji6)) (a0.size : Int) (wrap64 (x16_1 + 1))) = some (r1, r2) := by first | (rw [hji23] at H; exact H) | (simp only [hji23] at H ⊢; exact H)
                                have hji23_ : (IntKind.i64.wrap (1 * 2 ^ min (ji21).toNat 64)) = ji23 := hji23
                                have hji23z : (ji21) ≤ 64 → (IntKind.i64.wrap (1 * 2 ^ (ji21).toNat)) = ji23 := shl_small hji23
                                have hji23u : (IntKind.i64.wrap (2 ^ min (ji21).toNat 64)) = ji23 := by have h_ := hji23_; rw [Int.one_mul] at h_; exact h_
                                have hji23v : (ji21) ≤ 64 → (IntKind.i64.wrap (2 ^ (ji21).toNat)) = ji23 := fun hle_ => by have h_ := hji23z hle_; rw [Int.one_mul] at h_; exact h_
                                have hji23y : (wrap64 (1 * 2 ^ min (ji21).toNat 64)) = ji23 := (i64_w _).symm.trans hji23_
                                have hji23x : (ji21) ≤ 64 → (wrap64 (1 * 2 ^ (ji21).toNat)) = ji23 := fun h_ => (i64_w _).symm.trans (hji23z h_)
                                have H' := Aside0.mk H
                                clear H
                                go_wp2
                                go_roundg kj17
                                case measure => have := HK1.out; have := HJ6.out; have := HJ17.out; omega
                                case rel => exact ⟨(Go.bits .or .i64 x4_1 (Go.bits .or .i64 (ji23) ji6)), (wrap64 (x16_1 + 1)), (by first | rfl | (simp; done) | (simp only [← hji6, ← hji23] <;> (first | rfl | simp)) | (simp [*]; done)), (by first | rfl | (simp; done) | (simp [*]; done)), H', ⟨by have := HK1.out; have := HJ6.out; have := HJ17.out; omega⟩, by repeat (first | exact Drawn0.refl _ | apply Drawn0.step)⟩
                              · rw [if_neg c22] at H
                                exact absurd H (by simp)
                            · replace c20 := Bool.eq_false_iff.mpr c20
                              subst c20
                              have H1 : (if ((Int.tmod x16_1 3) == 2) = true then (meta_Parse.j3 kj17 a0 x4_1 ji6 (bt a0 x16_1) (a0.size : Int) x16_1 ((bt a0 x16_1) == x9_6)) else (meta_Parse.j3 kj17 a0 x4_1 ji6 (bt a0 x16_1) (a0.size : Int) x16_1 false)) = some (r1, r2) := by rw [if_neg (show ¬ (false = true) by decide)] at H; exact H
                              clear H
                              have H := H1
                              clear H1
                              have HC24 := Aside0.mk H
                              clear H
                              go_upto_region 17 with (fail)
                              go_cut [55] (fun v55 wc => ∃ (kq : Nat) (x55_23 : Bool), v55 = .bool x55_23 ∧ Aside0 (meta_Parse.j3 kq a0 x4_1 ji6 (bt a0 x16_1) (a0.size : Int) x16_1 x55_23 = some (r1, r2)) ∧ Aside0 (kq ≤ kj17) ∧ Drawn0 w wc)
                              case first =>
                                have H := HC24.out
                                clear HC24
                                by_cases c25 : ((Int.tmod x16_1 3) == 2) = true
                                · rw [if_pos c25] at H
                                  have c25b0 : ((Int.tmod x16_1 3) == 2) = true := c25
                                  (try (have c25b1 : decide ((Int.tmod x16_1 3) = 2) = true := by simpa using c25))
                                  (try (have c25b2 : ((Int.tmod x16_1 3) == 2) = true := by simpa using c25))
                                  clear c25
                                  generalize ((Int.tmod x16_1 3) == 2) = b6_ at *; subst c25b0
                                  have H' := Aside0.mk H
                                  clear H
                                  go_wp2
                                  go_meet
                                  case rel => exact ⟨_, (((bt a0 x16_1) == x9_6)), (by first | rfl | (simp; done) | (simp [*]; done)), H', ⟨by have := HK1.out; have := HJ6.out; have := HJ17.out; first | omega | exact Nat.le_refl _⟩, by repeat (first | exact Drawn0.refl _ | apply Drawn0.step)⟩
                                · rw [if_neg c25] at H
                                  have c25b0 : ((Int.tmod x16_1 3) == 2) = false := by simpa using c25
                                  (try (have c25b1 : decide ((Int.tmod x16_1 3) = 2) = false := by simpa using c25))
                                  (try (have c25b2 : ((Int.tmod x16_1 3) == 2) = false := by simpa using c25))
                                  (try (have c25b3 : ¬ ((Int.tmod x16_1 3) = 2) := by simpa using c25))
                                  clear c25
                                  generalize ((Int.tmod x16_1 3) == 2) = b6_ at *; subst c25b0
                                  have H' := Aside0.mk H
                                  clear H
                                  go_wp2
                                  go_meet
                                  case rel => exact ⟨_, (false), (by first | rfl | (simp; done) | (simp [*]; done)), H', ⟨by have := HK1.out; have := HJ6.out; have := HJ17.out; first | omega | exact Nat.le_refl _⟩, by repeat (first | exact Drawn0.refl _ | apply Drawn0.step)⟩
                              case rest =>
                                clear HC24
                                try clear c1
                                try clear p1
                                try clear q1
                                try clear hx1
                                try clear c2
                                try clear c2b0
                                try clear c2b1
                                try clear p2
                                try clear c3
                                try clear c3b0
                                try clear c5
                                try clear c5b0
                                try clear c5b1
                                try clear c6
                                try clear p6
                                try clear c8
                                try clear c8b0
                                try clear c8b1
                                try clear c9
                                try clear c9b0
                                try clear c10
                                try clear c10b0
                                try clear p11
                                try clear q11
                                try clear hx11
                                try clear c12
                                try clear c12b0
                                try clear p13
                                try clear q13
                                try clear hx13
                                try clear c14
                                try clear c14b0
                                try clear c14b1
                                try clear c16
                                try clear c16b0
                                try clear c16b1
                                try clear c17
                                try clear c19
                                try clear c19b0
                                try clear c19b1
                                try clear c19b2
                                try clear c20
                                try clear c22
                                try clear c22b0
                                try clear c22b1
                                try clear c25
                                try clear c25b0
                                try clear c25b1
                                try clear c25b2
                                try clear p1
                                try clear p11
                                try clear p13
                                try clear p2
                                try clear p6
                                try clear q1
                                try clear q11
                                try clear q13
                                obtain ⟨kq, x55_23, rfl, HA, HJ23, ⟨mc23, rfl⟩⟩ := hcut
                                cases kq with
                                | zero => exact absurd HA.out (by simp [meta_Parse.j3])
                                | succ kj23 =>
                                  have H := HA.out
                                  clear HA
                                  simp only [meta_Parse.j3] at H
                                  by_cases c26 : x55_23 = true
                                  · subst c26
                                    have H1 : (meta_Parse.l0 kj23 a0 (Go.bits .or .i64 x4_1 ji6) (a0.size : Int) (wrap64 (x16_1 + 1))) = some (r1, r2) := by rw [if_pos rfl] at H; exact H
                                    clear H
                                    have H := H1
                                    clear H1
                                    have H' := Aside0.mk H
                                    clear H
                                    go_wp2
                                    go_roundg kj23
                                    case measure => have := HK1.out; have := HJ6.out; have := HJ17.out; have := HJ23.out; omega
                                    case rel => exact ⟨(Go.bits .or .i64 x4_1 ji6), (wrap64 (x16_1 + 1)), (by first | rfl | (simp; done) | (simp only [← hji6] <;> (first | rfl | simp)) | (simp [*]; done)), (by first | rfl | (simp; done) | (simp [*]; done)), H', ⟨by have := HK1.out; have := HJ6.out; have := HJ17.out; have := HJ23.out; omega⟩, by repeat (first | exact Drawn0.refl _ | apply Drawn0.step)⟩
                                  · replace c26 := Bool.eq_false_iff.mpr c26
                                    subst c26
                                    have H1 : (if (bt a0 x16_1) = 45 then (meta_Parse.l0 kj23 a0 x4_1 (a0.size : Int) (wrap64 (x16_1 + 1))) else (some (0, 3))) = some (r1, r2) := by rw [if_neg (show ¬ (false = true) by decide)] at H; exact H
                                    clear H
                                    have H := H1
                                    clear H1
                                    by_cases c27 : (bt a0 x16_1) = 45
                                    · rw [if_pos c27] at H
                                      have c27b0 : ((bt a0 x16_1) == 45) = true := beq_iff_eq.mpr c27
                                      have c27b1 : ((bt a0 x16_1) != 45) = false := bne_eq_false_iff_eq.mpr c27
                                      clear c27
                                      have H' := Aside0.mk H
                                      clear H
                                      go_wp2
                                      go_roundg kj23
                                      case measure => have := HK1.out; have := HJ6.out; have := HJ17.out; have := HJ23.out; omega
                                      case rel => exact ⟨(x4_1), (wrap64 (x16_1 + 1)), (by first | rfl | (simp; done) | (simp [*]; done)), (by first | rfl | (simp; done) | (simp [*]; done)), H', ⟨by have := HK1.out; have := HJ6.out; have := HJ17.out; have := HJ23.out; omega⟩, by repeat (first | exact Drawn0.refl _ | apply Drawn0.step)⟩
                                    · rw [if_neg c27] at H
                                      have c27b0 : ((bt a0 x16_1) == 45) = false := beq_eq_false_iff_ne.mpr c27
                                      have c27b1 : ((bt a0 x16_1) != 45) = true := bne_iff_ne.mpr c27
                                      simp only [Option.some.injEq, Prod.mk.injEq] at H
                                      obtain ⟨rfl, rfl⟩ := H
                                      go_wp2
                                      go_ret2
                                      exact ⟨by first | rfl | (simp; done) | (simp only [← hji4, ← hji6] <;> (first | rfl | simp)) | (simp [*]; done), by repeat (first | exact Drawn0.refl _ | apply Drawn0.step)⟩
                    · rw [if_neg c12] at H
                      exact absurd H (by simp)
                  · rw [if_neg c10] at H
                    exact absurd H (by simp)
                · rw [if_neg c9] at H
                  exact absurd H (by simp)
          · rw [if_neg c5] at H
            exact absurd H (by simp)
        · rw [if_neg c3] at H
          have c3b0 : decide (x16_1 < (a0.size : Int)) = false := decide_eq_false c3
          clear c3
          simp only [Option.some.injEq, Prod.mk.injEq] at H
          obtain ⟨rfl, rfl⟩ := H
          go_wp2
          go_ret2
          exact ⟨by first | rfl | (simp; done) | (simp [*]; done), by repeat (first | exact Drawn0.refl _ | apply Drawn0.step)⟩
  · rw [if_neg c2] at H
    have c2b0 : ((a0.size : Int) == 9) = false := beq_eq_false_iff_ne.mpr c2
    have c2b1 : ((a0.size : Int) != 9) = true := bne_iff_ne.mpr c2
    simp only [Option.some.injEq, Prod.mk.injEq] at H
    obtain ⟨rfl, rfl⟩ := H
    go_enter Try.func8, Try.ntmps8
    go_wp2
    go_ret2
    exact ⟨by first | rfl | (simp; done) | (simp [*]; done), by repeat (first | exact Drawn0.refl _ | apply Drawn0.step)⟩

end Go.Proofs.Ytmcofelbcjgagaa.All
