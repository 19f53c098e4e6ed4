/- Made by a program of the prover (over the print of the kit): a Lean function with the answers of a Go function, and the proof that the call comes to them; conditions: those in the statements alone. -/
import Derived.Test.YtmeffcjjfiebdaaDoorK
import Derived.Test.YtmeffcjjfiebdaaDoorFStringsRepeat
import Derived.Test.YtmeffcjjfiebdaaDoorFStampCheck
import Derived.Test.YtmeffcjjfiebdaaDoorFStrconvItoa46
import Derived.Test.YtmeffcjjfiebdaaDoorFStringsTrimRight
namespace Go.Proofs.YtmeffcjjfiebdaaDoor.All
open Go.RowKit Go.Proofs.YtmeffcjjfiebdaaDoorW.PrintWords Go.Proofs.YtmeffcjjfiebdaaDoorW.PrintLast Go.Proofs.YtmeffcjjfiebdaaDoorW.PrintMore
open Go.Proofs.YtmeffcjjfiebdaaDoorW.Mine
attribute [local go_sem] gtr_string leq_string geq_string
attribute [local go_sem] max2_int min2_int max_two min_two max_three min_three max_four min_four   -- for this text's walks alone
set_option linter.unusedVariables false
set_option linter.unusedSimpArgs false

/-! ### stamp_Text: function 12 -/
def stamp_Text.j0 : Nat → Int → Int → ByteArray → Option (ByteArray × Int)
  | 0, _, _, _ => none
  | k + 1, x0, x1, x7 => (strconv_Itoa_46.f x0).bind fun t102 => (if x7.size + t102.size ≤ 9223372036854775807 then (if x1 = 0 then (some (x7 ++ t102, 0)) else ((strconv_Itoa_46.f x1).bind fun t103 => ((strings_Repeat.f (⟨#[48]⟩ : ByteArray) (wrap64 (9 - (t103.size : Int)))).bind fun t104 => (if t104.size + t103.size ≤ 9223372036854775807 then (if (x7 ++ t102).size + 1 ≤ 9223372036854775807 then ((strings_TrimRight.f (t104 ++ t103) (⟨#[48]⟩ : ByteArray)).bind fun t105 => (if ((x7 ++ t102) ++ (⟨#[46]⟩ : ByteArray)).size + t105.size ≤ 9223372036854775807 then (some (((x7 ++ t102) ++ (⟨#[46]⟩ : ByteArray)) ++ t105, 0)) else (none))) else (none)) else (none))))) else (none))
def stamp_Text.f (k : Nat) (a0 : Int) (a1 : Int) : Option (ByteArray × Int) := (stamp_Check.f a0 a1).bind fun t101 => (if t101 = 0 then (if a0 < 0 then (if a1 > 0 then (stamp_Text.j0 k (wrap64 ((wrap64 (-a0)) - 1)) (wrap64 (1000000000 - a1)) (⟨#[45]⟩ : ByteArray)) else (stamp_Text.j0 k (wrap64 (-a0)) a1 (⟨#[45]⟩ : ByteArray))) else (stamp_Text.j0 k a0 a1 (⟨#[]⟩ : ByteArray))) else (some ((⟨#[]⟩ : ByteArray), t101)))
theorem stamp_Text.mono_l : ∀ k, (∀ y0 y1 y2, LeO (stamp_Text.j0 k y0 y1 y2) (stamp_Text.j0 (k + 1) y0 y1 y2))
  | 0 => fun _ _ _ r h => by simp [stamp_Text.j0] at h
  | k + 1 => by
    have ih0 := stamp_Text.mono_l k
    · intro y0 y1 y2
      unfold stamp_Text.j0
      repeat' first
      | (with_reducible exact ih0 _ _ _)
      | (with_reducible exact LeO.refl _)
      | (with_reducible exact LeO.none _)
      | (with_reducible refine LeO.ite ?_ ?_)
      | (with_reducible refine LeO.bind ?_ (fun _ => ?_))
      | exact ih0 _ _ _
      | exact LeO.none _
      | refine LeO.ite ?_ ?_
      | refine LeO.bind ?_ (fun _ => ?_)
theorem stamp_Text.mono : ∀ a0 a1 k, LeO (stamp_Text.f k a0 a1) (stamp_Text.f (k + 1) a0 a1) := by
  intro a0 a1 k
  have ih0 := stamp_Text.mono_l k
  unfold stamp_Text.f
  repeat' first
      | (with_reducible exact ih0 _ _ _)
      | (with_reducible exact LeO.refl _)
      | (with_reducible exact LeO.none _)
      | (with_reducible refine LeO.ite ?_ ?_)
      | (with_reducible refine LeO.bind ?_ (fun _ => ?_))
      | exact ih0 _ _ _
      | exact LeO.none _
      | refine LeO.ite ?_ ?_
      | refine LeO.bind ?_ (fun _ => ?_)
set_option maxHeartbeats 8000000 in
set_option maxRecDepth 100000 in
theorem stamp_Text.calls (k : Nat) (a0 : Int) (a1 : Int) (r1 : ByteArray) (r2 : Int) (w : World) (HT0 : Aside0 (Tab w)) (h : stamp_Text.f k a0 a1 = some (r1, r2)) :
    Calls Tryd.prog 12 #[.int .i64 a0, .int .i64 a1] w fun e w' => e = .returned (.tuple #[.string r1, .int .i64 r2]) ∧ Below w.heap.size w w' := by
  have HB := Aside0.mk (Below.refl w.heap.size w)
  have H : ((stamp_Check.f a0 a1).bind fun t101 => (if t101 = 0 then (if a0 < 0 then (if a1 > 0 then (stamp_Text.j0 k (wrap64 ((wrap64 (-a0)) - 1)) (wrap64 (1000000000 - a1)) (⟨#[45]⟩ : ByteArray)) else (stamp_Text.j0 k (wrap64 (-a0)) a1 (⟨#[45]⟩ : ByteArray))) else (stamp_Text.j0 k a0 a1 (⟨#[]⟩ : ByteArray))) else (some ((⟨#[]⟩ : ByteArray), t101)))) = some (r1, r2) := h
  clear h
  replace H := Option.bind_eq_some_iff.mp H
  obtain ⟨t101, A30, H⟩ := H
  replace H : (if t101 = 0 then (if a0 < 0 then (if a1 > 0 then (stamp_Text.j0 k (wrap64 ((wrap64 (-a0)) - 1)) (wrap64 (1000000000 - a1)) (⟨#[45]⟩ : ByteArray)) else (stamp_Text.j0 k (wrap64 (-a0)) a1 (⟨#[45]⟩ : ByteArray))) else (stamp_Text.j0 k a0 a1 (⟨#[]⟩ : ByteArray))) else (some ((⟨#[]⟩ : ByteArray), t101))) = some (r1, r2) := H
  have A3 := Aside0.mk A30
  clear A30
  by_cases c4 : t101 = 0
  · rw [if_pos c4] at H
    have c4b0 : (t101 == 0) = true := beq_iff_eq.mpr c4
    have c4b1 : (t101 != 0) = false := bne_eq_false_iff_eq.mpr c4
    clear c4
    have HC5 := Aside0.mk H
    clear H
    go_enter Tryd.func12, Tryd.ntmps12
    go_upto_if 17 with (first | ((with_reducible refine gate_callee (f := 11) rfl ?_); refine goesL_ (some 12) rfl rfl Tryd.func11 (by kernel_rfl) rfl #[.int .i64 a0, .int .i64 a1] rfl (by (try simp only [List.map_toArray, List.map_cons, List.map_nil]); first | done | rfl | (simp only [List.length_drop, List.length_take]; rfl)) ?_; (with_reducible refine (stamp_Check.calls a0 a1 t101 _ A3.out).mono ?_); rintro e w' ⟨rfl, ⟨nd, rfl⟩⟩; refine ⟨_, rfl, ?_⟩))
    (try simp only [Act.put, List.setIfInBounds_toArray, List.set_cons_zero, List.set_cons_succ])
    go_cut [0, 1, 7] (fun v0 v1 v7 wc => ∃ (kq : Nat) (x0_4 : Int) (x1_4 : Int) (x7_4 : ByteArray), v0 = .int .i64 x0_4 ∧ v1 = .int .i64 x1_4 ∧ v7 = .string x7_4 ∧ Aside0 (stamp_Text.j0 kq x0_4 x1_4 x7_4 = some (r1, r2)) ∧ Aside0 (kq ≤ k) ∧ Aside0 (Below w.heap.size w wc))
    case first =>
      have H := HC5.out
      clear HC5
      by_cases c6 : a0 < 0
      · rw [if_pos c6] at H
        have c6b0 : decide (a0 < 0) = true := decide_eq_true c6
        clear c6
        (first | rw [c6b0] | (simp only [i64_w, i32_w]; rw [c6b0]) | skip)
        by_cases c7 : a1 > 0
        · rw [if_pos c7] at H
          have c7b0 : decide (0 < a1) = true := decide_eq_true c7
          clear c7
          have H' := Aside0.mk H
          clear H
          go_wp2
          go_meet
          case rel => exact ⟨_, (wrap64 ((wrap64 (-a0)) - 1)), (wrap64 (1000000000 - a1)), ((⟨#[45]⟩ : ByteArray)), (by first | rfl | (simp; done) | (simp [*]; done)), (by first | rfl | (simp; done) | (simp [*]; done)), (by first | rfl | (simp; done) | (simp [*]; done)), H', ⟨by first | omega | exact Nat.le_refl _⟩, ⟨by repeat (first | (with_reducible first | exact HB.out | apply below_alloc | apply pw_below_drewN | apply below_drew1) | exact HB.out)⟩⟩
        · rw [if_neg c7] at H
          have c7b0 : decide (0 < a1) = false := decide_eq_false c7
          clear c7
          have H' := Aside0.mk H
          clear H
          go_wp2
          go_meet
          case rel => exact ⟨_, (wrap64 (-a0)), (a1), ((⟨#[45]⟩ : ByteArray)), (by first | rfl | (simp; done) | (simp [*]; done)), (by first | rfl | (simp; done) | (simp [*]; done)), (by first | rfl | (simp; done) | (simp [*]; done)), H', ⟨by first | omega | exact Nat.le_refl _⟩, ⟨by repeat (first | (with_reducible first | exact HB.out | apply below_alloc | apply pw_below_drewN | apply below_drew1) | exact HB.out)⟩⟩
      · rw [if_neg c6] at H
        have c6b0 : decide (a0 < 0) = false := decide_eq_false c6
        clear c6
        (first | rw [c6b0] | (simp only [i64_w, i32_w]; rw [c6b0]) | skip)
        have H' := Aside0.mk H
        clear H
        go_wp2
        go_meet
        case rel => exact ⟨_, (a0), (a1), ((⟨#[]⟩ : ByteArray)), (by first | rfl | (simp; done) | (simp [*]; done)), (by first | rfl | (simp; done) | (simp [*]; done)), (by first | rfl | (simp; done) | (simp [*]; done)), H', ⟨by first | omega | exact Nat.le_refl _⟩, ⟨by repeat (first | (with_reducible first | exact HB.out | apply below_alloc | apply pw_below_drewN | apply below_drew1) | exact HB.out)⟩⟩
    case rest =>
      clear HC5
      try clear c1
      try clear p2
      try clear c4
      try clear c4b0
      try clear c4b1
      try clear c6
      try clear c6b0
      try clear p6
      try clear c7
      try clear c7b0
      obtain ⟨kq, x0_4, x1_4, x7_4, rfl, rfl, rfl, HA, HJ4, HB⟩ := hcut
      cases kq with
      | zero => exact absurd HA.out (by simp [stamp_Text.j0])
      | succ kj4 =>
        have H := HA.out
        clear HA
        simp only [stamp_Text.j0] at H
        replace H := Option.bind_eq_some_iff.mp H
        obtain ⟨t102, A80, H⟩ := H
        replace H : (if x7_4.size + t102.size ≤ 9223372036854775807 then (if x1_4 = 0 then (some (x7_4 ++ t102, 0)) else ((strconv_Itoa_46.f x1_4).bind fun t103 => ((strings_Repeat.f (⟨#[48]⟩ : ByteArray) (wrap64 (9 - (t103.size : Int)))).bind fun t104 => (if t104.size + t103.size ≤ 9223372036854775807 then (if (x7_4 ++ t102).size + 1 ≤ 9223372036854775807 then ((strings_TrimRight.f (t104 ++ t103) (⟨#[48]⟩ : ByteArray)).bind fun t105 => (if ((x7_4 ++ t102) ++ (⟨#[46]⟩ : ByteArray)).size + t105.size ≤ 9223372036854775807 then (some (((x7_4 ++ t102) ++ (⟨#[46]⟩ : ByteArray)) ++ t105, 0)) else (none))) else (none)) else (none))))) else (none)) = some (r1, r2) := H
        have A8 := Aside0.mk A80
        clear A80
        by_cases c9 : x7_4.size + t102.size ≤ 9223372036854775807
        · rw [if_pos c9] at H
          have c9b0 := eq_true c9
          have c9b1 : decide (x7_4.size + t102.size ≤ 9223372036854775807) = true := decide_eq_true c9
          try have c9b2 : (9223372036854775807 < x7_4.size + t102.size) = False := eq_false (Nat.not_lt.2 c9)
          by_cases c10 : x1_4 = 0
          · rw [if_pos c10] at H
            have c10b0 : (x1_4 == 0) = true := beq_iff_eq.mpr c10
            have c10b1 : (x1_4 != 0) = false := bne_eq_false_iff_eq.mpr c10
            clear c10
            simp only [Option.some.injEq, Prod.mk.injEq] at H
            obtain ⟨rfl, rfl⟩ := H
            go_wp2_with (first | ((with_reducible refine gate_callee (f := 46) rfl ?_); refine goesL_ (some 28) rfl rfl Tryd.func46 (by kernel_rfl) rfl #[.int .i64 x0_4] rfl (by (try simp only [List.map_toArray, List.map_cons, List.map_nil]); first | done | rfl | (simp only [List.length_drop, List.length_take]; rfl)) ?_; (with_reducible refine (strconv_Itoa_46.calls x0_4 t102 _ (by first | exact HT0 | exact ⟨tab_on HT0.out HB.out⟩ | exact ⟨tab_on HT0.out (by repeat (first | (with_reducible first | exact HB.out | apply below_alloc | apply pw_below_drewN | apply below_drew1) | exact HB.out | exact Below.refl _ _))⟩) A8.out).mono ?_); rintro e w11 ⟨rfl, hb⟩; refine ⟨_, rfl, ?_⟩; have n0_ := Aside0.mk (below_step (by repeat (first | (with_reducible first | exact HB.out | apply below_alloc | apply pw_below_drewN | apply below_drew1) | exact HB.out)) hb); clear HB; have HB := n0_; clear n0_; (try clear hb); (try clear hb2); (try clear hk); (try clear hi)))
            go_ret2
            exact ⟨by first | rfl | (simp [errW_none, errW_some] <;> rfl) | (simp [*, errW_none, errW_some] <;> rfl), by repeat (first | (with_reducible first | exact HB.out | apply below_alloc | apply pw_below_drewN | apply below_drew1) | exact HB.out)⟩
          · rw [if_neg c10] at H
            have c10b0 : (x1_4 == 0) = false := beq_eq_false_iff_ne.mpr c10
            have c10b1 : (x1_4 != 0) = true := bne_iff_ne.mpr c10
            replace H := Option.bind_eq_some_iff.mp H
            obtain ⟨t103, A120, H⟩ := H
            replace H : ((strings_Repeat.f (⟨#[48]⟩ : ByteArray) (wrap64 (9 - (t103.size : Int)))).bind fun t104 => (if t104.size + t103.size ≤ 9223372036854775807 then (if (x7_4 ++ t102).size + 1 ≤ 9223372036854775807 then ((strings_TrimRight.f (t104 ++ t103) (⟨#[48]⟩ : ByteArray)).bind fun t105 => (if ((x7_4 ++ t102) ++ (⟨#[46]⟩ : ByteArray)).size + t105.size ≤ 9223372036854775807 then (some (((x7_4 ++ t102) ++ (⟨#[46]⟩ : ByteArray)) ++ t105, 0)) else (none))) else (none)) else (none))) = some (r1, r2) := H
            have A12 := Aside0.mk A120
            clear A120
            replace H := Option.bind_eq_some_iff.mp H
            obtain ⟨t104, A130, H⟩ := H
            replace H : (if t104.size + t103.size ≤ 9223372036854775807 then (if (x7_4 ++ t102).size + 1 ≤ 9223372036854775807 then ((strings_TrimRight.f (t104 ++ t103) (⟨#[48]⟩ : ByteArray)).bind fun t105 => (if ((x7_4 ++ t102) ++ (⟨#[46]⟩ : ByteArray)).size + t105.size ≤ 9223372036854775807 then (some (((x7_4 ++ t102) ++ (⟨#[46]⟩ : ByteArray)) ++ t105, 0)) else (none))) else (none)) else (none)) = some (r1, r2) := H
            have A13 := Aside0.mk A130
            clear A130
            by_cases c14 : t104.size + t103.size ≤ 9223372036854775807
            · rw [if_pos c14] at H
              have c14b0 := eq_true c14
              have c14b1 : decide (t104.size + t103.size ≤ 9223372036854775807) = true := decide_eq_true c14
              try have c14b2 : (9223372036854775807 < t104.size + t103.size) = False := eq_false (Nat.not_lt.2 c14)
              by_cases c15 : (x7_4 ++ t102).size + 1 ≤ 9223372036854775807
              · rw [if_pos c15] at H
                have c15b0 := eq_true c15
                have c15b1 : decide ((x7_4 ++ t102).size + 1 ≤ 9223372036854775807) = true := decide_eq_true c15
                try have c15b2 : (9223372036854775807 < (x7_4 ++ t102).size + 1) = False := eq_false (Nat.not_lt.2 c15)
                have c15b9_ : (9223372036854775807 < x7_4.size + t102.size + 1) = False := eq_false (by have h_ := c15; simp only [ByteArray.size_append] at h_; first | omega | (have h1_ : ∀ b : UInt8, (⟨#[b]⟩ : ByteArray).size = 1 := fun _ => rfl; simp only [h1_] at h_; omega))
                replace H := Option.bind_eq_some_iff.mp H
                obtain ⟨t105, A160, H⟩ := H
                replace H : (if ((x7_4 ++ t102) ++ (⟨#[46]⟩ : ByteArray)).size + t105.size ≤ 9223372036854775807 then (some (((x7_4 ++ t102) ++ (⟨#[46]⟩ : ByteArray)) ++ t105, 0)) else (none)) = some (r1, r2) := H
                have A16 := Aside0.mk A160
                clear A160
                by_cases c17 : ((x7_4 ++ t102) ++ (⟨#[46]⟩ : ByteArray)).size + t105.size ≤ 9223372036854775807
                · rw [if_pos c17] at H
                  have c17b0 := eq_true c17
                  have c17b1 : decide (((x7_4 ++ t102) ++ (⟨#[46]⟩ : ByteArray)).size + t105.size ≤ 9223372036854775807) = true := decide_eq_true c17
                  try have c17b2 : (9223372036854775807 < ((x7_4 ++ t102) ++ (⟨#[46]⟩ : ByteArray)).size + t105.size) = False := eq_false (Nat.not_lt.2 c17)
                  have c17b9_ : (9223372036854775807 < x7_4.size + t102.size + 1 + t105.size) = False := eq_false (by have h_ := c17; simp only [ByteArray.size_append] at h_; first | omega | (have h1_ : ∀ b : UInt8, (⟨#[b]⟩ : ByteArray).size = 1 := fun _ => rfl; simp only [h1_] at h_; omega))
                  simp only [Option.some.injEq, Prod.mk.injEq] at H
                  obtain ⟨rfl, rfl⟩ := H
                  go_wp2_with (first | ((with_reducible refine gate_callee (f := 46) rfl ?_); refine goesL_ (some 28) rfl rfl Tryd.func46 (by kernel_rfl) rfl #[.int .i64 x0_4] rfl (by (try simp only [List.map_toArray, List.map_cons, List.map_nil]); first | done | rfl | (simp only [List.length_drop, List.length_take]; rfl)) ?_; (with_reducible refine (strconv_Itoa_46.calls x0_4 t102 _ (by first | exact HT0 | exact ⟨tab_on HT0.out HB.out⟩ | exact ⟨tab_on HT0.out (by repeat (first | (with_reducible first | exact HB.out | apply below_alloc | apply pw_below_drewN | apply below_drew1) | exact HB.out | exact Below.refl _ _))⟩) A8.out).mono ?_); rintro e w18 ⟨rfl, hb⟩; refine ⟨_, rfl, ?_⟩; have n0_ := Aside0.mk (below_step (by repeat (first | (with_reducible first | exact HB.out | apply below_alloc | apply pw_below_drewN | apply below_drew1) | exact HB.out)) hb); clear HB; have HB := n0_; clear n0_; (try clear hb); (try clear hb2); (try clear hk); (try clear hi)) | ((with_reducible refine gate_callee (f := 46) rfl ?_); refine goesL_ (some 34) rfl rfl Tryd.func46 (by kernel_rfl) rfl #[.int .i64 x1_4] rfl (by (try simp only [List.map_toArray, List.map_cons, List.map_nil]); first | done | rfl | (simp only [List.length_drop, List.length_take]; rfl)) ?_; (with_reducible refine (strconv_Itoa_46.calls x1_4 t103 _ (by first | exact HT0 | exact ⟨tab_on HT0.out HB.out⟩ | exact ⟨tab_on HT0.out (by repeat (first | (with_reducible first | exact HB.out | apply below_alloc | apply pw_below_drewN | apply below_drew1) | exact HB.out | exact Below.refl _ _))⟩) A12.out).mono ?_); rintro e w19 ⟨rfl, hb⟩; refine ⟨_, rfl, ?_⟩; have n0_ := Aside0.mk (below_step (by repeat (first | (with_reducible first | exact HB.out | apply below_alloc | apply pw_below_drewN | apply below_drew1) | exact HB.out)) hb); clear HB; have HB := n0_; clear n0_; (try clear hb); (try clear hb2); (try clear hk); (try clear hi)) | ((with_reducible refine gate_callee (f := 35) rfl ?_); refine goesL_ (some 38) rfl rfl Tryd.func35 (by kernel_rfl) rfl #[.string (⟨#[48]⟩ : ByteArray), .int .i64 (wrap64 (9 - (t103.size : Int)))] rfl (by (have hw9_ : wrap64 (9 - (t103.size : Int)) = 9 - (t103.size : Int) := by unfold wrap64; omega); (try rw [hw9_]); (try simp only [List.map_toArray, List.map_cons, List.map_nil]); first | done | rfl | (simp only [List.length_drop, List.length_take]; rfl)) ?_; (with_reducible refine (strings_Repeat.calls (⟨#[48]⟩ : ByteArray) (wrap64 (9 - (t103.size : Int))) t104 _ A13.out).mono ?_); rintro e w20 ⟨rfl, hb⟩; refine ⟨_, rfl, ?_⟩; have n0_ := Aside0.mk (below_step (by repeat (first | (with_reducible first | exact HB.out | apply below_alloc | apply pw_below_drewN | apply below_drew1) | exact HB.out)) hb); clear HB; have HB := n0_; clear n0_; (try clear hb); (try clear hb2); (try clear hk); (try clear hi)) | ((with_reducible refine gate_callee (f := 47) rfl ?_); refine goesL_ (some 44) rfl rfl Tryd.func47 (by kernel_rfl) rfl #[.string (t104 ++ t103), .string (⟨#[48]⟩ : ByteArray)] rfl (by (try simp only [List.map_toArray, List.map_cons, List.map_nil]); first | done | rfl | (simp only [List.length_drop, List.length_take]; rfl)) ?_; (with_reducible refine (strings_TrimRight.calls (t104 ++ t103) (⟨#[48]⟩ : ByteArray) t105 _ A16.out).mono ?_); rintro e w' ⟨rfl, ⟨nd, rfl⟩⟩; refine ⟨_, rfl, ?_⟩))
                  go_ret2
                  exact ⟨by first | rfl | (simp [errW_none, errW_some] <;> rfl) | (simp [*, errW_none, errW_some] <;> rfl), by repeat (first | (with_reducible first | exact HB.out | apply below_alloc | apply pw_below_drewN | apply below_drew1) | exact HB.out)⟩
                · rw [if_neg c17] at H
                  exact absurd H (by simp)
              · rw [if_neg c15] at H
                exact absurd H (by simp)
            · rw [if_neg c14] at H
              exact absurd H (by simp)
        · rw [if_neg c9] at H
          exact absurd H (by simp)
  · rw [if_neg c4] at H
    have c4b0 : (t101 == 0) = false := beq_eq_false_iff_ne.mpr c4
    have c4b1 : (t101 != 0) = true := bne_iff_ne.mpr c4
    simp only [Option.some.injEq, Prod.mk.injEq] at H
    obtain ⟨rfl, rfl⟩ := H
    go_enter Tryd.func12, Tryd.ntmps12
    go_wp2_with (first | ((with_reducible refine gate_callee (f := 11) rfl ?_); refine goesL_ (some 12) rfl rfl Tryd.func11 (by kernel_rfl) rfl #[.int .i64 a0, .int .i64 a1] rfl (by (try simp only [List.map_toArray, List.map_cons, List.map_nil]); first | done | rfl | (simp only [List.length_drop, List.length_take]; rfl)) ?_; (with_reducible refine (stamp_Check.calls a0 a1 t101 _ A3.out).mono ?_); rintro e w' ⟨rfl, ⟨nd, rfl⟩⟩; refine ⟨_, rfl, ?_⟩))
    go_ret2
    exact ⟨by first | rfl | (simp [errW_none, errW_some] <;> rfl) | (simp [*, errW_none, errW_some] <;> rfl), by repeat (first | (with_reducible first | exact HB.out | apply below_alloc | apply pw_below_drewN | apply below_drew1) | exact HB.out)⟩

end Go.Proofs.YtmeffcjjfiebdaaDoor.All
