/- Made by programs of the prover: walks of Go functions, the words that they use, and plain laws, each text in a section of its own; no condition of its own. -/
import Derived.Test.YtodeblpanooomabDoorZLinkAnews2
import Derived.Test.YtodeblpanooomabDoorZLinkAnews9
section
namespace Go.Proofs.YtodeblpanooomabDoor.All
open Go.RowKit Go.Proofs.YtodeblpanooomabDoorW.PrintWords Go.Proofs.YtodeblpanooomabDoorW.PrintLast Go.Proofs.YtodeblpanooomabDoorW.PrintMore
open Go.Proofs.YtodeblpanooomabDoorW.Mine
attribute [local go_sem] gtr_string leq_string geq_string
attribute [local go_sem] max2_int min2_int max_two min_two max_three min_three max_four min_four   -- for this text's walks alone
set_option linter.unusedVariables false
set_option linter.unusedSimpArgs false

/-! ### creelref_LinkNames: function 12 -/
mutual
def creelref_LinkNames.l0 : Nat → List (S56) → List Int → Int → Option (List Int × Int)
 | 0, _, _, _ => none
 | k + 1, x0, x5, x6 => if x6 < (x0.length : Int) then (creelref_LinkNames.l1 k x0 x5 x6 0 0) else (some (x5, 0))
def creelref_LinkNames.l1 : Nat → List (S56) → List Int → Int → Int → Int → Option (List Int × Int)
 | 0, _, _, _, _, _ => none
 | k + 1, x0, x5, x6, x7, x8 => if x8 < (x0.length : Int) then (if x8 = x6 then (creelref_LinkNames.l1 k x0 x5 x6 (wrap64 (x7 + 1)) (wrap64 (x8 + 1))) else (if 0 ≤ x6 then (if x6 < (x0.length : Int) then (if ((rd_T56 x0 x6).f2) > 0 then (if 0 ≤ x8 then (if ((rd_T56 x0 x8).f2) = ((rd_T56 x0 x6).f2) then (creelref_LinkNames.l1 k x0 x5 x6 (wrap64 (x7 + 1)) (wrap64 (x8 + 1))) else (creelref_LinkNames.l1 k x0 x5 x6 x7 (wrap64 (x8 + 1)))) else (none)) else (creelref_LinkNames.l1 k x0 x5 x6 x7 (wrap64 (x8 + 1)))) else (none)) else (none))) else (if x5.length < 17592186044416 then (creelref_LinkNames.l0 k x0 (x5 ++ [x7]) (wrap64 (x6 + 1))) else (none))
end
def creelref_LinkNames.f (k : Nat) (l0 : List (S56)) : Option (List Int × Int) := (creelref_TreeFault.f k l0).bind fun t101 => (if t101 = 0 then (creelref_LinkNames.l0 k l0 ([] : List Int) 0) else (some (([] : List Int), t101)))
theorem creelref_LinkNames.mono_l : ∀ k, (∀ y0 y1 y2, LeO (creelref_LinkNames.l0 k y0 y1 y2) (creelref_LinkNames.l0 (k + 1) y0 y1 y2)) ∧ (∀ y0 y1 y2 y3 y4, LeO (creelref_LinkNames.l1 k y0 y1 y2 y3 y4) (creelref_LinkNames.l1 (k + 1) y0 y1 y2 y3 y4))
 | 0 => ⟨fun _ _ _ r h => by simp [creelref_LinkNames.l0] at h, fun _ _ _ _ _ r h => by simp [creelref_LinkNames.l1] at h⟩
 | k + 1 => by
  obtain ⟨ih0, ih1⟩ := creelref_LinkNames.mono_l k
  refine ⟨?_, ?_⟩
  ·intro y0 y1 y2
   unfold creelref_LinkNames.l0
   repeat' first
   | (with_reducible exact ih0 _ _ _)
   | (with_reducible exact ih1 _ _ _ _ _)
   | (with_reducible exact creelref_TreeFault.mono _ _)
   | (with_reducible exact LeO.refl _)
   | (with_reducible exact LeO.none _)
   | (with_reducible refine LeO.ite ?_ ?_)
   | (with_reducible refine LeO.bind ?_ (fun _ => ?_))
   | exact ih0 _ _ _
   | exact ih1 _ _ _ _ _
   | exact creelref_TreeFault.mono _ _
   | exact LeO.none _
   | refine LeO.ite ?_ ?_
   | refine LeO.bind ?_ (fun _ => ?_)
  ·intro y0 y1 y2 y3 y4
   unfold creelref_LinkNames.l1
   repeat' first
   | (with_reducible exact ih0 _ _ _)
   | (with_reducible exact ih1 _ _ _ _ _)
   | (with_reducible exact creelref_TreeFault.mono _ _)
   | (with_reducible exact LeO.refl _)
   | (with_reducible exact LeO.none _)
   | (with_reducible refine LeO.ite ?_ ?_)
   | (with_reducible refine LeO.bind ?_ (fun _ => ?_))
   | exact ih0 _ _ _
   | exact ih1 _ _ _ _ _
   | exact creelref_TreeFault.mono _ _
   | exact LeO.none _
   | refine LeO.ite ?_ ?_
   | refine LeO.bind ?_ (fun _ => ?_)
theorem creelref_LinkNames.mono : ∀ a0 k, LeO (creelref_LinkNames.f k a0) (creelref_LinkNames.f (k + 1) a0) := by
 intro a0 k
 obtain ⟨ih0, ih1⟩ := creelref_LinkNames.mono_l k
 unfold creelref_LinkNames.f
 repeat' first
   | (with_reducible exact ih0 _ _ _)
   | (with_reducible exact ih1 _ _ _ _ _)
   | (with_reducible exact creelref_TreeFault.mono _ _)
   | (with_reducible exact LeO.refl _)
   | (with_reducible exact LeO.none _)
   | (with_reducible refine LeO.ite ?_ ?_)
   | (with_reducible refine LeO.bind ?_ (fun _ => ?_))
   | exact ih0 _ _ _
   | exact ih1 _ _ _ _ _
   | exact creelref_TreeFault.mono _ _
   | exact LeO.none _
   | refine LeO.ite ?_ ?_
   | refine LeO.bind ?_ (fun _ => ?_)
set_option maxHeartbeats 8000000 in
set_option maxRecDepth 100000 in
theorem creelref_LinkNames.calls (k : Nat) (A0 : Option Addr) (c0 : Nat) (l0 : List (S56)) (r1 : List Int) (r2 : Int) (w : World) (hr0 : Kd.C k56 w A0 l0.length l0) (hc0 : l0.length ≤ c0) (h : creelref_LinkNames.f k l0 = some (r1, r2)) :
  Calls Tryd.prog 12 #[.slice A0 l0.length c0] w fun e w' => ∃ v0_ : Value, e = .returned (.tuple #[v0_, .int .i64 r2]) ∧ Kd.R (Kd.int .i64) 3 w' w.heap.size (fun _ => True) v0_ r1 ∧ Below w.heap.size w w' := by
 have HR0 := Aside0.mk hr0
 have HC0 := Aside0.mk hc0
 clear hr0 hc0
 have HB := Aside0.mk (Below.refl w.heap.size w)
 have H : ((creelref_TreeFault.f k l0).bind fun t101 => (if t101 = 0 then (creelref_LinkNames.l0 k l0 ([] : List Int) 0) else (some (([] : List Int), t101)))) = some (r1, r2) := h
 clear h
 replace H := Option.bind_eq_some_iff.mp H
 obtain ⟨t101, A20, H⟩ := H
 replace H : (if t101 = 0 then (creelref_LinkNames.l0 k l0 ([] : List Int) 0) else (some (([] : List Int), t101))) = some (r1, r2) := H
 have A2 := Aside0.mk A20
 clear A20
 by_cases c3 : t101 = 0
 ·rw [if_pos c3] at H
  have c3b0 : (t101 == 0) = true := beq_iff_eq.mpr c3
  have c3b1 : (t101 != 0) = false := bne_eq_false_iff_eq.mpr c3
  clear c3
  have H' := Aside0.mk H
  clear H
  go_enter Tryd.func12, Tryd.ntmps12
  go_wp2_with (first | (go_at_call 31; (with_reducible refine (creelref_TreeFault.calls k _ _ l0 t101 _ ?side1 ?side2 A2.out).mono ?_); (case side1 => repeat (first | exact HR0.out | (with_reducible refine Kd.C_alloc ?_ _) | (with_reducible refine Kd.C_drewN ?_ _) | (with_reducible refine Kd.C_drew ?_))); (case side2 => exact HC0.out); rintro e w4 ⟨rfl, hb⟩; have n0_ := Aside0.mk (below_step (by repeat (first | (with_reducible first | exact HB.out | apply below_alloc | apply pw_below_drewN | apply below_drew1) | exact HB.out)) hb); clear HB; have HB := n0_; clear n0_; (try clear hb); (try clear hb2); (try clear hk); (try clear hi)))
  repeat (go_quiet (first | (go_at_call 31; (with_reducible refine (creelref_TreeFault.calls k _ _ l0 t101 _ ?side1 ?side2 A2.out).mono ?_); (case side1 => repeat (first | exact HR0.out | (with_reducible refine Kd.C_alloc ?_ _) | (with_reducible refine Kd.C_drewN ?_ _) | (with_reducible refine Kd.C_drew ?_))); (case side2 => exact HC0.out); rintro e w4 ⟨rfl, hb⟩; have n0_ := Aside0.mk (below_step (by repeat (first | (with_reducible first | exact HB.out | apply below_alloc | apply pw_below_drewN | apply below_drew1) | exact HB.out)) hb); clear HB; have HB := n0_; clear n0_; (try clear hb); (try clear hb2); (try clear hk); (try clear hi))); try go_wp2_with (first | (go_at_call 31; (with_reducible refine (creelref_TreeFault.calls k _ _ l0 t101 _ ?side1 ?side2 A2.out).mono ?_); (case side1 => repeat (first | exact HR0.out | (with_reducible refine Kd.C_alloc ?_ _) | (with_reducible refine Kd.C_drewN ?_ _) | (with_reducible refine Kd.C_drew ?_))); (case side2 => exact HC0.out); rintro e w4 ⟨rfl, hb⟩; have n0_ := Aside0.mk (below_step (by repeat (first | (with_reducible first | exact HB.out | apply below_alloc | apply pw_below_drewN | apply below_drew1) | exact HB.out)) hb); clear HB; have HB := n0_; clear n0_; (try clear hb); (try clear hb2); (try clear hk); (try clear hi))))
  go_loopg [5, 6] k (fun kq v5 v6 w' => ∃ (x5_1 : List Int) (x6_1 : Int), v6 = .int .i64 x6_1 ∧ Aside0 (creelref_LinkNames.l0 kq l0 x5_1 x6_1 = some (r1, r2)) ∧ Aside0 (kq ≤ k) ∧ Aside0 (Kd.R (Kd.int .i64) 3 w' w.heap.size (fun _ => True) v5 x5_1) ∧ Aside0 (Below w.heap.size w w'))
  case atStart => exact ⟨(([] : List Int)), (0), (by first | rfl | (simp; done) | (simp [*]; done)), H', ⟨Nat.le_refl _⟩, ⟨by first | exact Kd.R_nil _ _ _ _ _ | exact Kd.N_nil _ _ _ _ _ | exact Kd.V_nil _ _ _ _ _ | exact Kd.Q_nil _ _ _ _ _ | exact Kd.S_nil _ _ _ _ _⟩, ⟨by repeat (first | (with_reducible first | exact HB.out | apply below_alloc | apply pw_below_drewN | apply below_drew1) | exact HB.out)⟩⟩
  case round =>
   clear H'
   try clear c1
   try clear p2
   try clear c3
   try clear c3b0
   try clear c3b1
   obtain ⟨x5_1, x6_1, rfl, HA, HK1, HO_5, HB⟩ := hrel
   cases gk with
   | zero => exact absurd HA.out (by simp [creelref_LinkNames.l0])
   | succ k1 =>
    have H := HA.out
    clear HA
    simp only [creelref_LinkNames.l0] at H
    by_cases c5 : x6_1 < (l0.length : Int)
    ·rw [if_pos c5] at H
     have c5b0 : decide (x6_1 < (l0.length : Int)) = true := decide_eq_true c5
     clear c5
     have H' := Aside0.mk H
     clear H
     go_wp2
     repeat (go_quiet (fail); try go_wp2)
     go_loopg [7, 8] k1 (fun kq v7 v8 w' => ∃ (x7_2 : Int) (x8_2 : Int), v7 = .int .i64 x7_2 ∧ v8 = .int .i64 x8_2 ∧ Aside0 (creelref_LinkNames.l1 kq l0 x5_1 x6_1 x7_2 x8_2 = some (r1, r2)) ∧ Aside0 (kq ≤ k1) ∧ Aside0 (Kd.R (Kd.int .i64) 3 w' w.heap.size (fun _ => True) u5 x5_1) ∧ Aside0 (Below w.heap.size w w'))
     case atStart => exact ⟨(0), (0), (by first | rfl | (simp; done) | (simp [*]; done)), (by first | rfl | (simp; done) | (simp [*]; done)), H', ⟨Nat.le_refl _⟩, ⟨by (with_reducible repeat (first | apply Kd.R_alloc | apply Kd.R_drewN | apply Kd.R_drew)); exact HO_5.out⟩, ⟨by repeat (first | (with_reducible first | exact HB.out | apply below_alloc | apply pw_below_drewN | apply below_drew1) | exact HB.out)⟩⟩
     case round =>
      clear H'
      try clear c1
      try clear p2
      try clear c3
      try clear c3b0
      try clear c3b1
      try clear c5
      try clear c5b0
      try clear p2
      obtain ⟨x7_2, x8_2, rfl, rfl, HA, HK2, HO_5, HB⟩ := hrel
      cases gk with
      | zero => exact absurd HA.out (by simp [creelref_LinkNames.l1])
      | succ k2 =>
       have H := HA.out
       clear HA
       simp only [creelref_LinkNames.l1] at H
       by_cases c6 : x8_2 < (l0.length : Int)
       ·rw [if_pos c6] at H
        have c6b0 : decide (x8_2 < (l0.length : Int)) = true := decide_eq_true c6
        clear c6
        by_cases c7 : x8_2 = x6_1
        ·rw [if_pos c7] at H
         have c7b0 : (x8_2 == x6_1) = true := beq_iff_eq.mpr c7
         have c7b1 : (x8_2 != x6_1) = false := bne_eq_false_iff_eq.mpr c7
         clear c7
         have H' := Aside0.mk H
         clear H
         go_wp2
         repeat (go_quiet (fail); try go_wp2)
         go_roundg k2
         case measure => have := HK1.out; have := HK2.out; omega
         case rel => exact ⟨(wrap64 (x7_2 + 1)), (wrap64 (x8_2 + 1)), (by first | rfl | (simp; done) | (simp [*]; done)), (by first | rfl | (simp; done) | (simp [*]; done)), H', ⟨by have := HK1.out; have := HK2.out; omega⟩, ⟨by (with_reducible repeat (first | apply Kd.R_alloc | apply Kd.R_drewN | apply Kd.R_drew)); exact HO_5.out⟩, ⟨by repeat (first | (with_reducible first | exact HB.out | apply below_alloc | apply pw_below_drewN | apply below_drew1) | exact HB.out)⟩⟩
        ·rw [if_neg c7] at H
         have c7b0 : (x8_2 == x6_1) = false := beq_eq_false_iff_ne.mpr c7
         have c7b1 : (x8_2 != x6_1) = true := bne_iff_ne.mpr c7
         by_cases c8 : 0 ≤ x6_1
         ·rw [if_pos c8] at H
          have c8b0 : decide (0 ≤ x6_1) = true := decide_eq_true c8
          clear c8
          by_cases c9 : x6_1 < (l0.length : Int)
          ·rw [if_pos c9] at H
           have c9b0 : decide (x6_1 < (l0.length : Int)) = true := decide_eq_true c9
           clear c9
           by_cases c10 : ((rd_T56 l0 x6_1).f2) > 0
           ·rw [if_pos c10] at H
            have c10b0 : decide (0 < ((rd_T56 l0 x6_1).f2)) = true := decide_eq_true c10
            clear c10
            by_cases c11 : 0 ≤ x8_2
            ·rw [if_pos c11] at H
             have c11b0 : decide (0 ≤ x8_2) = true := decide_eq_true c11
             clear c11
             by_cases c12 : ((rd_T56 l0 x8_2).f2) = ((rd_T56 l0 x6_1).f2)
             ·rw [if_pos c12] at H
              have c12b0 : (((rd_T56 l0 x8_2).f2) == ((rd_T56 l0 x6_1).f2)) = true := beq_iff_eq.mpr c12
              have c12b1 : (((rd_T56 l0 x8_2).f2) != ((rd_T56 l0 x6_1).f2)) = false := bne_eq_false_iff_eq.mpr c12
              clear c12
              have H' := Aside0.mk H
              clear H
              have p102 : 0 ≤ (x6_1 : Int) := of_decide_eq_true (by first | (with_reducible assumption) | assumption)
              have q102 : x6_1 < (l0.length : Int) := of_decide_eq_true (by first | (with_reducible assumption) | assumption)
              obtain ⟨ad102, A102_11, c102_11, e102, hx102_0, hx102_1, hx102_2, hx102_3, hx102_4, hx102_5, hx102_6, hx102_7, hx102_8, hx102_9, hx102_10, hx102_11, hl102_11, hi102_11⟩ := at_T56 HR0.out x6_1 p102 q102
              cases e102
              replace hx102_0 := (HB.out.cell (World.block_lt_of_cell? w _ hx102_0)).trans hx102_0
              replace hx102_1 := (HB.out.cell (World.block_lt_of_cell? w _ hx102_1)).trans hx102_1
              replace hx102_2 := (HB.out.cell (World.block_lt_of_cell? w _ hx102_2)).trans hx102_2
              replace hx102_3 := (HB.out.cell (World.block_lt_of_cell? w _ hx102_3)).trans hx102_3
              replace hx102_4 := (HB.out.cell (World.block_lt_of_cell? w _ hx102_4)).trans hx102_4
              replace hx102_5 := (HB.out.cell (World.block_lt_of_cell? w _ hx102_5)).trans hx102_5
              replace hx102_6 := (HB.out.cell (World.block_lt_of_cell? w _ hx102_6)).trans hx102_6
              replace hx102_7 := (HB.out.cell (World.block_lt_of_cell? w _ hx102_7)).trans hx102_7
              replace hx102_8 := (HB.out.cell (World.block_lt_of_cell? w _ hx102_8)).trans hx102_8
              replace hx102_9 := (HB.out.cell (World.block_lt_of_cell? w _ hx102_9)).trans hx102_9
              replace hx102_10 := (HB.out.cell (World.block_lt_of_cell? w _ hx102_10)).trans hx102_10
              replace hx102_11 := (HB.out.cell (World.block_lt_of_cell? w _ hx102_11)).trans hx102_11
              have HR102_11 := Aside0.mk hi102_11
              have HC102_11 := Aside0.mk hl102_11
              clear hi102_11 hl102_11
              replace p102 := eq_true p102
              replace q102 := eq_true q102
              have p103 : 0 ≤ (x8_2 : Int) := of_decide_eq_true (by first | (with_reducible assumption) | assumption)
              have q103 : x8_2 < (l0.length : Int) := of_decide_eq_true (by first | (with_reducible assumption) | assumption)
              obtain ⟨ad103, A103_11, c103_11, e103, hx103_0, hx103_1, hx103_2, hx103_3, hx103_4, hx103_5, hx103_6, hx103_7, hx103_8, hx103_9, hx103_10, hx103_11, hl103_11, hi103_11⟩ := at_T56 HR0.out x8_2 p103 q103
              obtain rfl : ad102 = ad103 := (by injection e103)
              replace hx103_0 := (HB.out.cell (World.block_lt_of_cell? w _ hx103_0)).trans hx103_0
              replace hx103_1 := (HB.out.cell (World.block_lt_of_cell? w _ hx103_1)).trans hx103_1
              replace hx103_2 := (HB.out.cell (World.block_lt_of_cell? w _ hx103_2)).trans hx103_2
              replace hx103_3 := (HB.out.cell (World.block_lt_of_cell? w _ hx103_3)).trans hx103_3
              replace hx103_4 := (HB.out.cell (World.block_lt_of_cell? w _ hx103_4)).trans hx103_4
              replace hx103_5 := (HB.out.cell (World.block_lt_of_cell? w _ hx103_5)).trans hx103_5
              replace hx103_6 := (HB.out.cell (World.block_lt_of_cell? w _ hx103_6)).trans hx103_6
              replace hx103_7 := (HB.out.cell (World.block_lt_of_cell? w _ hx103_7)).trans hx103_7
              replace hx103_8 := (HB.out.cell (World.block_lt_of_cell? w _ hx103_8)).trans hx103_8
              replace hx103_9 := (HB.out.cell (World.block_lt_of_cell? w _ hx103_9)).trans hx103_9
              replace hx103_10 := (HB.out.cell (World.block_lt_of_cell? w _ hx103_10)).trans hx103_10
              replace hx103_11 := (HB.out.cell (World.block_lt_of_cell? w _ hx103_11)).trans hx103_11
              have HR103_11 := Aside0.mk hi103_11
              have HC103_11 := Aside0.mk hl103_11
              clear hi103_11 hl103_11
              replace p103 := eq_true p103
              replace q103 := eq_true q103
              have p104 : 0 ≤ (x6_1 : Int) := of_decide_eq_true (by first | (with_reducible assumption) | assumption)
              have q104 : x6_1 < (l0.length : Int) := of_decide_eq_true (by first | (with_reducible assumption) | assumption)
              obtain ⟨ad104, A104_11, c104_11, e104, hx104_0, hx104_1, hx104_2, hx104_3, hx104_4, hx104_5, hx104_6, hx104_7, hx104_8, hx104_9, hx104_10, hx104_11, hl104_11, hi104_11⟩ := at_T56 HR0.out x6_1 p104 q104
              obtain rfl : ad102 = ad104 := (by injection e104)
              replace hx104_0 := (HB.out.cell (World.block_lt_of_cell? w _ hx104_0)).trans hx104_0
              replace hx104_1 := (HB.out.cell (World.block_lt_of_cell? w _ hx104_1)).trans hx104_1
              replace hx104_2 := (HB.out.cell (World.block_lt_of_cell? w _ hx104_2)).trans hx104_2
              replace hx104_3 := (HB.out.cell (World.block_lt_of_cell? w _ hx104_3)).trans hx104_3
              replace hx104_4 := (HB.out.cell (World.block_lt_of_cell? w _ hx104_4)).trans hx104_4
              replace hx104_5 := (HB.out.cell (World.block_lt_of_cell? w _ hx104_5)).trans hx104_5
              replace hx104_6 := (HB.out.cell (World.block_lt_of_cell? w _ hx104_6)).trans hx104_6
              replace hx104_7 := (HB.out.cell (World.block_lt_of_cell? w _ hx104_7)).trans hx104_7
              replace hx104_8 := (HB.out.cell (World.block_lt_of_cell? w _ hx104_8)).trans hx104_8
              replace hx104_9 := (HB.out.cell (World.block_lt_of_cell? w _ hx104_9)).trans hx104_9
              replace hx104_10 := (HB.out.cell (World.block_lt_of_cell? w _ hx104_10)).trans hx104_10
              replace hx104_11 := (HB.out.cell (World.block_lt_of_cell? w _ hx104_11)).trans hx104_11
              have HR104_11 := Aside0.mk hi104_11
              have HC104_11 := Aside0.mk hl104_11
              clear hi104_11 hl104_11
              replace p104 := eq_true p104
              replace q104 := eq_true q104
              have ea_ := Option.some.inj (hx102_11.symm.trans hx104_11)
              injection ea_ with ea_ en_ ec_
              subst ea_
              subst ec_
              clear en_
              go_wp2
              repeat (go_quiet (fail); try go_wp2)
              go_roundg k2
              case measure => have := HK1.out; have := HK2.out; omega
              case rel => exact ⟨(wrap64 (x7_2 + 1)), (wrap64 (x8_2 + 1)), (by first | rfl | (simp; done) | (simp [*]; done)), (by first | rfl | (simp; done) | (simp [*]; done)), H', ⟨by have := HK1.out; have := HK2.out; omega⟩, ⟨by (with_reducible repeat (first | apply Kd.R_alloc | apply Kd.R_drewN | apply Kd.R_drew)); exact HO_5.out⟩, ⟨by repeat (first | (with_reducible first | exact HB.out | apply below_alloc | apply pw_below_drewN | apply below_drew1) | exact HB.out)⟩⟩
             ·rw [if_neg c12] at H
              have c12b0 : (((rd_T56 l0 x8_2).f2) == ((rd_T56 l0 x6_1).f2)) = false := beq_eq_false_iff_ne.mpr c12
              have c12b1 : (((rd_T56 l0 x8_2).f2) != ((rd_T56 l0 x6_1).f2)) = true := bne_iff_ne.mpr c12
              have H' := Aside0.mk H
              clear H
              have p102 : 0 ≤ (x6_1 : Int) := of_decide_eq_true (by first | (with_reducible assumption) | assumption)
              have q102 : x6_1 < (l0.length : Int) := of_decide_eq_true (by first | (with_reducible assumption) | assumption)
              obtain ⟨ad102, A102_11, c102_11, e102, hx102_0, hx102_1, hx102_2, hx102_3, hx102_4, hx102_5, hx102_6, hx102_7, hx102_8, hx102_9, hx102_10, hx102_11, hl102_11, hi102_11⟩ := at_T56 HR0.out x6_1 p102 q102
              cases e102
              replace hx102_0 := (HB.out.cell (World.block_lt_of_cell? w _ hx102_0)).trans hx102_0
              replace hx102_1 := (HB.out.cell (World.block_lt_of_cell? w _ hx102_1)).trans hx102_1
              replace hx102_2 := (HB.out.cell (World.block_lt_of_cell? w _ hx102_2)).trans hx102_2
              replace hx102_3 := (HB.out.cell (World.block_lt_of_cell? w _ hx102_3)).trans hx102_3
              replace hx102_4 := (HB.out.cell (World.block_lt_of_cell? w _ hx102_4)).trans hx102_4
              replace hx102_5 := (HB.out.cell (World.block_lt_of_cell? w _ hx102_5)).trans hx102_5
              replace hx102_6 := (HB.out.cell (World.block_lt_of_cell? w _ hx102_6)).trans hx102_6
              replace hx102_7 := (HB.out.cell (World.block_lt_of_cell? w _ hx102_7)).trans hx102_7
              replace hx102_8 := (HB.out.cell (World.block_lt_of_cell? w _ hx102_8)).trans hx102_8
              replace hx102_9 := (HB.out.cell (World.block_lt_of_cell? w _ hx102_9)).trans hx102_9
              replace hx102_10 := (HB.out.cell (World.block_lt_of_cell? w _ hx102_10)).trans hx102_10
              replace hx102_11 := (HB.out.cell (World.block_lt_of_cell? w _ hx102_11)).trans hx102_11
              have HR102_11 := Aside0.mk hi102_11
              have HC102_11 := Aside0.mk hl102_11
              clear hi102_11 hl102_11
              replace p102 := eq_true p102
              replace q102 := eq_true q102
              have p103 : 0 ≤ (x8_2 : Int) := of_decide_eq_true (by first | (with_reducible assumption) | assumption)
              have q103 : x8_2 < (l0.length : Int) := of_decide_eq_true (by first | (with_reducible assumption) | assumption)
              obtain ⟨ad103, A103_11, c103_11, e103, hx103_0, hx103_1, hx103_2, hx103_3, hx103_4, hx103_5, hx103_6, hx103_7, hx103_8, hx103_9, hx103_10, hx103_11, hl103_11, hi103_11⟩ := at_T56 HR0.out x8_2 p103 q103
              obtain rfl : ad102 = ad103 := (by injection e103)
              replace hx103_0 := (HB.out.cell (World.block_lt_of_cell? w _ hx103_0)).trans hx103_0
              replace hx103_1 := (HB.out.cell (World.block_lt_of_cell? w _ hx103_1)).trans hx103_1
              replace hx103_2 := (HB.out.cell (World.block_lt_of_cell? w _ hx103_2)).trans hx103_2
              replace hx103_3 := (HB.out.cell (World.block_lt_of_cell? w _ hx103_3)).trans hx103_3
              replace hx103_4 := (HB.out.cell (World.block_lt_of_cell? w _ hx103_4)).trans hx103_4
              replace hx103_5 := (HB.out.cell (World.block_lt_of_cell? w _ hx103_5)).trans hx103_5
              replace hx103_6 := (HB.out.cell (World.block_lt_of_cell? w _ hx103_6)).trans hx103_6
              replace hx103_7 := (HB.out.cell (World.block_lt_of_cell? w _ hx103_7)).trans hx103_7
              replace hx103_8 := (HB.out.cell (World.block_lt_of_cell? w _ hx103_8)).trans hx103_8
              replace hx103_9 := (HB.out.cell (World.block_lt_of_cell? w _ hx103_9)).trans hx103_9
              replace hx103_10 := (HB.out.cell (World.block_lt_of_cell? w _ hx103_10)).trans hx103_10
              replace hx103_11 := (HB.out.cell (World.block_lt_of_cell? w _ hx103_11)).trans hx103_11
              have HR103_11 := Aside0.mk hi103_11
              have HC103_11 := Aside0.mk hl103_11
              clear hi103_11 hl103_11
              replace p103 := eq_true p103
              replace q103 := eq_true q103
              have p104 : 0 ≤ (x6_1 : Int) := of_decide_eq_true (by first | (with_reducible assumption) | assumption)
              have q104 : x6_1 < (l0.length : Int) := of_decide_eq_true (by first | (with_reducible assumption) | assumption)
              obtain ⟨ad104, A104_11, c104_11, e104, hx104_0, hx104_1, hx104_2, hx104_3, hx104_4, hx104_5, hx104_6, hx104_7, hx104_8, hx104_9, hx104_10, hx104_11, hl104_11, hi104_11⟩ := at_T56 HR0.out x6_1 p104 q104
              obtain rfl : ad102 = ad104 := (by injection e104)
              replace hx104_0 := (HB.out.cell (World.block_lt_of_cell? w _ hx104_0)).trans hx104_0
              replace hx104_1 := (HB.out.cell (World.block_lt_of_cell? w _ hx104_1)).trans hx104_1
              replace hx104_2 := (HB.out.cell (World.block_lt_of_cell? w _ hx104_2)).trans hx104_2
              replace hx104_3 := (HB.out.cell (World.block_lt_of_cell? w _ hx104_3)).trans hx104_3
              replace hx104_4 := (HB.out.cell (World.block_lt_of_cell? w _ hx104_4)).trans hx104_4
              replace hx104_5 := (HB.out.cell (World.block_lt_of_cell? w _ hx104_5)).trans hx104_5
              replace hx104_6 := (HB.out.cell (World.block_lt_of_cell? w _ hx104_6)).trans hx104_6
              replace hx104_7 := (HB.out.cell (World.block_lt_of_cell? w _ hx104_7)).trans hx104_7
              replace hx104_8 := (HB.out.cell (World.block_lt_of_cell? w _ hx104_8)).trans hx104_8
              replace hx104_9 := (HB.out.cell (World.block_lt_of_cell? w _ hx104_9)).trans hx104_9
              replace hx104_10 := (HB.out.cell (World.block_lt_of_cell? w _ hx104_10)).trans hx104_10
              replace hx104_11 := (HB.out.cell (World.block_lt_of_cell? w _ hx104_11)).trans hx104_11
              have HR104_11 := Aside0.mk hi104_11
              have HC104_11 := Aside0.mk hl104_11
              clear hi104_11 hl104_11
              replace p104 := eq_true p104
              replace q104 := eq_true q104
              have ea_ := Option.some.inj (hx102_11.symm.trans hx104_11)
              injection ea_ with ea_ en_ ec_
              subst ea_
              subst ec_
              clear en_
              go_wp2
              repeat (go_quiet (fail); try go_wp2)
              go_roundg k2
              case measure => have := HK1.out; have := HK2.out; omega
              case rel => exact ⟨(x7_2), (wrap64 (x8_2 + 1)), (by first | rfl | (simp; done) | (simp [*]; done)), (by first | rfl | (simp; done) | (simp [*]; done)), H', ⟨by have := HK1.out; have := HK2.out; omega⟩, ⟨by (with_reducible repeat (first | apply Kd.R_alloc | apply Kd.R_drewN | apply Kd.R_drew)); exact HO_5.out⟩, ⟨by repeat (first | (with_reducible first | exact HB.out | apply below_alloc | apply pw_below_drewN | apply below_drew1) | exact HB.out)⟩⟩
            ·rw [if_neg c11] at H
             exact absurd H (by simp)
           ·rw [if_neg c10] at H
            have c10b0 : decide (0 < ((rd_T56 l0 x6_1).f2)) = false := decide_eq_false c10
            clear c10
            have H' := Aside0.mk H
            clear H
            have p102 : 0 ≤ (x6_1 : Int) := of_decide_eq_true (by first | (with_reducible assumption) | assumption)
            have q102 : x6_1 < (l0.length : Int) := of_decide_eq_true (by first | (with_reducible assumption) | assumption)
            obtain ⟨ad102, A102_11, c102_11, e102, hx102_0, hx102_1, hx102_2, hx102_3, hx102_4, hx102_5, hx102_6, hx102_7, hx102_8, hx102_9, hx102_10, hx102_11, hl102_11, hi102_11⟩ := at_T56 HR0.out x6_1 p102 q102
            cases e102
            replace hx102_0 := (HB.out.cell (World.block_lt_of_cell? w _ hx102_0)).trans hx102_0
            replace hx102_1 := (HB.out.cell (World.block_lt_of_cell? w _ hx102_1)).trans hx102_1
            replace hx102_2 := (HB.out.cell (World.block_lt_of_cell? w _ hx102_2)).trans hx102_2
            replace hx102_3 := (HB.out.cell (World.block_lt_of_cell? w _ hx102_3)).trans hx102_3
            replace hx102_4 := (HB.out.cell (World.block_lt_of_cell? w _ hx102_4)).trans hx102_4
            replace hx102_5 := (HB.out.cell (World.block_lt_of_cell? w _ hx102_5)).trans hx102_5
            replace hx102_6 := (HB.out.cell (World.block_lt_of_cell? w _ hx102_6)).trans hx102_6
            replace hx102_7 := (HB.out.cell (World.block_lt_of_cell? w _ hx102_7)).trans hx102_7
            replace hx102_8 := (HB.out.cell (World.block_lt_of_cell? w _ hx102_8)).trans hx102_8
            replace hx102_9 := (HB.out.cell (World.block_lt_of_cell? w _ hx102_9)).trans hx102_9
            replace hx102_10 := (HB.out.cell (World.block_lt_of_cell? w _ hx102_10)).trans hx102_10
            replace hx102_11 := (HB.out.cell (World.block_lt_of_cell? w _ hx102_11)).trans hx102_11
            have HR102_11 := Aside0.mk hi102_11
            have HC102_11 := Aside0.mk hl102_11
            clear hi102_11 hl102_11
            replace p102 := eq_true p102
            replace q102 := eq_true q102
            go_wp2
            repeat (go_quiet (fail); try go_wp2)
            go_roundg k2
            case measure => have := HK1.out; have := HK2.out; omega
            case rel => exact ⟨(x7_2), (wrap64 (x8_2 + 1)), (by first | rfl | (simp; done) | (simp [*]; done)), (by first | rfl | (simp; done) | (simp [*]; done)), H', ⟨by have := HK1.out; have := HK2.out; omega⟩, ⟨by (with_reducible repeat (first | apply Kd.R_alloc | apply Kd.R_drewN | apply Kd.R_drew)); exact HO_5.out⟩, ⟨by repeat (first | (with_reducible first | exact HB.out | apply below_alloc | apply pw_below_drewN | apply below_drew1) | exact HB.out)⟩⟩
          ·rw [if_neg c9] at H
           exact absurd H (by simp)
         ·rw [if_neg c8] at H
          exact absurd H (by simp)
       ·rw [if_neg c6] at H
        have c6b0 : decide (x8_2 < (l0.length : Int)) = false := decide_eq_false c6
        clear c6
        by_cases c13 : x5_1.length < 17592186044416
        ·rw [if_pos c13] at H
         have LMc13 := Aside0.mk c13
         clear c13
         obtain ⟨y105, hy105⟩ : ∃ y_ : List Int, y_ = (x5_1 ++ [x7_2]) := ⟨_, rfl⟩
         replace H : (creelref_LinkNames.l0 k2 l0 y105 (wrap64 (x6_1 + 1))) = some (r1, r2) := by first | (rw [hy105]; with_reducible exact H) | (have H2_ := (Option.bind_some _ _).symm.trans H; rw [hy105]; with_reducible exact H2_) | (have H2_ := (Option.bind_some _ _).symm.trans H; with_reducible exact H2_) | with_reducible exact H | (rw [hy105]; exact H) | exact H
         have Ny105 := Aside0.mk hy105
         clear hy105
         have H' := Aside0.mk H
         clear H
         go_wp2_with (first | ((with_reducible refine gate_builtin (b := .append) (xs := #[.tmp 52, .tmp 54]) rfl ?_); at_builtin; refine Kd.R_append (Kd.int .i64) (w0 := w) w.heap.size rfl (.tmp 52) (.tmp 54) 23 3 (.int .i64 0) 8 rfl Tryd.underlying23 info3 rfl (by decide) (by omega) u5 x5_1 x7_2 [.int .i64 x7_2] (fun _ => True) (fun _ => False) rfl rfl ?aP (fun _ hk => hk.elim) ?aF ?aO ?aB ?aS ?aL ?_; (case aP => exact rfl); (case aB => exact (by repeat (first | (with_reducible first | exact HB.out | apply below_alloc | apply pw_below_drewN | apply below_drew1) | exact HB.out))); (case aF => exact (fun _ _ => trivial)); (case aO => exact (by (with_reducible repeat (first | apply Kd.R_alloc | apply Kd.R_drewN | apply Kd.R_drew)); exact HO_5.out)); (case aS => exact (below_size (by repeat (first | (with_reducible first | exact HB.out | apply below_alloc | apply pw_below_drewN | apply below_drew1) | exact HB.out)))); (case aL => have := LMc13.out; omega); intro v106 w14 ho hb hg hat; rw [← Ny105.out] at ho; have n0_ := Aside0.mk (hb); have n1_ := Aside0.mk (ho); clear HB; clear HO_5; have HB := n0_; have HO107 := n1_; clear n0_ n1_; clear ho hb hg hat))
         repeat (go_quiet (first | ((with_reducible refine gate_builtin (b := .append) (xs := #[.tmp 52, .tmp 54]) rfl ?_); at_builtin; refine Kd.R_append (Kd.int .i64) (w0 := w) w.heap.size rfl (.tmp 52) (.tmp 54) 23 3 (.int .i64 0) 8 rfl Tryd.underlying23 info3 rfl (by decide) (by omega) u5 x5_1 x7_2 [.int .i64 x7_2] (fun _ => True) (fun _ => False) rfl rfl ?aP (fun _ hk => hk.elim) ?aF ?aO ?aB ?aS ?aL ?_; (case aP => exact rfl); (case aB => exact (by repeat (first | (with_reducible first | exact HB.out | apply below_alloc | apply pw_below_drewN | apply below_drew1) | exact HB.out))); (case aF => exact (fun _ _ => trivial)); (case aO => exact (by (with_reducible repeat (first | apply Kd.R_alloc | apply Kd.R_drewN | apply Kd.R_drew)); exact HO_5.out)); (case aS => exact (below_size (by repeat (first | (with_reducible first | exact HB.out | apply below_alloc | apply pw_below_drewN | apply below_drew1) | exact HB.out)))); (case aL => have := LMc13.out; omega); intro v106 w14 ho hb hg hat; rw [← Ny105.out] at ho; have n0_ := Aside0.mk (hb); have n1_ := Aside0.mk (ho); clear HB; clear HO_5; have HB := n0_; have HO107 := n1_; clear n0_ n1_; clear ho hb hg hat)); try go_wp2_with (first | ((with_reducible refine gate_builtin (b := .append) (xs := #[.tmp 52, .tmp 54]) rfl ?_); at_builtin; refine Kd.R_append (Kd.int .i64) (w0 := w) w.heap.size rfl (.tmp 52) (.tmp 54) 23 3 (.int .i64 0) 8 rfl Tryd.underlying23 info3 rfl (by decide) (by omega) u5 x5_1 x7_2 [.int .i64 x7_2] (fun _ => True) (fun _ => False) rfl rfl ?aP (fun _ hk => hk.elim) ?aF ?aO ?aB ?aS ?aL ?_; (case aP => exact rfl); (case aB => exact (by repeat (first | (with_reducible first | exact HB.out | apply below_alloc | apply pw_below_drewN | apply below_drew1) | exact HB.out))); (case aF => exact (fun _ _ => trivial)); (case aO => exact (by (with_reducible repeat (first | apply Kd.R_alloc | apply Kd.R_drewN | apply Kd.R_drew)); exact HO_5.out)); (case aS => exact (below_size (by repeat (first | (with_reducible first | exact HB.out | apply below_alloc | apply pw_below_drewN | apply below_drew1) | exact HB.out)))); (case aL => have := LMc13.out; omega); intro v106 w14 ho hb hg hat; rw [← Ny105.out] at ho; have n0_ := Aside0.mk (hb); have n1_ := Aside0.mk (ho); clear HB; clear HO_5; have HB := n0_; have HO107 := n1_; clear n0_ n1_; clear ho hb hg hat)))
         go_roundg k2
         case measure => have := HK1.out; have := HK2.out; omega
         case rel => exact ⟨(y105), (wrap64 (x6_1 + 1)), (by first | rfl | (simp; done) | (simp [*]; done)), H', ⟨by have := HK1.out; have := HK2.out; omega⟩, ⟨by (with_reducible repeat (first | apply Kd.R_alloc | apply Kd.R_drewN | apply Kd.R_drew)); exact HO107.out⟩, ⟨by repeat (first | (with_reducible first | exact HB.out | apply below_alloc | apply pw_below_drewN | apply below_drew1) | exact HB.out)⟩⟩
        ·rw [if_neg c13] at H
         exact absurd H (by simp)
    ·rw [if_neg c5] at H
     have c5b0 : decide (x6_1 < (l0.length : Int)) = false := decide_eq_false c5
     clear c5
     simp only [Option.some.injEq, Prod.mk.injEq] at H
     obtain ⟨rfl, rfl⟩ := H
     go_wp2
     repeat (go_quiet (fail); try go_wp2)
     go_ret2
     exact ⟨_, by first | rfl | (simp [errW_none, errW_some] <;> rfl) | (simp [*, errW_none, errW_some] <;> rfl), by (with_reducible repeat (first | apply Kd.R_alloc | apply Kd.R_drewN | apply Kd.R_drew)); exact HO_5.out, by repeat (first | (with_reducible first | exact HB.out | apply below_alloc | apply pw_below_drewN | apply below_drew1) | exact HB.out)⟩
 ·rw [if_neg c3] at H
  have c3b0 : (t101 == 0) = false := beq_eq_false_iff_ne.mpr c3
  have c3b1 : (t101 != 0) = true := bne_iff_ne.mpr c3
  simp only [Option.some.injEq, Prod.mk.injEq] at H
  obtain ⟨rfl, rfl⟩ := H
  go_enter Tryd.func12, Tryd.ntmps12
  go_wp2_with (first | (go_at_call 31; (with_reducible refine (creelref_TreeFault.calls k _ _ l0 t101 _ ?side1 ?side2 A2.out).mono ?_); (case side1 => repeat (first | exact HR0.out | (with_reducible refine Kd.C_alloc ?_ _) | (with_reducible refine Kd.C_drewN ?_ _) | (with_reducible refine Kd.C_drew ?_))); (case side2 => exact HC0.out); rintro e w15 ⟨rfl, hb⟩; have n0_ := Aside0.mk (below_step (by repeat (first | (with_reducible first | exact HB.out | apply below_alloc | apply pw_below_drewN | apply below_drew1) | exact HB.out)) hb); clear HB; have HB := n0_; clear n0_; (try clear hb); (try clear hb2); (try clear hk); (try clear hi)))
  repeat (go_quiet (first | (go_at_call 31; (with_reducible refine (creelref_TreeFault.calls k _ _ l0 t101 _ ?side1 ?side2 A2.out).mono ?_); (case side1 => repeat (first | exact HR0.out | (with_reducible refine Kd.C_alloc ?_ _) | (with_reducible refine Kd.C_drewN ?_ _) | (with_reducible refine Kd.C_drew ?_))); (case side2 => exact HC0.out); rintro e w15 ⟨rfl, hb⟩; have n0_ := Aside0.mk (below_step (by repeat (first | (with_reducible first | exact HB.out | apply below_alloc | apply pw_below_drewN | apply below_drew1) | exact HB.out)) hb); clear HB; have HB := n0_; clear n0_; (try clear hb); (try clear hb2); (try clear hk); (try clear hi))); try go_wp2_with (first | (go_at_call 31; (with_reducible refine (creelref_TreeFault.calls k _ _ l0 t101 _ ?side1 ?side2 A2.out).mono ?_); (case side1 => repeat (first | exact HR0.out | (with_reducible refine Kd.C_alloc ?_ _) | (with_reducible refine Kd.C_drewN ?_ _) | (with_reducible refine Kd.C_drew ?_))); (case side2 => exact HC0.out); rintro e w15 ⟨rfl, hb⟩; have n0_ := Aside0.mk (below_step (by repeat (first | (with_reducible first | exact HB.out | apply below_alloc | apply pw_below_drewN | apply below_drew1) | exact HB.out)) hb); clear HB; have HB := n0_; clear n0_; (try clear hb); (try clear hb2); (try clear hk); (try clear hi))))
  go_ret2
  exact ⟨_, by first | rfl | (simp [errW_none, errW_some] <;> rfl) | (simp [*, errW_none, errW_some] <;> rfl), by first | exact Kd.R_nil _ _ _ _ _ | exact Kd.N_nil _ _ _ _ _ | exact Kd.V_nil _ _ _ _ _ | exact Kd.Q_nil _ _ _ _ _ | exact Kd.S_nil _ _ _ _ _, by repeat (first | (with_reducible first | exact HB.out | apply below_alloc | apply pw_below_drewN | apply below_drew1) | exact HB.out)⟩

end Go.Proofs.YtodeblpanooomabDoor.All
end
section
namespace Go.Proofs.YtodeblpanooomabDoor.All
open Go.RowKit Go.Proofs.YtodeblpanooomabDoorW.PrintWords Go.Proofs.YtodeblpanooomabDoorW.PrintLast Go.Proofs.YtodeblpanooomabDoorW.PrintMore
open Go.Proofs.YtodeblpanooomabDoorW.Mine
attribute [local go_sem] gtr_string leq_string geq_string
attribute [local go_sem] max2_int min2_int max_two min_two max_three min_three max_four min_four   -- for this text's walks alone
set_option linter.unusedVariables false
set_option linter.unusedSimpArgs false

/-! ### creelref_TreeCopy: function 34 -/
def creelref_TreeCopy.l0 : Nat → List (S56) → List (S56) → Int → Option ((List (S56)))
 | 0, _, _, _ => none
 | k + 1, x0, x3, x4 => if x4 < (x0.length : Int) then (if 0 ≤ x4 then (if x3.length < 977343669134 then ((some (x3 ++ [(⟨(rd_T56 x0 x4).f0, (rd_T56 x0 x4).f1, (rd_T56 x0 x4).f2, (rd_T56 x0 x4).f3, (⟨(rd_T56 x0 x4).f4.f0, (rd_T56 x0 x4).f4.f1, (rd_T56 x0 x4).f4.f2, (rd_T56 x0 x4).f4.f3, (rd_T56 x0 x4).f4.f4, (rd_T56 x0 x4).f4.f5, (rd_T56 x0 x4).f4.f6⟩ : S53), (rd_T56 x0 x4).f5⟩ : S56)] : List (S56))).bind fun y102 => ((some (([] : List Int) : List Int)).bind fun y105 => (if y105.length + ((rd_T56 x0 x4).f5).length < 140737488355328 then (if x4 < (y102.length : Int) then (creelref_TreeCopy.l0 k x0 (y102.set (x4 : Int).toNat (⟨(rd_T56 y102 x4).f0, (rd_T56 y102 x4).f1, (rd_T56 y102 x4).f2, (rd_T56 y102 x4).f3, (⟨(rd_T56 y102 x4).f4.f0, (rd_T56 y102 x4).f4.f1, (rd_T56 y102 x4).f4.f2, (rd_T56 y102 x4).f4.f3, (rd_T56 y102 x4).f4.f4, (rd_T56 y102 x4).f4.f5, (rd_T56 y102 x4).f4.f6⟩ : S53), (y105 ++ ((rd_T56 x0 x4).f5))⟩ : S56)) (wrap64 (x4 + 1))) else (none)) else (none)))) else (none)) else (none)) else (some x3)
def creelref_TreeCopy.f (k : Nat) (l0 : List (S56)) : Option ((List (S56))) := creelref_TreeCopy.l0 k l0 ([] : List (S56)) 0
theorem creelref_TreeCopy.mono_l : ∀ k, (∀ y0 y1 y2, LeO (creelref_TreeCopy.l0 k y0 y1 y2) (creelref_TreeCopy.l0 (k + 1) y0 y1 y2))
 | 0 => fun _ _ _ r h => by simp [creelref_TreeCopy.l0] at h
 | k + 1 => by
  have ih0 := creelref_TreeCopy.mono_l k
  ·intro y0 y1 y2
   unfold creelref_TreeCopy.l0
   repeat' first
   | (with_reducible exact ih0 _ _ _)
   | (with_reducible exact LeO.refl _)
   | (with_reducible exact LeO.none _)
   | (with_reducible refine LeO.ite ?_ ?_)
   | (with_reducible refine LeO.bind ?_ (fun _ => ?_))
   | exact ih0 _ _ _
   | exact LeO.none _
   | refine LeO.ite ?_ ?_
   | refine LeO.bind ?_ (fun _ => ?_)
theorem creelref_TreeCopy.mono : ∀ a0 k, LeO (creelref_TreeCopy.f k a0) (creelref_TreeCopy.f (k + 1) a0) := by
 intro a0 k
 have ih0 := creelref_TreeCopy.mono_l k
 unfold creelref_TreeCopy.f
 repeat' first
   | (with_reducible exact ih0 _ _ _)
   | (with_reducible exact LeO.refl _)
   | (with_reducible exact LeO.none _)
   | (with_reducible refine LeO.ite ?_ ?_)
   | (with_reducible refine LeO.bind ?_ (fun _ => ?_))
   | exact ih0 _ _ _
   | exact LeO.none _
   | refine LeO.ite ?_ ?_
   | refine LeO.bind ?_ (fun _ => ?_)
set_option maxHeartbeats 8000000 in
set_option maxRecDepth 100000 in
theorem creelref_TreeCopy.calls (k : Nat) (P0_ : Nat → Prop) (A0 : Option Addr) (c0 : Nat) (l0 : List (S56)) (r : List (S56)) (w : World) (hs0 : Kd.V k56 56 w w.heap.size (fun k_ => P0_ k_) (.slice A0 l0.length c0) l0) (h : creelref_TreeCopy.f k l0 = some r) :
  Calls Tryd.prog 34 #[.slice A0 l0.length c0] w fun e w' => ∃ v0_ : Value, e = .returned (v0_) ∧ Kd.N k56 56 w' w.heap.size (fun k_ => (P0_ k_ ∨ w.heap.size ≤ k_)) v0_ r ∧ Below w.heap.size w w' := by
 have hu56 := Tryd.underlying56
 have HO0 := Aside0.mk (show Kd.V k56 56 w w.heap.size (fun k_ => (P0_ k_ ∨ w.heap.size ≤ k_)) (.slice A0 l0.length c0) l0 from Kd.V_mono hs0 (fun k_ hk => .inl hk))
 have HB := Aside0.mk (Below.refl w.heap.size w)
 have H : (creelref_TreeCopy.l0 k l0 ([] : List (S56)) 0) = some r := h
 clear h
 have H' := Aside0.mk H
 clear H
 go_enter Tryd.func34, Tryd.ntmps34
 go_wp2
 go_loopg [3, 4] k (fun kq v3 v4 w' => ∃ (x0_1 : List (S56)) (x3_1 : List (S56)) (x4_1 : Int), v4 = .int .i64 x4_1 ∧ Aside0 (creelref_TreeCopy.l0 kq x0_1 x3_1 x4_1 = some r) ∧ Aside0 (kq ≤ k) ∧ Aside0 (Kd.V k56 56 w' w.heap.size (fun k_ => (P0_ k_ ∨ w.heap.size ≤ k_) ∧ some k_ ≠ (v3 : Value).ownBlock) (.slice A0 l0.length c0) x0_1) ∧ Aside0 (Kd.N k56 56 w' w.heap.size (fun k_ => (P0_ k_ ∨ w.heap.size ≤ k_)) v3 x3_1) ∧ Aside0 (Below w.heap.size w w'))
 case atStart => exact ⟨(l0), (([] : List (S56))), (0), (by first | rfl | (simp; done) | (simp [*]; done)), H', ⟨Nat.le_refl _⟩, ⟨by (with_reducible repeat (first | apply Kd.V_alloc | apply Kd.V_drewN | apply Kd.V_drew)); exact Kd.V_mono HO0.out (fun _ hk => ⟨hk, (by simp [Value.ownBlock])⟩)⟩, ⟨by first | exact Kd.S_nil _ _ _ _ _ | exact Kd.N_nil _ _ _ _ _ | exact Kd.V_nil _ _ _ _ _ | exact Kd.Q_nil _ _ _ _ _ | exact Kd.R_nil _ _ _ _ _⟩, ⟨by repeat (first | (with_reducible first | exact HB.out | apply below_alloc | apply pw_below_drewN | apply below_drew1) | exact HB.out)⟩⟩
 case round =>
  clear H'
  obtain ⟨x0_1, x3_1, x4_1, rfl, HA, HK1, HO_0, HO_3, HB⟩ := hrel
  have hl0_1 := (Kd.V_reads' HO_0.out).1
  rw [hl0_1] at HO_0
  (try simp only [hl0_1])
  (try simp only [hl0_1] at HO_3)
  cases gk with
  | zero => exact absurd HA.out (by simp [creelref_TreeCopy.l0])
  | succ k1 =>
   have H := HA.out
   clear HA
   simp only [creelref_TreeCopy.l0] at H
   by_cases c2 : x4_1 < (x0_1.length : Int)
   ·rw [if_pos c2] at H
    have c2b0 : decide (x4_1 < (x0_1.length : Int)) = true := decide_eq_true c2
    clear c2
    by_cases c3 : 0 ≤ x4_1
    ·rw [if_pos c3] at H
     have c3b0 : decide (0 ≤ x4_1) = true := decide_eq_true c3
     clear c3
     by_cases c4 : x3_1.length < 977343669134
     ·rw [if_pos c4] at H
      have LMc4 := Aside0.mk c4
      clear c4
      obtain ⟨y102, hy102⟩ : ∃ y_ : List (S56), y_ = (x3_1 ++ [(⟨(rd_T56 x0_1 x4_1).f0, (rd_T56 x0_1 x4_1).f1, (rd_T56 x0_1 x4_1).f2, (rd_T56 x0_1 x4_1).f3, (⟨(rd_T56 x0_1 x4_1).f4.f0, (rd_T56 x0_1 x4_1).f4.f1, (rd_T56 x0_1 x4_1).f4.f2, (rd_T56 x0_1 x4_1).f4.f3, (rd_T56 x0_1 x4_1).f4.f4, (rd_T56 x0_1 x4_1).f4.f5, (rd_T56 x0_1 x4_1).f4.f6⟩ : S53), (rd_T56 x0_1 x4_1).f5⟩ : S56)]) := ⟨_, rfl⟩
      replace H : ((some (([] : List Int) : List Int)).bind fun y105 => (if y105.length + ((rd_T56 x0_1 x4_1).f5).length < 140737488355328 then (if x4_1 < (y102.length : Int) then (creelref_TreeCopy.l0 k1 x0_1 (y102.set (x4_1 : Int).toNat (⟨(rd_T56 y102 x4_1).f0, (rd_T56 y102 x4_1).f1, (rd_T56 y102 x4_1).f2, (rd_T56 y102 x4_1).f3, (⟨(rd_T56 y102 x4_1).f4.f0, (rd_T56 y102 x4_1).f4.f1, (rd_T56 y102 x4_1).f4.f2, (rd_T56 y102 x4_1).f4.f3, (rd_T56 y102 x4_1).f4.f4, (rd_T56 y102 x4_1).f4.f5, (rd_T56 y102 x4_1).f4.f6⟩ : S53), (y105 ++ ((rd_T56 x0_1 x4_1).f5))⟩ : S56)) (wrap64 (x4_1 + 1))) else (none)) else (none))) = some r := by first | (rw [hy102]; with_reducible exact H) | (have H2_ := (Option.bind_some _ _).symm.trans H; rw [hy102]; with_reducible exact H2_) | (have H2_ := (Option.bind_some _ _).symm.trans H; with_reducible exact H2_) | with_reducible exact H | (rw [hy102]; exact H) | exact H
      have Ny102 := Aside0.mk hy102
      clear hy102
      obtain ⟨y105, hy105⟩ : ∃ y_ : List Int, y_ = (([] : List Int)) := ⟨_, rfl⟩
      replace H : (if y105.length + ((rd_T56 x0_1 x4_1).f5).length < 140737488355328 then (if x4_1 < (y102.length : Int) then (creelref_TreeCopy.l0 k1 x0_1 (y102.set (x4_1 : Int).toNat (⟨(rd_T56 y102 x4_1).f0, (rd_T56 y102 x4_1).f1, (rd_T56 y102 x4_1).f2, (rd_T56 y102 x4_1).f3, (⟨(rd_T56 y102 x4_1).f4.f0, (rd_T56 y102 x4_1).f4.f1, (rd_T56 y102 x4_1).f4.f2, (rd_T56 y102 x4_1).f4.f3, (rd_T56 y102 x4_1).f4.f4, (rd_T56 y102 x4_1).f4.f5, (rd_T56 y102 x4_1).f4.f6⟩ : S53), (y105 ++ ((rd_T56 x0_1 x4_1).f5))⟩ : S56)) (wrap64 (x4_1 + 1))) else (none)) else (none)) = some r := by first | (rw [hy105]; with_reducible exact H) | (have H2_ := (Option.bind_some _ _).symm.trans H; rw [hy105]; with_reducible exact H2_) | (have H2_ := (Option.bind_some _ _).symm.trans H; with_reducible exact H2_) | with_reducible exact H | (rw [hy105]; exact H) | exact H
      have Ny105 := Aside0.mk hy105
      clear hy105
      by_cases c5 : y105.length + ((rd_T56 x0_1 x4_1).f5).length < 140737488355328
      ·rw [if_pos c5] at H
       have LMc5 := Aside0.mk c5
       clear c5
       obtain ⟨y109, hy109⟩ : ∃ y_ : List Int, y_ = (y105 ++ ((rd_T56 x0_1 x4_1).f5)) := ⟨_, rfl⟩
       replace H : (if x4_1 < (y102.length : Int) then (creelref_TreeCopy.l0 k1 x0_1 (y102.set (x4_1 : Int).toNat (⟨(rd_T56 y102 x4_1).f0, (rd_T56 y102 x4_1).f1, (rd_T56 y102 x4_1).f2, (rd_T56 y102 x4_1).f3, (⟨(rd_T56 y102 x4_1).f4.f0, (rd_T56 y102 x4_1).f4.f1, (rd_T56 y102 x4_1).f4.f2, (rd_T56 y102 x4_1).f4.f3, (rd_T56 y102 x4_1).f4.f4, (rd_T56 y102 x4_1).f4.f5, (rd_T56 y102 x4_1).f4.f6⟩ : S53), y109⟩ : S56)) (wrap64 (x4_1 + 1))) else (none)) = some r := by first | (rw [hy109]; with_reducible exact H) | (have H2_ := (Option.bind_some _ _).symm.trans H; rw [hy109]; with_reducible exact H2_) | (have H2_ := (Option.bind_some _ _).symm.trans H; with_reducible exact H2_) | with_reducible exact H | (rw [hy109]; exact H) | exact H
       have Ny109 := Aside0.mk hy109
       clear hy109
       by_cases c6 : x4_1 < (y102.length : Int)
       ·rw [if_pos c6] at H
        have c6b0 : decide (x4_1 < (y102.length : Int)) = true := decide_eq_true c6
        clear c6
        obtain ⟨y112, hy112⟩ : ∃ y_ : List (S56), y_ = (y102.set (x4_1 : Int).toNat (⟨(rd_T56 y102 x4_1).f0, (rd_T56 y102 x4_1).f1, (rd_T56 y102 x4_1).f2, (rd_T56 y102 x4_1).f3, (⟨(rd_T56 y102 x4_1).f4.f0, (rd_T56 y102 x4_1).f4.f1, (rd_T56 y102 x4_1).f4.f2, (rd_T56 y102 x4_1).f4.f3, (rd_T56 y102 x4_1).f4.f4, (rd_T56 y102 x4_1).f4.f5, (rd_T56 y102 x4_1).f4.f6⟩ : S53), y109⟩ : S56)) := ⟨_, rfl⟩
        replace H : (creelref_TreeCopy.l0 k1 x0_1 y112 (wrap64 (x4_1 + 1))) = some r := by first | (rw [hy112]; with_reducible exact H) | (have H2_ := (Option.bind_some _ _).symm.trans H; rw [hy112]; with_reducible exact H2_) | (have H2_ := (Option.bind_some _ _).symm.trans H; with_reducible exact H2_) | with_reducible exact H | (rw [hy112]; exact H) | exact H
        have Ny112 := Aside0.mk hy112
        clear hy112
        have H' := Aside0.mk H
        clear H
        have p101 : 0 ≤ (x4_1 : Int) := of_decide_eq_true (by first | (with_reducible assumption) | assumption)
        have q101 : x4_1 < (x0_1.length : Int) := of_decide_eq_true (by first | (with_reducible assumption) | assumption)
        obtain ⟨ad101, A101_11, c101_11, e101, hx101_0, hx101_1, hx101_2, hx101_3, hx101_4, hx101_5, hx101_6, hx101_7, hx101_8, hx101_9, hx101_10, hx101_11, hl101_11, hi101_11⟩ := at_T56 (Kd.V_reads' HO_0.out).2.2 x4_1 p101 q101
        cases e101
        obtain ⟨ce101, hce101, hMe101, hcc101⟩ := Kd.V_get HO_0.out z56 x4_1 p101 (by first | exact q101 | exact of_decide_eq_true (by first | (with_reducible assumption) | assumption) | (have e_ := (Kd.V_reads' HO_0.out).1; omega))
        obtain ⟨ua101_11, uc101_11, rfl, ul101_11, ge101_11⟩ := k56_openF hMe101
        have hv101_11 := hcc101 11 _ rfl
        rw [add_field _ _ 11 (by omega)] at hv101_11
        replace hv101_11 := Option.some.inj (hv101_11.symm.trans hx101_11)
        injection hv101_11 with hva_ hvn_ hvc_
        rw [hva_] at ge101_11
        rw [hvc_] at ul101_11
        have HL101_11 := Aside0.mk (show Kd.V (Kd.int .u8) 5 _ w.heap.size _ _ ((rd_T56 x0_1 x4_1).f5) from Kd.V_mk ul101_11 ge101_11)
        clear hva_ hvn_ hvc_ ge101_11 ul101_11
        clear hcc101 hce101
        have HR101_11 := Aside0.mk hi101_11
        have HC101_11 := Aside0.mk hl101_11
        clear hi101_11 hl101_11
        replace p101 := eq_true p101
        replace q101 := eq_true q101
        go_wp2_with (first | ((with_reducible refine gate_builtin (b := .append) (xs := #[.tmp 11, .tmp 16]) rfl ?_); at_builtin; refine Kd.N_append k56 (w0 := w) w.heap.size rfl (.tmp 11) (.tmp 16) 22 56 (.agg #[(.string ⟨#[]⟩), (.int .i64 0), (.int .i64 0), (.string ⟨#[]⟩), (.int .i64 0), (.int .i64 0), (.int .i64 0), (.string ⟨#[]⟩), (.string ⟨#[]⟩), (.int .i64 0), (.int .i64 0), (.slice none 0 0)]) 144 rfl Tryd.underlying22 info56 rfl (by decide) (by omega) u3 x3_1 (⟨(rd_T56 x0_1 x4_1).f0, (rd_T56 x0_1 x4_1).f1, (rd_T56 x0_1 x4_1).f2, (rd_T56 x0_1 x4_1).f3, (⟨(rd_T56 x0_1 x4_1).f4.f0, (rd_T56 x0_1 x4_1).f4.f1, (rd_T56 x0_1 x4_1).f4.f2, (rd_T56 x0_1 x4_1).f4.f3, (rd_T56 x0_1 x4_1).f4.f4, (rd_T56 x0_1 x4_1).f4.f5, (rd_T56 x0_1 x4_1).f4.f6⟩ : S53), (rd_T56 x0_1 x4_1).f5⟩ : S56) [.string ((rd_T56 x0_1 x4_1).f0), .int .i64 ((rd_T56 x0_1 x4_1).f1), .int .i64 ((rd_T56 x0_1 x4_1).f2), .string ((rd_T56 x0_1 x4_1).f3), .int .i64 ((rd_T56 x0_1 x4_1).f4.f0), .int .i64 ((rd_T56 x0_1 x4_1).f4.f1), .int .i64 ((rd_T56 x0_1 x4_1).f4.f2), .string ((rd_T56 x0_1 x4_1).f4.f3), .string ((rd_T56 x0_1 x4_1).f4.f4), .int .i64 ((rd_T56 x0_1 x4_1).f4.f5), .int .i64 ((rd_T56 x0_1 x4_1).f4.f6), .slice A101_11 ((rd_T56 x0_1 x4_1).f5).length c101_11] (fun k_ => (P0_ k_ ∨ w.heap.size ≤ k_)) (fun k_ => ((fun k_ => (P0_ k_ ∨ w.heap.size ≤ k_))) k_ ∧ some k_ ≠ (u3 : Value).ownBlock) rfl rfl ?aP (fun _ hk => hk) ?aF ?aO ?aB ?aS ?aL ?_; (case aP => exact (k56_mkF _ _ (⟨(rd_T56 x0_1 x4_1).f0, (rd_T56 x0_1 x4_1).f1, (rd_T56 x0_1 x4_1).f2, (rd_T56 x0_1 x4_1).f3, (⟨(rd_T56 x0_1 x4_1).f4.f0, (rd_T56 x0_1 x4_1).f4.f1, (rd_T56 x0_1 x4_1).f4.f2, (rd_T56 x0_1 x4_1).f4.f3, (rd_T56 x0_1 x4_1).f4.f4, (rd_T56 x0_1 x4_1).f4.f5, (rd_T56 x0_1 x4_1).f4.f6⟩ : S53), (rd_T56 x0_1 x4_1).f5⟩ : S56) (Kd.V_reads' (Kd.V_mono (ok' := (fun k_ => ((fun k_ => (P0_ k_ ∨ w.heap.size ≤ k_))) k_ ∧ some k_ ≠ (u3 : Value).ownBlock)) (HL101_11.out) (fun k_ hk => ⟨hk.1, hk.2⟩))).2.1 (Kd.V_F (Kd.V_mono (ok' := (fun k_ => ((fun k_ => (P0_ k_ ∨ w.heap.size ≤ k_))) k_ ∧ some k_ ≠ (u3 : Value).ownBlock)) (HL101_11.out) (fun k_ hk => ⟨hk.1, hk.2⟩))))); (case aB => exact (by repeat (first | (with_reducible first | exact HB.out | apply below_alloc | apply pw_below_drewN | apply below_drew1) | exact HB.out))); (case aF => exact (fun k_ hk => (.inr (Nat.le_trans (below_size (by repeat (first | (with_reducible first | exact HB.out | apply below_alloc | apply pw_below_drewN | apply below_drew1) | exact HB.out))) hk)))); (case aO => exact (by (with_reducible repeat (first | apply Kd.N_alloc | apply Kd.N_drewN | apply Kd.N_drew)); exact HO_3.out)); (case aS => exact (below_size (by repeat (first | (with_reducible first | exact HB.out | apply below_alloc | apply pw_below_drewN | apply below_drew1) | exact HB.out)))); (case aL => have := LMc4.out; omega); intro v103 w8 ho hb hg hat; rw [← Ny102.out] at ho; have n0_ := Aside0.mk (Kd.V_afterv (ok := (fun k_ => (P0_ k_ ∨ w.heap.size ≤ k_))) (by (with_reducible repeat (first | apply Kd.V_alloc | apply Kd.V_drewN | apply Kd.V_drew)); exact HO_0.out) hg hat); have n1_ := Aside0.mk (Kd.V_afterv (ok := (fun k_ => (P0_ k_ ∨ w.heap.size ≤ k_))) (by (with_reducible repeat (first | apply Kd.V_alloc | apply Kd.V_drewN | apply Kd.V_drew)); exact HL101_11.out) hg hat); have n2_ := Aside0.mk (hb); have n3_ := Aside0.mk (ho); clear HO_0; clear HL101_11; clear HB; clear HO_3; have HO_0 := n0_; have HL101_11 := n1_; have HB := n2_; have HO104 := n3_; clear n0_ n1_ n2_ n3_; clear ho hb hg hat) | ((with_reducible refine gate_dst (N := 20) rfl ?_); refine Kd.R_lit (Kd.int .u8) _ 5 ?hg (N := 20) ?hd (xs := ([] : List Int)) (inner := []) (ok := fun _ => True) (okp := fun _ => True) ?hr ?hp (fun _ hk => hk) trivial (Below.refl _ _) (Nat.le_refl _) (by simp) ?_; (case hd => rfl); (case hg => rfl); (case hr => first | (go_simp; done) | (go_simp; rfl)); (case hp => exact (Reps.none _ _)); intro v106 w9 ho10 hb hg_ hnew_; clear hg_ hnew_; (first | rw [← Ny105.out] at ho10 | (simp only [Int.reduceToNat] at ho10; rw [← Ny105.out] at ho10)); have n0_ := Aside0.mk (Kd.V_elder' (by (with_reducible repeat (first | apply Kd.V_alloc | apply Kd.V_drewN | apply Kd.V_drew)); exact HO_0.out) (Kd.R_base ho10) hb); have n1_ := Aside0.mk (Kd.V_elder' (by (with_reducible repeat (first | apply Kd.V_alloc | apply Kd.V_drewN | apply Kd.V_drew)); exact HL101_11.out) (Kd.R_base ho10) hb); have n2_ := Aside0.mk (Kd.N_elder' (by (with_reducible repeat (first | apply Kd.N_alloc | apply Kd.N_drewN | apply Kd.N_drew)); exact HO104.out) (Kd.R_base ho10) hb); have n3_ := Aside0.mk (Kd.R_lower (Kd.R_newM (M := fun k_ => (w.heap.size ≤ k_)) ho10 (below_size (by repeat (first | (with_reducible first | exact HB.out | apply below_alloc | apply pw_below_drewN | apply below_drew1) | exact HB.out))) (fun k_ h_ => h_)) (below_size (by repeat (first | (with_reducible first | exact HB.out | apply below_alloc | apply pw_below_drewN | apply below_drew1) | exact HB.out)))); have n4_ := Aside0.mk (below_step (by repeat (first | (with_reducible first | exact HB.out | apply below_alloc | apply pw_below_drewN | apply below_drew1) | exact HB.out)) hb); clear HO_0; clear HL101_11; clear HO104; clear HB; have HO_0 := n0_; have HL101_11 := n1_; have HO104 := n2_; have HO107 := n3_; have HB := n4_; clear n0_ n1_ n2_ n3_ n4_; clear hb ho10; have p108 : 0 ≤ (x4_1 : Int) := of_decide_eq_true (by first | (with_reducible assumption) | assumption); have q108 : x4_1 < (x0_1.length : Int) := of_decide_eq_true (by first | (with_reducible assumption) | assumption); obtain ⟨ad108, A108_11, c108_11, e108, hx108_0, hx108_1, hx108_2, hx108_3, hx108_4, hx108_5, hx108_6, hx108_7, hx108_8, hx108_9, hx108_10, hx108_11, hl108_11, hi108_11⟩ := at_T56 (Kd.V_reads' HO_0.out).2.2 x4_1 p108 q108; obtain rfl : ad101 = ad108 := (by injection e108); obtain ⟨ce108, hce108, hMe108, hcc108⟩ := Kd.V_get HO_0.out z56 x4_1 p108 (by first | exact q108 | exact of_decide_eq_true (by first | (with_reducible assumption) | assumption) | (have e_ := (Kd.V_reads' HO_0.out).1; omega)); obtain ⟨ua108_11, uc108_11, rfl, ul108_11, ge108_11⟩ := k56_openF hMe108; have hv108_11 := hcc108 11 _ rfl; rw [add_field _ _ 11 (by omega)] at hv108_11; replace hv108_11 := Option.some.inj (hv108_11.symm.trans hx108_11); injection hv108_11 with hva_ hvn_ hvc_; rw [hva_] at ge108_11; rw [hvc_] at ul108_11; have HL108_11 := Aside0.mk (show Kd.V (Kd.int .u8) 5 _ w.heap.size _ _ ((rd_T56 x0_1 x4_1).f5) from Kd.V_mk ul108_11 ge108_11); clear hva_ hvn_ hvc_ ge108_11 ul108_11; clear hcc108 hce108; have HR108_11 := Aside0.mk hi108_11; have HC108_11 := Aside0.mk hl108_11; clear hi108_11 hl108_11; replace p108 := eq_true p108; replace q108 := eq_true q108) | ((with_reducible refine gate_builtin (b := .append) (xs := #[.tmp 20, .tmp 25]) rfl ?_); at_builtin; refine Kd.R_append_rows (Kd.int .u8) (w0 := w) w.heap.size rfl (.tmp 20) (.tmp 25) 54 5 (.int .u8 0) 1 rfl Tryd.underlying54 info5 rfl (by decide) (by omega) v106 y105 ((rd_T56 x0_1 x4_1).f5) _ _ _ (fun k_ => (w.heap.size ≤ k_)) (fun _ => False) rfl rfl ?aO ?aR (fun _ _ h => h) (fun _ h => h.elim) ?aF ?aB ?aS ?aL ?_; (case aR => repeat (first | exact (by repeat (first | (with_reducible exact HR108_11.out) | (with_reducible refine Kd.C_alloc ?_ _) | (with_reducible refine Kd.C_drewN ?_ _) | (with_reducible refine Kd.C_drew ?_) | exact HR108_11.out)) | (with_reducible refine Kd.C_alloc ?_ _) | (with_reducible refine Kd.C_drewN ?_ _) | (with_reducible refine Kd.C_drew ?_))); (case aB => exact (by repeat (first | (with_reducible first | exact HB.out | apply below_alloc | apply pw_below_drewN | apply below_drew1) | exact HB.out))); (case aF => exact (fun k_ hk => (Nat.le_trans (below_size (by repeat (first | (with_reducible first | exact HB.out | apply below_alloc | apply pw_below_drewN | apply below_drew1) | exact HB.out))) hk))); (case aO => exact (by (with_reducible repeat (first | apply Kd.R_alloc | apply Kd.R_drewN | apply Kd.R_drew)); exact Kd.R_mono HO107.out (fun _ hk => hk.1))); (case aS => exact (below_size (by repeat (first | (with_reducible first | exact HB.out | apply below_alloc | apply pw_below_drewN | apply below_drew1) | exact HB.out)))); (case aL => have := LMc5.out; omega); intro v110 w11 ho hb hg hat; rw [← Ny109.out] at ho; have n0_ := Aside0.mk (Kd.V_afterv (ok := (fun k_ => (P0_ k_ ∨ w.heap.size ≤ k_) ∧ some k_ ≠ (v103 : Value).ownBlock)) (by (with_reducible repeat (first | apply Kd.V_alloc | apply Kd.V_drewN | apply Kd.V_drew)); exact HO_0.out) hg hat); have n1_ := Aside0.mk (Kd.V_afterv (ok := (fun k_ => (P0_ k_ ∨ w.heap.size ≤ k_) ∧ some k_ ≠ (v103 : Value).ownBlock)) (by (with_reducible repeat (first | apply Kd.V_alloc | apply Kd.V_drewN | apply Kd.V_drew)); exact HL101_11.out) hg hat); have n2_ := Aside0.mk (Kd.N_afterv (ok := (fun k_ => (P0_ k_ ∨ w.heap.size ≤ k_))) (by (with_reducible repeat (first | apply Kd.N_alloc | apply Kd.N_drewN | apply Kd.N_drew)); exact HO104.out) hg hat); have n3_ := Aside0.mk (Kd.V_afterv (ok := (fun k_ => (P0_ k_ ∨ w.heap.size ≤ k_) ∧ some k_ ≠ (v103 : Value).ownBlock)) (by (with_reducible repeat (first | apply Kd.V_alloc | apply Kd.V_drewN | apply Kd.V_drew)); exact HL108_11.out) hg hat); have n4_ := Aside0.mk (hb); have n5_ := Aside0.mk (ho); clear HO_0; clear HL101_11; clear HO104; clear HL108_11; clear HB; clear HO107; have HO_0 := n0_; have HL101_11 := n1_; have HO104 := n2_; have HL108_11 := n3_; have HB := n4_; have HO111 := n5_; clear n0_ n1_ n2_ n3_ n4_ n5_; clear ho hb hg hat; obtain ⟨Ao_v110, co_v110, eo_v110⟩ := Kd.R_slice HO111.out; subst eo_v110; have p7 : 0 ≤ (x4_1 : Int) := of_decide_eq_true (by first | (with_reducible assumption) | assumption); have q7 : (x4_1 : Int) < ((y102.length : Int) : Int) := of_decide_eq_true (by first | (with_reducible assumption) | assumption); obtain ⟨go7, co7, eo7, gb7, gl7, cl7, HG7⟩ := Kd.N_form HO104.out (by omega); (first | cases eo7 | (injection eo7 with ea_ en_ ec_; (first | subst ea_ | (injection ea_ with ea_; subst ea_)); subst ec_; clear en_)); have GB7 := Aside0.mk gb7; have GG7 := Aside0.mk HG7; clear gb7 gl7 HG7; obtain ⟨ce7, hcl7, hM7, hcc7, hfr7⟩ := Kd.N_elem HO104.out z56 (x4_1 : Int) p7 q7; obtain ⟨ua7_11, uc7_11, rfl, ul7_11, ge7_11⟩ := k56_openF hM7; have hx7_0 : w11.cell? ⟨go7, (x4_1 : Int).toNat * 12, none⟩ = some (.string ((rd_T56 y102 x4_1).f0)) := hcc7 0 _ rfl; have hx7_1 : w11.cell? ⟨go7, (x4_1 : Int).toNat * 12 + 1, none⟩ = some (.int .i64 ((rd_T56 y102 x4_1).f1)) := hcc7 1 _ rfl; have hx7_2 : w11.cell? ⟨go7, (x4_1 : Int).toNat * 12 + 2, none⟩ = some (.int .i64 ((rd_T56 y102 x4_1).f2)) := hcc7 2 _ rfl; have hx7_3 : w11.cell? ⟨go7, (x4_1 : Int).toNat * 12 + 3, none⟩ = some (.string ((rd_T56 y102 x4_1).f3)) := hcc7 3 _ rfl; have hx7_4 : w11.cell? ⟨go7, (x4_1 : Int).toNat * 12 + 4, none⟩ = some (.int .i64 ((rd_T56 y102 x4_1).f4.f0)) := hcc7 4 _ rfl; have hx7_5 : w11.cell? ⟨go7, (x4_1 : Int).toNat * 12 + 5, none⟩ = some (.int .i64 ((rd_T56 y102 x4_1).f4.f1)) := hcc7 5 _ rfl; have hx7_6 : w11.cell? ⟨go7, (x4_1 : Int).toNat * 12 + 6, none⟩ = some (.int .i64 ((rd_T56 y102 x4_1).f4.f2)) := hcc7 6 _ rfl; have hx7_7 : w11.cell? ⟨go7, (x4_1 : Int).toNat * 12 + 7, none⟩ = some (.string ((rd_T56 y102 x4_1).f4.f3)) := hcc7 7 _ rfl; have hx7_8 : w11.cell? ⟨go7, (x4_1 : Int).toNat * 12 + 8, none⟩ = some (.string ((rd_T56 y102 x4_1).f4.f4)) := hcc7 8 _ rfl; have hx7_9 : w11.cell? ⟨go7, (x4_1 : Int).toNat * 12 + 9, none⟩ = some (.int .i64 ((rd_T56 y102 x4_1).f4.f5)) := hcc7 9 _ rfl; have hx7_10 : w11.cell? ⟨go7, (x4_1 : Int).toNat * 12 + 10, none⟩ = some (.int .i64 ((rd_T56 y102 x4_1).f4.f6)) := hcc7 10 _ rfl; have hx7_11 : w11.cell? ⟨go7, (x4_1 : Int).toNat * 12 + 11, none⟩ = some (.slice ua7_11 ((rd_T56 y102 x4_1).f5).length uc7_11) := hcc7 11 _ rfl; have hf7_0 : w11.frozen? ⟨go7, (x4_1 : Int).toNat * 12, none⟩ = false := hfr7 0; have hf7_1 : w11.frozen? ⟨go7, (x4_1 : Int).toNat * 12 + 1, none⟩ = false := hfr7 1; have hf7_2 : w11.frozen? ⟨go7, (x4_1 : Int).toNat * 12 + 2, none⟩ = false := hfr7 2; have hf7_3 : w11.frozen? ⟨go7, (x4_1 : Int).toNat * 12 + 3, none⟩ = false := hfr7 3; have hf7_4 : w11.frozen? ⟨go7, (x4_1 : Int).toNat * 12 + 4, none⟩ = false := hfr7 4; have hf7_5 : w11.frozen? ⟨go7, (x4_1 : Int).toNat * 12 + 5, none⟩ = false := hfr7 5; have hf7_6 : w11.frozen? ⟨go7, (x4_1 : Int).toNat * 12 + 6, none⟩ = false := hfr7 6; have hf7_7 : w11.frozen? ⟨go7, (x4_1 : Int).toNat * 12 + 7, none⟩ = false := hfr7 7; have hf7_8 : w11.frozen? ⟨go7, (x4_1 : Int).toNat * 12 + 8, none⟩ = false := hfr7 8; have hf7_9 : w11.frozen? ⟨go7, (x4_1 : Int).toNat * 12 + 9, none⟩ = false := hfr7 9; have hf7_10 : w11.frozen? ⟨go7, (x4_1 : Int).toNat * 12 + 10, none⟩ = false := hfr7 10; have hf7_11 : w11.frozen? ⟨go7, (x4_1 : Int).toNat * 12 + 11, none⟩ = false := hfr7 11; clear hcl7 hcc7 hfr7 hM7; replace p7 := eq_true p7; replace q7 := eq_true q7; have HX12 := Aside0.mk (show Kd.N k56 56 w11 w.heap.size (fun k_ => (P0_ k_ ∨ w.heap.size ≤ k_)) (.slice (some ⟨go7, 0, none⟩) y102.length co7) y102 from (by (with_reducible repeat (first | apply Kd.N_alloc | apply Kd.N_drewN | apply Kd.N_drew)); exact Kd.N_mono HO104.out (fun _ hk => hk.1))); obtain ⟨ce12, hcl12, hM12, hcc12, hfr12⟩ := Kd.N_elem HX12.out z56 (x4_1 : Int) (of_decide_eq_true (by first | (with_reducible assumption) | assumption)) (by have h_ : (x4_1 : Int) < ((y102.length : Int) : Int) := of_decide_eq_true (by first | (with_reducible assumption) | assumption); first | exact h_ | (have e_ := (Kd.N_reads' HO104.out).1; omega) | simpa using h_); obtain ⟨ua12_11, uc12_11, rfl, ul12_11, ge12_11⟩ := k56_openF hM12; have HP12 := Kd.N_seg HX12.out (x4_1 : Int) (of_decide_eq_true (by first | (with_reducible assumption) | assumption)) (by have h_ : (x4_1 : Int) < ((y102.length : Int) : Int) := of_decide_eq_true (by first | (with_reducible assumption) | assumption); first | exact h_ | (have e_ := (Kd.N_reads' HO104.out).1; omega) | simpa using h_) (seg := [(.slice Ao_v110 y109.length co_v110)]) (j := 11) hcl12 hcc12 (show 12 ≤ 12 from by decide) (x' := (⟨(rd_T56 y102 x4_1).f0, (rd_T56 y102 x4_1).f1, (rd_T56 y102 x4_1).f2, (rd_T56 y102 x4_1).f3, (⟨(rd_T56 y102 x4_1).f4.f0, (rd_T56 y102 x4_1).f4.f1, (rd_T56 y102 x4_1).f4.f2, (rd_T56 y102 x4_1).f4.f3, (rd_T56 y102 x4_1).f4.f4, (rd_T56 y102 x4_1).f4.f5, (rd_T56 y102 x4_1).f4.f6⟩ : S53), y109⟩ : S56)) (k56_mkF _ _ (⟨(rd_T56 y102 x4_1).f0, (rd_T56 y102 x4_1).f1, (rd_T56 y102 x4_1).f2, (rd_T56 y102 x4_1).f3, (⟨(rd_T56 y102 x4_1).f4.f0, (rd_T56 y102 x4_1).f4.f1, (rd_T56 y102 x4_1).f4.f2, (rd_T56 y102 x4_1).f4.f3, (rd_T56 y102 x4_1).f4.f4, (rd_T56 y102 x4_1).f4.f5, (rd_T56 y102 x4_1).f4.f6⟩ : S53), y109⟩ : S56) (Kd.R_reads' (Kd.R_mono (ok' := (fun k_ => ((fun k_ => (P0_ k_ ∨ w.heap.size ≤ k_))) k_ ∧ k_ ≠ go7)) (Kd.R_apart' (HO111.out) (Kd.N_typed HO104.out) (by decide)) (fun k_ hk => ⟨(.inr (hk.1)), fun e_ => (hk.2) (by rw [e_]; rfl)⟩))).2.1 (Kd.R_F (Kd.R_mono (ok' := (fun k_ => ((fun k_ => (P0_ k_ ∨ w.heap.size ≤ k_))) k_ ∧ k_ ≠ go7)) (Kd.R_apart' (HO111.out) (Kd.N_typed HO104.out) (by decide)) (fun k_ hk => ⟨(.inr (hk.1)), fun e_ => (hk.2) (by rw [e_]; rfl)⟩)))) (fun _ hk => hk); have hx12_11 := hcc12 11 _ rfl; (try simp only [show (k56).sz = 12 from rfl, Nat.mul_one, Nat.add_zero] at hx12_11); have hf12_11 := hfr12 11; (try simp only [show (k56).sz = 12 from rfl, Nat.mul_one, Nat.add_zero] at hf12_11); clear hcl12 hcc12 hfr12 hM12) | ((with_reducible refine gate_store (t := 54) (p := 28) rfl ?_); refine store_event (t := 54) (p := 28) (v := ?vo_w13) (w1 := (w11.setCell ⟨go7, (x4_1 : Int).toNat * 12 + 11, none⟩ ((.slice Ao_v110 y109.length co_v110)))) ?hg ?ho ?hn ?hr ?_; (case ho => rfl); (case hg => rfl); (case hn => rfl); (case hr => first | (go_simp; done) | (go_simp; rfl)); intro w13 hw; have hg : w11.grownBy w13 (some go7) := (by rw [hw]; exact HP12.2); have hp_ : Kd.N k56 56 w13 w.heap.size (fun k_ => (P0_ k_ ∨ w.heap.size ≤ k_)) (.slice (some ⟨go7, 0, none⟩) y102.length co7) y112 := (by rw [hw, Ny112.out]; exact HP12.1); clear HP12; have n0_ := Aside0.mk (Kd.V_afterv (v := (.slice (some ⟨go7, 0, none⟩) y102.length co7)) (v1 := (.slice (some ⟨go7, 0, none⟩) y102.length co7)) (ok := (fun k_ => (P0_ k_ ∨ w.heap.size ≤ k_) ∧ some k_ ≠ ((.slice Ao_v110 y109.length co_v110) : Value).ownBlock)) (by (with_reducible repeat (first | apply Kd.V_alloc | apply Kd.V_drewN | apply Kd.V_drew)); exact Kd.V_mono HO_0.out (fun _ hk => ⟨⟨hk.1.1, hk.2⟩, hk.1.2⟩)) hg (.inl rfl)); have n1_ := Aside0.mk (Kd.V_afterv (v := (.slice (some ⟨go7, 0, none⟩) y102.length co7)) (v1 := (.slice (some ⟨go7, 0, none⟩) y102.length co7)) (ok := (fun k_ => (P0_ k_ ∨ w.heap.size ≤ k_) ∧ some k_ ≠ ((.slice Ao_v110 y109.length co_v110) : Value).ownBlock)) (by (with_reducible repeat (first | apply Kd.V_alloc | apply Kd.V_drewN | apply Kd.V_drew)); exact Kd.V_mono HL101_11.out (fun _ hk => ⟨⟨hk.1.1, hk.2⟩, hk.1.2⟩)) hg (.inl rfl)); have n2_ := Aside0.mk (hp_); have n3_ := Aside0.mk (Kd.V_afterv (v := (.slice (some ⟨go7, 0, none⟩) y102.length co7)) (v1 := (.slice (some ⟨go7, 0, none⟩) y102.length co7)) (ok := (fun k_ => (P0_ k_ ∨ w.heap.size ≤ k_) ∧ some k_ ≠ ((.slice Ao_v110 y109.length co_v110) : Value).ownBlock)) (by (with_reducible repeat (first | apply Kd.V_alloc | apply Kd.V_drewN | apply Kd.V_drew)); exact Kd.V_mono HL108_11.out (fun _ hk => ⟨⟨hk.1.1, hk.2⟩, hk.1.2⟩)) hg (.inl rfl)); have n4_ := Aside0.mk ((by rw [hw]; exact below_set (HB.out) GB7.out : Below w.heap.size w w13)); clear HO_0; clear HL101_11; clear HO104; clear HL108_11; clear HB; clear HO111; have HO_0 := n0_; have HL101_11 := n1_; have HO104 := n2_; have HL108_11 := n3_; have HB := n4_; clear n0_ n1_ n2_ n3_ n4_; clear hg hw hp_))
        (try simp only [← hl0_1])
        go_roundg k1
        case measure => have := HK1.out; omega
        case rel => exact ⟨(x0_1), (y112), (wrap64 (x4_1 + 1)), (by first | rfl | (simp; done) | (simp [*]; done)), H', ⟨by have := HK1.out; omega⟩, ⟨by (try simp only [hl0_1]); (with_reducible repeat (first | apply Kd.V_alloc | apply Kd.V_drewN | apply Kd.V_drew)); exact Kd.V_mono HO_0.out (fun _ hk => ⟨hk.1.1, hk.2⟩)⟩, ⟨by (try simp only [hl0_1]); (with_reducible repeat (first | apply Kd.N_alloc | apply Kd.N_drewN | apply Kd.N_drew)); exact HO104.out⟩, ⟨by repeat (first | (with_reducible first | exact HB.out | apply below_alloc | apply pw_below_drewN | apply below_drew1) | exact HB.out)⟩⟩
       ·rw [if_neg c6] at H
        exact absurd H (by simp)
      ·rw [if_neg c5] at H
       exact absurd H (by simp)
     ·rw [if_neg c4] at H
      exact absurd H (by simp)
    ·rw [if_neg c3] at H
     exact absurd H (by simp)
   ·rw [if_neg c2] at H
    have c2b0 : decide (x4_1 < (x0_1.length : Int)) = false := decide_eq_false c2
    clear c2
    obtain rfl := Option.some.inj H
    go_wp2
    go_ret
    exact ⟨_, by first | rfl | (simp [errW_none, errW_some] <;> rfl) | (simp [*, errW_none, errW_some] <;> rfl), by (with_reducible repeat (first | apply Kd.N_alloc | apply Kd.N_drewN | apply Kd.N_drew)); exact HO_3.out, by repeat (first | (with_reducible first | exact HB.out | apply below_alloc | apply pw_below_drewN | apply below_drew1) | exact HB.out)⟩

end Go.Proofs.YtodeblpanooomabDoor.All
end
section
namespace Go.Proofs.YtodeblpanooomabDoor.All
open Go.RowKit Go.Proofs.YtodeblpanooomabDoorW.PrintWords Go.Proofs.YtodeblpanooomabDoorW.PrintLast Go.Proofs.YtodeblpanooomabDoorW.PrintMore
open Go.Proofs.YtodeblpanooomabDoorW.Mine
attribute [local go_sem] gtr_string leq_string geq_string
attribute [local go_sem] max2_int min2_int max_two min_two max_three min_three max_four min_four   -- for this text's walks alone
set_option linter.unusedVariables false
set_option linter.unusedSimpArgs false

/-! ### creelref_LinkAnew: function 15 -/
def creelref_LinkAnew.l0 : Nat → List Int → List Int → List (S56) → Int → Option ((List (S56)) × Int)
 | 0, _, _, _, _ => none
 | k + 1, x4, x6, x8, x9 => if x9 < (x8.length : Int) then (if 0 ≤ x9 then ((some (x8.set (x9 : Int).toNat (⟨(rd_T56 x8 x9).f0, (rd_T56 x8 x9).f1, 0, (rd_T56 x8 x9).f3, (⟨(rd_T56 x8 x9).f4.f0, (rd_T56 x8 x9).f4.f1, (rd_T56 x8 x9).f4.f2, (rd_T56 x8 x9).f4.f3, (rd_T56 x8 x9).f4.f4, (rd_T56 x8 x9).f4.f5, (rd_T56 x8 x9).f4.f6⟩ : S53), (rd_T56 x8 x9).f5⟩ : S56) : List (S56))).bind fun y112 => (if x9 < (x6.length : Int) then (if (rd x6 x9) > 1 then (if x9 < (x4.length : Int) then (creelref_LinkAnew.l0 k x4 x6 (y112.set (x9 : Int).toNat (⟨(rd_T56 y112 x9).f0, (rd_T56 y112 x9).f1, wrap64 ((rd x4 x9) + 1), (rd_T56 y112 x9).f3, (⟨(rd_T56 y112 x9).f4.f0, (rd_T56 y112 x9).f4.f1, (rd_T56 y112 x9).f4.f2, (rd_T56 y112 x9).f4.f3, (rd_T56 y112 x9).f4.f4, (rd_T56 y112 x9).f4.f5, (rd_T56 y112 x9).f4.f6⟩ : S53), (rd_T56 y112 x9).f5⟩ : S56)) (wrap64 (x9 + 1))) else (none)) else (creelref_LinkAnew.l0 k x4 x6 y112 (wrap64 (x9 + 1)))) else (none))) else (none)) else (some (x8, 0))
def creelref_LinkAnew.f (k : Nat) (l0 : List (S56)) : Option ((List (S56)) × Int) := (creelref_LinkFirsts.f k l0).bind fun bt101 => (if bt101.2 = 0 then ((creelref_LinkNames.f k l0).bind fun bt105 => ((creelref_TreeCopy.f k l0).bind fun t109 => (creelref_LinkAnew.l0 k bt101.1 bt105.1 t109 0))) else (some (([] : List (S56)), bt101.2)))
theorem creelref_LinkAnew.mono_l : ∀ k, (∀ y0 y1 y2 y3, LeO (creelref_LinkAnew.l0 k y0 y1 y2 y3) (creelref_LinkAnew.l0 (k + 1) y0 y1 y2 y3))
 | 0 => fun _ _ _ _ r h => by simp [creelref_LinkAnew.l0] at h
 | k + 1 => by
  have ih0 := creelref_LinkAnew.mono_l k
  ·intro y0 y1 y2 y3
   unfold creelref_LinkAnew.l0
   repeat' first
   | (with_reducible exact ih0 _ _ _ _)
   | (with_reducible exact creelref_LinkFirsts.mono _ _)
   | (with_reducible exact creelref_LinkNames.mono _ _)
   | (with_reducible exact creelref_TreeCopy.mono _ _)
   | (with_reducible exact LeO.refl _)
   | (with_reducible exact LeO.none _)
   | (with_reducible refine LeO.ite ?_ ?_)
   | (with_reducible refine LeO.bind ?_ (fun _ => ?_))
   | exact ih0 _ _ _ _
   | exact creelref_LinkFirsts.mono _ _
   | exact creelref_LinkNames.mono _ _
   | exact creelref_TreeCopy.mono _ _
   | exact LeO.none _
   | refine LeO.ite ?_ ?_
   | refine LeO.bind ?_ (fun _ => ?_)
theorem creelref_LinkAnew.mono : ∀ a0 k, LeO (creelref_LinkAnew.f k a0) (creelref_LinkAnew.f (k + 1) a0) := by
 intro a0 k
 have ih0 := creelref_LinkAnew.mono_l k
 unfold creelref_LinkAnew.f
 repeat' first
   | (with_reducible exact ih0 _ _ _ _)
   | (with_reducible exact creelref_LinkFirsts.mono _ _)
   | (with_reducible exact creelref_LinkNames.mono _ _)
   | (with_reducible exact creelref_TreeCopy.mono _ _)
   | (with_reducible exact LeO.refl _)
   | (with_reducible exact LeO.none _)
   | (with_reducible refine LeO.ite ?_ ?_)
   | (with_reducible refine LeO.bind ?_ (fun _ => ?_))
   | exact ih0 _ _ _ _
   | exact creelref_LinkFirsts.mono _ _
   | exact creelref_LinkNames.mono _ _
   | exact creelref_TreeCopy.mono _ _
   | exact LeO.none _
   | refine LeO.ite ?_ ?_
   | refine LeO.bind ?_ (fun _ => ?_)
set_option maxHeartbeats 8000000 in
set_option maxRecDepth 100000 in
theorem creelref_LinkAnew.calls (k : Nat) (P0_ : Nat → Prop) (A0 : Option Addr) (c0 : Nat) (l0 : List (S56)) (r1 : List (S56)) (r2 : Int) (w : World) (hs0 : Kd.V k56 56 w w.heap.size (fun k_ => P0_ k_) (.slice A0 l0.length c0) l0) (h : creelref_LinkAnew.f k l0 = some (r1, r2)) :
  Calls Tryd.prog 15 #[.slice A0 l0.length c0] w fun e w' => ∃ v0_ : Value, e = .returned (.tuple #[v0_, .int .i64 r2]) ∧ Kd.N k56 56 w' w.heap.size (fun k_ => (P0_ k_ ∨ w.heap.size ≤ k_)) v0_ r1 ∧ Below w.heap.size w w' := by
 have HO0 := Aside0.mk (show Kd.V k56 56 w w.heap.size (fun k_ => (P0_ k_ ∨ w.heap.size ≤ k_)) (.slice A0 l0.length c0) l0 from Kd.V_mono hs0 (fun k_ hk => .inl hk))
 have HB := Aside0.mk (Below.refl w.heap.size w)
 have H : ((creelref_LinkFirsts.f k l0).bind fun bt101 => (if bt101.2 = 0 then ((creelref_LinkNames.f k l0).bind fun bt105 => ((creelref_TreeCopy.f k l0).bind fun t109 => (creelref_LinkAnew.l0 k bt101.1 bt105.1 t109 0))) else (some (([] : List (S56)), bt101.2)))) = some (r1, r2) := h
 clear h
 replace H := Option.bind_eq_some_iff.mp H
 obtain ⟨⟨t101, t102⟩, A20, H⟩ := H
 replace H : (if t102 = 0 then ((creelref_LinkNames.f k l0).bind fun bt105 => ((creelref_TreeCopy.f k l0).bind fun t109 => (creelref_LinkAnew.l0 k t101 bt105.1 t109 0))) else (some (([] : List (S56)), t102))) = some (r1, r2) := H
 have A2 := Aside0.mk A20
 clear A20
 by_cases c3 : t102 = 0
 ·rw [if_pos c3] at H
  have c3b0 : (t102 == 0) = true := beq_iff_eq.mpr c3
  have c3b1 : (t102 != 0) = false := bne_eq_false_iff_eq.mpr c3
  clear c3
  replace H := Option.bind_eq_some_iff.mp H
  obtain ⟨⟨t105, t106⟩, A40, H⟩ := H
  replace H : ((creelref_TreeCopy.f k l0).bind fun t109 => (creelref_LinkAnew.l0 k t101 t105 t109 0)) = some (r1, r2) := H
  have A4 := Aside0.mk A40
  clear A40
  replace H := Option.bind_eq_some_iff.mp H
  obtain ⟨t109, A50, H⟩ := H
  replace H : (creelref_LinkAnew.l0 k t101 t105 t109 0) = some (r1, r2) := H
  have A5 := Aside0.mk A50
  clear A50
  have H' := Aside0.mk H
  clear H
  go_enter Tryd.func15, Tryd.ntmps15
  go_wp2_with (first | ((with_reducible refine gate_callee (f := 11) rfl ?_); refine goesL_ (some 12) rfl rfl Tryd.func11 (by kernel_rfl) rfl #[.slice A0 l0.length c0] rfl (by (try simp only [List.map_toArray, List.map_cons, List.map_nil]); first | done | rfl | (simp only [List.length_drop, List.length_take]; rfl)) ?_; (with_reducible refine (creelref_LinkFirsts.calls k _ _ l0 t101 t102 _ ?side1 ?side2 A2.out).mono ?_); (case side1 => repeat (first | exact (Kd.V_reads' HO0.out).2.2 | (with_reducible refine Kd.C_alloc ?_ _) | (with_reducible refine Kd.C_drewN ?_ _) | (with_reducible refine Kd.C_drew ?_))); (case side2 => exact (Kd.V_reads' HO0.out).2.1); rintro e w6 ⟨v103, rfl, ho0, hb⟩; refine ⟨_, rfl, ?_⟩; have n0_ := Aside0.mk (Kd.V_elder' (by (with_reducible repeat (first | apply Kd.V_alloc | apply Kd.V_drewN | apply Kd.V_drew)); exact HO0.out) (Kd.R_base ho0) hb); have n1_ := Aside0.mk (Kd.R_lower (Kd.R_newM (M := fun k_ => (w.heap.size ≤ k_)) ho0 (below_size (by repeat (first | (with_reducible first | exact HB.out | apply below_alloc | apply pw_below_drewN | apply below_drew1) | exact HB.out))) (fun k_ h_ => h_)) (below_size (by repeat (first | (with_reducible first | exact HB.out | apply below_alloc | apply pw_below_drewN | apply below_drew1) | exact HB.out)))); have n2_ := Aside0.mk (below_step (by repeat (first | (with_reducible first | exact HB.out | apply below_alloc | apply pw_below_drewN | apply below_drew1) | exact HB.out)) hb); clear HO0; clear HB; have HO0 := n0_; have HO104 := n1_; have HB := n2_; clear n0_ n1_ n2_; (try clear hb); (try clear hb2); (try clear hk); (try clear hi); (try clear ho0)) | ((with_reducible refine gate_callee (f := 12) rfl ?_); refine goesL_ (some 20) rfl rfl Tryd.func12 (by kernel_rfl) rfl #[.slice A0 l0.length c0] rfl (by (try simp only [List.map_toArray, List.map_cons, List.map_nil]); first | done | rfl | (simp only [List.length_drop, List.length_take]; rfl)) ?_; (with_reducible refine (creelref_LinkNames.calls k _ _ l0 t105 t106 _ ?side1 ?side2 A4.out).mono ?_); (case side1 => repeat (first | exact (Kd.V_reads' HO0.out).2.2 | (with_reducible refine Kd.C_alloc ?_ _) | (with_reducible refine Kd.C_drewN ?_ _) | (with_reducible refine Kd.C_drew ?_))); (case side2 => exact (Kd.V_reads' HO0.out).2.1); rintro e w7 ⟨v107, rfl, ho0, hb⟩; refine ⟨_, rfl, ?_⟩; have n0_ := Aside0.mk (Kd.V_elder' (by (with_reducible repeat (first | apply Kd.V_alloc | apply Kd.V_drewN | apply Kd.V_drew)); exact HO0.out) (Kd.R_base ho0) hb); have n1_ := Aside0.mk (Kd.R_elder' (by (with_reducible repeat (first | apply Kd.R_alloc | apply Kd.R_drewN | apply Kd.R_drew)); exact HO104.out) (Kd.R_base ho0) hb); have n2_ := Aside0.mk (Kd.R_lower (Kd.R_new' (Kd.R_newM (M := fun k_ => (w.heap.size ≤ k_)) ho0 (below_size (by repeat (first | (with_reducible first | exact HB.out | apply below_alloc | apply pw_below_drewN | apply below_drew1) | exact HB.out))) (fun k_ h_ => h_)) (Kd.R_lt (by (with_reducible repeat (first | apply Kd.R_alloc | apply Kd.R_drewN | apply Kd.R_drew)); exact HO104.out))) (below_size (by repeat (first | (with_reducible first | exact HB.out | apply below_alloc | apply pw_below_drewN | apply below_drew1) | exact HB.out)))); have n3_ := Aside0.mk (below_step (by repeat (first | (with_reducible first | exact HB.out | apply below_alloc | apply pw_below_drewN | apply below_drew1) | exact HB.out)) hb); clear HO0; clear HO104; clear HB; have HO0 := n0_; have HO104 := n1_; have HO108 := n2_; have HB := n3_; clear n0_ n1_ n2_ n3_; (try clear hb); (try clear hb2); (try clear hk); (try clear hi); (try clear ho0)) | ((with_reducible refine gate_callee (f := 34) rfl ?_); refine goesL_ (some 24) rfl rfl Tryd.func34 (by kernel_rfl) rfl #[.slice A0 l0.length c0] rfl (by (try simp only [List.map_toArray, List.map_cons, List.map_nil]); first | done | rfl | (simp only [List.length_drop, List.length_take]; rfl)) ?_; (with_reducible refine (creelref_TreeCopy.calls k (fun k_ => (((P0_ k_ ∨ w.heap.size ≤ k_) ∧ some k_ ≠ (v103 : Value).ownBlock) ∧ some k_ ≠ (v107 : Value).ownBlock)) _ _ l0 t109 _ ?side1 A5.out).mono ?_); (case side1 => exact HO0.out); rintro e w8 ⟨v110, rfl, ho0, hb⟩; refine ⟨_, rfl, ?_⟩; have n0_ := Aside0.mk (Kd.V_elder' (by (with_reducible repeat (first | apply Kd.V_alloc | apply Kd.V_drewN | apply Kd.V_drew)); exact HO0.out) (Kd.N_base ho0) hb); have n1_ := Aside0.mk (Kd.R_below (by (with_reducible repeat (first | apply Kd.R_alloc | apply Kd.R_drewN | apply Kd.R_drew)); exact HO104.out) hb); have n2_ := Aside0.mk (Kd.R_below (by (with_reducible repeat (first | apply Kd.R_alloc | apply Kd.R_drewN | apply Kd.R_drew)); exact HO108.out) hb); have n3_ := Aside0.mk (Kd.N_lower (Kd.N_mono (ok' := fun k_ => (P0_ k_ ∨ w.heap.size ≤ k_) ∧ some k_ ≠ (v103 : Value).ownBlock ∧ some k_ ≠ (v107 : Value).ownBlock) ho0 (fun k_ hk_ => ⟨Or.elim hk_ (fun hs_ => hs_.1.1) (fun hn_ => (.inr (Nat.le_trans (below_size (by repeat (first | (with_reducible first | exact HB.out | apply below_alloc | apply pw_below_drewN | apply below_drew1) | exact HB.out))) hn_))), Or.elim hk_ (fun hs_ => hs_.1.2) (fun hn_ => (Kd.fresh' (Kd.R_lt (by (with_reducible repeat (first | apply Kd.R_alloc | apply Kd.R_drewN | apply Kd.R_drew)); exact HO104.out)) k_ hn_)), Or.elim hk_ (fun hs_ => hs_.2) (fun hn_ => (Kd.fresh' (Kd.R_lt (by (with_reducible repeat (first | apply Kd.R_alloc | apply Kd.R_drewN | apply Kd.R_drew)); exact HO108.out)) k_ hn_))⟩)) (below_size (by repeat (first | (with_reducible first | exact HB.out | apply below_alloc | apply pw_below_drewN | apply below_drew1) | exact HB.out)))); have n4_ := Aside0.mk (below_step (by repeat (first | (with_reducible first | exact HB.out | apply below_alloc | apply pw_below_drewN | apply below_drew1) | exact HB.out)) hb); clear HO0; clear HO104; clear HO108; clear HB; have HO0 := n0_; have HO104 := n1_; have HO108 := n2_; have HO111 := n3_; have HB := n4_; clear n0_ n1_ n2_ n3_ n4_; (try clear hb); (try clear hb2); (try clear hk); (try clear hi); (try clear ho0)))
  go_loopg [9] k (fun kq v9 w' => ∃ (x8_1 : List (S56)) (x9_1 : Int), v9 = .int .i64 x9_1 ∧ Aside0 (creelref_LinkAnew.l0 kq t101 t105 x8_1 x9_1 = some (r1, r2)) ∧ Aside0 (kq ≤ k) ∧ Aside0 (Kd.R (Kd.int .i64) 3 w' w.heap.size (fun k_ => (w.heap.size ≤ k_) ∧ some k_ ≠ (v107 : Value).ownBlock) v103 t101) ∧ Aside0 (Kd.R (Kd.int .i64) 3 w' w.heap.size (fun k_ => (w.heap.size ≤ k_) ∧ some k_ ≠ (v103 : Value).ownBlock) v107 t105) ∧ Aside0 (Kd.N k56 56 w' w.heap.size (fun k_ => (P0_ k_ ∨ w.heap.size ≤ k_) ∧ some k_ ≠ (v103 : Value).ownBlock ∧ some k_ ≠ (v107 : Value).ownBlock) v110 x8_1) ∧ Aside0 (Below w.heap.size w w'))
  case atStart => exact ⟨(t109), (0), (by first | rfl | (simp; done) | (simp [*]; done)), H', ⟨Nat.le_refl _⟩, ⟨by (with_reducible repeat (first | apply Kd.R_alloc | apply Kd.R_drewN | apply Kd.R_drew)); exact Kd.R_mono HO104.out (fun _ hk => ⟨hk.1.1, hk.2⟩)⟩, ⟨by (with_reducible repeat (first | apply Kd.R_alloc | apply Kd.R_drewN | apply Kd.R_drew)); exact Kd.R_mono HO108.out (fun _ hk => ⟨hk.1.1, hk.2⟩)⟩, ⟨by (with_reducible repeat (first | apply Kd.N_alloc | apply Kd.N_drewN | apply Kd.N_drew)); exact HO111.out⟩, ⟨by repeat (first | (with_reducible first | exact HB.out | apply below_alloc | apply pw_below_drewN | apply below_drew1) | exact HB.out)⟩⟩
  case round =>
   clear H'
   try clear c1
   try clear p2
   try clear c3
   try clear c3b0
   try clear c3b1
   obtain ⟨x8_1, x9_1, rfl, HA, HK1, HO_4, HO_6, HO_8, HB⟩ := hrel
   cases gk with
   | zero => exact absurd HA.out (by simp [creelref_LinkAnew.l0])
   | succ k1 =>
    have H := HA.out
    clear HA
    simp only [creelref_LinkAnew.l0] at H
    by_cases c9 : x9_1 < (x8_1.length : Int)
    ·rw [if_pos c9] at H
     have c9b0 : decide (x9_1 < (x8_1.length : Int)) = true := decide_eq_true c9
     clear c9
     by_cases c10 : 0 ≤ x9_1
     ·rw [if_pos c10] at H
      have c10b0 : decide (0 ≤ x9_1) = true := decide_eq_true c10
      clear c10
      obtain ⟨y112, hy112⟩ : ∃ y_ : List (S56), y_ = (x8_1.set (x9_1 : Int).toNat (⟨(rd_T56 x8_1 x9_1).f0, (rd_T56 x8_1 x9_1).f1, 0, (rd_T56 x8_1 x9_1).f3, (⟨(rd_T56 x8_1 x9_1).f4.f0, (rd_T56 x8_1 x9_1).f4.f1, (rd_T56 x8_1 x9_1).f4.f2, (rd_T56 x8_1 x9_1).f4.f3, (rd_T56 x8_1 x9_1).f4.f4, (rd_T56 x8_1 x9_1).f4.f5, (rd_T56 x8_1 x9_1).f4.f6⟩ : S53), (rd_T56 x8_1 x9_1).f5⟩ : S56)) := ⟨_, rfl⟩
      replace H : (if x9_1 < (t105.length : Int) then (if (rd t105 x9_1) > 1 then (if x9_1 < (t101.length : Int) then (creelref_LinkAnew.l0 k1 t101 t105 (y112.set (x9_1 : Int).toNat (⟨(rd_T56 y112 x9_1).f0, (rd_T56 y112 x9_1).f1, wrap64 ((rd t101 x9_1) + 1), (rd_T56 y112 x9_1).f3, (⟨(rd_T56 y112 x9_1).f4.f0, (rd_T56 y112 x9_1).f4.f1, (rd_T56 y112 x9_1).f4.f2, (rd_T56 y112 x9_1).f4.f3, (rd_T56 y112 x9_1).f4.f4, (rd_T56 y112 x9_1).f4.f5, (rd_T56 y112 x9_1).f4.f6⟩ : S53), (rd_T56 y112 x9_1).f5⟩ : S56)) (wrap64 (x9_1 + 1))) else (none)) else (creelref_LinkAnew.l0 k1 t101 t105 y112 (wrap64 (x9_1 + 1)))) else (none)) = some (r1, r2) := by first | (rw [hy112]; with_reducible exact H) | (have H2_ := (Option.bind_some _ _).symm.trans H; rw [hy112]; with_reducible exact H2_) | (have H2_ := (Option.bind_some _ _).symm.trans H; with_reducible exact H2_) | with_reducible exact H | (rw [hy112]; exact H) | exact H
      have Ny112 := Aside0.mk hy112
      clear hy112
      by_cases c12 : x9_1 < (t105.length : Int)
      ·rw [if_pos c12] at H
       have c12b0 : decide (x9_1 < (t105.length : Int)) = true := decide_eq_true c12
       clear c12
       by_cases c13 : (rd t105 x9_1) > 1
       ·rw [if_pos c13] at H
        have c13b0 : decide (1 < (rd t105 x9_1)) = true := decide_eq_true c13
        clear c13
        by_cases c14 : x9_1 < (t101.length : Int)
        ·rw [if_pos c14] at H
         have c14b0 : decide (x9_1 < (t101.length : Int)) = true := decide_eq_true c14
         clear c14
         obtain ⟨y115, hy115⟩ : ∃ y_ : List (S56), y_ = (y112.set (x9_1 : Int).toNat (⟨(rd_T56 y112 x9_1).f0, (rd_T56 y112 x9_1).f1, wrap64 ((rd t101 x9_1) + 1), (rd_T56 y112 x9_1).f3, (⟨(rd_T56 y112 x9_1).f4.f0, (rd_T56 y112 x9_1).f4.f1, (rd_T56 y112 x9_1).f4.f2, (rd_T56 y112 x9_1).f4.f3, (rd_T56 y112 x9_1).f4.f4, (rd_T56 y112 x9_1).f4.f5, (rd_T56 y112 x9_1).f4.f6⟩ : S53), (rd_T56 y112 x9_1).f5⟩ : S56)) := ⟨_, rfl⟩
         replace H : (creelref_LinkAnew.l0 k1 t101 t105 y115 (wrap64 (x9_1 + 1))) = some (r1, r2) := by first | (rw [hy115]; with_reducible exact H) | (have H2_ := (Option.bind_some _ _).symm.trans H; rw [hy115]; with_reducible exact H2_) | (have H2_ := (Option.bind_some _ _).symm.trans H; with_reducible exact H2_) | with_reducible exact H | (rw [hy115]; exact H) | exact H
         have Ny115 := Aside0.mk hy115
         clear hy115
         have H' := Aside0.mk H
         clear H
         obtain ⟨Ao16, co16, eo16⟩ := Kd.N_slice HO_8.out
         subst eo16
         have p11 : 0 ≤ (x9_1 : Int) := of_decide_eq_true (by first | (with_reducible assumption) | assumption)
         have q11 : (x9_1 : Int) < ((x8_1.length : Int) : Int) := of_decide_eq_true (by first | (with_reducible assumption) | assumption)
         obtain ⟨go11, co11, eo11, gb11, gl11, cl11, HG11⟩ := Kd.N_form HO_8.out (by omega)
         (first | cases eo11 | (injection eo11 with ea_ en_ ec_; (first | subst ea_ | (injection ea_ with ea_; subst ea_)); subst ec_; clear en_))
         have GB11 := Aside0.mk gb11
         have GG11 := Aside0.mk HG11
         clear gb11 gl11 HG11
         obtain ⟨ce11, hcl11, hM11, hcc11, hfr11⟩ := Kd.N_elem HO_8.out z56 (x9_1 : Int) p11 q11
         obtain ⟨ua11_11, uc11_11, rfl, ul11_11, ge11_11⟩ := k56_openF hM11
         have hx11_0 : wr.cell? ⟨go11, (x9_1 : Int).toNat * 12, none⟩ = some (.string ((rd_T56 x8_1 x9_1).f0)) := hcc11 0 _ rfl
         have hx11_1 : wr.cell? ⟨go11, (x9_1 : Int).toNat * 12 + 1, none⟩ = some (.int .i64 ((rd_T56 x8_1 x9_1).f1)) := hcc11 1 _ rfl
         have hx11_2 : wr.cell? ⟨go11, (x9_1 : Int).toNat * 12 + 2, none⟩ = some (.int .i64 ((rd_T56 x8_1 x9_1).f2)) := hcc11 2 _ rfl
         have hx11_3 : wr.cell? ⟨go11, (x9_1 : Int).toNat * 12 + 3, none⟩ = some (.string ((rd_T56 x8_1 x9_1).f3)) := hcc11 3 _ rfl
         have hx11_4 : wr.cell? ⟨go11, (x9_1 : Int).toNat * 12 + 4, none⟩ = some (.int .i64 ((rd_T56 x8_1 x9_1).f4.f0)) := hcc11 4 _ rfl
         have hx11_5 : wr.cell? ⟨go11, (x9_1 : Int).toNat * 12 + 5, none⟩ = some (.int .i64 ((rd_T56 x8_1 x9_1).f4.f1)) := hcc11 5 _ rfl
         have hx11_6 : wr.cell? ⟨go11, (x9_1 : Int).toNat * 12 + 6, none⟩ = some (.int .i64 ((rd_T56 x8_1 x9_1).f4.f2)) := hcc11 6 _ rfl
         have hx11_7 : wr.cell? ⟨go11, (x9_1 : Int).toNat * 12 + 7, none⟩ = some (.string ((rd_T56 x8_1 x9_1).f4.f3)) := hcc11 7 _ rfl
         have hx11_8 : wr.cell? ⟨go11, (x9_1 : Int).toNat * 12 + 8, none⟩ = some (.string ((rd_T56 x8_1 x9_1).f4.f4)) := hcc11 8 _ rfl
         have hx11_9 : wr.cell? ⟨go11, (x9_1 : Int).toNat * 12 + 9, none⟩ = some (.int .i64 ((rd_T56 x8_1 x9_1).f4.f5)) := hcc11 9 _ rfl
         have hx11_10 : wr.cell? ⟨go11, (x9_1 : Int).toNat * 12 + 10, none⟩ = some (.int .i64 ((rd_T56 x8_1 x9_1).f4.f6)) := hcc11 10 _ rfl
         have hx11_11 : wr.cell? ⟨go11, (x9_1 : Int).toNat * 12 + 11, none⟩ = some (.slice ua11_11 ((rd_T56 x8_1 x9_1).f5).length uc11_11) := hcc11 11 _ rfl
         have hf11_0 : wr.frozen? ⟨go11, (x9_1 : Int).toNat * 12, none⟩ = false := hfr11 0
         have hf11_1 : wr.frozen? ⟨go11, (x9_1 : Int).toNat * 12 + 1, none⟩ = false := hfr11 1
         have hf11_2 : wr.frozen? ⟨go11, (x9_1 : Int).toNat * 12 + 2, none⟩ = false := hfr11 2
         have hf11_3 : wr.frozen? ⟨go11, (x9_1 : Int).toNat * 12 + 3, none⟩ = false := hfr11 3
         have hf11_4 : wr.frozen? ⟨go11, (x9_1 : Int).toNat * 12 + 4, none⟩ = false := hfr11 4
         have hf11_5 : wr.frozen? ⟨go11, (x9_1 : Int).toNat * 12 + 5, none⟩ = false := hfr11 5
         have hf11_6 : wr.frozen? ⟨go11, (x9_1 : Int).toNat * 12 + 6, none⟩ = false := hfr11 6
         have hf11_7 : wr.frozen? ⟨go11, (x9_1 : Int).toNat * 12 + 7, none⟩ = false := hfr11 7
         have hf11_8 : wr.frozen? ⟨go11, (x9_1 : Int).toNat * 12 + 8, none⟩ = false := hfr11 8
         have hf11_9 : wr.frozen? ⟨go11, (x9_1 : Int).toNat * 12 + 9, none⟩ = false := hfr11 9
         have hf11_10 : wr.frozen? ⟨go11, (x9_1 : Int).toNat * 12 + 10, none⟩ = false := hfr11 10
         have hf11_11 : wr.frozen? ⟨go11, (x9_1 : Int).toNat * 12 + 11, none⟩ = false := hfr11 11
         clear hcl11 hcc11 hfr11 hM11
         replace p11 := eq_true p11
         replace q11 := eq_true q11
         have HX17 := Aside0.mk (show Kd.N k56 56 wr w.heap.size (fun k_ => (P0_ k_ ∨ w.heap.size ≤ k_) ∧ some k_ ≠ (v103 : Value).ownBlock ∧ some k_ ≠ (v107 : Value).ownBlock) (.slice (some ⟨go11, 0, none⟩) x8_1.length co16) x8_1 from (by (with_reducible repeat (first | apply Kd.N_alloc | apply Kd.N_drewN | apply Kd.N_drew)); exact HO_8.out))
         obtain ⟨ce17, hcl17, hM17, hcc17, hfr17⟩ := Kd.N_elem HX17.out z56 (x9_1 : Int) (of_decide_eq_true (by first | (with_reducible assumption) | assumption)) (by have h_ : (x9_1 : Int) < ((x8_1.length : Int) : Int) := of_decide_eq_true (by first | (with_reducible assumption) | assumption); first | exact h_ | (have e_ := (Kd.N_reads' HO_8.out).1; omega) | simpa using h_)
         obtain ⟨ua17_11, uc17_11, rfl, ul17_11, ge17_11⟩ := k56_openF hM17
         have HP17 := Kd.N_seg HX17.out (x9_1 : Int) (of_decide_eq_true (by first | (with_reducible assumption) | assumption)) (by have h_ : (x9_1 : Int) < ((x8_1.length : Int) : Int) := of_decide_eq_true (by first | (with_reducible assumption) | assumption); first | exact h_ | (have e_ := (Kd.N_reads' HO_8.out).1; omega) | simpa using h_) (seg := [.int .i64 0]) (j := 2) hcl17 hcc17 (show 3 ≤ 12 from by decide) (x' := (⟨(rd_T56 x8_1 x9_1).f0, (rd_T56 x8_1 x9_1).f1, 0, (rd_T56 x8_1 x9_1).f3, (⟨(rd_T56 x8_1 x9_1).f4.f0, (rd_T56 x8_1 x9_1).f4.f1, (rd_T56 x8_1 x9_1).f4.f2, (rd_T56 x8_1 x9_1).f4.f3, (rd_T56 x8_1 x9_1).f4.f4, (rd_T56 x8_1 x9_1).f4.f5, (rd_T56 x8_1 x9_1).f4.f6⟩ : S53), (rd_T56 x8_1 x9_1).f5⟩ : S56)) (k56_mkF _ _ (⟨(rd_T56 x8_1 x9_1).f0, (rd_T56 x8_1 x9_1).f1, 0, (rd_T56 x8_1 x9_1).f3, (⟨(rd_T56 x8_1 x9_1).f4.f0, (rd_T56 x8_1 x9_1).f4.f1, (rd_T56 x8_1 x9_1).f4.f2, (rd_T56 x8_1 x9_1).f4.f3, (rd_T56 x8_1 x9_1).f4.f4, (rd_T56 x8_1 x9_1).f4.f5, (rd_T56 x8_1 x9_1).f4.f6⟩ : S53), (rd_T56 x8_1 x9_1).f5⟩ : S56) ul17_11 ge17_11) (fun _ hk => hk)
         have hx17_2 := hcc17 2 _ rfl
         (try simp only [show (k56).sz = 12 from rfl, Nat.mul_one, Nat.add_zero] at hx17_2)
         have hf17_2 := hfr17 2
         (try simp only [show (k56).sz = 12 from rfl, Nat.mul_one, Nat.add_zero] at hf17_2)
         clear hcl17 hcc17 hfr17 hM17
         go_wp2_with (first | ((with_reducible refine gate_store (t := 3) (p := 34) rfl ?_); refine store_event (t := 3) (p := 34) (v := ?vo_w18) (w1 := (wr.setCell ⟨go11, (x9_1 : Int).toNat * 12 + 2, none⟩ (.int .i64 0))) ?hg ?ho ?hn ?hr ?_; (case ho => rfl); (case hg => rfl); (case hn => rfl); (case hr => first | (go_simp; done) | (go_simp; rfl)); intro w18 hw; have hg : wr.grownBy w18 (some go11) := (by rw [hw]; exact HP17.2); have hp_ : Kd.N k56 56 w18 w.heap.size (fun k_ => (P0_ k_ ∨ w.heap.size ≤ k_) ∧ some k_ ≠ (v103 : Value).ownBlock ∧ some k_ ≠ (v107 : Value).ownBlock) (.slice (some ⟨go11, 0, none⟩) x8_1.length co16) y112 := (by rw [hw, Ny112.out]; exact HP17.1); clear HP17; have n0_ := Aside0.mk (Kd.R_over' (v := (.slice (some ⟨go11, 0, none⟩) x8_1.length co16)) (by (with_reducible repeat (first | apply Kd.R_alloc | apply Kd.R_drewN | apply Kd.R_drew)); exact HO_4.out) (Kd.N_typed HO_8.out) (by decide) hg); have n1_ := Aside0.mk (Kd.R_over' (v := (.slice (some ⟨go11, 0, none⟩) x8_1.length co16)) (by (with_reducible repeat (first | apply Kd.R_alloc | apply Kd.R_drewN | apply Kd.R_drew)); exact HO_6.out) (Kd.N_typed HO_8.out) (by decide) hg); have n2_ := Aside0.mk (hp_); have n3_ := Aside0.mk ((by rw [hw]; exact below_set (HB.out) GB11.out : Below w.heap.size w w18)); clear HO_4; clear HO_6; clear HO_8; clear HB; have HO_4 := n0_; have HO_6 := n1_; have HO_8 := n2_; have HB := n3_; clear n0_ n1_ n2_ n3_; clear hg hw hp_; obtain ⟨Ao19, co19, eo19⟩ := Kd.R_slice HO_6.out; subst eo19; have p113 : 0 ≤ (x9_1 : Int) := of_decide_eq_true (by first | (with_reducible assumption) | assumption); have q113 : x9_1 < (t105.length : Int) := of_decide_eq_true (by first | (with_reducible assumption) | assumption); obtain ⟨ad113, e113, hx113_0⟩ := Kd.at_int (Kd.R_reads' HO_6.out).2.2 x9_1 p113 q113; cases e113; replace p113 := eq_true p113; replace q113 := eq_true q113; obtain ⟨Ao20, co20, eo20⟩ := Kd.R_slice HO_4.out; subst eo20; have p114 : 0 ≤ (x9_1 : Int) := of_decide_eq_true (by first | (with_reducible assumption) | assumption); have q114 : x9_1 < (t101.length : Int) := of_decide_eq_true (by first | (with_reducible assumption) | assumption); obtain ⟨ad114, e114, hx114_0⟩ := Kd.at_int (Kd.R_reads' HO_4.out).2.2 x9_1 p114 q114; cases e114; replace p114 := eq_true p114; replace q114 := eq_true q114; have p15 : 0 ≤ (x9_1 : Int) := of_decide_eq_true (by first | (with_reducible assumption) | assumption); have q15 : (x9_1 : Int) < ((x8_1.length : Int) : Int) := of_decide_eq_true (by first | (with_reducible assumption) | assumption); obtain ⟨ce15, hcl15, hM15, hcc15, hfr15⟩ := Kd.N_elem HO_8.out z56 (x9_1 : Int) p15 q15; obtain ⟨ua15_11, uc15_11, rfl, ul15_11, ge15_11⟩ := k56_openF hM15; have hx15_0 : w18.cell? ⟨go11, (x9_1 : Int).toNat * 12, none⟩ = some (.string ((rd_T56 y112 x9_1).f0)) := hcc15 0 _ rfl; have hx15_1 : w18.cell? ⟨go11, (x9_1 : Int).toNat * 12 + 1, none⟩ = some (.int .i64 ((rd_T56 y112 x9_1).f1)) := hcc15 1 _ rfl; have hx15_2 : w18.cell? ⟨go11, (x9_1 : Int).toNat * 12 + 2, none⟩ = some (.int .i64 ((rd_T56 y112 x9_1).f2)) := hcc15 2 _ rfl; have hx15_3 : w18.cell? ⟨go11, (x9_1 : Int).toNat * 12 + 3, none⟩ = some (.string ((rd_T56 y112 x9_1).f3)) := hcc15 3 _ rfl; have hx15_4 : w18.cell? ⟨go11, (x9_1 : Int).toNat * 12 + 4, none⟩ = some (.int .i64 ((rd_T56 y112 x9_1).f4.f0)) := hcc15 4 _ rfl; have hx15_5 : w18.cell? ⟨go11, (x9_1 : Int).toNat * 12 + 5, none⟩ = some (.int .i64 ((rd_T56 y112 x9_1).f4.f1)) := hcc15 5 _ rfl; have hx15_6 : w18.cell? ⟨go11, (x9_1 : Int).toNat * 12 + 6, none⟩ = some (.int .i64 ((rd_T56 y112 x9_1).f4.f2)) := hcc15 6 _ rfl; have hx15_7 : w18.cell? ⟨go11, (x9_1 : Int).toNat * 12 + 7, none⟩ = some (.string ((rd_T56 y112 x9_1).f4.f3)) := hcc15 7 _ rfl; have hx15_8 : w18.cell? ⟨go11, (x9_1 : Int).toNat * 12 + 8, none⟩ = some (.string ((rd_T56 y112 x9_1).f4.f4)) := hcc15 8 _ rfl; have hx15_9 : w18.cell? ⟨go11, (x9_1 : Int).toNat * 12 + 9, none⟩ = some (.int .i64 ((rd_T56 y112 x9_1).f4.f5)) := hcc15 9 _ rfl; have hx15_10 : w18.cell? ⟨go11, (x9_1 : Int).toNat * 12 + 10, none⟩ = some (.int .i64 ((rd_T56 y112 x9_1).f4.f6)) := hcc15 10 _ rfl; have hx15_11 : w18.cell? ⟨go11, (x9_1 : Int).toNat * 12 + 11, none⟩ = some (.slice ua15_11 ((rd_T56 y112 x9_1).f5).length uc15_11) := hcc15 11 _ rfl; have hf15_0 : w18.frozen? ⟨go11, (x9_1 : Int).toNat * 12, none⟩ = false := hfr15 0; have hf15_1 : w18.frozen? ⟨go11, (x9_1 : Int).toNat * 12 + 1, none⟩ = false := hfr15 1; have hf15_2 : w18.frozen? ⟨go11, (x9_1 : Int).toNat * 12 + 2, none⟩ = false := hfr15 2; have hf15_3 : w18.frozen? ⟨go11, (x9_1 : Int).toNat * 12 + 3, none⟩ = false := hfr15 3; have hf15_4 : w18.frozen? ⟨go11, (x9_1 : Int).toNat * 12 + 4, none⟩ = false := hfr15 4; have hf15_5 : w18.frozen? ⟨go11, (x9_1 : Int).toNat * 12 + 5, none⟩ = false := hfr15 5; have hf15_6 : w18.frozen? ⟨go11, (x9_1 : Int).toNat * 12 + 6, none⟩ = false := hfr15 6; have hf15_7 : w18.frozen? ⟨go11, (x9_1 : Int).toNat * 12 + 7, none⟩ = false := hfr15 7; have hf15_8 : w18.frozen? ⟨go11, (x9_1 : Int).toNat * 12 + 8, none⟩ = false := hfr15 8; have hf15_9 : w18.frozen? ⟨go11, (x9_1 : Int).toNat * 12 + 9, none⟩ = false := hfr15 9; have hf15_10 : w18.frozen? ⟨go11, (x9_1 : Int).toNat * 12 + 10, none⟩ = false := hfr15 10; have hf15_11 : w18.frozen? ⟨go11, (x9_1 : Int).toNat * 12 + 11, none⟩ = false := hfr15 11; clear hcl15 hcc15 hfr15 hM15; replace p15 := eq_true p15; replace q15 := eq_true q15; have HX21 := Aside0.mk (show Kd.N k56 56 w18 w.heap.size (fun k_ => (P0_ k_ ∨ w.heap.size ≤ k_) ∧ some k_ ≠ (.slice (some ad114) t101.length co20 : Value).ownBlock ∧ some k_ ≠ (.slice (some ad113) t105.length co19 : Value).ownBlock) (.slice (some ⟨go11, 0, none⟩) x8_1.length co16) y112 from (by (with_reducible repeat (first | apply Kd.N_alloc | apply Kd.N_drewN | apply Kd.N_drew)); exact HO_8.out)); obtain ⟨ce21, hcl21, hM21, hcc21, hfr21⟩ := Kd.N_elem HX21.out z56 (x9_1 : Int) (of_decide_eq_true (by first | (with_reducible assumption) | assumption)) (by have h_ : (x9_1 : Int) < ((x8_1.length : Int) : Int) := of_decide_eq_true (by first | (with_reducible assumption) | assumption); first | exact h_ | (have e_ := (Kd.N_reads' HO_8.out).1; omega) | simpa using h_); obtain ⟨ua21_11, uc21_11, rfl, ul21_11, ge21_11⟩ := k56_openF hM21; have HP21 := Kd.N_seg HX21.out (x9_1 : Int) (of_decide_eq_true (by first | (with_reducible assumption) | assumption)) (by have h_ : (x9_1 : Int) < ((x8_1.length : Int) : Int) := of_decide_eq_true (by first | (with_reducible assumption) | assumption); first | exact h_ | (have e_ := (Kd.N_reads' HO_8.out).1; omega) | simpa using h_) (seg := [.int .i64 (wrap64 ((rd t101 x9_1) + 1))]) (j := 2) hcl21 hcc21 (show 3 ≤ 12 from by decide) (x' := (⟨(rd_T56 y112 x9_1).f0, (rd_T56 y112 x9_1).f1, wrap64 ((rd t101 x9_1) + 1), (rd_T56 y112 x9_1).f3, (⟨(rd_T56 y112 x9_1).f4.f0, (rd_T56 y112 x9_1).f4.f1, (rd_T56 y112 x9_1).f4.f2, (rd_T56 y112 x9_1).f4.f3, (rd_T56 y112 x9_1).f4.f4, (rd_T56 y112 x9_1).f4.f5, (rd_T56 y112 x9_1).f4.f6⟩ : S53), (rd_T56 y112 x9_1).f5⟩ : S56)) (k56_mkF _ _ (⟨(rd_T56 y112 x9_1).f0, (rd_T56 y112 x9_1).f1, wrap64 ((rd t101 x9_1) + 1), (rd_T56 y112 x9_1).f3, (⟨(rd_T56 y112 x9_1).f4.f0, (rd_T56 y112 x9_1).f4.f1, (rd_T56 y112 x9_1).f4.f2, (rd_T56 y112 x9_1).f4.f3, (rd_T56 y112 x9_1).f4.f4, (rd_T56 y112 x9_1).f4.f5, (rd_T56 y112 x9_1).f4.f6⟩ : S53), (rd_T56 y112 x9_1).f5⟩ : S56) ul21_11 ge21_11) (fun _ hk => hk); have hx21_2 := hcc21 2 _ rfl; (try simp only [show (k56).sz = 12 from rfl, Nat.mul_one, Nat.add_zero] at hx21_2); have hf21_2 := hfr21 2; (try simp only [show (k56).sz = 12 from rfl, Nat.mul_one, Nat.add_zero] at hf21_2); clear hcl21 hcc21 hfr21 hM21) | ((with_reducible refine gate_store (t := 3) (p := 48) rfl ?_); refine store_event (t := 3) (p := 48) (v := ?vo_w22) (w1 := (w18.setCell ⟨go11, (x9_1 : Int).toNat * 12 + 2, none⟩ (.int .i64 (wrap64 ((rd t101 x9_1) + 1))))) ?hg ?ho ?hn ?hr ?_; (case ho => rfl); (case hg => rfl); (case hn => rfl); (case hr => first | (go_simp; done) | (go_simp; rfl)); intro w22 hw; have hg : w18.grownBy w22 (some go11) := (by rw [hw]; exact HP21.2); have hp_ : Kd.N k56 56 w22 w.heap.size (fun k_ => (P0_ k_ ∨ w.heap.size ≤ k_) ∧ some k_ ≠ (.slice (some ad114) t101.length co20 : Value).ownBlock ∧ some k_ ≠ (.slice (some ad113) t105.length co19 : Value).ownBlock) (.slice (some ⟨go11, 0, none⟩) x8_1.length co16) y115 := (by rw [hw, Ny115.out]; exact HP21.1); clear HP21; have n0_ := Aside0.mk (Kd.R_over' (v := (.slice (some ⟨go11, 0, none⟩) x8_1.length co16)) (by (with_reducible repeat (first | apply Kd.R_alloc | apply Kd.R_drewN | apply Kd.R_drew)); exact HO_4.out) (Kd.N_typed HO_8.out) (by decide) hg); have n1_ := Aside0.mk (Kd.R_over' (v := (.slice (some ⟨go11, 0, none⟩) x8_1.length co16)) (by (with_reducible repeat (first | apply Kd.R_alloc | apply Kd.R_drewN | apply Kd.R_drew)); exact HO_6.out) (Kd.N_typed HO_8.out) (by decide) hg); have n2_ := Aside0.mk (hp_); have n3_ := Aside0.mk ((by rw [hw]; exact below_set (HB.out) GB11.out : Below w.heap.size w w22)); clear HO_4; clear HO_6; clear HO_8; clear HB; have HO_4 := n0_; have HO_6 := n1_; have HO_8 := n2_; have HB := n3_; clear n0_ n1_ n2_ n3_; clear hg hw hp_))
         go_roundg k1
         case measure => have := HK1.out; omega
         case rel => exact ⟨(y115), (wrap64 (x9_1 + 1)), (by first | rfl | (simp; done) | (simp [*]; done)), H', ⟨by have := HK1.out; omega⟩, ⟨by (with_reducible repeat (first | apply Kd.R_alloc | apply Kd.R_drewN | apply Kd.R_drew)); exact HO_4.out⟩, ⟨by (with_reducible repeat (first | apply Kd.R_alloc | apply Kd.R_drewN | apply Kd.R_drew)); exact HO_6.out⟩, ⟨by (with_reducible repeat (first | apply Kd.N_alloc | apply Kd.N_drewN | apply Kd.N_drew)); exact HO_8.out⟩, ⟨by repeat (first | (with_reducible first | exact HB.out | apply below_alloc | apply pw_below_drewN | apply below_drew1) | exact HB.out)⟩⟩
        ·rw [if_neg c14] at H
         exact absurd H (by simp)
       ·rw [if_neg c13] at H
        have c13b0 : decide (1 < (rd t105 x9_1)) = false := decide_eq_false c13
        clear c13
        have H' := Aside0.mk H
        clear H
        obtain ⟨Ao23, co23, eo23⟩ := Kd.N_slice HO_8.out
        subst eo23
        have p11 : 0 ≤ (x9_1 : Int) := of_decide_eq_true (by first | (with_reducible assumption) | assumption)
        have q11 : (x9_1 : Int) < ((x8_1.length : Int) : Int) := of_decide_eq_true (by first | (with_reducible assumption) | assumption)
        obtain ⟨go11, co11, eo11, gb11, gl11, cl11, HG11⟩ := Kd.N_form HO_8.out (by omega)
        (first | cases eo11 | (injection eo11 with ea_ en_ ec_; (first | subst ea_ | (injection ea_ with ea_; subst ea_)); subst ec_; clear en_))
        have GB11 := Aside0.mk gb11
        have GG11 := Aside0.mk HG11
        clear gb11 gl11 HG11
        obtain ⟨ce11, hcl11, hM11, hcc11, hfr11⟩ := Kd.N_elem HO_8.out z56 (x9_1 : Int) p11 q11
        obtain ⟨ua11_11, uc11_11, rfl, ul11_11, ge11_11⟩ := k56_openF hM11
        have hx11_0 : wr.cell? ⟨go11, (x9_1 : Int).toNat * 12, none⟩ = some (.string ((rd_T56 x8_1 x9_1).f0)) := hcc11 0 _ rfl
        have hx11_1 : wr.cell? ⟨go11, (x9_1 : Int).toNat * 12 + 1, none⟩ = some (.int .i64 ((rd_T56 x8_1 x9_1).f1)) := hcc11 1 _ rfl
        have hx11_2 : wr.cell? ⟨go11, (x9_1 : Int).toNat * 12 + 2, none⟩ = some (.int .i64 ((rd_T56 x8_1 x9_1).f2)) := hcc11 2 _ rfl
        have hx11_3 : wr.cell? ⟨go11, (x9_1 : Int).toNat * 12 + 3, none⟩ = some (.string ((rd_T56 x8_1 x9_1).f3)) := hcc11 3 _ rfl
        have hx11_4 : wr.cell? ⟨go11, (x9_1 : Int).toNat * 12 + 4, none⟩ = some (.int .i64 ((rd_T56 x8_1 x9_1).f4.f0)) := hcc11 4 _ rfl
        have hx11_5 : wr.cell? ⟨go11, (x9_1 : Int).toNat * 12 + 5, none⟩ = some (.int .i64 ((rd_T56 x8_1 x9_1).f4.f1)) := hcc11 5 _ rfl
        have hx11_6 : wr.cell? ⟨go11, (x9_1 : Int).toNat * 12 + 6, none⟩ = some (.int .i64 ((rd_T56 x8_1 x9_1).f4.f2)) := hcc11 6 _ rfl
        have hx11_7 : wr.cell? ⟨go11, (x9_1 : Int).toNat * 12 + 7, none⟩ = some (.string ((rd_T56 x8_1 x9_1).f4.f3)) := hcc11 7 _ rfl
        have hx11_8 : wr.cell? ⟨go11, (x9_1 : Int).toNat * 12 + 8, none⟩ = some (.string ((rd_T56 x8_1 x9_1).f4.f4)) := hcc11 8 _ rfl
        have hx11_9 : wr.cell? ⟨go11, (x9_1 : Int).toNat * 12 + 9, none⟩ = some (.int .i64 ((rd_T56 x8_1 x9_1).f4.f5)) := hcc11 9 _ rfl
        have hx11_10 : wr.cell? ⟨go11, (x9_1 : Int).toNat * 12 + 10, none⟩ = some (.int .i64 ((rd_T56 x8_1 x9_1).f4.f6)) := hcc11 10 _ rfl
        have hx11_11 : wr.cell? ⟨go11, (x9_1 : Int).toNat * 12 + 11, none⟩ = some (.slice ua11_11 ((rd_T56 x8_1 x9_1).f5).length uc11_11) := hcc11 11 _ rfl
        have hf11_0 : wr.frozen? ⟨go11, (x9_1 : Int).toNat * 12, none⟩ = false := hfr11 0
        have hf11_1 : wr.frozen? ⟨go11, (x9_1 : Int).toNat * 12 + 1, none⟩ = false := hfr11 1
        have hf11_2 : wr.frozen? ⟨go11, (x9_1 : Int).toNat * 12 + 2, none⟩ = false := hfr11 2
        have hf11_3 : wr.frozen? ⟨go11, (x9_1 : Int).toNat * 12 + 3, none⟩ = false := hfr11 3
        have hf11_4 : wr.frozen? ⟨go11, (x9_1 : Int).toNat * 12 + 4, none⟩ = false := hfr11 4
        have hf11_5 : wr.frozen? ⟨go11, (x9_1 : Int).toNat * 12 + 5, none⟩ = false := hfr11 5
        have hf11_6 : wr.frozen? ⟨go11, (x9_1 : Int).toNat * 12 + 6, none⟩ = false := hfr11 6
        have hf11_7 : wr.frozen? ⟨go11, (x9_1 : Int).toNat * 12 + 7, none⟩ = false := hfr11 7
        have hf11_8 : wr.frozen? ⟨go11, (x9_1 : Int).toNat * 12 + 8, none⟩ = false := hfr11 8
        have hf11_9 : wr.frozen? ⟨go11, (x9_1 : Int).toNat * 12 + 9, none⟩ = false := hfr11 9
        have hf11_10 : wr.frozen? ⟨go11, (x9_1 : Int).toNat * 12 + 10, none⟩ = false := hfr11 10
        have hf11_11 : wr.frozen? ⟨go11, (x9_1 : Int).toNat * 12 + 11, none⟩ = false := hfr11 11
        clear hcl11 hcc11 hfr11 hM11
        replace p11 := eq_true p11
        replace q11 := eq_true q11
        have HX24 := Aside0.mk (show Kd.N k56 56 wr w.heap.size (fun k_ => (P0_ k_ ∨ w.heap.size ≤ k_) ∧ some k_ ≠ (v103 : Value).ownBlock ∧ some k_ ≠ (v107 : Value).ownBlock) (.slice (some ⟨go11, 0, none⟩) x8_1.length co23) x8_1 from (by (with_reducible repeat (first | apply Kd.N_alloc | apply Kd.N_drewN | apply Kd.N_drew)); exact HO_8.out))
        obtain ⟨ce24, hcl24, hM24, hcc24, hfr24⟩ := Kd.N_elem HX24.out z56 (x9_1 : Int) (of_decide_eq_true (by first | (with_reducible assumption) | assumption)) (by have h_ : (x9_1 : Int) < ((x8_1.length : Int) : Int) := of_decide_eq_true (by first | (with_reducible assumption) | assumption); first | exact h_ | (have e_ := (Kd.N_reads' HO_8.out).1; omega) | simpa using h_)
        obtain ⟨ua24_11, uc24_11, rfl, ul24_11, ge24_11⟩ := k56_openF hM24
        have HP24 := Kd.N_seg HX24.out (x9_1 : Int) (of_decide_eq_true (by first | (with_reducible assumption) | assumption)) (by have h_ : (x9_1 : Int) < ((x8_1.length : Int) : Int) := of_decide_eq_true (by first | (with_reducible assumption) | assumption); first | exact h_ | (have e_ := (Kd.N_reads' HO_8.out).1; omega) | simpa using h_) (seg := [.int .i64 0]) (j := 2) hcl24 hcc24 (show 3 ≤ 12 from by decide) (x' := (⟨(rd_T56 x8_1 x9_1).f0, (rd_T56 x8_1 x9_1).f1, 0, (rd_T56 x8_1 x9_1).f3, (⟨(rd_T56 x8_1 x9_1).f4.f0, (rd_T56 x8_1 x9_1).f4.f1, (rd_T56 x8_1 x9_1).f4.f2, (rd_T56 x8_1 x9_1).f4.f3, (rd_T56 x8_1 x9_1).f4.f4, (rd_T56 x8_1 x9_1).f4.f5, (rd_T56 x8_1 x9_1).f4.f6⟩ : S53), (rd_T56 x8_1 x9_1).f5⟩ : S56)) (k56_mkF _ _ (⟨(rd_T56 x8_1 x9_1).f0, (rd_T56 x8_1 x9_1).f1, 0, (rd_T56 x8_1 x9_1).f3, (⟨(rd_T56 x8_1 x9_1).f4.f0, (rd_T56 x8_1 x9_1).f4.f1, (rd_T56 x8_1 x9_1).f4.f2, (rd_T56 x8_1 x9_1).f4.f3, (rd_T56 x8_1 x9_1).f4.f4, (rd_T56 x8_1 x9_1).f4.f5, (rd_T56 x8_1 x9_1).f4.f6⟩ : S53), (rd_T56 x8_1 x9_1).f5⟩ : S56) ul24_11 ge24_11) (fun _ hk => hk)
        have hx24_2 := hcc24 2 _ rfl
        (try simp only [show (k56).sz = 12 from rfl, Nat.mul_one, Nat.add_zero] at hx24_2)
        have hf24_2 := hfr24 2
        (try simp only [show (k56).sz = 12 from rfl, Nat.mul_one, Nat.add_zero] at hf24_2)
        clear hcl24 hcc24 hfr24 hM24
        go_wp2_with (first | ((with_reducible refine gate_store (t := 3) (p := 34) rfl ?_); refine store_event (t := 3) (p := 34) (v := ?vo_w25) (w1 := (wr.setCell ⟨go11, (x9_1 : Int).toNat * 12 + 2, none⟩ (.int .i64 0))) ?hg ?ho ?hn ?hr ?_; (case ho => rfl); (case hg => rfl); (case hn => rfl); (case hr => first | (go_simp; done) | (go_simp; rfl)); intro w25 hw; have hg : wr.grownBy w25 (some go11) := (by rw [hw]; exact HP24.2); have hp_ : Kd.N k56 56 w25 w.heap.size (fun k_ => (P0_ k_ ∨ w.heap.size ≤ k_) ∧ some k_ ≠ (v103 : Value).ownBlock ∧ some k_ ≠ (v107 : Value).ownBlock) (.slice (some ⟨go11, 0, none⟩) x8_1.length co23) y112 := (by rw [hw, Ny112.out]; exact HP24.1); clear HP24; have n0_ := Aside0.mk (Kd.R_over' (v := (.slice (some ⟨go11, 0, none⟩) x8_1.length co23)) (by (with_reducible repeat (first | apply Kd.R_alloc | apply Kd.R_drewN | apply Kd.R_drew)); exact HO_4.out) (Kd.N_typed HO_8.out) (by decide) hg); have n1_ := Aside0.mk (Kd.R_over' (v := (.slice (some ⟨go11, 0, none⟩) x8_1.length co23)) (by (with_reducible repeat (first | apply Kd.R_alloc | apply Kd.R_drewN | apply Kd.R_drew)); exact HO_6.out) (Kd.N_typed HO_8.out) (by decide) hg); have n2_ := Aside0.mk (hp_); have n3_ := Aside0.mk ((by rw [hw]; exact below_set (HB.out) GB11.out : Below w.heap.size w w25)); clear HO_4; clear HO_6; clear HO_8; clear HB; have HO_4 := n0_; have HO_6 := n1_; have HO_8 := n2_; have HB := n3_; clear n0_ n1_ n2_ n3_; clear hg hw hp_; obtain ⟨Ao26, co26, eo26⟩ := Kd.R_slice HO_6.out; subst eo26; have p113 : 0 ≤ (x9_1 : Int) := of_decide_eq_true (by first | (with_reducible assumption) | assumption); have q113 : x9_1 < (t105.length : Int) := of_decide_eq_true (by first | (with_reducible assumption) | assumption); obtain ⟨ad113, e113, hx113_0⟩ := Kd.at_int (Kd.R_reads' HO_6.out).2.2 x9_1 p113 q113; cases e113; replace p113 := eq_true p113; replace q113 := eq_true q113))
        go_roundg k1
        case measure => have := HK1.out; omega
        case rel => exact ⟨(y112), (wrap64 (x9_1 + 1)), (by first | rfl | (simp; done) | (simp [*]; done)), H', ⟨by have := HK1.out; omega⟩, ⟨by (with_reducible repeat (first | apply Kd.R_alloc | apply Kd.R_drewN | apply Kd.R_drew)); exact HO_4.out⟩, ⟨by (with_reducible repeat (first | apply Kd.R_alloc | apply Kd.R_drewN | apply Kd.R_drew)); exact HO_6.out⟩, ⟨by (with_reducible repeat (first | apply Kd.N_alloc | apply Kd.N_drewN | apply Kd.N_drew)); exact HO_8.out⟩, ⟨by repeat (first | (with_reducible first | exact HB.out | apply below_alloc | apply pw_below_drewN | apply below_drew1) | exact HB.out)⟩⟩
      ·rw [if_neg c12] at H
       exact absurd H (by simp)
     ·rw [if_neg c10] at H
      exact absurd H (by simp)
    ·rw [if_neg c9] at H
     have c9b0 : decide (x9_1 < (x8_1.length : Int)) = false := decide_eq_false c9
     clear c9
     simp only [Option.some.injEq, Prod.mk.injEq] at H
     obtain ⟨rfl, rfl⟩ := H
     obtain ⟨Ao27, co27, eo27⟩ := Kd.N_slice HO_8.out
     subst eo27
     go_wp2
     go_ret2
     exact ⟨_, by first | rfl | (simp [errW_none, errW_some] <;> rfl) | (simp [*, errW_none, errW_some] <;> rfl), by (with_reducible repeat (first | apply Kd.N_alloc | apply Kd.N_drewN | apply Kd.N_drew)); exact Kd.N_mono HO_8.out (fun _ hk => hk.1), by repeat (first | (with_reducible first | exact HB.out | apply below_alloc | apply pw_below_drewN | apply below_drew1) | exact HB.out)⟩
 ·rw [if_neg c3] at H
  have c3b0 : (t102 == 0) = false := beq_eq_false_iff_ne.mpr c3
  have c3b1 : (t102 != 0) = true := bne_iff_ne.mpr c3
  simp only [Option.some.injEq, Prod.mk.injEq] at H
  obtain ⟨rfl, rfl⟩ := H
  go_enter Tryd.func15, Tryd.ntmps15
  go_wp2_with (first | ((with_reducible refine gate_callee (f := 11) rfl ?_); refine goesL_ (some 12) rfl rfl Tryd.func11 (by kernel_rfl) rfl #[.slice A0 l0.length c0] rfl (by (try simp only [List.map_toArray, List.map_cons, List.map_nil]); first | done | rfl | (simp only [List.length_drop, List.length_take]; rfl)) ?_; (with_reducible refine (creelref_LinkFirsts.calls k _ _ l0 t101 t102 _ ?side1 ?side2 A2.out).mono ?_); (case side1 => repeat (first | exact (Kd.V_reads' HO0.out).2.2 | (with_reducible refine Kd.C_alloc ?_ _) | (with_reducible refine Kd.C_drewN ?_ _) | (with_reducible refine Kd.C_drew ?_))); (case side2 => exact (Kd.V_reads' HO0.out).2.1); rintro e w28 ⟨v103, rfl, ho0, hb⟩; refine ⟨_, rfl, ?_⟩; have n0_ := Aside0.mk (Kd.V_elder' (by (with_reducible repeat (first | apply Kd.V_alloc | apply Kd.V_drewN | apply Kd.V_drew)); exact HO0.out) (Kd.R_base ho0) hb); have n1_ := Aside0.mk (Kd.R_lower (Kd.R_newM (M := fun k_ => (w.heap.size ≤ k_)) ho0 (below_size (by repeat (first | (with_reducible first | exact HB.out | apply below_alloc | apply pw_below_drewN | apply below_drew1) | exact HB.out))) (fun k_ h_ => h_)) (below_size (by repeat (first | (with_reducible first | exact HB.out | apply below_alloc | apply pw_below_drewN | apply below_drew1) | exact HB.out)))); have n2_ := Aside0.mk (below_step (by repeat (first | (with_reducible first | exact HB.out | apply below_alloc | apply pw_below_drewN | apply below_drew1) | exact HB.out)) hb); clear HO0; clear HB; have HO0 := n0_; have HO104 := n1_; have HB := n2_; clear n0_ n1_ n2_; (try clear hb); (try clear hb2); (try clear hk); (try clear hi); (try clear ho0)))
  go_ret2
  exact ⟨_, by first | rfl | (simp [errW_none, errW_some] <;> rfl) | (simp [*, errW_none, errW_some] <;> rfl), by first | exact Kd.S_nil _ _ _ _ _ | exact Kd.N_nil _ _ _ _ _ | exact Kd.V_nil _ _ _ _ _ | exact Kd.Q_nil _ _ _ _ _ | exact Kd.R_nil _ _ _ _ _, by repeat (first | (with_reducible first | exact HB.out | apply below_alloc | apply pw_below_drewN | apply below_drew1) | exact HB.out)⟩

end Go.Proofs.YtodeblpanooomabDoor.All
end
section
namespace Go.Proofs.YtodeblpanooomabDoor.All
open Go.RowKit Go.Proofs.YtodeblpanooomabDoorW.PrintWords Go.Proofs.YtodeblpanooomabDoorW.PrintLast Go.Proofs.YtodeblpanooomabDoorW.PrintMore
open Go.Proofs.YtodeblpanooomabDoorW.Mine
attribute [local go_sem] gtr_string leq_string geq_string
attribute [local go_sem] max2_int min2_int max_two min_two max_three min_three max_four min_four   -- for this text's walks alone
set_option linter.unusedVariables false
set_option linter.unusedSimpArgs false

/-! ### creellaw_sameBytes: function 60 -/
def creellaw_sameBytes.f (l0 : List Int) (l1 : List Int) : Option (Bool) := some ((strOfNums l0).toList == (strOfNums l1).toList)
set_option maxHeartbeats 8000000 in
set_option maxRecDepth 100000 in
theorem creellaw_sameBytes.calls (A0 : Option Addr) (c0 : Nat) (l0 : List Int) (A1 : Option Addr) (c1 : Nat) (l1 : List Int) (r : Bool) (w : World) (hr0 : Kd.C (Kd.int .u8) w A0 l0.length l0) (hc0 : l0.length ≤ c0) (hr1 : Kd.C (Kd.int .u8) w A1 l1.length l1) (hc1 : l1.length ≤ c1) (h : creellaw_sameBytes.f l0 l1 = some r) :
  Calls Tryd.prog 60 #[.slice A0 l0.length c0, .slice A1 l1.length c1] w fun e w' => e = .returned (.bool r) ∧ Drawn0 w w' := by
 have HR0 := Aside0.mk hr0
 have HC0 := Aside0.mk hc0
 clear hr0 hc0
 have HR1 := Aside0.mk hr1
 have HC1 := Aside0.mk hc1
 clear hr1 hc1
 have H : (some ((strOfNums l0).toList == (strOfNums l1).toList)) = some r := h
 clear h
 obtain rfl := Option.some.inj H
 have hcv3 := Kd.C_string (P := Tryd.prog) (A := A0) (c := c0) Tryd.underlying54 Tryd.underlying5 Tryd.underlying9 HR0.out
 have hcv4 := Kd.C_string (P := Tryd.prog) (A := A1) (c := c1) Tryd.underlying54 Tryd.underlying5 Tryd.underlying9 HR1.out
 go_enter Tryd.func60, Tryd.ntmps60
 go_wp2
 go_ret
 exact ⟨by first | rfl | (simp; done) | (simp [*]; done), by repeat (first | exact Drawn0.refl _ | apply Drawn0.step)⟩

end Go.Proofs.YtodeblpanooomabDoor.All
end
