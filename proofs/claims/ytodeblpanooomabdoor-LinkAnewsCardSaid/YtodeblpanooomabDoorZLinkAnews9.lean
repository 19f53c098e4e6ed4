/- Made by programs of the prover: walks of Go functions, the words that they use, and plain laws, each text in a section of its own; no condition of its own. -/
import Derived.Test.YtodeblpanooomabDoorZLinkAnews2
import Derived.Test.YtodeblpanooomabDoorZLinkAnews6
import Derived.Test.YtodeblpanooomabDoorZLinkAnews8
section
namespace Go.Proofs.YtodeblpanooomabDoor.All
open Go.RowKit Go.Proofs.YtodeblpanooomabDoorW.PrintWords Go.Proofs.YtodeblpanooomabDoorW.PrintLast Go.Proofs.YtodeblpanooomabDoorW.PrintMore
open Go.Proofs.YtodeblpanooomabDoorW.Mine
attribute [local go_sem] gtr_string leq_string geq_string
attribute [local go_sem] max2_int min2_int max_two min_two max_three min_three max_four min_four   -- for this text's walks alone
set_option linter.unusedVariables false
set_option linter.unusedSimpArgs false

/-! ### creelref_PathOrder: function 58 -/
mutual
def creelref_PathOrder.l0 : Nat → List ByteArray → List ByteArray → Int → Option (Int)
 | 0, _, _, _ => none
 | k + 1, x5, x6, x7 => if x7 < (x5.length : Int) then (creelref_PathOrder.j1 k x5 x6 x7 (decide (x7 < (x6.length : Int)))) else (creelref_PathOrder.j1 k x5 x6 x7 false)
def creelref_PathOrder.j1 : Nat → List ByteArray → List ByteArray → Int → Bool → Option (Int)
 | 0, _, _, _, _ => none
 | k + 1, x5, x6, x7, x21 => if x21 = true then (if 0 ≤ x7 then (if x7 < (x5.length : Int) then (if x7 < (x6.length : Int) then (if (Op.bytesLess ((rdOf ByteArray.empty x5 x7).toList) ((rdOf ByteArray.empty x6 x7).toList)) = true then (some (-1)) else (if (Op.bytesLess ((rdOf ByteArray.empty x6 x7).toList) ((rdOf ByteArray.empty x5 x7).toList)) = true then (some 1) else (creelref_PathOrder.l0 k x5 x6 (wrap64 (x7 + 1))))) else (none)) else (none)) else (none)) else (if (x5.length : Int) < (x6.length : Int) then (some (-1)) else (if (x5.length : Int) > (x6.length : Int) then (some 1) else (some 0)))
end
def creelref_PathOrder.f (k : Nat) (a0 : ByteArray) (a1 : ByteArray) : Option (Int) := (creelref_PathParts.f k a0).bind fun t101 => ((creelref_PathParts.f k a1).bind fun t104 => (creelref_PathOrder.l0 k t101 t104 0))
theorem creelref_PathOrder.mono_l : ∀ k, (∀ y0 y1 y2, LeO (creelref_PathOrder.l0 k y0 y1 y2) (creelref_PathOrder.l0 (k + 1) y0 y1 y2)) ∧ (∀ y0 y1 y2 y3, LeO (creelref_PathOrder.j1 k y0 y1 y2 y3) (creelref_PathOrder.j1 (k + 1) y0 y1 y2 y3))
 | 0 => ⟨fun _ _ _ r h => by simp [creelref_PathOrder.l0] at h, fun _ _ _ _ r h => by simp [creelref_PathOrder.j1] at h⟩
 | k + 1 => by
  obtain ⟨ih0, ih1⟩ := creelref_PathOrder.mono_l k
  refine ⟨?_, ?_⟩
  ·intro y0 y1 y2
   unfold creelref_PathOrder.l0
   repeat' first
   | (with_reducible exact ih0 _ _ _)
   | (with_reducible exact ih1 _ _ _ _)
   | (with_reducible exact creelref_PathParts.mono _ _)
   | (with_reducible exact LeO.refl _)
   | (with_reducible exact LeO.none _)
   | (with_reducible refine LeO.ite ?_ ?_)
   | (with_reducible refine LeO.bind ?_ (fun _ => ?_))
   | exact ih0 _ _ _
   | exact ih1 _ _ _ _
   | exact creelref_PathParts.mono _ _
   | exact LeO.none _
   | refine LeO.ite ?_ ?_
   | refine LeO.bind ?_ (fun _ => ?_)
  ·intro y0 y1 y2 y3
   unfold creelref_PathOrder.j1
   repeat' first
   | (with_reducible exact ih0 _ _ _)
   | (with_reducible exact ih1 _ _ _ _)
   | (with_reducible exact creelref_PathParts.mono _ _)
   | (with_reducible exact LeO.refl _)
   | (with_reducible exact LeO.none _)
   | (with_reducible refine LeO.ite ?_ ?_)
   | (with_reducible refine LeO.bind ?_ (fun _ => ?_))
   | exact ih0 _ _ _
   | exact ih1 _ _ _ _
   | exact creelref_PathParts.mono _ _
   | exact LeO.none _
   | refine LeO.ite ?_ ?_
   | refine LeO.bind ?_ (fun _ => ?_)
theorem creelref_PathOrder.mono : ∀ a0 a1 k, LeO (creelref_PathOrder.f k a0 a1) (creelref_PathOrder.f (k + 1) a0 a1) := by
 intro a0 a1 k
 obtain ⟨ih0, ih1⟩ := creelref_PathOrder.mono_l k
 unfold creelref_PathOrder.f
 repeat' first
   | (with_reducible exact ih0 _ _ _)
   | (with_reducible exact ih1 _ _ _ _)
   | (with_reducible exact creelref_PathParts.mono _ _)
   | (with_reducible exact LeO.refl _)
   | (with_reducible exact LeO.none _)
   | (with_reducible refine LeO.ite ?_ ?_)
   | (with_reducible refine LeO.bind ?_ (fun _ => ?_))
   | exact ih0 _ _ _
   | exact ih1 _ _ _ _
   | exact creelref_PathParts.mono _ _
   | exact LeO.none _
   | refine LeO.ite ?_ ?_
   | refine LeO.bind ?_ (fun _ => ?_)
set_option maxHeartbeats 8000000 in
set_option maxRecDepth 100000 in
theorem creelref_PathOrder.calls (k : Nat) (a0 : ByteArray) (a1 : ByteArray) (r : Int) (w : World) (h : creelref_PathOrder.f k a0 a1 = some r) :
  Calls Tryd.prog 58 #[.string a0, .string a1] w fun e w' => e = .returned (.int .i64 r) ∧ Below w.heap.size w w' := by
 have HB := Aside0.mk (Below.refl w.heap.size w)
 have H : ((creelref_PathParts.f k a0).bind fun t101 => ((creelref_PathParts.f k a1).bind fun t104 => (creelref_PathOrder.l0 k t101 t104 0))) = some r := h
 clear h
 replace H := Option.bind_eq_some_iff.mp H
 obtain ⟨t101, A30, H⟩ := H
 replace H : ((creelref_PathParts.f k a1).bind fun t104 => (creelref_PathOrder.l0 k t101 t104 0)) = some r := H
 have A3 := Aside0.mk A30
 clear A30
 replace H := Option.bind_eq_some_iff.mp H
 obtain ⟨t104, A40, H⟩ := H
 replace H : (creelref_PathOrder.l0 k t101 t104 0) = some r := H
 have A4 := Aside0.mk A40
 clear A40
 have H' := Aside0.mk H
 clear H
 go_enter Tryd.func58, Tryd.ntmps58
 go_wp2_with (first | (go_at_call 75; (with_reducible refine (creelref_PathParts.calls k a0 t101 _ A3.out).mono ?_); rintro e w5 ⟨v102, rfl, ho0, hb⟩; have n0_ := Aside0.mk (Kd.R_lower ho0 (below_size (by repeat (first | (with_reducible first | exact HB.out | apply below_alloc | apply pw_below_drewN | apply below_drew1) | exact HB.out)))); have n1_ := Aside0.mk (below_step (by repeat (first | (with_reducible first | exact HB.out | apply below_alloc | apply pw_below_drewN | apply below_drew1) | exact HB.out)) hb); clear HB; have HO103 := n0_; have HB := n1_; clear n0_ n1_; (try clear hb); (try clear hb2); (try clear hk); (try clear hi); (try clear ho0)) | (go_at_call 75; (with_reducible refine (creelref_PathParts.calls k a1 t104 _ A4.out).mono ?_); rintro e w6 ⟨v105, rfl, ho0, hb⟩; have n0_ := Aside0.mk (Kd.R_elder' (by (with_reducible repeat (first | apply Kd.R_alloc | apply Kd.R_drewN | apply Kd.R_drew)); exact HO103.out) (Kd.R_base ho0) hb); have n1_ := Aside0.mk (Kd.R_lower (Kd.R_new' ho0 (Kd.R_lt (by (with_reducible repeat (first | apply Kd.R_alloc | apply Kd.R_drewN | apply Kd.R_drew)); exact HO103.out))) (below_size (by repeat (first | (with_reducible first | exact HB.out | apply below_alloc | apply pw_below_drewN | apply below_drew1) | exact HB.out)))); have n2_ := Aside0.mk (below_step (by repeat (first | (with_reducible first | exact HB.out | apply below_alloc | apply pw_below_drewN | apply below_drew1) | exact HB.out)) hb); clear HO103; clear HB; have HO103 := n0_; have HO106 := n1_; have HB := n2_; clear n0_ n1_ n2_; (try clear hb); (try clear hb2); (try clear hk); (try clear hi); (try clear ho0)))
 repeat (go_quiet (first | (go_at_call 75; (with_reducible refine (creelref_PathParts.calls k a0 t101 _ A3.out).mono ?_); rintro e w5 ⟨v102, rfl, ho0, hb⟩; have n0_ := Aside0.mk (Kd.R_lower ho0 (below_size (by repeat (first | (with_reducible first | exact HB.out | apply below_alloc | apply pw_below_drewN | apply below_drew1) | exact HB.out)))); have n1_ := Aside0.mk (below_step (by repeat (first | (with_reducible first | exact HB.out | apply below_alloc | apply pw_below_drewN | apply below_drew1) | exact HB.out)) hb); clear HB; have HO103 := n0_; have HB := n1_; clear n0_ n1_; (try clear hb); (try clear hb2); (try clear hk); (try clear hi); (try clear ho0)) | (go_at_call 75; (with_reducible refine (creelref_PathParts.calls k a1 t104 _ A4.out).mono ?_); rintro e w6 ⟨v105, rfl, ho0, hb⟩; have n0_ := Aside0.mk (Kd.R_elder' (by (with_reducible repeat (first | apply Kd.R_alloc | apply Kd.R_drewN | apply Kd.R_drew)); exact HO103.out) (Kd.R_base ho0) hb); have n1_ := Aside0.mk (Kd.R_lower (Kd.R_new' ho0 (Kd.R_lt (by (with_reducible repeat (first | apply Kd.R_alloc | apply Kd.R_drewN | apply Kd.R_drew)); exact HO103.out))) (below_size (by repeat (first | (with_reducible first | exact HB.out | apply below_alloc | apply pw_below_drewN | apply below_drew1) | exact HB.out)))); have n2_ := Aside0.mk (below_step (by repeat (first | (with_reducible first | exact HB.out | apply below_alloc | apply pw_below_drewN | apply below_drew1) | exact HB.out)) hb); clear HO103; clear HB; have HO103 := n0_; have HO106 := n1_; have HB := n2_; clear n0_ n1_ n2_; (try clear hb); (try clear hb2); (try clear hk); (try clear hi); (try clear ho0))); try go_wp2_with (first | (go_at_call 75; (with_reducible refine (creelref_PathParts.calls k a0 t101 _ A3.out).mono ?_); rintro e w5 ⟨v102, rfl, ho0, hb⟩; have n0_ := Aside0.mk (Kd.R_lower ho0 (below_size (by repeat (first | (with_reducible first | exact HB.out | apply below_alloc | apply pw_below_drewN | apply below_drew1) | exact HB.out)))); have n1_ := Aside0.mk (below_step (by repeat (first | (with_reducible first | exact HB.out | apply below_alloc | apply pw_below_drewN | apply below_drew1) | exact HB.out)) hb); clear HB; have HO103 := n0_; have HB := n1_; clear n0_ n1_; (try clear hb); (try clear hb2); (try clear hk); (try clear hi); (try clear ho0)) | (go_at_call 75; (with_reducible refine (creelref_PathParts.calls k a1 t104 _ A4.out).mono ?_); rintro e w6 ⟨v105, rfl, ho0, hb⟩; have n0_ := Aside0.mk (Kd.R_elder' (by (with_reducible repeat (first | apply Kd.R_alloc | apply Kd.R_drewN | apply Kd.R_drew)); exact HO103.out) (Kd.R_base ho0) hb); have n1_ := Aside0.mk (Kd.R_lower (Kd.R_new' ho0 (Kd.R_lt (by (with_reducible repeat (first | apply Kd.R_alloc | apply Kd.R_drewN | apply Kd.R_drew)); exact HO103.out))) (below_size (by repeat (first | (with_reducible first | exact HB.out | apply below_alloc | apply pw_below_drewN | apply below_drew1) | exact HB.out)))); have n2_ := Aside0.mk (below_step (by repeat (first | (with_reducible first | exact HB.out | apply below_alloc | apply pw_below_drewN | apply below_drew1) | exact HB.out)) hb); clear HO103; clear HB; have HO103 := n0_; have HO106 := n1_; have HB := n2_; clear n0_ n1_ n2_; (try clear hb); (try clear hb2); (try clear hk); (try clear hi); (try clear ho0))))
 go_loopg [7] k (fun kq v7 w' => ∃ (x7_1 : Int), v7 = .int .i64 x7_1 ∧ Aside0 (creelref_PathOrder.l0 kq t101 t104 x7_1 = some r) ∧ Aside0 (kq ≤ k) ∧ Aside0 (Kd.R Kd.string 9 w' w.heap.size (fun k_ => some k_ ≠ (v105 : Value).ownBlock) v102 t101) ∧ Aside0 (Kd.R Kd.string 9 w' w.heap.size (fun k_ => some k_ ≠ (v102 : Value).ownBlock) v105 t104) ∧ Aside0 (Below w.heap.size w w'))
 case atStart => exact ⟨(0), (by first | rfl | (simp; done) | (simp [*]; done)), H', ⟨Nat.le_refl _⟩, ⟨by (with_reducible repeat (first | apply Kd.R_alloc | apply Kd.R_drewN | apply Kd.R_drew)); exact Kd.R_mono HO103.out (fun _ hk => hk.2)⟩, ⟨by (with_reducible repeat (first | apply Kd.R_alloc | apply Kd.R_drewN | apply Kd.R_drew)); exact Kd.R_mono HO106.out (fun _ hk => hk.2)⟩, ⟨by repeat (first | (with_reducible first | exact HB.out | apply below_alloc | apply pw_below_drewN | apply below_drew1) | exact HB.out)⟩⟩
 case round =>
  clear H'
  try clear p2
  try clear c5
  obtain ⟨x7_1, rfl, HA, HK1, HO_5, HO_6, HB⟩ := hrel
  cases gk with
  | zero => exact absurd HA.out (by simp [creelref_PathOrder.l0])
  | succ k1 =>
   have H := HA.out
   clear HA
   simp only [creelref_PathOrder.l0] at H
   have HC7 := Aside0.mk H
   clear H
   go_upto_region 4 with (fail)
   repeat (go_quiet (fail); go_upto_region 4 with (fail))
   go_cut [21] (fun v21 wc => ∃ (kq : Nat) (x21_6 : Bool), v21 = .bool x21_6 ∧ Aside0 (creelref_PathOrder.j1 kq t101 t104 x7_1 x21_6 = some r) ∧ Aside0 (kq ≤ k1) ∧ Aside0 (Kd.R Kd.string 9 wc w.heap.size (fun k_ => some k_ ≠ (v105 : Value).ownBlock) v102 t101) ∧ Aside0 (Kd.R Kd.string 9 wc w.heap.size (fun k_ => some k_ ≠ (v102 : Value).ownBlock) v105 t104) ∧ Aside0 (Below w.heap.size w wc))
   case first =>
    have H := HC7.out
    clear HC7
    by_cases c8 : x7_1 < (t101.length : Int)
    ·rw [if_pos c8] at H
     have c8b0 : decide (x7_1 < (t101.length : Int)) = true := decide_eq_true c8
     clear c8
     (first | rw [c8b0] | (simp only [i64_w, i32_w]; rw [c8b0]) | skip)
     have H' := Aside0.mk H
     clear H
     obtain ⟨Ao9, co9, eo9⟩ := Kd.R_slice HO_5.out
     subst eo9
     obtain ⟨Ao10, co10, eo10⟩ := Kd.R_slice HO_6.out
     subst eo10
     go_wp2
     repeat (go_quiet (fail); try go_wp2)
     go_meet
     case rel => exact ⟨_, (decide (x7_1 < (t104.length : Int))), (by first | rfl | (simp; done) | (simp [*]; done)), H', ⟨by have := HK1.out; first | omega | exact Nat.le_refl _⟩, ⟨by (with_reducible repeat (first | apply Kd.R_alloc | apply Kd.R_drewN | apply Kd.R_drew)); exact HO_5.out⟩, ⟨by (with_reducible repeat (first | apply Kd.R_alloc | apply Kd.R_drewN | apply Kd.R_drew)); exact HO_6.out⟩, ⟨by repeat (first | (with_reducible first | exact HB.out | apply below_alloc | apply pw_below_drewN | apply below_drew1) | exact HB.out)⟩⟩
    ·rw [if_neg c8] at H
     have c8b0 : decide (x7_1 < (t101.length : Int)) = false := decide_eq_false c8
     clear c8
     (first | rw [c8b0] | (simp only [i64_w, i32_w]; rw [c8b0]) | skip)
     have H' := Aside0.mk H
     clear H
     obtain ⟨Ao11, co11, eo11⟩ := Kd.R_slice HO_5.out
     subst eo11
     go_wp2
     repeat (go_quiet (fail); try go_wp2)
     go_meet
     case rel => exact ⟨_, (false), (by first | rfl | (simp; done) | (simp [*]; done)), H', ⟨by have := HK1.out; first | omega | exact Nat.le_refl _⟩, ⟨by (with_reducible repeat (first | apply Kd.R_alloc | apply Kd.R_drewN | apply Kd.R_drew)); exact HO_5.out⟩, ⟨by (with_reducible repeat (first | apply Kd.R_alloc | apply Kd.R_drewN | apply Kd.R_drew)); exact HO_6.out⟩, ⟨by repeat (first | (with_reducible first | exact HB.out | apply below_alloc | apply pw_below_drewN | apply below_drew1) | exact HB.out)⟩⟩
   case rest =>
    clear HC7
    try clear p2
    try clear c5
    try clear c8
    try clear c8b0
    try clear p2
    obtain ⟨kq, x21_6, rfl, HA, HJ6, HO_5, HO_6, HB⟩ := hcut
    cases kq with
    | zero => exact absurd HA.out (by simp [creelref_PathOrder.j1])
    | succ kj6 =>
     have H := HA.out
     clear HA
     simp only [creelref_PathOrder.j1] at H
     by_cases c12 : x21_6 = true
     ·subst c12
      have H1 : (if 0 ≤ x7_1 then (if x7_1 < (t101.length : Int) then (if x7_1 < (t104.length : Int) then (if (Op.bytesLess ((rdOf ByteArray.empty t101 x7_1).toList) ((rdOf ByteArray.empty t104 x7_1).toList)) = true then (some (-1)) else (if (Op.bytesLess ((rdOf ByteArray.empty t104 x7_1).toList) ((rdOf ByteArray.empty t101 x7_1).toList)) = true then (some 1) else (creelref_PathOrder.l0 kj6 t101 t104 (wrap64 (x7_1 + 1))))) else (none)) else (none)) else (none)) = some r := by rw [if_pos rfl] at H; exact H
      clear H
      have H := H1
      clear H1
      by_cases c13 : 0 ≤ x7_1
      ·rw [if_pos c13] at H
       have c13b0 : decide (0 ≤ x7_1) = true := decide_eq_true c13
       clear c13
       by_cases c14 : x7_1 < (t101.length : Int)
       ·rw [if_pos c14] at H
        have c14b0 : decide (x7_1 < (t101.length : Int)) = true := decide_eq_true c14
        clear c14
        by_cases c15 : x7_1 < (t104.length : Int)
        ·rw [if_pos c15] at H
         have c15b0 : decide (x7_1 < (t104.length : Int)) = true := decide_eq_true c15
         clear c15
         by_cases c16 : (Op.bytesLess ((rdOf ByteArray.empty t101 x7_1).toList) ((rdOf ByteArray.empty t104 x7_1).toList)) = true
         ·rw [if_pos c16] at H
          have c16b0 : (Op.bytesLess ((rdOf ByteArray.empty t101 x7_1).toList) ((rdOf ByteArray.empty t104 x7_1).toList)) = true := c16
          clear c16
          obtain rfl := Option.some.inj H
          obtain ⟨Ao17, co17, eo17⟩ := Kd.R_slice HO_5.out
          subst eo17
          have p107 : 0 ≤ (x7_1 : Int) := of_decide_eq_true (by first | (with_reducible assumption) | assumption)
          have q107 : x7_1 < (t101.length : Int) := of_decide_eq_true (by first | (with_reducible assumption) | assumption)
          obtain ⟨ad107, e107, hx107_0⟩ := Kd.at_string (Kd.R_reads' HO_5.out).2.2 x7_1 p107 q107
          cases e107
          replace p107 := eq_true p107
          replace q107 := eq_true q107
          obtain ⟨Ao18, co18, eo18⟩ := Kd.R_slice HO_6.out
          subst eo18
          have p108 : 0 ≤ (x7_1 : Int) := of_decide_eq_true (by first | (with_reducible assumption) | assumption)
          have q108 : x7_1 < (t104.length : Int) := of_decide_eq_true (by first | (with_reducible assumption) | assumption)
          obtain ⟨ad108, e108, hx108_0⟩ := Kd.at_string (Kd.R_reads' HO_6.out).2.2 x7_1 p108 q108
          cases e108
          replace p108 := eq_true p108
          replace q108 := eq_true q108
          go_wp2
          repeat (go_quiet (fail); try go_wp2)
          go_ret
          exact ⟨by first | rfl | (simp [errW_none, errW_some] <;> rfl) | (simp [*, errW_none, errW_some] <;> rfl), by repeat (first | (with_reducible first | exact HB.out | apply below_alloc | apply pw_below_drewN | apply below_drew1) | exact HB.out)⟩
         ·rw [if_neg c16] at H
          have c16b0 : (Op.bytesLess ((rdOf ByteArray.empty t101 x7_1).toList) ((rdOf ByteArray.empty t104 x7_1).toList)) = false := by simpa using c16
          clear c16
          by_cases c19 : (Op.bytesLess ((rdOf ByteArray.empty t104 x7_1).toList) ((rdOf ByteArray.empty t101 x7_1).toList)) = true
          ·rw [if_pos c19] at H
           have c19b0 : (Op.bytesLess ((rdOf ByteArray.empty t104 x7_1).toList) ((rdOf ByteArray.empty t101 x7_1).toList)) = true := c19
           clear c19
           obtain rfl := Option.some.inj H
           obtain ⟨Ao20, co20, eo20⟩ := Kd.R_slice HO_5.out
           subst eo20
           have p107 : 0 ≤ (x7_1 : Int) := of_decide_eq_true (by first | (with_reducible assumption) | assumption)
           have q107 : x7_1 < (t101.length : Int) := of_decide_eq_true (by first | (with_reducible assumption) | assumption)
           obtain ⟨ad107, e107, hx107_0⟩ := Kd.at_string (Kd.R_reads' HO_5.out).2.2 x7_1 p107 q107
           cases e107
           replace p107 := eq_true p107
           replace q107 := eq_true q107
           obtain ⟨Ao21, co21, eo21⟩ := Kd.R_slice HO_6.out
           subst eo21
           have p108 : 0 ≤ (x7_1 : Int) := of_decide_eq_true (by first | (with_reducible assumption) | assumption)
           have q108 : x7_1 < (t104.length : Int) := of_decide_eq_true (by first | (with_reducible assumption) | assumption)
           obtain ⟨ad108, e108, hx108_0⟩ := Kd.at_string (Kd.R_reads' HO_6.out).2.2 x7_1 p108 q108
           cases e108
           replace p108 := eq_true p108
           replace q108 := eq_true q108
           have p109 : 0 ≤ (x7_1 : Int) := of_decide_eq_true (by first | (with_reducible assumption) | assumption)
           have q109 : x7_1 < (t101.length : Int) := of_decide_eq_true (by first | (with_reducible assumption) | assumption)
           obtain ⟨ad109, e109, hx109_0⟩ := Kd.at_string (Kd.R_reads' HO_5.out).2.2 x7_1 p109 q109
           obtain rfl : ad107 = ad109 := (by injection e109)
           replace p109 := eq_true p109
           replace q109 := eq_true q109
           have p110 : 0 ≤ (x7_1 : Int) := of_decide_eq_true (by first | (with_reducible assumption) | assumption)
           have q110 : x7_1 < (t104.length : Int) := of_decide_eq_true (by first | (with_reducible assumption) | assumption)
           obtain ⟨ad110, e110, hx110_0⟩ := Kd.at_string (Kd.R_reads' HO_6.out).2.2 x7_1 p110 q110
           obtain rfl : ad108 = ad110 := (by injection e110)
           replace p110 := eq_true p110
           replace q110 := eq_true q110
           go_wp2
           repeat (go_quiet (fail); try go_wp2)
           go_ret
           exact ⟨by first | rfl | (simp [errW_none, errW_some] <;> rfl) | (simp [*, errW_none, errW_some] <;> rfl), by repeat (first | (with_reducible first | exact HB.out | apply below_alloc | apply pw_below_drewN | apply below_drew1) | exact HB.out)⟩
          ·rw [if_neg c19] at H
           have c19b0 : (Op.bytesLess ((rdOf ByteArray.empty t104 x7_1).toList) ((rdOf ByteArray.empty t101 x7_1).toList)) = false := by simpa using c19
           clear c19
           have H' := Aside0.mk H
           clear H
           obtain ⟨Ao22, co22, eo22⟩ := Kd.R_slice HO_5.out
           subst eo22
           have p107 : 0 ≤ (x7_1 : Int) := of_decide_eq_true (by first | (with_reducible assumption) | assumption)
           have q107 : x7_1 < (t101.length : Int) := of_decide_eq_true (by first | (with_reducible assumption) | assumption)
           obtain ⟨ad107, e107, hx107_0⟩ := Kd.at_string (Kd.R_reads' HO_5.out).2.2 x7_1 p107 q107
           cases e107
           replace p107 := eq_true p107
           replace q107 := eq_true q107
           obtain ⟨Ao23, co23, eo23⟩ := Kd.R_slice HO_6.out
           subst eo23
           have p108 : 0 ≤ (x7_1 : Int) := of_decide_eq_true (by first | (with_reducible assumption) | assumption)
           have q108 : x7_1 < (t104.length : Int) := of_decide_eq_true (by first | (with_reducible assumption) | assumption)
           obtain ⟨ad108, e108, hx108_0⟩ := Kd.at_string (Kd.R_reads' HO_6.out).2.2 x7_1 p108 q108
           cases e108
           replace p108 := eq_true p108
           replace q108 := eq_true q108
           have p109 : 0 ≤ (x7_1 : Int) := of_decide_eq_true (by first | (with_reducible assumption) | assumption)
           have q109 : x7_1 < (t101.length : Int) := of_decide_eq_true (by first | (with_reducible assumption) | assumption)
           obtain ⟨ad109, e109, hx109_0⟩ := Kd.at_string (Kd.R_reads' HO_5.out).2.2 x7_1 p109 q109
           obtain rfl : ad107 = ad109 := (by injection e109)
           replace p109 := eq_true p109
           replace q109 := eq_true q109
           have p110 : 0 ≤ (x7_1 : Int) := of_decide_eq_true (by first | (with_reducible assumption) | assumption)
           have q110 : x7_1 < (t104.length : Int) := of_decide_eq_true (by first | (with_reducible assumption) | assumption)
           obtain ⟨ad110, e110, hx110_0⟩ := Kd.at_string (Kd.R_reads' HO_6.out).2.2 x7_1 p110 q110
           obtain rfl : ad108 = ad110 := (by injection e110)
           replace p110 := eq_true p110
           replace q110 := eq_true q110
           go_wp2
           repeat (go_quiet (fail); try go_wp2)
           go_roundg kj6
           case measure => have := HK1.out; have := HJ6.out; omega
           case rel => exact ⟨(wrap64 (x7_1 + 1)), (by first | rfl | (simp; done) | (simp [*]; done)), H', ⟨by have := HK1.out; have := HJ6.out; omega⟩, ⟨by (with_reducible repeat (first | apply Kd.R_alloc | apply Kd.R_drewN | apply Kd.R_drew)); exact HO_5.out⟩, ⟨by (with_reducible repeat (first | apply Kd.R_alloc | apply Kd.R_drewN | apply Kd.R_drew)); exact HO_6.out⟩, ⟨by repeat (first | (with_reducible first | exact HB.out | apply below_alloc | apply pw_below_drewN | apply below_drew1) | exact HB.out)⟩⟩
        ·rw [if_neg c15] at H
         exact absurd H (by simp)
       ·rw [if_neg c14] at H
        exact absurd H (by simp)
      ·rw [if_neg c13] at H
       exact absurd H (by simp)
     ·replace c12 := Bool.eq_false_iff.mpr c12
      subst c12
      have H1 : (if (t101.length : Int) < (t104.length : Int) then (some (-1)) else (if (t101.length : Int) > (t104.length : Int) then (some 1) else (some 0))) = some r := by rw [if_neg (show ¬ (false = true) by decide)] at H; exact H
      clear H
      have H := H1
      clear H1
      by_cases c24 : (t101.length : Int) < (t104.length : Int)
      ·rw [if_pos c24] at H
       have c24b0 : decide ((t101.length : Int) < (t104.length : Int)) = true := decide_eq_true c24
       have c24b1 : decide (t101.length < t104.length) = true := decide_eq_true (Int.ofNat_lt.mp c24)
       clear c24
       obtain rfl := Option.some.inj H
       obtain ⟨Ao25, co25, eo25⟩ := Kd.R_slice HO_5.out
       subst eo25
       obtain ⟨Ao26, co26, eo26⟩ := Kd.R_slice HO_6.out
       subst eo26
       go_wp2
       repeat (go_quiet (fail); try go_wp2)
       go_ret
       exact ⟨by first | rfl | (simp [errW_none, errW_some] <;> rfl) | (simp [*, errW_none, errW_some] <;> rfl), by repeat (first | (with_reducible first | exact HB.out | apply below_alloc | apply pw_below_drewN | apply below_drew1) | exact HB.out)⟩
      ·rw [if_neg c24] at H
       have c24b0 : decide ((t101.length : Int) < (t104.length : Int)) = false := decide_eq_false c24
       have c24b1 : decide (t101.length < t104.length) = false := decide_eq_false (fun h => c24 (Int.ofNat_lt.mpr h))
       clear c24
       by_cases c27 : (t101.length : Int) > (t104.length : Int)
       ·rw [if_pos c27] at H
        have c27b0 : decide ((t104.length : Int) < (t101.length : Int)) = true := decide_eq_true c27
        have c27b1 : decide (t104.length < t101.length) = true := decide_eq_true (Int.ofNat_lt.mp c27)
        clear c27
        obtain rfl := Option.some.inj H
        obtain ⟨Ao28, co28, eo28⟩ := Kd.R_slice HO_5.out
        subst eo28
        obtain ⟨Ao29, co29, eo29⟩ := Kd.R_slice HO_6.out
        subst eo29
        go_wp2
        repeat (go_quiet (fail); try go_wp2)
        go_ret
        exact ⟨by first | rfl | (simp [errW_none, errW_some] <;> rfl) | (simp [*, errW_none, errW_some] <;> rfl), by repeat (first | (with_reducible first | exact HB.out | apply below_alloc | apply pw_below_drewN | apply below_drew1) | exact HB.out)⟩
       ·rw [if_neg c27] at H
        have c27b0 : decide ((t104.length : Int) < (t101.length : Int)) = false := decide_eq_false c27
        have c27b1 : decide (t104.length < t101.length) = false := decide_eq_false (fun h => c27 (Int.ofNat_lt.mpr h))
        clear c27
        obtain rfl := Option.some.inj H
        obtain ⟨Ao30, co30, eo30⟩ := Kd.R_slice HO_5.out
        subst eo30
        obtain ⟨Ao31, co31, eo31⟩ := Kd.R_slice HO_6.out
        subst eo31
        go_wp2
        repeat (go_quiet (fail); try go_wp2)
        go_ret
        exact ⟨by first | rfl | (simp [errW_none, errW_some] <;> rfl) | (simp [*, errW_none, errW_some] <;> rfl), by repeat (first | (with_reducible first | exact HB.out | apply below_alloc | apply pw_below_drewN | apply below_drew1) | exact HB.out)⟩

end Go.Proofs.YtodeblpanooomabDoor.All
end
section
namespace Go.Proofs.YtodeblpanooomabDoor.All
open Go.RowKit Go.Proofs.YtodeblpanooomabDoorW.PrintWords Go.Proofs.YtodeblpanooomabDoorW.PrintLast Go.Proofs.YtodeblpanooomabDoorW.PrintMore
open Go.Proofs.YtodeblpanooomabDoorW.Mine
attribute [local go_sem] gtr_string leq_string geq_string
attribute [local go_sem] max2_int min2_int max_two min_two max_three min_three max_four min_four   -- for this text's walks alone
set_option linter.unusedVariables false
set_option linter.unusedSimpArgs false

/-! ### creelref_PathSplit: function 59 -/
def creelref_PathSplit.l0 : Nat → List ByteArray → ByteArray → Int → Option (ByteArray × ByteArray)
 | 0, _, _, _ => none
 | k + 1, x4, x5, x6 => if x6 < (wrap64 ((x4.length : Int) - 1)) then (if x6 > 0 then (if x5.size + 1 ≤ 9223372036854775807 then (if 0 ≤ x6 then (if x6 < (x4.length : Int) then (if (x5 ++ (⟨#[47]⟩ : ByteArray)).size + (rdOf ByteArray.empty x4 x6).size ≤ 9223372036854775807 then (creelref_PathSplit.l0 k x4 ((x5 ++ (⟨#[47]⟩ : ByteArray)) ++ (rdOf ByteArray.empty x4 x6)) (wrap64 (x6 + 1))) else (none)) else (none)) else (none)) else (none)) else (if 0 ≤ x6 then (if x6 < (x4.length : Int) then (if x5.size + (rdOf ByteArray.empty x4 x6).size ≤ 9223372036854775807 then (creelref_PathSplit.l0 k x4 (x5 ++ (rdOf ByteArray.empty x4 x6)) (wrap64 (x6 + 1))) else (none)) else (none)) else (none))) else (if 0 ≤ (wrap64 ((x4.length : Int) - 1)) then (if (wrap64 ((x4.length : Int) - 1)) < (x4.length : Int) then (some (x5, rdOf ByteArray.empty x4 (wrap64 ((x4.length : Int) - 1)))) else (none)) else (none))
def creelref_PathSplit.f (k : Nat) (a0 : ByteArray) : Option (ByteArray × ByteArray) := (creelref_parts.f k a0 47).bind fun t101 => (creelref_PathSplit.l0 k t101 (⟨#[]⟩ : ByteArray) 0)
theorem creelref_PathSplit.mono_l : ∀ k, (∀ y0 y1 y2, LeO (creelref_PathSplit.l0 k y0 y1 y2) (creelref_PathSplit.l0 (k + 1) y0 y1 y2))
 | 0 => fun _ _ _ r h => by simp [creelref_PathSplit.l0] at h
 | k + 1 => by
  have ih0 := creelref_PathSplit.mono_l k
  ·intro y0 y1 y2
   unfold creelref_PathSplit.l0
   repeat' first
   | (with_reducible exact ih0 _ _ _)
   | (with_reducible exact creelref_parts.mono _ _ _)
   | (with_reducible exact LeO.refl _)
   | (with_reducible exact LeO.none _)
   | (with_reducible refine LeO.ite ?_ ?_)
   | (with_reducible refine LeO.bind ?_ (fun _ => ?_))
   | exact ih0 _ _ _
   | exact creelref_parts.mono _ _ _
   | exact LeO.none _
   | refine LeO.ite ?_ ?_
   | refine LeO.bind ?_ (fun _ => ?_)
theorem creelref_PathSplit.mono : ∀ a0 k, LeO (creelref_PathSplit.f k a0) (creelref_PathSplit.f (k + 1) a0) := by
 intro a0 k
 have ih0 := creelref_PathSplit.mono_l k
 unfold creelref_PathSplit.f
 repeat' first
   | (with_reducible exact ih0 _ _ _)
   | (with_reducible exact creelref_parts.mono _ _ _)
   | (with_reducible exact LeO.refl _)
   | (with_reducible exact LeO.none _)
   | (with_reducible refine LeO.ite ?_ ?_)
   | (with_reducible refine LeO.bind ?_ (fun _ => ?_))
   | exact ih0 _ _ _
   | exact creelref_parts.mono _ _ _
   | exact LeO.none _
   | refine LeO.ite ?_ ?_
   | refine LeO.bind ?_ (fun _ => ?_)
set_option maxHeartbeats 8000000 in
set_option maxRecDepth 100000 in
theorem creelref_PathSplit.calls (k : Nat) (a0 : ByteArray) (r1 : ByteArray) (r2 : ByteArray) (w : World) (h : creelref_PathSplit.f k a0 = some (r1, r2)) :
  Calls Tryd.prog 59 #[.string a0] w fun e w' => e = .returned (.tuple #[.string r1, .string r2]) ∧ Below w.heap.size w w' := by
 have HB := Aside0.mk (Below.refl w.heap.size w)
 have H : ((creelref_parts.f k a0 47).bind fun t101 => (creelref_PathSplit.l0 k t101 (⟨#[]⟩ : ByteArray) 0)) = some (r1, r2) := h
 clear h
 replace H := Option.bind_eq_some_iff.mp H
 obtain ⟨t101, A20, H⟩ := H
 replace H : (creelref_PathSplit.l0 k t101 (⟨#[]⟩ : ByteArray) 0) = some (r1, r2) := H
 have A2 := Aside0.mk A20
 clear A20
 have H' := Aside0.mk H
 clear H
 go_enter Tryd.func59, Tryd.ntmps59
 go_wp2_with (first | (go_at_call 51; (with_reducible refine (creelref_parts.calls k a0 47 t101 _ A2.out).mono ?_); rintro e w3 ⟨v102, rfl, ho0, hb⟩; have n0_ := Aside0.mk (Kd.R_lower ho0 (below_size (by repeat (first | (with_reducible first | exact HB.out | apply below_alloc | apply pw_below_drewN | apply below_drew1) | exact HB.out)))); have n1_ := Aside0.mk (below_step (by repeat (first | (with_reducible first | exact HB.out | apply below_alloc | apply pw_below_drewN | apply below_drew1) | exact HB.out)) hb); clear HB; have HO103 := n0_; have HB := n1_; clear n0_ n1_; (try clear hb); (try clear hb2); (try clear hk); (try clear hi); (try clear ho0)))
 repeat (go_quiet (first | (go_at_call 51; (with_reducible refine (creelref_parts.calls k a0 47 t101 _ A2.out).mono ?_); rintro e w3 ⟨v102, rfl, ho0, hb⟩; have n0_ := Aside0.mk (Kd.R_lower ho0 (below_size (by repeat (first | (with_reducible first | exact HB.out | apply below_alloc | apply pw_below_drewN | apply below_drew1) | exact HB.out)))); have n1_ := Aside0.mk (below_step (by repeat (first | (with_reducible first | exact HB.out | apply below_alloc | apply pw_below_drewN | apply below_drew1) | exact HB.out)) hb); clear HB; have HO103 := n0_; have HB := n1_; clear n0_ n1_; (try clear hb); (try clear hb2); (try clear hk); (try clear hi); (try clear ho0))); try go_wp2_with (first | (go_at_call 51; (with_reducible refine (creelref_parts.calls k a0 47 t101 _ A2.out).mono ?_); rintro e w3 ⟨v102, rfl, ho0, hb⟩; have n0_ := Aside0.mk (Kd.R_lower ho0 (below_size (by repeat (first | (with_reducible first | exact HB.out | apply below_alloc | apply pw_below_drewN | apply below_drew1) | exact HB.out)))); have n1_ := Aside0.mk (below_step (by repeat (first | (with_reducible first | exact HB.out | apply below_alloc | apply pw_below_drewN | apply below_drew1) | exact HB.out)) hb); clear HB; have HO103 := n0_; have HB := n1_; clear n0_ n1_; (try clear hb); (try clear hb2); (try clear hk); (try clear hi); (try clear ho0))))
 go_loopg [5, 6] k (fun kq v5 v6 w' => ∃ (x5_1 : ByteArray) (x6_1 : Int), v5 = .string x5_1 ∧ v6 = .int .i64 x6_1 ∧ Aside0 (creelref_PathSplit.l0 kq t101 x5_1 x6_1 = some (r1, r2)) ∧ Aside0 (kq ≤ k) ∧ Aside0 (Kd.R Kd.string 9 w' w.heap.size (fun _ => True) v102 t101) ∧ Aside0 (Below w.heap.size w w'))
 case atStart => exact ⟨((⟨#[]⟩ : ByteArray)), (0), (by first | rfl | (simp; done) | (simp [*]; done)), (by first | rfl | (simp; done) | (simp [*]; done)), H', ⟨Nat.le_refl _⟩, ⟨by (with_reducible repeat (first | apply Kd.R_alloc | apply Kd.R_drewN | apply Kd.R_drew)); exact HO103.out⟩, ⟨by repeat (first | (with_reducible first | exact HB.out | apply below_alloc | apply pw_below_drewN | apply below_drew1) | exact HB.out)⟩⟩
 case round =>
  clear H'
  try clear p2
  obtain ⟨x5_1, x6_1, rfl, rfl, HA, HK1, HO_4, HB⟩ := hrel
  cases gk with
  | zero => exact absurd HA.out (by simp [creelref_PathSplit.l0])
  | succ k1 =>
   have H := HA.out
   clear HA
   simp only [creelref_PathSplit.l0] at H
   by_cases c4 : x6_1 < (wrap64 ((t101.length : Int) - 1))
   ·rw [if_pos c4] at H
    have c4b0 : decide (x6_1 < (wrap64 ((t101.length : Int) - 1))) = true := decide_eq_true c4
    clear c4
    by_cases c5 : x6_1 > 0
    ·rw [if_pos c5] at H
     have c5b0 : decide (0 < x6_1) = true := decide_eq_true c5
     clear c5
     by_cases c6 : x5_1.size + 1 ≤ 9223372036854775807
     ·rw [if_pos c6] at H
      have c6b0 := eq_true c6
      have c6b1 : decide (x5_1.size + 1 ≤ 9223372036854775807) = true := decide_eq_true c6
      try have c6b2 : (9223372036854775807 < x5_1.size + 1) = False := eq_false (Nat.not_lt.2 c6)
      by_cases c7 : 0 ≤ x6_1
      ·rw [if_pos c7] at H
       have c7b0 : decide (0 ≤ x6_1) = true := decide_eq_true c7
       clear c7
       by_cases c8 : x6_1 < (t101.length : Int)
       ·rw [if_pos c8] at H
        have c8b0 : decide (x6_1 < (t101.length : Int)) = true := decide_eq_true c8
        clear c8
        by_cases c9 : (x5_1 ++ (⟨#[47]⟩ : ByteArray)).size + (rdOf ByteArray.empty t101 x6_1).size ≤ 9223372036854775807
        ·rw [if_pos c9] at H
         have c9b0 := eq_true c9
         have c9b1 : decide ((x5_1 ++ (⟨#[47]⟩ : ByteArray)).size + (rdOf ByteArray.empty t101 x6_1).size ≤ 9223372036854775807) = true := decide_eq_true c9
         try have c9b2 : (9223372036854775807 < (x5_1 ++ (⟨#[47]⟩ : ByteArray)).size + (rdOf ByteArray.empty t101 x6_1).size) = False := eq_false (Nat.not_lt.2 c9)
         have H' := Aside0.mk H
         clear H
         obtain ⟨Ao10, co10, eo10⟩ := Kd.R_slice HO_4.out
         subst eo10
         have p104 : 0 ≤ (x6_1 : Int) := of_decide_eq_true (by first | (with_reducible assumption) | assumption)
         have q104 : x6_1 < (t101.length : Int) := of_decide_eq_true (by first | (with_reducible assumption) | assumption)
         obtain ⟨ad104, e104, hx104_0⟩ := Kd.at_string (Kd.R_reads' HO_4.out).2.2 x6_1 p104 q104
         cases e104
         replace p104 := eq_true p104
         replace q104 := eq_true q104
         go_wp2
         repeat (go_quiet (fail); try go_wp2)
         go_roundg k1
         case measure => have := HK1.out; omega
         case rel => exact ⟨((x5_1 ++ (⟨#[47]⟩ : ByteArray)) ++ (rdOf ByteArray.empty t101 x6_1)), (wrap64 (x6_1 + 1)), (by first | rfl | (simp; done) | (simp [*]; done)), (by first | rfl | (simp; done) | (simp [*]; done)), H', ⟨by have := HK1.out; omega⟩, ⟨by (with_reducible repeat (first | apply Kd.R_alloc | apply Kd.R_drewN | apply Kd.R_drew)); exact HO_4.out⟩, ⟨by repeat (first | (with_reducible first | exact HB.out | apply below_alloc | apply pw_below_drewN | apply below_drew1) | exact HB.out)⟩⟩
        ·rw [if_neg c9] at H
         exact absurd H (by simp)
       ·rw [if_neg c8] at H
        exact absurd H (by simp)
      ·rw [if_neg c7] at H
       exact absurd H (by simp)
     ·rw [if_neg c6] at H
      exact absurd H (by simp)
    ·rw [if_neg c5] at H
     have c5b0 : decide (0 < x6_1) = false := decide_eq_false c5
     clear c5
     by_cases c11 : 0 ≤ x6_1
     ·rw [if_pos c11] at H
      have c11b0 : decide (0 ≤ x6_1) = true := decide_eq_true c11
      clear c11
      by_cases c12 : x6_1 < (t101.length : Int)
      ·rw [if_pos c12] at H
       have c12b0 : decide (x6_1 < (t101.length : Int)) = true := decide_eq_true c12
       clear c12
       by_cases c13 : x5_1.size + (rdOf ByteArray.empty t101 x6_1).size ≤ 9223372036854775807
       ·rw [if_pos c13] at H
        have c13b0 := eq_true c13
        have c13b1 : decide (x5_1.size + (rdOf ByteArray.empty t101 x6_1).size ≤ 9223372036854775807) = true := decide_eq_true c13
        try have c13b2 : (9223372036854775807 < x5_1.size + (rdOf ByteArray.empty t101 x6_1).size) = False := eq_false (Nat.not_lt.2 c13)
        have H' := Aside0.mk H
        clear H
        obtain ⟨Ao14, co14, eo14⟩ := Kd.R_slice HO_4.out
        subst eo14
        have p105 : 0 ≤ (x6_1 : Int) := of_decide_eq_true (by first | (with_reducible assumption) | assumption)
        have q105 : x6_1 < (t101.length : Int) := of_decide_eq_true (by first | (with_reducible assumption) | assumption)
        obtain ⟨ad105, e105, hx105_0⟩ := Kd.at_string (Kd.R_reads' HO_4.out).2.2 x6_1 p105 q105
        cases e105
        replace p105 := eq_true p105
        replace q105 := eq_true q105
        go_wp2
        repeat (go_quiet (fail); try go_wp2)
        go_roundg k1
        case measure => have := HK1.out; omega
        case rel => exact ⟨(x5_1 ++ (rdOf ByteArray.empty t101 x6_1)), (wrap64 (x6_1 + 1)), (by first | rfl | (simp; done) | (simp [*]; done)), (by first | rfl | (simp; done) | (simp [*]; done)), H', ⟨by have := HK1.out; omega⟩, ⟨by (with_reducible repeat (first | apply Kd.R_alloc | apply Kd.R_drewN | apply Kd.R_drew)); exact HO_4.out⟩, ⟨by repeat (first | (with_reducible first | exact HB.out | apply below_alloc | apply pw_below_drewN | apply below_drew1) | exact HB.out)⟩⟩
       ·rw [if_neg c13] at H
        exact absurd H (by simp)
      ·rw [if_neg c12] at H
       exact absurd H (by simp)
     ·rw [if_neg c11] at H
      exact absurd H (by simp)
   ·rw [if_neg c4] at H
    have c4b0 : decide (x6_1 < (wrap64 ((t101.length : Int) - 1))) = false := decide_eq_false c4
    clear c4
    obtain ⟨ji15, hji15⟩ : ∃ j_ : Int, (wrap64 ((t101.length : Int) - 1)) = j_ := ⟨_, rfl⟩
    replace H : (if 0 ≤ (ji15) then (if (ji15) < (t101.length : Int) then (some (x5_1, rdOf ByteArray.empty t101 (ji15))) else (none)) else (none)) = some (r1, r2) := by first | (rw [hji15] at H; exact H) | (simp only [hji15] at H ⊢; exact H)
    (try rw [hji15] at c4b0)
    have hji15w : (IntKind.i64.wrap ((t101.length : Int) - 1)) = ji15 := (i64_w _).trans hji15
    by_cases c16 : 0 ≤ (ji15)
    ·rw [if_pos c16] at H
     have c16b0 : decide (0 ≤ (ji15)) = true := decide_eq_true c16
     clear c16
     by_cases c17 : (ji15) < (t101.length : Int)
     ·rw [if_pos c17] at H
      have c17b0 : decide ((ji15) < (t101.length : Int)) = true := decide_eq_true c17
      clear c17
      simp only [Option.some.injEq, Prod.mk.injEq] at H
      obtain ⟨rfl, rfl⟩ := H
      obtain ⟨Ao18, co18, eo18⟩ := Kd.R_slice HO_4.out
      subst eo18
      have p106 : 0 ≤ ((ji15) : Int) := of_decide_eq_true (by first | (with_reducible assumption) | assumption)
      have q106 : (ji15) < (t101.length : Int) := of_decide_eq_true (by first | (with_reducible assumption) | assumption)
      obtain ⟨ad106, e106, hx106_0⟩ := Kd.at_string (Kd.R_reads' HO_4.out).2.2 (ji15) p106 q106
      cases e106
      replace p106 := eq_true p106
      replace q106 := eq_true q106
      go_wp2
      repeat (go_quiet (fail); try go_wp2)
      go_ret2
      exact ⟨by first | rfl | (simp [errW_none, errW_some] <;> rfl) | (simp only [← hji15]; first | rfl | (simp [errW_none, errW_some] <;> rfl)) | (simp [*, errW_none, errW_some] <;> rfl), by repeat (first | (with_reducible first | exact HB.out | apply below_alloc | apply pw_below_drewN | apply below_drew1) | exact HB.out)⟩
     ·rw [if_neg c17] at H
      exact absurd H (by simp)
    ·rw [if_neg c16] at H
     exact absurd H (by simp)

end Go.Proofs.YtodeblpanooomabDoor.All
end
section
namespace Go.Proofs.YtodeblpanooomabDoor.All
open Go.RowKit Go.Proofs.YtodeblpanooomabDoorW.PrintWords Go.Proofs.YtodeblpanooomabDoorW.PrintLast Go.Proofs.YtodeblpanooomabDoorW.PrintMore
open Go.Proofs.YtodeblpanooomabDoorW.Mine
attribute [local go_sem] gtr_string leq_string geq_string
attribute [local go_sem] max2_int min2_int max_two min_two max_three min_three max_four min_four   -- for this text's walks alone
set_option linter.unusedVariables false
set_option linter.unusedSimpArgs false

/-! ### creelref_TreeFault: function 31 -/
open Go.Proofs.YtodeblpanooomabDoorW.MapOwn
attribute [local go_sem high] eqK53
def creelref_TreeFault.right (k : Nat) (x : S56) : Option Int := creelref_NodeFault.f k (x).f0 (x).f1 (x).f2 (x).f3 (x).f4.f0 (x).f4.f1 (x).f4.f2 (x).f4.f3 (x).f4.f4 (x).f4.f5 (x).f4.f6 (x).f5
/-- is the path behind the last one no greater? -/
def creelref_TreeFault.two (k : Nat) (l : List S56) (x : S56) (n : Nat) : Option Bool := if 0 < n then (creelref_PathOrder.f k (rd_T56 l ((n - 1 : Nat) : Int)).f0 x.f0).bind fun c => some (c != -1) else some false
/-- is what it is in no directory ahead of it? -/
def creelref_TreeFault.up (k : Nat) (l : List S56) (x : S56) (n : Nat) : Option Bool := (creelref_PathSplit.f k x.f0).bind fun p => (creelref_TreeFind.f k (l.take n) p.1).bind fun j => if p.1.toList = ([] : List UInt8) then some false else if j = (n : Int) then some true else if 0 ≤ j ∧ j < (l.length : Int) then some ((rd_T56 l j).f1 != 2) else none
def creelref_TreeFault.meta (y x : S56) : Bool := ((y.f4).f0 == (x.f4).f0 && ((y.f4).f1 == (x.f4).f1 && ((y.f4).f2 == (x.f4).f2 && ((y.f4).f3.toList == (x.f4).f3.toList && ((y.f4).f4.toList == (x.f4).f4.toList && ((y.f4).f5 == (x.f4).f5 && ((y.f4).f6 == (x.f4).f6)))))))
def creelref_TreeFault.data (y x : S56) : Bool := (strOfNums y.f5).toList == (strOfNums x.f5).toList
/-- the files ahead that are said to be this one -/
def creelref_TreeFault.l1 : Nat → List S56 → S56 → Nat → Nat → Option Int
 | 0, _, _, _, _ => none
 | k + 1, l, x, n, j => if j < n then (if (rd_T56 l (j : Int)).f2 = x.f2 then (if creelref_TreeFault.meta (rd_T56 l (j : Int)) x = true then (if creelref_TreeFault.data (rd_T56 l (j : Int)) x = true then creelref_TreeFault.l1 k l x n (j + 1) else some 11) else some 11) else creelref_TreeFault.l1 k l x n (j + 1)) else some 0
def creelref_TreeFault.step (k : Nat) (l : List S56) (x : S56) (n : Nat) : Option Int := (creelref_TreeFault.right k x).bind fun e => if e = 0 then ((creelref_TreeFault.two k l x n).bind fun t => if t = true then some 6 else (creelref_TreeFault.up k l x n).bind fun u => if u = true then some 10 else if x.f2 = 0 then some 0 else creelref_TreeFault.l1 k l x n 0) else some e
def creelref_TreeFault.l0 : Nat → List S56 → Nat → Option Int
 | 0, _, _ => none
 | k + 1, l, n => if n < l.length then (creelref_TreeFault.step k l (rd_T56 l (n : Int)) n).bind fun e => if e = 0 then creelref_TreeFault.l0 k l (n + 1) else some e else some 0
def creelref_TreeFault.f (k : Nat) (l0 : List S56) : Option Int := if 40 < l0.length then some 1 else creelref_TreeFault.l0 k l0 0
theorem creelref_TreeFault.mono_two : ∀ l x n k, LeO (creelref_TreeFault.two k l x n) (creelref_TreeFault.two (k + 1) l x n) := by
 intro l x n k
 unfold creelref_TreeFault.two
 repeat' first
   | (with_reducible exact LeO.refl _)
   | (with_reducible exact LeO.none _)
   | (with_reducible refine LeO.ite ?_ ?_)
   | (with_reducible refine LeO.bind ?_ (fun _ => ?_))
   | exact creelref_PathOrder.mono _ _ _
theorem creelref_TreeFault.mono_up : ∀ l x n k, LeO (creelref_TreeFault.up k l x n) (creelref_TreeFault.up (k + 1) l x n) := by
 intro l x n k
 unfold creelref_TreeFault.up
 repeat' first
   | (with_reducible exact LeO.refl _)
   | (with_reducible exact LeO.none _)
   | (with_reducible refine LeO.ite ?_ ?_)
   | (with_reducible refine LeO.bind ?_ (fun _ => ?_))
   | exact creelref_PathSplit.mono _ _
   | exact creelref_TreeFind.mono _ _ _
theorem creelref_TreeFault.mono_l1 : ∀ k, (∀ y0 y1 y2 y3, LeO (creelref_TreeFault.l1 k y0 y1 y2 y3) (creelref_TreeFault.l1 (k + 1) y0 y1 y2 y3))
 | 0 => fun _ _ _ _ r h => by simp [creelref_TreeFault.l1] at h
 | k + 1 => by
  have ih0 := creelref_TreeFault.mono_l1 k
  intro y0 y1 y2 y3
  unfold creelref_TreeFault.l1
  repeat' first
    | (with_reducible exact ih0 _ _ _ _)
    | (with_reducible exact LeO.refl _)
    | (with_reducible exact LeO.none _)
    | (with_reducible refine LeO.ite ?_ ?_)
    | (with_reducible refine LeO.bind ?_ (fun _ => ?_))
theorem creelref_TreeFault.mono_step : ∀ l x n k, LeO (creelref_TreeFault.step k l x n) (creelref_TreeFault.step (k + 1) l x n) := by
 intro l x n k
 unfold creelref_TreeFault.step creelref_TreeFault.right
 repeat' first
   | (with_reducible exact creelref_TreeFault.mono_l1 _ _ _ _ _)
   | (with_reducible exact LeO.refl _)
   | (with_reducible exact LeO.none _)
   | (with_reducible refine LeO.ite ?_ ?_)
   | (with_reducible refine LeO.bind ?_ (fun _ => ?_))
   | exact creelref_TreeFault.mono_two _ _ _ _
   | exact creelref_TreeFault.mono_up _ _ _ _
   | exact creelref_NodeFault.mono _ _ _ _ _ _ _ _ _ _ _ _ _
theorem creelref_TreeFault.mono_l : ∀ k, (∀ y0 y1, LeO (creelref_TreeFault.l0 k y0 y1) (creelref_TreeFault.l0 (k + 1) y0 y1))
 | 0 => fun _ _ r h => by simp [creelref_TreeFault.l0] at h
 | k + 1 => by
  have ih0 := creelref_TreeFault.mono_l k
  intro y0 y1
  unfold creelref_TreeFault.l0
  repeat' first
    | (with_reducible exact ih0 _ _)
    | (with_reducible exact LeO.refl _)
    | (with_reducible exact LeO.none _)
    | (with_reducible refine LeO.ite ?_ ?_)
    | (with_reducible refine LeO.bind ?_ (fun _ => ?_))
    | exact creelref_TreeFault.mono_step _ _ _ _
theorem creelref_TreeFault.mono : ∀ a0 k, LeO (creelref_TreeFault.f k a0) (creelref_TreeFault.f (k + 1) a0) := by
 intro a0 k
 have ih0 := creelref_TreeFault.mono_l k
 unfold creelref_TreeFault.f
 repeat' first
   | (with_reducible exact ih0 _ _)
   | (with_reducible exact LeO.refl _)
   | (with_reducible exact LeO.none _)
   | (with_reducible refine LeO.ite ?_ ?_)
   | (with_reducible refine LeO.bind ?_ (fun _ => ?_))
theorem creelref_TreeFault.conv {W : World} {A : Option Addr} {n : Nat} {xs : List Int} (h : (Kd.int .u8).C W A n xs) (c : Nat) : ∀ q, (convert 54 9 (.slice A n c)).run Tryd.prog (W.drewN q) = .ok (.string (strOfNums xs)) (W.drewN q) := fun q => Kd.C_string Tryd.underlying54 Tryd.underlying5 Tryd.underlying9 (Kd.C_drewN h q)
set_option maxHeartbeats 8000000 in
set_option maxRecDepth 100000 in
theorem creelref_TreeFault.calls (k : Nat) (A0 : Option Addr) (c0 : Nat) (l0 : List (S56)) (r : Int) (w : World) (hr0 : Kd.C k56 w A0 l0.length l0) (hc0 : l0.length ≤ c0) (h : creelref_TreeFault.f k l0 = some r) :
  Calls Tryd.prog 31 #[.slice A0 l0.length c0] w fun e w' => e = .returned (.int .i64 r) ∧ Below w.heap.size w w' := by
 have hu56 := Tryd.underlying56
 have hu53 := Tryd.underlying53
 have HR0 := Aside0.mk hr0
 have HC0 := Aside0.mk hc0
 clear hr0 hc0
 by_cases c1 : 40 < l0.length
 ·have H : (if 40 < l0.length then some 1 else creelref_TreeFault.l0 k l0 0) = some r := h
  rw [if_pos c1] at H
  obtain rfl := Option.some.inj H
  clear h H
  have c1b : decide ((40 : Int) < (l0.length : Int)) = true := decide_eq_true (by omega)
  clear c1
  go_enter Tryd.func31, Tryd.ntmps31
  go_wp2
  go_ret
  exact ⟨rfl, by first | exact Below.refl _ _ | exact below_drew1 (Below.refl _ _)⟩
 ·have H : (if 40 < l0.length then some 1 else creelref_TreeFault.l0 k l0 0) = some r := h
  rw [if_neg c1] at H
  have H' := Aside0.mk H
  have HN := Aside0.mk (Nat.not_lt.1 c1)
  have HB0 := Aside0.mk (Below.refl w.heap.size w)
  have c1b : decide ((40 : Int) < (l0.length : Int)) = false := decide_eq_false (by omega)
  clear h H c1
  go_enter Tryd.func31, Tryd.ntmps31
  go_wp2
  go_loopg [3] k (fun kq v3 wx => ∃ (n : Nat), v3 = .int .i64 (n : Int) ∧ Aside0 (n ≤ l0.length) ∧ Aside0 (creelref_TreeFault.l0 kq l0 n = some r) ∧ Aside0 (kq ≤ k) ∧ Aside0 (Below w.heap.size w wx))
  case atStart => exact ⟨0, rfl, ⟨Nat.zero_le _⟩, H', ⟨Nat.le_refl _⟩, HB0⟩
  case round =>
   clear H' HB0
   obtain ⟨n, rfl, HN1, HA, HK1, HB⟩ := hrel
   cases gk with
   | zero => exact absurd HA.out (by simp [creelref_TreeFault.l0])
   | succ k1 =>
    have H := HA.out
    clear HA
    simp only [creelref_TreeFault.l0] at H
    by_cases c3 : n < l0.length
    ·rw [if_pos c3] at H
     have c3b : decide ((n : Int) < (l0.length : Int)) = true := decide_eq_true (by omega)
     replace H := Option.bind_eq_some_iff.mp H
     obtain ⟨e0, AS, H⟩ := H
     obtain ⟨ad, A11, c11, e, hx, hl11, hi11⟩ := elem56 HR0.out n c3
     cases e
     have HXC := Aside0.mk hx
     clear hx
     have p3 : ((n : Int) < (l0.length : Int)) = True := eq_true (by omega)
     have p4 : (0 ≤ (n : Int)) = True := eq_true (by omega)
     have HX := Aside0.mk hi11
     have HL := Aside0.mk hl11
     have HLT := Aside0.mk c3
     clear hi11 hl11 c3
     generalize hx : rd_T56 l0 (n : Int) = x at *
     clear hx
     obtain ⟨e1, AR, AS⟩ := Option.bind_eq_some_iff.mp (show ((creelref_TreeFault.right k1 x).bind fun e => if e = 0 then ((creelref_TreeFault.two k1 l0 x n).bind fun t => if t = true then some 6 else (creelref_TreeFault.up k1 l0 x n).bind fun u => if u = true then some 10 else if x.f2 = 0 then some 0 else creelref_TreeFault.l1 k1 l0 x n 0) else some e) = some e0 from AS)
     have HAR := Aside0.mk (show creelref_NodeFault.f k1 (x).f0 (x).f1 (x).f2 (x).f3 (x).f4.f0 (x).f4.f1 (x).f4.f2 (x).f4.f3 (x).f4.f4 (x).f4.f5 (x).f4.f6 (x).f5 = some e1 from AR)
     clear AR
     by_cases c6 : e1 = 0
     ·rw [if_pos c6] at AS
      obtain ⟨t, AT, AS⟩ := Option.bind_eq_some_iff.mp AS
      have HAT := Aside0.mk AT
      have HQ := Aside0.mk AS
      have HH := Aside0.mk H
      have c6a : (e1 == 0) = true := beq_iff_eq.mpr c6
      have c6b : (e1 != 0) = false := bne_eq_false_iff_eq.mpr c6
      clear AS H AT c6
      go_upto_region 10 with (first | ((with_reducible refine gate_dst (N := 22) rfl ?_); refine load_event (ad := ad.add (n * 12)) rfl rfl hu56 rfl rfl (cs := [.string (x).f0, .int .i64 (x).f1, .int .i64 (x).f2, .string (x).f3, .int .i64 (x).f4.f0, .int .i64 (x).f4.f1, .int .i64 (x).f4.f2, .string (x).f4.f3, .string (x).f4.f4, .int .i64 (x).f4.f5, .int .i64 (x).f4.f6, .slice A11 (x).f5.length c11]) sz56 (fun j v hv => (HB.out.cell (World.block_lt_of_cell? w _ (HXC.out j v hv))).trans (HXC.out j v hv)) ?_) | ((with_reducible refine gate_dst (N := 4) rfl ?_); refine box_event ?hg (N := 4) ?hd (cs := #[.string (⟨#[]⟩ : ByteArray), .int .i64 0, .int .i64 0, .string (⟨#[]⟩ : ByteArray), .int .i64 0, .int .i64 0, .int .i64 0, .string (⟨#[]⟩ : ByteArray), .string (⟨#[]⟩ : ByteArray), .int .i64 0, .int .i64 0, .slice none 0 0]) (t := 56) ?hr ?_; (case hd => rfl); (case hg => rfl); (case hr => first | (go_simp; done) | (go_simp; rfl)); intro gb hg w2 hbox hb2; have HS := Aside0.mk (Held.box HB.out hg hbox hb2); clear hg hbox hb2 HB) | ((with_reducible refine gate_store (t := 56) (p := 4) rfl ?_); refine put_event rfl rfl rfl rfl rfl HS.out.blk sz56 rfl rfl ?_; intro w3 hk3 hg3; have HS3 := Aside0.mk (HS.out.put hk3 hg3); clear HS hk3 hg3; have HS := HS3; clear HS3) | ((with_reducible refine gate_dst (N := 23) rfl ?_); refine load_event rfl rfl hu56 rfl rfl (cs := [.string (x).f0, .int .i64 (x).f1, .int .i64 (x).f2, .string (x).f3, .int .i64 (x).f4.f0, .int .i64 (x).f4.f1, .int .i64 (x).f4.f2, .string (x).f4.f3, .string (x).f4.f4, .int .i64 (x).f4.f5, .int .i64 (x).f4.f6, .slice A11 (x).f5.length c11]) sz56 (cells_of_blk HS.out.blk) ?_) | (go_at_call 57; refine (creelref_NodeFault.calls k1 (x).f0 (x).f1 (x).f2 (x).f3 (x).f4.f0 (x).f4.f1 (x).f4.f2 (x).f4.f3 (x).f4.f4 (x).f4.f5 (x).f4.f6 A11 c11 (x).f5 e1 _ (Kd.C_below HX.out HS.out.below) HL.out HAR.out).mono ?_; rintro e w3 ⟨rfl, hb3⟩; have HS3 := Aside0.mk (HS.out.step hb3); clear HS hb3; have HS := HS3; clear HS3))
      (try simp only [Act.put, List.setIfInBounds_toArray, List.set_cons_zero, List.set_cons_succ])
      go_cut [41] (fun v41 wc => v41 = .bool t ∧ Aside0 (Held w wc gb 56 #[.string (x).f0, .int .i64 (x).f1, .int .i64 (x).f2, .string (x).f3, .int .i64 (x).f4.f0, .int .i64 (x).f4.f1, .int .i64 (x).f4.f2, .string (x).f4.f3, .string (x).f4.f4, .int .i64 (x).f4.f5, .int .i64 (x).f4.f6, .slice A11 (x).f5.length c11]))
      case first =>
       by_cases c7 : 0 < n
       ·have AT := HAT.out
        clear HAT
        unfold creelref_TreeFault.two at AT
        rw [if_pos c7] at AT
        obtain ⟨c, AC, AT⟩ := Option.bind_eq_some_iff.mp AT
        obtain rfl := Option.some.inj AT
        have HAC := Aside0.mk AC
        clear AC AT
        obtain ⟨ad', A11', c11', e', hx', _, _⟩ := elem56 HR0.out (n - 1) (by have := HN1.out; omega)
        cases e'
        have h0 : w.cell? (ad.add ((n - 1) * 12)) = some (.string (rd_T56 l0 ((n - 1 : Nat) : Int)).f0) := hx' 0 _ rfl
        have hc0 := (HS.out.below.cell (World.block_lt_of_cell? w _ h0)).trans h0
        clear hx' h0
        have hw : IntKind.i64.wrap ((n : Int) - 1) = ((n - 1 : Nat) : Int) := by have := HN.out; have := HN1.out; rw [IntWalk.i64_in _ (by omega)]; omega
        have hn' : ((n - 1 : Nat) : Int) < (l0.length : Int) := by have := HN1.out; omega
        have hc1 := blk_cell HS.out.blk 0
        have hg0 : decide ((0 : Int) < (n : Int)) = true := decide_eq_true (by omega)
        have hg1 : (0 < n) = True := eq_true c7
        go_region_held3 (fun w' => w'.cell? (ad.add ((n - 1) * 12)) = some (.string (rd_T56 l0 ((n - 1 : Nat) : Int)).f0) ∧ w'.cell? ⟨gb, 0, none⟩ = some (.string x.f0)) (first | go_keep | (go_split_ands; exact ⟨(hb3.cell (World.block_lt_of_cell? _ _ (by assumption))).trans (by assumption), (hb3.cell (World.block_lt_of_cell? _ _ (by assumption))).trans (by assumption)⟩)) ((go_at_call 58; refine (creelref_PathOrder.calls k1 _ _ c _ HAC.out).mono ?_; rintro e w3 ⟨rfl, hb3⟩))
        go_wp2
        go_meet
        case rel => exact ⟨rfl, ⟨by first | exact HS.out.step hb3 | exact (HS.out.drewN _).step hb3 | exact HS.out.drew.step hb3⟩⟩
       ·have AT := HAT.out
        clear HAT
        unfold creelref_TreeFault.two at AT
        rw [if_neg c7] at AT
        obtain rfl := Option.some.inj AT
        clear AT
        have hg0 : decide ((0 : Int) < (n : Int)) = false := decide_eq_false (by omega)
        have hg1 : (0 < n) = False := eq_false c7
        go_quiet (fail)
        go_wp2
        go_meet
        case rel => exact ⟨rfl, ⟨by first | exact HS.out | exact HS.out.drewN _ | exact HS.out.drew⟩⟩
      case rest =>
       obtain ⟨rfl, HS⟩ := hcut
       cases t with
       | true =>
        have AS := HQ.out
        have H := HH.out
        rw [if_pos rfl] at AS
        obtain rfl := Option.some.inj AS
        rw [if_neg (by decide)] at H
        obtain rfl := Option.some.inj H
        clear HQ HH H HAT
        go_wp2
        go_ret
        exact ⟨rfl, HS.out.below⟩
       | false =>
        have AS := HQ.out
        rw [if_neg (by decide)] at AS
        obtain ⟨u, AU, AS⟩ := Option.bind_eq_some_iff.mp AS
        have HQ2 := Aside0.mk AS
        obtain ⟨⟨up, last⟩, AP, AU⟩ := Option.bind_eq_some_iff.mp (show ((creelref_PathSplit.f k1 x.f0).bind fun p => (creelref_TreeFind.f k1 (l0.take n) p.1).bind fun j => if p.1.toList = ([] : List UInt8) then some false else if j = (n : Int) then some true else if 0 ≤ j ∧ j < (l0.length : Int) then some ((rd_T56 l0 j).f1 != 2) else none) = some u from AU)
        obtain ⟨j1, AF, AU⟩ := Option.bind_eq_some_iff.mp AU
        have HAP := Aside0.mk AP
        have HAU := Aside0.mk AU
        have HF : Aside0 (∀ W, Below w.heap.size w W → Calls Tryd.prog 44 #[.slice (some ad) n c0, .string up] W fun e w' => e = .returned (.int .i64 j1) ∧ Below W.heap.size W w') := ⟨fun W hb => by
         have hlen : (l0.take n).length = n := by have := HN1.out; simp; omega
         have := creelref_TreeFind.calls k1 (some ad) c0 (l0.take n) up j1 W (Kd.C_below (Kd.C_take HR0.out HN1.out) hb) (by have := HC0.out; have := HN1.out; omega) AF
         rw [hlen] at this
         exact this.mono (by rintro e w' ⟨rfl, nd, rfl⟩; exact ⟨rfl, pw_below_drewN (Below.refl _ _) nd⟩)⟩
        have hnc : (n : Int) ≤ (c0 : Int) := by have := HC0.out; have := HN1.out; omega
        have hnc' : n ≤ c0 := by omega
        clear AS AU AP AF HQ HAT
        have hc0 := blk_cell HS.out.blk 0
        go_upto_region 14 with (first | (go_at_call 59; refine (creelref_PathSplit.calls k1 x.f0 up last _ HAP.out).mono ?_; rintro e w4 ⟨rfl, hb4⟩; have HS4 := Aside0.mk (HS.out.step hb4); clear HS hb4; have HS := HS4; clear HS4) | (go_at_call 44; refine (HF.out _ HS.out.below).mono ?_; rintro e w5 ⟨rfl, hb5⟩; have HS5 := Aside0.mk (HS.out.step hb5); clear HS hb5; have HS := HS5; clear HS5))
        (try simp only [Act.put, List.setIfInBounds_toArray, List.set_cons_zero, List.set_cons_succ])
        go_cut [67] (fun v67 wc => v67 = .bool u ∧ Aside0 (Held w wc gb 56 #[.string (x).f0, .int .i64 (x).f1, .int .i64 (x).f2, .string (x).f3, .int .i64 (x).f4.f0, .int .i64 (x).f4.f1, .int .i64 (x).f4.f2, .string (x).f4.f3, .string (x).f4.f4, .int .i64 (x).f4.f5, .int .i64 (x).f4.f6, .slice A11 (x).f5.length c11]))
        case first =>
         have AU := HAU.out
         by_cases c8 : up.toList = ([] : List UInt8)
         ·rw [if_pos c8] at AU
          obtain rfl := Option.some.inj AU
          have c8a : up.toList.isEmpty = true := by rw [c8]; rfl
          have c8b : (!up.toList.isEmpty) = false := by rw [c8]; rfl
          clear AU c8
          go_wp2
          go_meet
          case rel => exact ⟨rfl, ⟨by first | exact HS.out | exact HS.out.drewN _ | exact HS.out.drew⟩⟩
         ·rw [if_neg c8] at AU
          have c8a : up.toList.isEmpty = false := by cases h : up.toList with | nil => exact absurd h c8 | cons a b => rfl
          have c8b : (!up.toList.isEmpty) = true := by rw [c8a]; rfl
          clear c8
          by_cases c9 : j1 = (n : Int)
          ·rw [if_pos c9] at AU
           obtain rfl := Option.some.inj AU
           have c9a : (j1 == (n : Int)) = true := beq_iff_eq.mpr c9
           clear AU c9
           go_wp2
           go_meet
           case rel => exact ⟨rfl, ⟨by first | exact HS.out | exact HS.out.drewN _ | exact HS.out.drew⟩⟩
          ·rw [if_neg c9] at AU
           by_cases c10 : 0 ≤ j1 ∧ j1 < (l0.length : Int)
           ·rw [if_pos c10] at AU
            obtain rfl := Option.some.inj AU
            have c9a : (j1 == (n : Int)) = false := beq_eq_false_iff_ne.mpr c9
            clear AU c9
            obtain ⟨ad', A11', c11', e', hq0, hq1, hq2, hq3, hq4, hq5, hq6, hq7, hq8, hq9, hq10, hq11, _, _⟩ := at_T56 HR0.out j1 c10.1 c10.2
            cases e'
            have hf1 := (HS.out.below.cell (World.block_lt_of_cell? w _ hq1)).trans hq1
            clear hq0 hq1 hq2 hq3 hq4 hq5 hq6 hq7 hq8 hq9 hq10 hq11
            have c10a := eq_true c10.1
            have c10b := eq_true c10.2
            clear c10
            go_wp2
            go_meet
            case rel => exact ⟨rfl, ⟨by first | exact HS.out | exact HS.out.drewN _ | exact HS.out.drew⟩⟩
           ·rw [if_neg c10] at AU
            cases AU
        case rest =>
         obtain ⟨rfl, HS⟩ := hcut
         have AS := HQ2.out
         have H := HH.out
         clear HQ2 HH HAU
         cases u with
         | true =>
          rw [if_pos rfl] at AS
          obtain rfl := Option.some.inj AS
          rw [if_neg (by decide)] at H
          obtain rfl := Option.some.inj H
          clear H
          go_wp2
          go_ret
          exact ⟨rfl, HS.out.below⟩
         | false =>
          rw [if_neg (by decide)] at AS
          have hc2 := blk_cell HS.out.blk 2
          have h40 : (n : Int) < 40 := by have := HLT.out; have := HN.out; omega
          by_cases c12 : x.f2 = 0
          ·rw [if_pos c12] at AS
           obtain rfl := Option.some.inj AS
           rw [if_pos rfl] at H
           have H' := Aside0.mk H
           have c12b : (x.f2 == 0) = true := beq_iff_eq.mpr c12
           clear H c12
           go_wp2
           go_roundg k1
           case measure => have := HK1.out; omega
           case rel => exact ⟨n + 1, by go_num, ⟨HLT.out⟩, H', ⟨by have := HK1.out; omega⟩, ⟨(by first | exact HS.out.below | exact HS.out.drew.below)⟩⟩
          ·rw [if_neg c12] at AS
           have HAS := Aside0.mk AS
           have HH := Aside0.mk H
           have c12b : (x.f2 == 0) = false := beq_eq_false_iff_ne.mpr c12
           clear H AS c12
           go_wp2
           go_loopg [9] k1 (fun kq v9 wx => ∃ (j : Nat), v9 = .int .i64 (j : Int) ∧ Aside0 (j ≤ n) ∧ Aside0 (creelref_TreeFault.l1 kq l0 x n j = some e0) ∧ Aside0 (kq ≤ k1) ∧ Aside0 (Held w wx gb 56 #[.string (x).f0, .int .i64 (x).f1, .int .i64 (x).f2, .string (x).f3, .int .i64 (x).f4.f0, .int .i64 (x).f4.f1, .int .i64 (x).f4.f2, .string (x).f4.f3, .string (x).f4.f4, .int .i64 (x).f4.f5, .int .i64 (x).f4.f6, .slice A11 (x).f5.length c11]))
           case atStart => exact ⟨0, rfl, ⟨Nat.zero_le _⟩, HAS, ⟨Nat.le_refl _⟩, HS⟩
           case round =>
            clear HAS HS hc2
            obtain ⟨j, rfl, HJ1, HA, HK2, HS⟩ := hrel
            cases gk with
            | zero => exact absurd HA.out (by simp [creelref_TreeFault.l1])
            | succ k2 =>
             have AS := HA.out
             clear HA
             simp only [creelref_TreeFault.l1] at AS
             by_cases c13 : j < n
             ·rw [if_pos c13] at AS
              have c13b : decide ((j : Int) < (n : Int)) = true := decide_eq_true (by omega)
              have c13c := eq_true c13
              obtain ⟨ad', Aj, cj, e', hq0, hq1, hq2, hq3, hq4, hq5, hq6, hq7, hq8, hq9, hq10, hq11, hl, hi⟩ := at_T56 HR0.out (j : Int) (Int.natCast_nonneg _) (by have := HLT.out; omega)
              cases e'
              simp only [Int.toNat_natCast] at hq0 hq1 hq2 hq3 hq4 hq5 hq6 hq7 hq8 hq9 hq10 hq11
              have hf2 := (HS.out.below.cell (World.block_lt_of_cell? w _ hq2)).trans hq2
              have hg2 := blk_cell HS.out.blk 2
              have hf4 := (HS.out.below.cell (World.block_lt_of_cell? w _ hq4)).trans hq4
              have hg4 := blk_cell HS.out.blk 4
              have hf5 := (HS.out.below.cell (World.block_lt_of_cell? w _ hq5)).trans hq5
              have hg5 := blk_cell HS.out.blk 5
              have hf6 := (HS.out.below.cell (World.block_lt_of_cell? w _ hq6)).trans hq6
              have hg6 := blk_cell HS.out.blk 6
              have hf7 := (HS.out.below.cell (World.block_lt_of_cell? w _ hq7)).trans hq7
              have hg7 := blk_cell HS.out.blk 7
              have hf8 := (HS.out.below.cell (World.block_lt_of_cell? w _ hq8)).trans hq8
              have hg8 := blk_cell HS.out.blk 8
              have hf9 := (HS.out.below.cell (World.block_lt_of_cell? w _ hq9)).trans hq9
              have hg9 := blk_cell HS.out.blk 9
              have hf10 := (HS.out.below.cell (World.block_lt_of_cell? w _ hq10)).trans hq10
              have hg10 := blk_cell HS.out.blk 10
              have hf11 := (HS.out.below.cell (World.block_lt_of_cell? w _ hq11)).trans hq11
              have hg11 := blk_cell HS.out.blk 11
              clear hq0 hq1 hq2 hq3 hq4 hq5 hq6 hq7 hq8 hq9 hq10 hq11
              have p5 : (0 ≤ (j : Int)) = True := eq_true (by omega)
              have p6 : ((j : Int) < (l0.length : Int)) = True := eq_true (by have := HLT.out; omega)
              have HJL := Aside0.mk c13
              have HI := Aside0.mk hi
              have j40 : (j : Int) < 40 := by omega
              clear hi hl c13
              generalize hy : rd_T56 l0 (j : Int) = y at *
              clear hy
              by_cases c14 : y.f2 = x.f2
              ·rw [if_pos c14] at AS
               have c14b : (y.f2 == x.f2) = true := beq_iff_eq.mpr c14
               clear c14
               by_cases c15 : creelref_TreeFault.meta y x = true
               ·rw [if_pos c15] at AS
                have c15b : ((y.f4).f0 == (x.f4).f0 && ((y.f4).f1 == (x.f4).f1 && ((y.f4).f2 == (x.f4).f2 && ((y.f4).f3.toList == (x.f4).f3.toList && ((y.f4).f4.toList == (x.f4).f4.toList && ((y.f4).f5 == (x.f4).f5 && ((y.f4).f6 == (x.f4).f6))))))) = true := c15
                have hcv1 := creelref_TreeFault.conv (Kd.C_below HI.out HS.out.below) cj
                have hcv2 := creelref_TreeFault.conv (Kd.C_below HX.out HS.out.below) c11
                clear c15
                by_cases c16 : creelref_TreeFault.data y x = true
                ·rw [if_pos c16] at AS
                 have HA' := Aside0.mk AS
                 have c16b : ((strOfNums y.f5).toList == (strOfNums x.f5).toList) = true := c16
                 have c16c : ((strOfNums y.f5).toList != (strOfNums x.f5).toList) = false := by rw [bne, c16b]; rfl
                 clear AS c16
                 go_wp2
                 go_quiet (fail)
                 go_wp2
                 go_roundg k2
                 case measure => have := HK2.out; omega
                 case rel => exact ⟨j + 1, by go_num, ⟨HJL.out⟩, HA', ⟨by have := HK2.out; omega⟩, ⟨HS.out.drewN _⟩⟩
                ·rw [if_neg c16] at AS
                 have c16b : ((strOfNums y.f5).toList == (strOfNums x.f5).toList) = false := by cases h : ((strOfNums y.f5).toList == (strOfNums x.f5).toList) with | true => exact absurd h c16 | false => rfl
                 have c16c : ((strOfNums y.f5).toList != (strOfNums x.f5).toList) = true := by rw [bne, c16b]; rfl
                 clear c16
                 have H := HH.out
                 obtain rfl := Option.some.inj AS
                 rw [if_neg (by decide)] at H
                 obtain rfl := Option.some.inj H
                 clear H AS
                 go_wp2
                 go_quiet (fail)
                 go_wp2
                 go_ret
                 exact ⟨rfl, (HS.out.drewN _).below⟩
               ·rw [if_neg c15] at AS
                have c15b : ((y.f4).f0 == (x.f4).f0 && ((y.f4).f1 == (x.f4).f1 && ((y.f4).f2 == (x.f4).f2 && ((y.f4).f3.toList == (x.f4).f3.toList && ((y.f4).f4.toList == (x.f4).f4.toList && ((y.f4).f5 == (x.f4).f5 && ((y.f4).f6 == (x.f4).f6))))))) = false := by cases h : ((y.f4).f0 == (x.f4).f0 && ((y.f4).f1 == (x.f4).f1 && ((y.f4).f2 == (x.f4).f2 && ((y.f4).f3.toList == (x.f4).f3.toList && ((y.f4).f4.toList == (x.f4).f4.toList && ((y.f4).f5 == (x.f4).f5 && ((y.f4).f6 == (x.f4).f6))))))) with | true => exact absurd h c15 | false => rfl
                clear c15
                have H := HH.out
                obtain rfl := Option.some.inj AS
                rw [if_neg (by decide)] at H
                obtain rfl := Option.some.inj H
                clear H AS
                go_wp2
                go_quiet (fail)
                go_wp2
                go_ret
                exact ⟨rfl, (HS.out.drewN _).below⟩
              ·rw [if_neg c14] at AS
               have c14b : (y.f2 == x.f2) = false := beq_eq_false_iff_ne.mpr c14
               have HA' := Aside0.mk AS
               clear c14 AS
               go_wp2
               go_quiet (fail)
               go_wp2
               go_roundg k2
               case measure => have := HK2.out; omega
               case rel => exact ⟨j + 1, by go_num, ⟨HJL.out⟩, HA', ⟨by have := HK2.out; omega⟩, ⟨HS.out.drewN _⟩⟩
             ·rw [if_neg c13] at AS
              obtain rfl := Option.some.inj AS
              have c13b : decide ((j : Int) < (n : Int)) = false := decide_eq_false (by omega)
              have c13c := eq_false c13
              have H := HH.out
              rw [if_pos rfl] at H
              have H' := Aside0.mk H
              clear H AS c13
              go_wp2
              go_roundg k1
              case measure => have := HK1.out; omega
              case rel => exact ⟨n + 1, by go_num, ⟨HLT.out⟩, H', ⟨by have := HK1.out; omega⟩, ⟨HS.out.below⟩⟩
     ·rw [if_neg c6] at AS
      obtain rfl := Option.some.inj AS
      rw [if_neg c6] at H
      obtain rfl := Option.some.inj H
      have c6a : (e1 == 0) = false := beq_eq_false_iff_ne.mpr c6
      have c6b : (e1 != 0) = true := bne_iff_ne.mpr c6
      clear c6 H
      go_wp2_with (first | ((with_reducible refine gate_dst (N := 22) rfl ?_); refine load_event (ad := ad.add (n * 12)) rfl rfl hu56 rfl rfl (cs := [.string (x).f0, .int .i64 (x).f1, .int .i64 (x).f2, .string (x).f3, .int .i64 (x).f4.f0, .int .i64 (x).f4.f1, .int .i64 (x).f4.f2, .string (x).f4.f3, .string (x).f4.f4, .int .i64 (x).f4.f5, .int .i64 (x).f4.f6, .slice A11 (x).f5.length c11]) sz56 (fun j v hv => (HB.out.cell (World.block_lt_of_cell? w _ (HXC.out j v hv))).trans (HXC.out j v hv)) ?_) | ((with_reducible refine gate_dst (N := 4) rfl ?_); refine box_event ?hg (N := 4) ?hd (cs := #[.string (⟨#[]⟩ : ByteArray), .int .i64 0, .int .i64 0, .string (⟨#[]⟩ : ByteArray), .int .i64 0, .int .i64 0, .int .i64 0, .string (⟨#[]⟩ : ByteArray), .string (⟨#[]⟩ : ByteArray), .int .i64 0, .int .i64 0, .slice none 0 0]) (t := 56) ?hr ?_; (case hd => rfl); (case hg => rfl); (case hr => first | (go_simp; done) | (go_simp; rfl)); intro gb hg w2 hbox hb2; have HS := Aside0.mk (Held.box HB.out hg hbox hb2); clear hg hbox hb2 HB) | ((with_reducible refine gate_store (t := 56) (p := 4) rfl ?_); refine put_event rfl rfl rfl rfl rfl HS.out.blk sz56 rfl rfl ?_; intro w3 hk3 hg3; have HS3 := Aside0.mk (HS.out.put hk3 hg3); clear HS hk3 hg3; have HS := HS3; clear HS3) | ((with_reducible refine gate_dst (N := 23) rfl ?_); refine load_event rfl rfl hu56 rfl rfl (cs := [.string (x).f0, .int .i64 (x).f1, .int .i64 (x).f2, .string (x).f3, .int .i64 (x).f4.f0, .int .i64 (x).f4.f1, .int .i64 (x).f4.f2, .string (x).f4.f3, .string (x).f4.f4, .int .i64 (x).f4.f5, .int .i64 (x).f4.f6, .slice A11 (x).f5.length c11]) sz56 (cells_of_blk HS.out.blk) ?_) | (go_at_call 57; refine (creelref_NodeFault.calls k1 (x).f0 (x).f1 (x).f2 (x).f3 (x).f4.f0 (x).f4.f1 (x).f4.f2 (x).f4.f3 (x).f4.f4 (x).f4.f5 (x).f4.f6 A11 c11 (x).f5 e1 _ (Kd.C_below HX.out HS.out.below) HL.out HAR.out).mono ?_; rintro e w3 ⟨rfl, hb3⟩; have HS3 := Aside0.mk (HS.out.step hb3); clear HS hb3; have HS := HS3; clear HS3))
      go_ret
      exact ⟨rfl, HS.out.below⟩
    ·rw [if_neg c3] at H
     obtain rfl := Option.some.inj H
     have c3b : decide ((n : Int) < (l0.length : Int)) = false := decide_eq_false (by omega)
     have c3c : decide (n < l0.length) = false := decide_eq_false c3
     have c3d := eq_false c3
     clear c3 H
     go_wp2
     go_ret
     exact ⟨rfl, HB.out⟩


end Go.Proofs.YtodeblpanooomabDoor.All
end
section
namespace Go.Proofs.YtodeblpanooomabDoor.All
open Go.RowKit Go.Proofs.YtodeblpanooomabDoorW.PrintWords Go.Proofs.YtodeblpanooomabDoorW.PrintLast Go.Proofs.YtodeblpanooomabDoorW.PrintMore
open Go.Proofs.YtodeblpanooomabDoorW.Mine
attribute [local go_sem] gtr_string leq_string geq_string
attribute [local go_sem] max2_int min2_int max_two min_two max_three min_three max_four min_four   -- for this text's walks alone
set_option linter.unusedVariables false
set_option linter.unusedSimpArgs false

/-! ### creelref_LinkFirsts: function 11 -/
mutual
def creelref_LinkFirsts.l0 : Nat → List (S56) → List Int → Int → Option (List Int × Int)
 | 0, _, _, _ => none
 | k + 1, x0, x5, x6 => if x6 < (x0.length : Int) then (creelref_LinkFirsts.l1 k x0 x5 x6 0) else (some (x5, 0))
def creelref_LinkFirsts.l1 : Nat → List (S56) → List Int → Int → Int → Option (List Int × Int)
 | 0, _, _, _, _ => none
 | k + 1, x0, x5, x6, x7 => if x7 < x6 then (if 0 ≤ x6 then (if x6 < (x0.length : Int) then (if ((rd_T56 x0 x6).f2) = 0 then (creelref_LinkFirsts.l1 k x0 x5 x6 (wrap64 (x7 + 1))) else (if 0 ≤ x7 then (if x7 < (x0.length : Int) then (if ((rd_T56 x0 x7).f2) = ((rd_T56 x0 x6).f2) then (if x5.length < 17592186044416 then (creelref_LinkFirsts.l0 k x0 (x5 ++ [x7]) (wrap64 (x6 + 1))) else (none)) else (creelref_LinkFirsts.l1 k x0 x5 x6 (wrap64 (x7 + 1)))) else (none)) else (none))) else (none)) else (none)) else (if x5.length < 17592186044416 then (creelref_LinkFirsts.l0 k x0 (x5 ++ [x7]) (wrap64 (x6 + 1))) else (none))
end
def creelref_LinkFirsts.f (k : Nat) (l0 : List (S56)) : Option (List Int × Int) := (creelref_TreeFault.f k l0).bind fun t101 => (if t101 = 0 then (creelref_LinkFirsts.l0 k l0 ([] : List Int) 0) else (some (([] : List Int), t101)))
theorem creelref_LinkFirsts.mono_l : ∀ k, (∀ y0 y1 y2, LeO (creelref_LinkFirsts.l0 k y0 y1 y2) (creelref_LinkFirsts.l0 (k + 1) y0 y1 y2)) ∧ (∀ y0 y1 y2 y3, LeO (creelref_LinkFirsts.l1 k y0 y1 y2 y3) (creelref_LinkFirsts.l1 (k + 1) y0 y1 y2 y3))
 | 0 => ⟨fun _ _ _ r h => by simp [creelref_LinkFirsts.l0] at h, fun _ _ _ _ r h => by simp [creelref_LinkFirsts.l1] at h⟩
 | k + 1 => by
  obtain ⟨ih0, ih1⟩ := creelref_LinkFirsts.mono_l k
  refine ⟨?_, ?_⟩
  ·intro y0 y1 y2
   unfold creelref_LinkFirsts.l0
   repeat' first
   | (with_reducible exact ih0 _ _ _)
   | (with_reducible exact ih1 _ _ _ _)
   | (with_reducible exact creelref_TreeFault.mono _ _)
   | (with_reducible exact LeO.refl _)
   | (with_reducible exact LeO.none _)
   | (with_reducible refine LeO.ite ?_ ?_)
   | (with_reducible refine LeO.bind ?_ (fun _ => ?_))
   | exact ih0 _ _ _
   | exact ih1 _ _ _ _
   | exact creelref_TreeFault.mono _ _
   | exact LeO.none _
   | refine LeO.ite ?_ ?_
   | refine LeO.bind ?_ (fun _ => ?_)
  ·intro y0 y1 y2 y3
   unfold creelref_LinkFirsts.l1
   repeat' first
   | (with_reducible exact ih0 _ _ _)
   | (with_reducible exact ih1 _ _ _ _)
   | (with_reducible exact creelref_TreeFault.mono _ _)
   | (with_reducible exact LeO.refl _)
   | (with_reducible exact LeO.none _)
   | (with_reducible refine LeO.ite ?_ ?_)
   | (with_reducible refine LeO.bind ?_ (fun _ => ?_))
   | exact ih0 _ _ _
   | exact ih1 _ _ _ _
   | exact creelref_TreeFault.mono _ _
   | exact LeO.none _
   | refine LeO.ite ?_ ?_
   | refine LeO.bind ?_ (fun _ => ?_)
theorem creelref_LinkFirsts.mono : ∀ a0 k, LeO (creelref_LinkFirsts.f k a0) (creelref_LinkFirsts.f (k + 1) a0) := by
 intro a0 k
 obtain ⟨ih0, ih1⟩ := creelref_LinkFirsts.mono_l k
 unfold creelref_LinkFirsts.f
 repeat' first
   | (with_reducible exact ih0 _ _ _)
   | (with_reducible exact ih1 _ _ _ _)
   | (with_reducible exact creelref_TreeFault.mono _ _)
   | (with_reducible exact LeO.refl _)
   | (with_reducible exact LeO.none _)
   | (with_reducible refine LeO.ite ?_ ?_)
   | (with_reducible refine LeO.bind ?_ (fun _ => ?_))
   | exact ih0 _ _ _
   | exact ih1 _ _ _ _
   | exact creelref_TreeFault.mono _ _
   | exact LeO.none _
   | refine LeO.ite ?_ ?_
   | refine LeO.bind ?_ (fun _ => ?_)
set_option maxHeartbeats 8000000 in
set_option maxRecDepth 100000 in
theorem creelref_LinkFirsts.calls (k : Nat) (A0 : Option Addr) (c0 : Nat) (l0 : List (S56)) (r1 : List Int) (r2 : Int) (w : World) (hr0 : Kd.C k56 w A0 l0.length l0) (hc0 : l0.length ≤ c0) (h : creelref_LinkFirsts.f k l0 = some (r1, r2)) :
  Calls Tryd.prog 11 #[.slice A0 l0.length c0] w fun e w' => ∃ v0_ : Value, e = .returned (.tuple #[v0_, .int .i64 r2]) ∧ Kd.R (Kd.int .i64) 3 w' w.heap.size (fun _ => True) v0_ r1 ∧ Below w.heap.size w w' := by
 have HR0 := Aside0.mk hr0
 have HC0 := Aside0.mk hc0
 clear hr0 hc0
 have HB := Aside0.mk (Below.refl w.heap.size w)
 have H : ((creelref_TreeFault.f k l0).bind fun t101 => (if t101 = 0 then (creelref_LinkFirsts.l0 k l0 ([] : List Int) 0) else (some (([] : List Int), t101)))) = some (r1, r2) := h
 clear h
 replace H := Option.bind_eq_some_iff.mp H
 obtain ⟨t101, A20, H⟩ := H
 replace H : (if t101 = 0 then (creelref_LinkFirsts.l0 k l0 ([] : List Int) 0) else (some (([] : List Int), t101))) = some (r1, r2) := H
 have A2 := Aside0.mk A20
 clear A20
 by_cases c3 : t101 = 0
 ·rw [if_pos c3] at H
  have c3b0 : (t101 == 0) = true := beq_iff_eq.mpr c3
  have c3b1 : (t101 != 0) = false := bne_eq_false_iff_eq.mpr c3
  clear c3
  have H' := Aside0.mk H
  clear H
  go_enter Tryd.func11, Tryd.ntmps11
  go_wp2_with (first | (go_at_call 31; (with_reducible refine (creelref_TreeFault.calls k _ _ l0 t101 _ ?side1 ?side2 A2.out).mono ?_); (case side1 => repeat (first | exact HR0.out | (with_reducible refine Kd.C_alloc ?_ _) | (with_reducible refine Kd.C_drewN ?_ _) | (with_reducible refine Kd.C_drew ?_))); (case side2 => exact HC0.out); rintro e w4 ⟨rfl, hb⟩; have n0_ := Aside0.mk (below_step (by repeat (first | (with_reducible first | exact HB.out | apply below_alloc | apply pw_below_drewN | apply below_drew1) | exact HB.out)) hb); clear HB; have HB := n0_; clear n0_; (try clear hb); (try clear hb2); (try clear hk); (try clear hi)))
  repeat (go_quiet (first | (go_at_call 31; (with_reducible refine (creelref_TreeFault.calls k _ _ l0 t101 _ ?side1 ?side2 A2.out).mono ?_); (case side1 => repeat (first | exact HR0.out | (with_reducible refine Kd.C_alloc ?_ _) | (with_reducible refine Kd.C_drewN ?_ _) | (with_reducible refine Kd.C_drew ?_))); (case side2 => exact HC0.out); rintro e w4 ⟨rfl, hb⟩; have n0_ := Aside0.mk (below_step (by repeat (first | (with_reducible first | exact HB.out | apply below_alloc | apply pw_below_drewN | apply below_drew1) | exact HB.out)) hb); clear HB; have HB := n0_; clear n0_; (try clear hb); (try clear hb2); (try clear hk); (try clear hi))); try go_wp2_with (first | (go_at_call 31; (with_reducible refine (creelref_TreeFault.calls k _ _ l0 t101 _ ?side1 ?side2 A2.out).mono ?_); (case side1 => repeat (first | exact HR0.out | (with_reducible refine Kd.C_alloc ?_ _) | (with_reducible refine Kd.C_drewN ?_ _) | (with_reducible refine Kd.C_drew ?_))); (case side2 => exact HC0.out); rintro e w4 ⟨rfl, hb⟩; have n0_ := Aside0.mk (below_step (by repeat (first | (with_reducible first | exact HB.out | apply below_alloc | apply pw_below_drewN | apply below_drew1) | exact HB.out)) hb); clear HB; have HB := n0_; clear n0_; (try clear hb); (try clear hb2); (try clear hk); (try clear hi))))
  go_loopg [5, 6] k (fun kq v5 v6 w' => ∃ (x5_1 : List Int) (x6_1 : Int), v6 = .int .i64 x6_1 ∧ Aside0 (creelref_LinkFirsts.l0 kq l0 x5_1 x6_1 = some (r1, r2)) ∧ Aside0 (kq ≤ k) ∧ Aside0 (Kd.R (Kd.int .i64) 3 w' w.heap.size (fun _ => True) v5 x5_1) ∧ Aside0 (Below w.heap.size w w'))
  case atStart => exact ⟨(([] : List Int)), (0), (by first | rfl | (simp; done) | (simp [*]; done)), H', ⟨Nat.le_refl _⟩, ⟨by first | exact Kd.R_nil _ _ _ _ _ | exact Kd.N_nil _ _ _ _ _ | exact Kd.V_nil _ _ _ _ _ | exact Kd.Q_nil _ _ _ _ _ | exact Kd.S_nil _ _ _ _ _⟩, ⟨by repeat (first | (with_reducible first | exact HB.out | apply below_alloc | apply pw_below_drewN | apply below_drew1) | exact HB.out)⟩⟩
  case round =>
   clear H'
   try clear c1
   try clear p2
   try clear c3
   try clear c3b0
   try clear c3b1
   obtain ⟨x5_1, x6_1, rfl, HA, HK1, HO_5, HB⟩ := hrel
   cases gk with
   | zero => exact absurd HA.out (by simp [creelref_LinkFirsts.l0])
   | succ k1 =>
    have H := HA.out
    clear HA
    simp only [creelref_LinkFirsts.l0] at H
    by_cases c5 : x6_1 < (l0.length : Int)
    ·rw [if_pos c5] at H
     have c5b0 : decide (x6_1 < (l0.length : Int)) = true := decide_eq_true c5
     clear c5
     have H' := Aside0.mk H
     clear H
     go_wp2
     repeat (go_quiet (fail); try go_wp2)
     go_loopg [7] k1 (fun kq v7 w' => ∃ (x7_2 : Int), v7 = .int .i64 x7_2 ∧ Aside0 (creelref_LinkFirsts.l1 kq l0 x5_1 x6_1 x7_2 = some (r1, r2)) ∧ Aside0 (kq ≤ k1) ∧ Aside0 (Kd.R (Kd.int .i64) 3 w' w.heap.size (fun _ => True) u5 x5_1) ∧ Aside0 (Below w.heap.size w w'))
     case atStart => exact ⟨(0), (by first | rfl | (simp; done) | (simp [*]; done)), H', ⟨Nat.le_refl _⟩, ⟨by (with_reducible repeat (first | apply Kd.R_alloc | apply Kd.R_drewN | apply Kd.R_drew)); exact HO_5.out⟩, ⟨by repeat (first | (with_reducible first | exact HB.out | apply below_alloc | apply pw_below_drewN | apply below_drew1) | exact HB.out)⟩⟩
     case round =>
      clear H'
      try clear c1
      try clear p2
      try clear c3
      try clear c3b0
      try clear c3b1
      try clear c5
      try clear c5b0
      try clear p2
      obtain ⟨x7_2, rfl, HA, HK2, HO_5, HB⟩ := hrel
      cases gk with
      | zero => exact absurd HA.out (by simp [creelref_LinkFirsts.l1])
      | succ k2 =>
       have H := HA.out
       clear HA
       simp only [creelref_LinkFirsts.l1] at H
       by_cases c6 : x7_2 < x6_1
       ·rw [if_pos c6] at H
        have c6b0 : decide (x7_2 < x6_1) = true := decide_eq_true c6
        clear c6
        by_cases c7 : 0 ≤ x6_1
        ·rw [if_pos c7] at H
         have c7b0 : decide (0 ≤ x6_1) = true := decide_eq_true c7
         clear c7
         by_cases c8 : x6_1 < (l0.length : Int)
         ·rw [if_pos c8] at H
          have c8b0 : decide (x6_1 < (l0.length : Int)) = true := decide_eq_true c8
          clear c8
          by_cases c9 : ((rd_T56 l0 x6_1).f2) = 0
          ·rw [if_pos c9] at H
           have c9b0 : (((rd_T56 l0 x6_1).f2) == 0) = true := beq_iff_eq.mpr c9
           have c9b1 : (((rd_T56 l0 x6_1).f2) != 0) = false := bne_eq_false_iff_eq.mpr c9
           clear c9
           have H' := Aside0.mk H
           clear H
           have p102 : 0 ≤ (x6_1 : Int) := of_decide_eq_true (by first | (with_reducible assumption) | assumption)
           have q102 : x6_1 < (l0.length : Int) := of_decide_eq_true (by first | (with_reducible assumption) | assumption)
           obtain ⟨ad102, A102_11, c102_11, e102, hx102_0, hx102_1, hx102_2, hx102_3, hx102_4, hx102_5, hx102_6, hx102_7, hx102_8, hx102_9, hx102_10, hx102_11, hl102_11, hi102_11⟩ := at_T56 HR0.out x6_1 p102 q102
           cases e102
           replace hx102_0 := (HB.out.cell (World.block_lt_of_cell? w _ hx102_0)).trans hx102_0
           replace hx102_1 := (HB.out.cell (World.block_lt_of_cell? w _ hx102_1)).trans hx102_1
           replace hx102_2 := (HB.out.cell (World.block_lt_of_cell? w _ hx102_2)).trans hx102_2
           replace hx102_3 := (HB.out.cell (World.block_lt_of_cell? w _ hx102_3)).trans hx102_3
           replace hx102_4 := (HB.out.cell (World.block_lt_of_cell? w _ hx102_4)).trans hx102_4
           replace hx102_5 := (HB.out.cell (World.block_lt_of_cell? w _ hx102_5)).trans hx102_5
           replace hx102_6 := (HB.out.cell (World.block_lt_of_cell? w _ hx102_6)).trans hx102_6
           replace hx102_7 := (HB.out.cell (World.block_lt_of_cell? w _ hx102_7)).trans hx102_7
           replace hx102_8 := (HB.out.cell (World.block_lt_of_cell? w _ hx102_8)).trans hx102_8
           replace hx102_9 := (HB.out.cell (World.block_lt_of_cell? w _ hx102_9)).trans hx102_9
           replace hx102_10 := (HB.out.cell (World.block_lt_of_cell? w _ hx102_10)).trans hx102_10
           replace hx102_11 := (HB.out.cell (World.block_lt_of_cell? w _ hx102_11)).trans hx102_11
           have HR102_11 := Aside0.mk hi102_11
           have HC102_11 := Aside0.mk hl102_11
           clear hi102_11 hl102_11
           replace p102 := eq_true p102
           replace q102 := eq_true q102
           go_wp2
           repeat (go_quiet (fail); try go_wp2)
           go_roundg k2
           case measure => have := HK1.out; have := HK2.out; omega
           case rel => exact ⟨(wrap64 (x7_2 + 1)), (by first | rfl | (simp; done) | (simp [*]; done)), H', ⟨by have := HK1.out; have := HK2.out; omega⟩, ⟨by (with_reducible repeat (first | apply Kd.R_alloc | apply Kd.R_drewN | apply Kd.R_drew)); exact HO_5.out⟩, ⟨by repeat (first | (with_reducible first | exact HB.out | apply below_alloc | apply pw_below_drewN | apply below_drew1) | exact HB.out)⟩⟩
          ·rw [if_neg c9] at H
           have c9b0 : (((rd_T56 l0 x6_1).f2) == 0) = false := beq_eq_false_iff_ne.mpr c9
           have c9b1 : (((rd_T56 l0 x6_1).f2) != 0) = true := bne_iff_ne.mpr c9
           by_cases c10 : 0 ≤ x7_2
           ·rw [if_pos c10] at H
            have c10b0 : decide (0 ≤ x7_2) = true := decide_eq_true c10
            clear c10
            by_cases c11 : x7_2 < (l0.length : Int)
            ·rw [if_pos c11] at H
             have c11b0 : decide (x7_2 < (l0.length : Int)) = true := decide_eq_true c11
             clear c11
             by_cases c12 : ((rd_T56 l0 x7_2).f2) = ((rd_T56 l0 x6_1).f2)
             ·rw [if_pos c12] at H
              have c12b0 : (((rd_T56 l0 x7_2).f2) == ((rd_T56 l0 x6_1).f2)) = true := beq_iff_eq.mpr c12
              have c12b1 : (((rd_T56 l0 x7_2).f2) != ((rd_T56 l0 x6_1).f2)) = false := bne_eq_false_iff_eq.mpr c12
              clear c12
              by_cases c13 : x5_1.length < 17592186044416
              ·rw [if_pos c13] at H
               have LMc13 := Aside0.mk c13
               clear c13
               obtain ⟨y105, hy105⟩ : ∃ y_ : List Int, y_ = (x5_1 ++ [x7_2]) := ⟨_, rfl⟩
               replace H : (creelref_LinkFirsts.l0 k2 l0 y105 (wrap64 (x6_1 + 1))) = some (r1, r2) := by first | (rw [hy105]; with_reducible exact H) | (have H2_ := (Option.bind_some _ _).symm.trans H; rw [hy105]; with_reducible exact H2_) | (have H2_ := (Option.bind_some _ _).symm.trans H; with_reducible exact H2_) | with_reducible exact H | (rw [hy105]; exact H) | exact H
               have Ny105 := Aside0.mk hy105
               clear hy105
               have H' := Aside0.mk H
               clear H
               have p102 : 0 ≤ (x6_1 : Int) := of_decide_eq_true (by first | (with_reducible assumption) | assumption)
               have q102 : x6_1 < (l0.length : Int) := of_decide_eq_true (by first | (with_reducible assumption) | assumption)
               obtain ⟨ad102, A102_11, c102_11, e102, hx102_0, hx102_1, hx102_2, hx102_3, hx102_4, hx102_5, hx102_6, hx102_7, hx102_8, hx102_9, hx102_10, hx102_11, hl102_11, hi102_11⟩ := at_T56 HR0.out x6_1 p102 q102
               cases e102
               replace hx102_0 := (HB.out.cell (World.block_lt_of_cell? w _ hx102_0)).trans hx102_0
               replace hx102_1 := (HB.out.cell (World.block_lt_of_cell? w _ hx102_1)).trans hx102_1
               replace hx102_2 := (HB.out.cell (World.block_lt_of_cell? w _ hx102_2)).trans hx102_2
               replace hx102_3 := (HB.out.cell (World.block_lt_of_cell? w _ hx102_3)).trans hx102_3
               replace hx102_4 := (HB.out.cell (World.block_lt_of_cell? w _ hx102_4)).trans hx102_4
               replace hx102_5 := (HB.out.cell (World.block_lt_of_cell? w _ hx102_5)).trans hx102_5
               replace hx102_6 := (HB.out.cell (World.block_lt_of_cell? w _ hx102_6)).trans hx102_6
               replace hx102_7 := (HB.out.cell (World.block_lt_of_cell? w _ hx102_7)).trans hx102_7
               replace hx102_8 := (HB.out.cell (World.block_lt_of_cell? w _ hx102_8)).trans hx102_8
               replace hx102_9 := (HB.out.cell (World.block_lt_of_cell? w _ hx102_9)).trans hx102_9
               replace hx102_10 := (HB.out.cell (World.block_lt_of_cell? w _ hx102_10)).trans hx102_10
               replace hx102_11 := (HB.out.cell (World.block_lt_of_cell? w _ hx102_11)).trans hx102_11
               have HR102_11 := Aside0.mk hi102_11
               have HC102_11 := Aside0.mk hl102_11
               clear hi102_11 hl102_11
               replace p102 := eq_true p102
               replace q102 := eq_true q102
               have p103 : 0 ≤ (x7_2 : Int) := of_decide_eq_true (by first | (with_reducible assumption) | assumption)
               have q103 : x7_2 < (l0.length : Int) := of_decide_eq_true (by first | (with_reducible assumption) | assumption)
               obtain ⟨ad103, A103_11, c103_11, e103, hx103_0, hx103_1, hx103_2, hx103_3, hx103_4, hx103_5, hx103_6, hx103_7, hx103_8, hx103_9, hx103_10, hx103_11, hl103_11, hi103_11⟩ := at_T56 HR0.out x7_2 p103 q103
               obtain rfl : ad102 = ad103 := (by injection e103)
               replace hx103_0 := (HB.out.cell (World.block_lt_of_cell? w _ hx103_0)).trans hx103_0
               replace hx103_1 := (HB.out.cell (World.block_lt_of_cell? w _ hx103_1)).trans hx103_1
               replace hx103_2 := (HB.out.cell (World.block_lt_of_cell? w _ hx103_2)).trans hx103_2
               replace hx103_3 := (HB.out.cell (World.block_lt_of_cell? w _ hx103_3)).trans hx103_3
               replace hx103_4 := (HB.out.cell (World.block_lt_of_cell? w _ hx103_4)).trans hx103_4
               replace hx103_5 := (HB.out.cell (World.block_lt_of_cell? w _ hx103_5)).trans hx103_5
               replace hx103_6 := (HB.out.cell (World.block_lt_of_cell? w _ hx103_6)).trans hx103_6
               replace hx103_7 := (HB.out.cell (World.block_lt_of_cell? w _ hx103_7)).trans hx103_7
               replace hx103_8 := (HB.out.cell (World.block_lt_of_cell? w _ hx103_8)).trans hx103_8
               replace hx103_9 := (HB.out.cell (World.block_lt_of_cell? w _ hx103_9)).trans hx103_9
               replace hx103_10 := (HB.out.cell (World.block_lt_of_cell? w _ hx103_10)).trans hx103_10
               replace hx103_11 := (HB.out.cell (World.block_lt_of_cell? w _ hx103_11)).trans hx103_11
               have HR103_11 := Aside0.mk hi103_11
               have HC103_11 := Aside0.mk hl103_11
               clear hi103_11 hl103_11
               replace p103 := eq_true p103
               replace q103 := eq_true q103
               have p104 : 0 ≤ (x6_1 : Int) := of_decide_eq_true (by first | (with_reducible assumption) | assumption)
               have q104 : x6_1 < (l0.length : Int) := of_decide_eq_true (by first | (with_reducible assumption) | assumption)
               obtain ⟨ad104, A104_11, c104_11, e104, hx104_0, hx104_1, hx104_2, hx104_3, hx104_4, hx104_5, hx104_6, hx104_7, hx104_8, hx104_9, hx104_10, hx104_11, hl104_11, hi104_11⟩ := at_T56 HR0.out x6_1 p104 q104
               obtain rfl : ad102 = ad104 := (by injection e104)
               replace hx104_0 := (HB.out.cell (World.block_lt_of_cell? w _ hx104_0)).trans hx104_0
               replace hx104_1 := (HB.out.cell (World.block_lt_of_cell? w _ hx104_1)).trans hx104_1
               replace hx104_2 := (HB.out.cell (World.block_lt_of_cell? w _ hx104_2)).trans hx104_2
               replace hx104_3 := (HB.out.cell (World.block_lt_of_cell? w _ hx104_3)).trans hx104_3
               replace hx104_4 := (HB.out.cell (World.block_lt_of_cell? w _ hx104_4)).trans hx104_4
               replace hx104_5 := (HB.out.cell (World.block_lt_of_cell? w _ hx104_5)).trans hx104_5
               replace hx104_6 := (HB.out.cell (World.block_lt_of_cell? w _ hx104_6)).trans hx104_6
               replace hx104_7 := (HB.out.cell (World.block_lt_of_cell? w _ hx104_7)).trans hx104_7
               replace hx104_8 := (HB.out.cell (World.block_lt_of_cell? w _ hx104_8)).trans hx104_8
               replace hx104_9 := (HB.out.cell (World.block_lt_of_cell? w _ hx104_9)).trans hx104_9
               replace hx104_10 := (HB.out.cell (World.block_lt_of_cell? w _ hx104_10)).trans hx104_10
               replace hx104_11 := (HB.out.cell (World.block_lt_of_cell? w _ hx104_11)).trans hx104_11
               have HR104_11 := Aside0.mk hi104_11
               have HC104_11 := Aside0.mk hl104_11
               clear hi104_11 hl104_11
               replace p104 := eq_true p104
               replace q104 := eq_true q104
               have ea_ := Option.some.inj (hx102_11.symm.trans hx104_11)
               injection ea_ with ea_ en_ ec_
               subst ea_
               subst ec_
               clear en_
               go_wp2_with (first | ((with_reducible refine gate_builtin (b := .append) (xs := #[.tmp 45, .tmp 47]) rfl ?_); at_builtin; refine Kd.R_append (Kd.int .i64) (w0 := w) w.heap.size rfl (.tmp 45) (.tmp 47) 23 3 (.int .i64 0) 8 rfl Tryd.underlying23 info3 rfl (by decide) (by omega) u5 x5_1 x7_2 [.int .i64 x7_2] (fun _ => True) (fun _ => False) rfl rfl ?aP (fun _ hk => hk.elim) ?aF ?aO ?aB ?aS ?aL ?_; (case aP => exact rfl); (case aB => exact (by repeat (first | (with_reducible first | exact HB.out | apply below_alloc | apply pw_below_drewN | apply below_drew1) | exact HB.out))); (case aF => exact (fun _ _ => trivial)); (case aO => exact (by (with_reducible repeat (first | apply Kd.R_alloc | apply Kd.R_drewN | apply Kd.R_drew)); exact HO_5.out)); (case aS => exact (below_size (by repeat (first | (with_reducible first | exact HB.out | apply below_alloc | apply pw_below_drewN | apply below_drew1) | exact HB.out)))); (case aL => have := LMc13.out; omega); intro v106 w14 ho hb hg hat; rw [← Ny105.out] at ho; have n0_ := Aside0.mk (hb); have n1_ := Aside0.mk (ho); clear HB; clear HO_5; have HB := n0_; have HO107 := n1_; clear n0_ n1_; clear ho hb hg hat))
               repeat (go_quiet (first | ((with_reducible refine gate_builtin (b := .append) (xs := #[.tmp 45, .tmp 47]) rfl ?_); at_builtin; refine Kd.R_append (Kd.int .i64) (w0 := w) w.heap.size rfl (.tmp 45) (.tmp 47) 23 3 (.int .i64 0) 8 rfl Tryd.underlying23 info3 rfl (by decide) (by omega) u5 x5_1 x7_2 [.int .i64 x7_2] (fun _ => True) (fun _ => False) rfl rfl ?aP (fun _ hk => hk.elim) ?aF ?aO ?aB ?aS ?aL ?_; (case aP => exact rfl); (case aB => exact (by repeat (first | (with_reducible first | exact HB.out | apply below_alloc | apply pw_below_drewN | apply below_drew1) | exact HB.out))); (case aF => exact (fun _ _ => trivial)); (case aO => exact (by (with_reducible repeat (first | apply Kd.R_alloc | apply Kd.R_drewN | apply Kd.R_drew)); exact HO_5.out)); (case aS => exact (below_size (by repeat (first | (with_reducible first | exact HB.out | apply below_alloc | apply pw_below_drewN | apply below_drew1) | exact HB.out)))); (case aL => have := LMc13.out; omega); intro v106 w14 ho hb hg hat; rw [← Ny105.out] at ho; have n0_ := Aside0.mk (hb); have n1_ := Aside0.mk (ho); clear HB; clear HO_5; have HB := n0_; have HO107 := n1_; clear n0_ n1_; clear ho hb hg hat)); try go_wp2_with (first | ((with_reducible refine gate_builtin (b := .append) (xs := #[.tmp 45, .tmp 47]) rfl ?_); at_builtin; refine Kd.R_append (Kd.int .i64) (w0 := w) w.heap.size rfl (.tmp 45) (.tmp 47) 23 3 (.int .i64 0) 8 rfl Tryd.underlying23 info3 rfl (by decide) (by omega) u5 x5_1 x7_2 [.int .i64 x7_2] (fun _ => True) (fun _ => False) rfl rfl ?aP (fun _ hk => hk.elim) ?aF ?aO ?aB ?aS ?aL ?_; (case aP => exact rfl); (case aB => exact (by repeat (first | (with_reducible first | exact HB.out | apply below_alloc | apply pw_below_drewN | apply below_drew1) | exact HB.out))); (case aF => exact (fun _ _ => trivial)); (case aO => exact (by (with_reducible repeat (first | apply Kd.R_alloc | apply Kd.R_drewN | apply Kd.R_drew)); exact HO_5.out)); (case aS => exact (below_size (by repeat (first | (with_reducible first | exact HB.out | apply below_alloc | apply pw_below_drewN | apply below_drew1) | exact HB.out)))); (case aL => have := LMc13.out; omega); intro v106 w14 ho hb hg hat; rw [← Ny105.out] at ho; have n0_ := Aside0.mk (hb); have n1_ := Aside0.mk (ho); clear HB; clear HO_5; have HB := n0_; have HO107 := n1_; clear n0_ n1_; clear ho hb hg hat)))
               go_roundg k2
               case measure => have := HK1.out; have := HK2.out; omega
               case rel => exact ⟨(y105), (wrap64 (x6_1 + 1)), (by first | rfl | (simp; done) | (simp [*]; done)), H', ⟨by have := HK1.out; have := HK2.out; omega⟩, ⟨by (with_reducible repeat (first | apply Kd.R_alloc | apply Kd.R_drewN | apply Kd.R_drew)); exact HO107.out⟩, ⟨by repeat (first | (with_reducible first | exact HB.out | apply below_alloc | apply pw_below_drewN | apply below_drew1) | exact HB.out)⟩⟩
              ·rw [if_neg c13] at H
               exact absurd H (by simp)
             ·rw [if_neg c12] at H
              have c12b0 : (((rd_T56 l0 x7_2).f2) == ((rd_T56 l0 x6_1).f2)) = false := beq_eq_false_iff_ne.mpr c12
              have c12b1 : (((rd_T56 l0 x7_2).f2) != ((rd_T56 l0 x6_1).f2)) = true := bne_iff_ne.mpr c12
              have H' := Aside0.mk H
              clear H
              have p102 : 0 ≤ (x6_1 : Int) := of_decide_eq_true (by first | (with_reducible assumption) | assumption)
              have q102 : x6_1 < (l0.length : Int) := of_decide_eq_true (by first | (with_reducible assumption) | assumption)
              obtain ⟨ad102, A102_11, c102_11, e102, hx102_0, hx102_1, hx102_2, hx102_3, hx102_4, hx102_5, hx102_6, hx102_7, hx102_8, hx102_9, hx102_10, hx102_11, hl102_11, hi102_11⟩ := at_T56 HR0.out x6_1 p102 q102
              cases e102
              replace hx102_0 := (HB.out.cell (World.block_lt_of_cell? w _ hx102_0)).trans hx102_0
              replace hx102_1 := (HB.out.cell (World.block_lt_of_cell? w _ hx102_1)).trans hx102_1
              replace hx102_2 := (HB.out.cell (World.block_lt_of_cell? w _ hx102_2)).trans hx102_2
              replace hx102_3 := (HB.out.cell (World.block_lt_of_cell? w _ hx102_3)).trans hx102_3
              replace hx102_4 := (HB.out.cell (World.block_lt_of_cell? w _ hx102_4)).trans hx102_4
              replace hx102_5 := (HB.out.cell (World.block_lt_of_cell? w _ hx102_5)).trans hx102_5
              replace hx102_6 := (HB.out.cell (World.block_lt_of_cell? w _ hx102_6)).trans hx102_6
              replace hx102_7 := (HB.out.cell (World.block_lt_of_cell? w _ hx102_7)).trans hx102_7
              replace hx102_8 := (HB.out.cell (World.block_lt_of_cell? w _ hx102_8)).trans hx102_8
              replace hx102_9 := (HB.out.cell (World.block_lt_of_cell? w _ hx102_9)).trans hx102_9
              replace hx102_10 := (HB.out.cell (World.block_lt_of_cell? w _ hx102_10)).trans hx102_10
              replace hx102_11 := (HB.out.cell (World.block_lt_of_cell? w _ hx102_11)).trans hx102_11
              have HR102_11 := Aside0.mk hi102_11
              have HC102_11 := Aside0.mk hl102_11
              clear hi102_11 hl102_11
              replace p102 := eq_true p102
              replace q102 := eq_true q102
              have p103 : 0 ≤ (x7_2 : Int) := of_decide_eq_true (by first | (with_reducible assumption) | assumption)
              have q103 : x7_2 < (l0.length : Int) := of_decide_eq_true (by first | (with_reducible assumption) | assumption)
              obtain ⟨ad103, A103_11, c103_11, e103, hx103_0, hx103_1, hx103_2, hx103_3, hx103_4, hx103_5, hx103_6, hx103_7, hx103_8, hx103_9, hx103_10, hx103_11, hl103_11, hi103_11⟩ := at_T56 HR0.out x7_2 p103 q103
              obtain rfl : ad102 = ad103 := (by injection e103)
              replace hx103_0 := (HB.out.cell (World.block_lt_of_cell? w _ hx103_0)).trans hx103_0
              replace hx103_1 := (HB.out.cell (World.block_lt_of_cell? w _ hx103_1)).trans hx103_1
              replace hx103_2 := (HB.out.cell (World.block_lt_of_cell? w _ hx103_2)).trans hx103_2
              replace hx103_3 := (HB.out.cell (World.block_lt_of_cell? w _ hx103_3)).trans hx103_3
              replace hx103_4 := (HB.out.cell (World.block_lt_of_cell? w _ hx103_4)).trans hx103_4
              replace hx103_5 := (HB.out.cell (World.block_lt_of_cell? w _ hx103_5)).trans hx103_5
              replace hx103_6 := (HB.out.cell (World.block_lt_of_cell? w _ hx103_6)).trans hx103_6
              replace hx103_7 := (HB.out.cell (World.block_lt_of_cell? w _ hx103_7)).trans hx103_7
              replace hx103_8 := (HB.out.cell (World.block_lt_of_cell? w _ hx103_8)).trans hx103_8
              replace hx103_9 := (HB.out.cell (World.block_lt_of_cell? w _ hx103_9)).trans hx103_9
              replace hx103_10 := (HB.out.cell (World.block_lt_of_cell? w _ hx103_10)).trans hx103_10
              replace hx103_11 := (HB.out.cell (World.block_lt_of_cell? w _ hx103_11)).trans hx103_11
              have HR103_11 := Aside0.mk hi103_11
              have HC103_11 := Aside0.mk hl103_11
              clear hi103_11 hl103_11
              replace p103 := eq_true p103
              replace q103 := eq_true q103
              have p104 : 0 ≤ (x6_1 : Int) := of_decide_eq_true (by first | (with_reducible assumption) | assumption)
              have q104 : x6_1 < (l0.length : Int) := of_decide_eq_true (by first | (with_reducible assumption) | assumption)
              obtain ⟨ad104, A104_11, c104_11, e104, hx104_0, hx104_1, hx104_2, hx104_3, hx104_4, hx104_5, hx104_6, hx104_7, hx104_8, hx104_9, hx104_10, hx104_11, hl104_11, hi104_11⟩ := at_T56 HR0.out x6_1 p104 q104
              obtain rfl : ad102 = ad104 := (by injection e104)
              replace hx104_0 := (HB.out.cell (World.block_lt_of_cell? w _ hx104_0)).trans hx104_0
              replace hx104_1 := (HB.out.cell (World.block_lt_of_cell? w _ hx104_1)).trans hx104_1
              replace hx104_2 := (HB.out.cell (World.block_lt_of_cell? w _ hx104_2)).trans hx104_2
              replace hx104_3 := (HB.out.cell (World.block_lt_of_cell? w _ hx104_3)).trans hx104_3
              replace hx104_4 := (HB.out.cell (World.block_lt_of_cell? w _ hx104_4)).trans hx104_4
              replace hx104_5 := (HB.out.cell (World.block_lt_of_cell? w _ hx104_5)).trans hx104_5
              replace hx104_6 := (HB.out.cell (World.block_lt_of_cell? w _ hx104_6)).trans hx104_6
              replace hx104_7 := (HB.out.cell (World.block_lt_of_cell? w _ hx104_7)).trans hx104_7
              replace hx104_8 := (HB.out.cell (World.block_lt_of_cell? w _ hx104_8)).trans hx104_8
              replace hx104_9 := (HB.out.cell (World.block_lt_of_cell? w _ hx104_9)).trans hx104_9
              replace hx104_10 := (HB.out.cell (World.block_lt_of_cell? w _ hx104_10)).trans hx104_10
              replace hx104_11 := (HB.out.cell (World.block_lt_of_cell? w _ hx104_11)).trans hx104_11
              have HR104_11 := Aside0.mk hi104_11
              have HC104_11 := Aside0.mk hl104_11
              clear hi104_11 hl104_11
              replace p104 := eq_true p104
              replace q104 := eq_true q104
              have ea_ := Option.some.inj (hx102_11.symm.trans hx104_11)
              injection ea_ with ea_ en_ ec_
              subst ea_
              subst ec_
              clear en_
              go_wp2
              repeat (go_quiet (fail); try go_wp2)
              go_roundg k2
              case measure => have := HK1.out; have := HK2.out; omega
              case rel => exact ⟨(wrap64 (x7_2 + 1)), (by first | rfl | (simp; done) | (simp [*]; done)), H', ⟨by have := HK1.out; have := HK2.out; omega⟩, ⟨by (with_reducible repeat (first | apply Kd.R_alloc | apply Kd.R_drewN | apply Kd.R_drew)); exact HO_5.out⟩, ⟨by repeat (first | (with_reducible first | exact HB.out | apply below_alloc | apply pw_below_drewN | apply below_drew1) | exact HB.out)⟩⟩
            ·rw [if_neg c11] at H
             exact absurd H (by simp)
           ·rw [if_neg c10] at H
            exact absurd H (by simp)
         ·rw [if_neg c8] at H
          exact absurd H (by simp)
        ·rw [if_neg c7] at H
         exact absurd H (by simp)
       ·rw [if_neg c6] at H
        have c6b0 : decide (x7_2 < x6_1) = false := decide_eq_false c6
        clear c6
        by_cases c15 : x5_1.length < 17592186044416
        ·rw [if_pos c15] at H
         have LMc15 := Aside0.mk c15
         clear c15
         obtain ⟨y108, hy108⟩ : ∃ y_ : List Int, y_ = (x5_1 ++ [x7_2]) := ⟨_, rfl⟩
         replace H : (creelref_LinkFirsts.l0 k2 l0 y108 (wrap64 (x6_1 + 1))) = some (r1, r2) := by first | (rw [hy108]; with_reducible exact H) | (have H2_ := (Option.bind_some _ _).symm.trans H; rw [hy108]; with_reducible exact H2_) | (have H2_ := (Option.bind_some _ _).symm.trans H; with_reducible exact H2_) | with_reducible exact H | (rw [hy108]; exact H) | exact H
         have Ny108 := Aside0.mk hy108
         clear hy108
         have H' := Aside0.mk H
         clear H
         go_wp2_with (first | ((with_reducible refine gate_builtin (b := .append) (xs := #[.tmp 45, .tmp 47]) rfl ?_); at_builtin; refine Kd.R_append (Kd.int .i64) (w0 := w) w.heap.size rfl (.tmp 45) (.tmp 47) 23 3 (.int .i64 0) 8 rfl Tryd.underlying23 info3 rfl (by decide) (by omega) u5 x5_1 x7_2 [.int .i64 x7_2] (fun _ => True) (fun _ => False) rfl rfl ?aP (fun _ hk => hk.elim) ?aF ?aO ?aB ?aS ?aL ?_; (case aP => exact rfl); (case aB => exact (by repeat (first | (with_reducible first | exact HB.out | apply below_alloc | apply pw_below_drewN | apply below_drew1) | exact HB.out))); (case aF => exact (fun _ _ => trivial)); (case aO => exact (by (with_reducible repeat (first | apply Kd.R_alloc | apply Kd.R_drewN | apply Kd.R_drew)); exact HO_5.out)); (case aS => exact (below_size (by repeat (first | (with_reducible first | exact HB.out | apply below_alloc | apply pw_below_drewN | apply below_drew1) | exact HB.out)))); (case aL => have := LMc15.out; omega); intro v109 w16 ho hb hg hat; rw [← Ny108.out] at ho; have n0_ := Aside0.mk (hb); have n1_ := Aside0.mk (ho); clear HB; clear HO_5; have HB := n0_; have HO110 := n1_; clear n0_ n1_; clear ho hb hg hat))
         repeat (go_quiet (first | ((with_reducible refine gate_builtin (b := .append) (xs := #[.tmp 45, .tmp 47]) rfl ?_); at_builtin; refine Kd.R_append (Kd.int .i64) (w0 := w) w.heap.size rfl (.tmp 45) (.tmp 47) 23 3 (.int .i64 0) 8 rfl Tryd.underlying23 info3 rfl (by decide) (by omega) u5 x5_1 x7_2 [.int .i64 x7_2] (fun _ => True) (fun _ => False) rfl rfl ?aP (fun _ hk => hk.elim) ?aF ?aO ?aB ?aS ?aL ?_; (case aP => exact rfl); (case aB => exact (by repeat (first | (with_reducible first | exact HB.out | apply below_alloc | apply pw_below_drewN | apply below_drew1) | exact HB.out))); (case aF => exact (fun _ _ => trivial)); (case aO => exact (by (with_reducible repeat (first | apply Kd.R_alloc | apply Kd.R_drewN | apply Kd.R_drew)); exact HO_5.out)); (case aS => exact (below_size (by repeat (first | (with_reducible first | exact HB.out | apply below_alloc | apply pw_below_drewN | apply below_drew1) | exact HB.out)))); (case aL => have := LMc15.out; omega); intro v109 w16 ho hb hg hat; rw [← Ny108.out] at ho; have n0_ := Aside0.mk (hb); have n1_ := Aside0.mk (ho); clear HB; clear HO_5; have HB := n0_; have HO110 := n1_; clear n0_ n1_; clear ho hb hg hat)); try go_wp2_with (first | ((with_reducible refine gate_builtin (b := .append) (xs := #[.tmp 45, .tmp 47]) rfl ?_); at_builtin; refine Kd.R_append (Kd.int .i64) (w0 := w) w.heap.size rfl (.tmp 45) (.tmp 47) 23 3 (.int .i64 0) 8 rfl Tryd.underlying23 info3 rfl (by decide) (by omega) u5 x5_1 x7_2 [.int .i64 x7_2] (fun _ => True) (fun _ => False) rfl rfl ?aP (fun _ hk => hk.elim) ?aF ?aO ?aB ?aS ?aL ?_; (case aP => exact rfl); (case aB => exact (by repeat (first | (with_reducible first | exact HB.out | apply below_alloc | apply pw_below_drewN | apply below_drew1) | exact HB.out))); (case aF => exact (fun _ _ => trivial)); (case aO => exact (by (with_reducible repeat (first | apply Kd.R_alloc | apply Kd.R_drewN | apply Kd.R_drew)); exact HO_5.out)); (case aS => exact (below_size (by repeat (first | (with_reducible first | exact HB.out | apply below_alloc | apply pw_below_drewN | apply below_drew1) | exact HB.out)))); (case aL => have := LMc15.out; omega); intro v109 w16 ho hb hg hat; rw [← Ny108.out] at ho; have n0_ := Aside0.mk (hb); have n1_ := Aside0.mk (ho); clear HB; clear HO_5; have HB := n0_; have HO110 := n1_; clear n0_ n1_; clear ho hb hg hat)))
         go_roundg k2
         case measure => have := HK1.out; have := HK2.out; omega
         case rel => exact ⟨(y108), (wrap64 (x6_1 + 1)), (by first | rfl | (simp; done) | (simp [*]; done)), H', ⟨by have := HK1.out; have := HK2.out; omega⟩, ⟨by (with_reducible repeat (first | apply Kd.R_alloc | apply Kd.R_drewN | apply Kd.R_drew)); exact HO110.out⟩, ⟨by repeat (first | (with_reducible first | exact HB.out | apply below_alloc | apply pw_below_drewN | apply below_drew1) | exact HB.out)⟩⟩
        ·rw [if_neg c15] at H
         exact absurd H (by simp)
    ·rw [if_neg c5] at H
     have c5b0 : decide (x6_1 < (l0.length : Int)) = false := decide_eq_false c5
     clear c5
     simp only [Option.some.injEq, Prod.mk.injEq] at H
     obtain ⟨rfl, rfl⟩ := H
     go_wp2
     repeat (go_quiet (fail); try go_wp2)
     go_ret2
     exact ⟨_, by first | rfl | (simp [errW_none, errW_some] <;> rfl) | (simp [*, errW_none, errW_some] <;> rfl), by (with_reducible repeat (first | apply Kd.R_alloc | apply Kd.R_drewN | apply Kd.R_drew)); exact HO_5.out, by repeat (first | (with_reducible first | exact HB.out | apply below_alloc | apply pw_below_drewN | apply below_drew1) | exact HB.out)⟩
 ·rw [if_neg c3] at H
  have c3b0 : (t101 == 0) = false := beq_eq_false_iff_ne.mpr c3
  have c3b1 : (t101 != 0) = true := bne_iff_ne.mpr c3
  simp only [Option.some.injEq, Prod.mk.injEq] at H
  obtain ⟨rfl, rfl⟩ := H
  go_enter Tryd.func11, Tryd.ntmps11
  go_wp2_with (first | (go_at_call 31; (with_reducible refine (creelref_TreeFault.calls k _ _ l0 t101 _ ?side1 ?side2 A2.out).mono ?_); (case side1 => repeat (first | exact HR0.out | (with_reducible refine Kd.C_alloc ?_ _) | (with_reducible refine Kd.C_drewN ?_ _) | (with_reducible refine Kd.C_drew ?_))); (case side2 => exact HC0.out); rintro e w17 ⟨rfl, hb⟩; have n0_ := Aside0.mk (below_step (by repeat (first | (with_reducible first | exact HB.out | apply below_alloc | apply pw_below_drewN | apply below_drew1) | exact HB.out)) hb); clear HB; have HB := n0_; clear n0_; (try clear hb); (try clear hb2); (try clear hk); (try clear hi)))
  repeat (go_quiet (first | (go_at_call 31; (with_reducible refine (creelref_TreeFault.calls k _ _ l0 t101 _ ?side1 ?side2 A2.out).mono ?_); (case side1 => repeat (first | exact HR0.out | (with_reducible refine Kd.C_alloc ?_ _) | (with_reducible refine Kd.C_drewN ?_ _) | (with_reducible refine Kd.C_drew ?_))); (case side2 => exact HC0.out); rintro e w17 ⟨rfl, hb⟩; have n0_ := Aside0.mk (below_step (by repeat (first | (with_reducible first | exact HB.out | apply below_alloc | apply pw_below_drewN | apply below_drew1) | exact HB.out)) hb); clear HB; have HB := n0_; clear n0_; (try clear hb); (try clear hb2); (try clear hk); (try clear hi))); try go_wp2_with (first | (go_at_call 31; (with_reducible refine (creelref_TreeFault.calls k _ _ l0 t101 _ ?side1 ?side2 A2.out).mono ?_); (case side1 => repeat (first | exact HR0.out | (with_reducible refine Kd.C_alloc ?_ _) | (with_reducible refine Kd.C_drewN ?_ _) | (with_reducible refine Kd.C_drew ?_))); (case side2 => exact HC0.out); rintro e w17 ⟨rfl, hb⟩; have n0_ := Aside0.mk (below_step (by repeat (first | (with_reducible first | exact HB.out | apply below_alloc | apply pw_below_drewN | apply below_drew1) | exact HB.out)) hb); clear HB; have HB := n0_; clear n0_; (try clear hb); (try clear hb2); (try clear hk); (try clear hi))))
  go_ret2
  exact ⟨_, by first | rfl | (simp [errW_none, errW_some] <;> rfl) | (simp [*, errW_none, errW_some] <;> rfl), by first | exact Kd.R_nil _ _ _ _ _ | exact Kd.N_nil _ _ _ _ _ | exact Kd.V_nil _ _ _ _ _ | exact Kd.Q_nil _ _ _ _ _ | exact Kd.S_nil _ _ _ _ _, by repeat (first | (with_reducible first | exact HB.out | apply below_alloc | apply pw_below_drewN | apply below_drew1) | exact HB.out)⟩

end Go.Proofs.YtodeblpanooomabDoor.All
end
