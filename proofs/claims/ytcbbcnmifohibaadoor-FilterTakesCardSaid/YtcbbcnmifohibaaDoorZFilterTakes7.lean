/- Made by programs of the prover: walks of Go functions, the words that they use, and plain laws, each text in a section of its own; no condition of its own. -/
import Derived.Deep.Slices
import Derived.SizedLaws
import Derived.ChangeSlices
import Derived.ChangeArms
import Derived.ChangeSame
import Derived.ProofKit
import Derived.Lib.Bytealg
import Derived.Lib.IndexAny
import Derived.Lib.IndexLaws
import Derived.Test.YtcbbcnmifohibaaDoorZFilterTakes1
import Derived.Test.YtcbbcnmifohibaaDoorZFilterTakes2
import Derived.Test.YtcbbcnmifohibaaDoorZFilterTakes3
import Derived.Test.YtcbbcnmifohibaaDoorZFilterTakes4
import Derived.Test.YtcbbcnmifohibaaDoorZFilterTakes5
import Derived.Test.YtcbbcnmifohibaaDoorZFilterTakes6
section
namespace Go.Proofs.YtcbbcnmifohibaaDoor.All
open Go.RowKit Go.Proofs.YtcbbcnmifohibaaDoorW.PrintWords Go.Proofs.YtcbbcnmifohibaaDoorW.PrintLast Go.Proofs.YtcbbcnmifohibaaDoorW.PrintMore
open Go.Proofs.YtcbbcnmifohibaaDoorW.Mine
attribute [local go_sem] gtr_string leq_string geq_string
attribute [local go_sem] max2_int min2_int max_two min_two max_three min_three max_four min_four   -- for this text's walks alone
set_option linter.unusedVariables false
set_option linter.unusedSimpArgs false

/-! ### creelref_RulesTake: function 14 -/
def creelref_RulesTake.f (k : Nat) (l0 : List (S58)) (a1 : ByteArray) : Option (Bool × Int) := (creelref_RulesFault.f k l0).bind fun t101 => (if t101 = 0 then ((creelref_PathFault.f k a1).bind fun t102 => (if t102 = 0 then ((creelref_taken.f k l0 a1).bind fun t103 => (some (t103, 0))) else (some (false, t102)))) else (some (false, t101)))
theorem creelref_RulesTake.mono : ∀ a0 a1 k, LeO (creelref_RulesTake.f k a0 a1) (creelref_RulesTake.f (k + 1) a0 a1) := by
 intro a0 a1 k
 unfold creelref_RulesTake.f
 repeat' first
   | (with_reducible exact creelref_PathFault.mono _ _)
   | (with_reducible exact creelref_RulesFault.mono _ _)
   | (with_reducible exact creelref_taken.mono _ _ _)
   | (with_reducible exact LeO.refl _)
   | (with_reducible exact LeO.none _)
   | (with_reducible refine LeO.ite ?_ ?_)
   | (with_reducible refine LeO.bind ?_ (fun _ => ?_))
   | exact creelref_PathFault.mono _ _
   | exact creelref_RulesFault.mono _ _
   | exact creelref_taken.mono _ _ _
   | exact LeO.none _
   | refine LeO.ite ?_ ?_
   | refine LeO.bind ?_ (fun _ => ?_)
set_option maxHeartbeats 8000000 in
set_option maxRecDepth 100000 in
theorem creelref_RulesTake.calls (k : Nat) (A0 : Option Addr) (c0 : Nat) (l0 : List (S58)) (a1 : ByteArray) (r1 : Bool) (r2 : Int) (w : World) (hr0 : Kd.C k58 w A0 l0.length l0) (hc0 : l0.length ≤ c0) (h : creelref_RulesTake.f k l0 a1 = some (r1, r2)) :
  Calls Tryd.prog 14 #[.slice A0 l0.length c0, .string a1] w fun e w' => e = .returned (.tuple #[.bool r1, .int .i64 r2]) ∧ Below w.heap.size w w' := by
 have HR0 := Aside0.mk hr0
 have HC0 := Aside0.mk hc0
 clear hr0 hc0
 have HB := Aside0.mk (Below.refl w.heap.size w)
 have H : ((creelref_RulesFault.f k l0).bind fun t101 => (if t101 = 0 then ((creelref_PathFault.f k a1).bind fun t102 => (if t102 = 0 then ((creelref_taken.f k l0 a1).bind fun t103 => (some (t103, 0))) else (some (false, t102)))) else (some (false, t101)))) = some (r1, r2) := h
 clear h
 replace H := Option.bind_eq_some_iff.mp H
 obtain ⟨t101, A30, H⟩ := H
 replace H : (if t101 = 0 then ((creelref_PathFault.f k a1).bind fun t102 => (if t102 = 0 then ((creelref_taken.f k l0 a1).bind fun t103 => (some (t103, 0))) else (some (false, t102)))) else (some (false, t101))) = some (r1, r2) := H
 have A3 := Aside0.mk A30
 clear A30
 by_cases c4 : t101 = 0
 ·rw [if_pos c4] at H
  have c4b0 : (t101 == 0) = true := beq_iff_eq.mpr c4
  have c4b1 : (t101 != 0) = false := bne_eq_false_iff_eq.mpr c4
  clear c4
  replace H := Option.bind_eq_some_iff.mp H
  obtain ⟨t102, A50, H⟩ := H
  replace H : (if t102 = 0 then ((creelref_taken.f k l0 a1).bind fun t103 => (some (t103, 0))) else (some (false, t102))) = some (r1, r2) := H
  have A5 := Aside0.mk A50
  clear A50
  by_cases c6 : t102 = 0
  ·rw [if_pos c6] at H
   have c6b0 : (t102 == 0) = true := beq_iff_eq.mpr c6
   have c6b1 : (t102 != 0) = false := bne_eq_false_iff_eq.mpr c6
   clear c6
   replace H := Option.bind_eq_some_iff.mp H
   obtain ⟨t103, A70, H⟩ := H
   replace H : (some (t103, 0)) = some (r1, r2) := H
   have A7 := Aside0.mk A70
   clear A70
   simp only [Option.some.injEq, Prod.mk.injEq] at H
   obtain ⟨rfl, rfl⟩ := H
   go_enter Tryd.func14, Tryd.ntmps14
   go_wp2_with (first | ((with_reducible refine gate_callee (f := 13) rfl ?_); refine goesL_ (some 9) rfl rfl Tryd.func13 (by kernel_rfl) rfl #[.slice A0 l0.length c0] rfl (by (try simp only [List.map_toArray, List.map_cons, List.map_nil]); first | done | rfl | (simp only [List.length_drop, List.length_take]; rfl)) ?_; (with_reducible refine (creelref_RulesFault.calls k _ _ l0 t101 _ ?side1 ?side2 A3.out).mono ?_); (case side1 => repeat (first | exact HR0.out | (with_reducible refine Kd.C_alloc ?_ _) | (with_reducible refine Kd.C_drewN ?_ _) | (with_reducible refine Kd.C_drew ?_))); (case side2 => exact HC0.out); rintro e w8 ⟨rfl, hb⟩; refine ⟨_, rfl, ?_⟩; have n0_ := Aside0.mk (below_step (by repeat (first | (with_reducible first | exact HB.out | apply below_alloc | apply pw_below_drewN | apply below_drew1) | exact HB.out)) hb); clear HB; have HB := n0_; clear n0_; (try clear hb); (try clear hb2); (try clear hk); (try clear hi)) | ((with_reducible refine gate_callee (f := 32) rfl ?_); refine goesL_ (some 14) rfl rfl Tryd.func32 (by kernel_rfl) rfl #[.string a1] rfl (by (try simp only [List.map_toArray, List.map_cons, List.map_nil]); first | done | rfl | (simp only [List.length_drop, List.length_take]; rfl)) ?_; (with_reducible refine (creelref_PathFault.calls k a1 t102 _ A5.out).mono ?_); rintro e w9 ⟨rfl, hb⟩; refine ⟨_, rfl, ?_⟩; have n0_ := Aside0.mk (below_step (by repeat (first | (with_reducible first | exact HB.out | apply below_alloc | apply pw_below_drewN | apply below_drew1) | exact HB.out)) hb); clear HB; have HB := n0_; clear n0_; (try clear hb); (try clear hb2); (try clear hk); (try clear hi)) | ((with_reducible refine gate_callee (f := 39) rfl ?_); refine goesL_ (some 20) rfl rfl Tryd.func39 (by kernel_rfl) rfl #[.slice A0 l0.length c0, .string a1] rfl (by (try simp only [List.map_toArray, List.map_cons, List.map_nil]); first | done | rfl | (simp only [List.length_drop, List.length_take]; rfl)) ?_; (with_reducible refine (creelref_taken.calls k _ _ l0 a1 t103 _ ?side1 ?side2 A7.out).mono ?_); (case side1 => repeat (first | exact (Kd.C_below HR0.out HB.out) | (with_reducible refine Kd.C_alloc ?_ _) | (with_reducible refine Kd.C_drewN ?_ _) | (with_reducible refine Kd.C_drew ?_))); (case side2 => exact HC0.out); rintro e w10 ⟨rfl, hb⟩; refine ⟨_, rfl, ?_⟩; have n0_ := Aside0.mk (below_step (by repeat (first | (with_reducible first | exact HB.out | apply below_alloc | apply pw_below_drewN | apply below_drew1) | exact HB.out)) hb); clear HB; have HB := n0_; clear n0_; (try clear hb); (try clear hb2); (try clear hk); (try clear hi)))
   go_ret2
   exact ⟨by first | rfl | (simp [errW_none, errW_some] <;> rfl) | (simp [*, errW_none, errW_some] <;> rfl), by repeat (first | (with_reducible first | exact HB.out | apply below_alloc | apply pw_below_drewN | apply below_drew1) | exact HB.out)⟩
  ·rw [if_neg c6] at H
   have c6b0 : (t102 == 0) = false := beq_eq_false_iff_ne.mpr c6
   have c6b1 : (t102 != 0) = true := bne_iff_ne.mpr c6
   simp only [Option.some.injEq, Prod.mk.injEq] at H
   obtain ⟨rfl, rfl⟩ := H
   go_enter Tryd.func14, Tryd.ntmps14
   go_wp2_with (first | ((with_reducible refine gate_callee (f := 13) rfl ?_); refine goesL_ (some 9) rfl rfl Tryd.func13 (by kernel_rfl) rfl #[.slice A0 l0.length c0] rfl (by (try simp only [List.map_toArray, List.map_cons, List.map_nil]); first | done | rfl | (simp only [List.length_drop, List.length_take]; rfl)) ?_; (with_reducible refine (creelref_RulesFault.calls k _ _ l0 t101 _ ?side1 ?side2 A3.out).mono ?_); (case side1 => repeat (first | exact HR0.out | (with_reducible refine Kd.C_alloc ?_ _) | (with_reducible refine Kd.C_drewN ?_ _) | (with_reducible refine Kd.C_drew ?_))); (case side2 => exact HC0.out); rintro e w11 ⟨rfl, hb⟩; refine ⟨_, rfl, ?_⟩; have n0_ := Aside0.mk (below_step (by repeat (first | (with_reducible first | exact HB.out | apply below_alloc | apply pw_below_drewN | apply below_drew1) | exact HB.out)) hb); clear HB; have HB := n0_; clear n0_; (try clear hb); (try clear hb2); (try clear hk); (try clear hi)) | ((with_reducible refine gate_callee (f := 32) rfl ?_); refine goesL_ (some 14) rfl rfl Tryd.func32 (by kernel_rfl) rfl #[.string a1] rfl (by (try simp only [List.map_toArray, List.map_cons, List.map_nil]); first | done | rfl | (simp only [List.length_drop, List.length_take]; rfl)) ?_; (with_reducible refine (creelref_PathFault.calls k a1 t102 _ A5.out).mono ?_); rintro e w12 ⟨rfl, hb⟩; refine ⟨_, rfl, ?_⟩; have n0_ := Aside0.mk (below_step (by repeat (first | (with_reducible first | exact HB.out | apply below_alloc | apply pw_below_drewN | apply below_drew1) | exact HB.out)) hb); clear HB; have HB := n0_; clear n0_; (try clear hb); (try clear hb2); (try clear hk); (try clear hi)))
   go_ret2
   exact ⟨by first | rfl | (simp [errW_none, errW_some] <;> rfl) | (simp [*, errW_none, errW_some] <;> rfl), by repeat (first | (with_reducible first | exact HB.out | apply below_alloc | apply pw_below_drewN | apply below_drew1) | exact HB.out)⟩
 ·rw [if_neg c4] at H
  have c4b0 : (t101 == 0) = false := beq_eq_false_iff_ne.mpr c4
  have c4b1 : (t101 != 0) = true := bne_iff_ne.mpr c4
  simp only [Option.some.injEq, Prod.mk.injEq] at H
  obtain ⟨rfl, rfl⟩ := H
  go_enter Tryd.func14, Tryd.ntmps14
  go_wp2_with (first | ((with_reducible refine gate_callee (f := 13) rfl ?_); refine goesL_ (some 9) rfl rfl Tryd.func13 (by kernel_rfl) rfl #[.slice A0 l0.length c0] rfl (by (try simp only [List.map_toArray, List.map_cons, List.map_nil]); first | done | rfl | (simp only [List.length_drop, List.length_take]; rfl)) ?_; (with_reducible refine (creelref_RulesFault.calls k _ _ l0 t101 _ ?side1 ?side2 A3.out).mono ?_); (case side1 => repeat (first | exact HR0.out | (with_reducible refine Kd.C_alloc ?_ _) | (with_reducible refine Kd.C_drewN ?_ _) | (with_reducible refine Kd.C_drew ?_))); (case side2 => exact HC0.out); rintro e w13 ⟨rfl, hb⟩; refine ⟨_, rfl, ?_⟩; have n0_ := Aside0.mk (below_step (by repeat (first | (with_reducible first | exact HB.out | apply below_alloc | apply pw_below_drewN | apply below_drew1) | exact HB.out)) hb); clear HB; have HB := n0_; clear n0_; (try clear hb); (try clear hb2); (try clear hk); (try clear hi)))
  go_ret2
  exact ⟨by first | rfl | (simp [errW_none, errW_some] <;> rfl) | (simp [*, errW_none, errW_some] <;> rfl), by repeat (first | (with_reducible first | exact HB.out | apply below_alloc | apply pw_below_drewN | apply below_drew1) | exact HB.out)⟩

end Go.Proofs.YtcbbcnmifohibaaDoor.All
end
section
namespace Go.Proofs.YtcbbcnmifohibaaDoor.All
open Go.RowKit Go.Proofs.YtcbbcnmifohibaaDoorW.PrintWords Go.Proofs.YtcbbcnmifohibaaDoorW.PrintLast Go.Proofs.YtcbbcnmifohibaaDoorW.PrintMore
open Go.Proofs.YtcbbcnmifohibaaDoorW.Mine
attribute [local go_sem] gtr_string leq_string geq_string
attribute [local go_sem] max2_int min2_int max_two min_two max_three min_three max_four min_four   -- for this text's walks alone
set_option linter.unusedVariables false
set_option linter.unusedSimpArgs false

/-! ### creellaw_FilterTakes: function 4 -/
def creellaw_FilterTakes.f (k : Nat) (l0 : List (S58)) (a1 : ByteArray) : Option (Bool) := (filter_Check.f k l0).bind fun t101 => ((filter_Takes.f k l0 a1).bind fun bt102 => ((creelref_RulesFault.f k l0).bind fun t104 => ((creelref_RulesTake.f k l0 a1).bind fun bt105 => (if t101 = t104 then (if (bt102.1 == bt105.1) = true then (some (bt102.2 == bt105.2)) else (some false)) else (some false)))))
theorem creellaw_FilterTakes.mono : ∀ a0 a1 k, LeO (creellaw_FilterTakes.f k a0 a1) (creellaw_FilterTakes.f (k + 1) a0 a1) := by
 intro a0 a1 k
 unfold creellaw_FilterTakes.f
 repeat' first
   | (with_reducible exact creelref_RulesFault.mono _ _)
   | (with_reducible exact creelref_RulesTake.mono _ _ _)
   | (with_reducible exact filter_Check.mono _ _)
   | (with_reducible exact filter_Takes.mono _ _ _)
   | (with_reducible exact LeO.refl _)
   | (with_reducible exact LeO.none _)
   | (with_reducible refine LeO.ite ?_ ?_)
   | (with_reducible refine LeO.bind ?_ (fun _ => ?_))
   | exact creelref_RulesFault.mono _ _
   | exact creelref_RulesTake.mono _ _ _
   | exact filter_Check.mono _ _
   | exact filter_Takes.mono _ _ _
   | exact LeO.none _
   | refine LeO.ite ?_ ?_
   | refine LeO.bind ?_ (fun _ => ?_)
set_option maxHeartbeats 8000000 in
set_option maxRecDepth 100000 in
theorem creellaw_FilterTakes.calls (k : Nat) (A0 : Option Addr) (c0 : Nat) (l0 : List (S58)) (a1 : ByteArray) (r : Bool) (w : World) (hr0 : Kd.C k58 w A0 l0.length l0) (hc0 : l0.length ≤ c0) (h : creellaw_FilterTakes.f k l0 a1 = some r) :
  Calls Tryd.prog 4 #[.slice A0 l0.length c0, .string a1] w fun e w' => e = .returned (.bool r) ∧ Below w.heap.size w w' := by
 have HR0 := Aside0.mk hr0
 have HC0 := Aside0.mk hc0
 clear hr0 hc0
 have HB := Aside0.mk (Below.refl w.heap.size w)
 have H : ((filter_Check.f k l0).bind fun t101 => ((filter_Takes.f k l0 a1).bind fun bt102 => ((creelref_RulesFault.f k l0).bind fun t104 => ((creelref_RulesTake.f k l0 a1).bind fun bt105 => (if t101 = t104 then (if (bt102.1 == bt105.1) = true then (some (bt102.2 == bt105.2)) else (some false)) else (some false)))))) = some r := h
 clear h
 replace H := Option.bind_eq_some_iff.mp H
 obtain ⟨t101, A30, H⟩ := H
 replace H : ((filter_Takes.f k l0 a1).bind fun bt102 => ((creelref_RulesFault.f k l0).bind fun t104 => ((creelref_RulesTake.f k l0 a1).bind fun bt105 => (if t101 = t104 then (if (bt102.1 == bt105.1) = true then (some (bt102.2 == bt105.2)) else (some false)) else (some false))))) = some r := H
 have A3 := Aside0.mk A30
 clear A30
 replace H := Option.bind_eq_some_iff.mp H
 obtain ⟨⟨t102, t103⟩, A40, H⟩ := H
 replace H : ((creelref_RulesFault.f k l0).bind fun t104 => ((creelref_RulesTake.f k l0 a1).bind fun bt105 => (if t101 = t104 then (if (t102 == bt105.1) = true then (some (t103 == bt105.2)) else (some false)) else (some false)))) = some r := H
 have A4 := Aside0.mk A40
 clear A40
 replace H := Option.bind_eq_some_iff.mp H
 obtain ⟨t104, A50, H⟩ := H
 replace H : ((creelref_RulesTake.f k l0 a1).bind fun bt105 => (if t101 = t104 then (if (t102 == bt105.1) = true then (some (t103 == bt105.2)) else (some false)) else (some false))) = some r := H
 have A5 := Aside0.mk A50
 clear A50
 replace H := Option.bind_eq_some_iff.mp H
 obtain ⟨⟨t105, t106⟩, A60, H⟩ := H
 replace H : (if t101 = t104 then (if (t102 == t105) = true then (some (t103 == t106)) else (some false)) else (some false)) = some r := H
 have A6 := Aside0.mk A60
 clear A60
 by_cases c7 : t101 = t104
 ·rw [if_pos c7] at H
  have c7b0 : (t101 == t104) = true := beq_iff_eq.mpr c7
  have c7b1 : (t101 != t104) = false := bne_eq_false_iff_eq.mpr c7
  clear c7
  by_cases c8 : (t102 == t105) = true
  ·rw [if_pos c8] at H
   have c8b0 : (t102 == t105) = true := c8
   (try (have c8b1 : decide (t102 = t105) = true := by simpa using c8))
   (try (have c8b2 : (t102 == t105) = true := by simpa using c8))
   clear c8
   obtain rfl := Option.some.inj H
   go_enter Tryd.func4, Tryd.ntmps4
   go_wp2_with (first | ((with_reducible refine gate_callee (f := 11) rfl ?_); refine goesL_ (some 12) rfl rfl Tryd.func11 (by kernel_rfl) rfl #[.slice A0 l0.length c0] rfl (by (try simp only [List.map_toArray, List.map_cons, List.map_nil]); first | done | rfl | (simp only [List.length_drop, List.length_take]; rfl)) ?_; (with_reducible refine (filter_Check.calls k _ _ l0 t101 _ ?side1 ?side2 A3.out).mono ?_); (case side1 => repeat (first | exact HR0.out | (with_reducible refine Kd.C_alloc ?_ _) | (with_reducible refine Kd.C_drewN ?_ _) | (with_reducible refine Kd.C_drew ?_))); (case side2 => exact HC0.out); rintro e w9 ⟨rfl, hb⟩; refine ⟨_, rfl, ?_⟩; have n0_ := Aside0.mk (below_step (by repeat (first | (with_reducible first | exact HB.out | apply below_alloc | apply pw_below_drewN | apply below_drew1) | exact HB.out)) hb); clear HB; have HB := n0_; clear n0_; (try clear hb); (try clear hb2); (try clear hk); (try clear hi)) | ((with_reducible refine gate_callee (f := 12) rfl ?_); refine goesL_ (some 16) rfl rfl Tryd.func12 (by kernel_rfl) rfl #[.slice A0 l0.length c0, .string a1] rfl (by (try simp only [List.map_toArray, List.map_cons, List.map_nil]); first | done | rfl | (simp only [List.length_drop, List.length_take]; rfl)) ?_; (with_reducible refine (filter_Takes.calls k _ _ l0 a1 t102 t103 _ ?side1 ?side2 A4.out).mono ?_); (case side1 => repeat (first | exact (Kd.C_below HR0.out HB.out) | (with_reducible refine Kd.C_alloc ?_ _) | (with_reducible refine Kd.C_drewN ?_ _) | (with_reducible refine Kd.C_drew ?_))); (case side2 => exact HC0.out); rintro e w10 ⟨rfl, hb⟩; refine ⟨_, rfl, ?_⟩; have n0_ := Aside0.mk (below_step (by repeat (first | (with_reducible first | exact HB.out | apply below_alloc | apply pw_below_drewN | apply below_drew1) | exact HB.out)) hb); clear HB; have HB := n0_; clear n0_; (try clear hb); (try clear hb2); (try clear hk); (try clear hi)) | ((with_reducible refine gate_callee (f := 13) rfl ?_); refine goesL_ (some 20) rfl rfl Tryd.func13 (by kernel_rfl) rfl #[.slice A0 l0.length c0] rfl (by (try simp only [List.map_toArray, List.map_cons, List.map_nil]); first | done | rfl | (simp only [List.length_drop, List.length_take]; rfl)) ?_; (with_reducible refine (creelref_RulesFault.calls k _ _ l0 t104 _ ?side1 ?side2 A5.out).mono ?_); (case side1 => repeat (first | exact (Kd.C_below HR0.out HB.out) | (with_reducible refine Kd.C_alloc ?_ _) | (with_reducible refine Kd.C_drewN ?_ _) | (with_reducible refine Kd.C_drew ?_))); (case side2 => exact HC0.out); rintro e w11 ⟨rfl, hb⟩; refine ⟨_, rfl, ?_⟩; have n0_ := Aside0.mk (below_step (by repeat (first | (with_reducible first | exact HB.out | apply below_alloc | apply pw_below_drewN | apply below_drew1) | exact HB.out)) hb); clear HB; have HB := n0_; clear n0_; (try clear hb); (try clear hb2); (try clear hk); (try clear hi)) | ((with_reducible refine gate_callee (f := 14) rfl ?_); refine goesL_ (some 24) rfl rfl Tryd.func14 (by kernel_rfl) rfl #[.slice A0 l0.length c0, .string a1] rfl (by (try simp only [List.map_toArray, List.map_cons, List.map_nil]); first | done | rfl | (simp only [List.length_drop, List.length_take]; rfl)) ?_; (with_reducible refine (creelref_RulesTake.calls k _ _ l0 a1 t105 t106 _ ?side1 ?side2 A6.out).mono ?_); (case side1 => repeat (first | exact (Kd.C_below HR0.out HB.out) | (with_reducible refine Kd.C_alloc ?_ _) | (with_reducible refine Kd.C_drewN ?_ _) | (with_reducible refine Kd.C_drew ?_))); (case side2 => exact HC0.out); rintro e w12 ⟨rfl, hb⟩; refine ⟨_, rfl, ?_⟩; have n0_ := Aside0.mk (below_step (by repeat (first | (with_reducible first | exact HB.out | apply below_alloc | apply pw_below_drewN | apply below_drew1) | exact HB.out)) hb); clear HB; have HB := n0_; clear n0_; (try clear hb); (try clear hb2); (try clear hk); (try clear hi)))
   go_ret
   exact ⟨by first | rfl | (simp [errW_none, errW_some] <;> rfl) | (simp [*, errW_none, errW_some] <;> rfl), by repeat (first | (with_reducible first | exact HB.out | apply below_alloc | apply pw_below_drewN | apply below_drew1) | exact HB.out)⟩
  ·rw [if_neg c8] at H
   have c8b0 : (t102 == t105) = false := by simpa using c8
   (try (have c8b1 : decide (t102 = t105) = false := by simpa using c8))
   (try (have c8b2 : (t102 == t105) = false := by simpa using c8))
   (try (have c8b3 : ¬ (t102 = t105) := by simpa using c8))
   clear c8
   obtain rfl := Option.some.inj H
   go_enter Tryd.func4, Tryd.ntmps4
   go_wp2_with (first | ((with_reducible refine gate_callee (f := 11) rfl ?_); refine goesL_ (some 12) rfl rfl Tryd.func11 (by kernel_rfl) rfl #[.slice A0 l0.length c0] rfl (by (try simp only [List.map_toArray, List.map_cons, List.map_nil]); first | done | rfl | (simp only [List.length_drop, List.length_take]; rfl)) ?_; (with_reducible refine (filter_Check.calls k _ _ l0 t101 _ ?side1 ?side2 A3.out).mono ?_); (case side1 => repeat (first | exact HR0.out | (with_reducible refine Kd.C_alloc ?_ _) | (with_reducible refine Kd.C_drewN ?_ _) | (with_reducible refine Kd.C_drew ?_))); (case side2 => exact HC0.out); rintro e w13 ⟨rfl, hb⟩; refine ⟨_, rfl, ?_⟩; have n0_ := Aside0.mk (below_step (by repeat (first | (with_reducible first | exact HB.out | apply below_alloc | apply pw_below_drewN | apply below_drew1) | exact HB.out)) hb); clear HB; have HB := n0_; clear n0_; (try clear hb); (try clear hb2); (try clear hk); (try clear hi)) | ((with_reducible refine gate_callee (f := 12) rfl ?_); refine goesL_ (some 16) rfl rfl Tryd.func12 (by kernel_rfl) rfl #[.slice A0 l0.length c0, .string a1] rfl (by (try simp only [List.map_toArray, List.map_cons, List.map_nil]); first | done | rfl | (simp only [List.length_drop, List.length_take]; rfl)) ?_; (with_reducible refine (filter_Takes.calls k _ _ l0 a1 t102 t103 _ ?side1 ?side2 A4.out).mono ?_); (case side1 => repeat (first | exact (Kd.C_below HR0.out HB.out) | (with_reducible refine Kd.C_alloc ?_ _) | (with_reducible refine Kd.C_drewN ?_ _) | (with_reducible refine Kd.C_drew ?_))); (case side2 => exact HC0.out); rintro e w14 ⟨rfl, hb⟩; refine ⟨_, rfl, ?_⟩; have n0_ := Aside0.mk (below_step (by repeat (first | (with_reducible first | exact HB.out | apply below_alloc | apply pw_below_drewN | apply below_drew1) | exact HB.out)) hb); clear HB; have HB := n0_; clear n0_; (try clear hb); (try clear hb2); (try clear hk); (try clear hi)) | ((with_reducible refine gate_callee (f := 13) rfl ?_); refine goesL_ (some 20) rfl rfl Tryd.func13 (by kernel_rfl) rfl #[.slice A0 l0.length c0] rfl (by (try simp only [List.map_toArray, List.map_cons, List.map_nil]); first | done | rfl | (simp only [List.length_drop, List.length_take]; rfl)) ?_; (with_reducible refine (creelref_RulesFault.calls k _ _ l0 t104 _ ?side1 ?side2 A5.out).mono ?_); (case side1 => repeat (first | exact (Kd.C_below HR0.out HB.out) | (with_reducible refine Kd.C_alloc ?_ _) | (with_reducible refine Kd.C_drewN ?_ _) | (with_reducible refine Kd.C_drew ?_))); (case side2 => exact HC0.out); rintro e w15 ⟨rfl, hb⟩; refine ⟨_, rfl, ?_⟩; have n0_ := Aside0.mk (below_step (by repeat (first | (with_reducible first | exact HB.out | apply below_alloc | apply pw_below_drewN | apply below_drew1) | exact HB.out)) hb); clear HB; have HB := n0_; clear n0_; (try clear hb); (try clear hb2); (try clear hk); (try clear hi)) | ((with_reducible refine gate_callee (f := 14) rfl ?_); refine goesL_ (some 24) rfl rfl Tryd.func14 (by kernel_rfl) rfl #[.slice A0 l0.length c0, .string a1] rfl (by (try simp only [List.map_toArray, List.map_cons, List.map_nil]); first | done | rfl | (simp only [List.length_drop, List.length_take]; rfl)) ?_; (with_reducible refine (creelref_RulesTake.calls k _ _ l0 a1 t105 t106 _ ?side1 ?side2 A6.out).mono ?_); (case side1 => repeat (first | exact (Kd.C_below HR0.out HB.out) | (with_reducible refine Kd.C_alloc ?_ _) | (with_reducible refine Kd.C_drewN ?_ _) | (with_reducible refine Kd.C_drew ?_))); (case side2 => exact HC0.out); rintro e w16 ⟨rfl, hb⟩; refine ⟨_, rfl, ?_⟩; have n0_ := Aside0.mk (below_step (by repeat (first | (with_reducible first | exact HB.out | apply below_alloc | apply pw_below_drewN | apply below_drew1) | exact HB.out)) hb); clear HB; have HB := n0_; clear n0_; (try clear hb); (try clear hb2); (try clear hk); (try clear hi)))
   go_ret
   exact ⟨by first | rfl | (simp [errW_none, errW_some] <;> rfl) | (simp [*, errW_none, errW_some] <;> rfl), by repeat (first | (with_reducible first | exact HB.out | apply below_alloc | apply pw_below_drewN | apply below_drew1) | exact HB.out)⟩
 ·rw [if_neg c7] at H
  have c7b0 : (t101 == t104) = false := beq_eq_false_iff_ne.mpr c7
  have c7b1 : (t101 != t104) = true := bne_iff_ne.mpr c7
  obtain rfl := Option.some.inj H
  go_enter Tryd.func4, Tryd.ntmps4
  go_wp2_with (first | ((with_reducible refine gate_callee (f := 11) rfl ?_); refine goesL_ (some 12) rfl rfl Tryd.func11 (by kernel_rfl) rfl #[.slice A0 l0.length c0] rfl (by (try simp only [List.map_toArray, List.map_cons, List.map_nil]); first | done | rfl | (simp only [List.length_drop, List.length_take]; rfl)) ?_; (with_reducible refine (filter_Check.calls k _ _ l0 t101 _ ?side1 ?side2 A3.out).mono ?_); (case side1 => repeat (first | exact HR0.out | (with_reducible refine Kd.C_alloc ?_ _) | (with_reducible refine Kd.C_drewN ?_ _) | (with_reducible refine Kd.C_drew ?_))); (case side2 => exact HC0.out); rintro e w17 ⟨rfl, hb⟩; refine ⟨_, rfl, ?_⟩; have n0_ := Aside0.mk (below_step (by repeat (first | (with_reducible first | exact HB.out | apply below_alloc | apply pw_below_drewN | apply below_drew1) | exact HB.out)) hb); clear HB; have HB := n0_; clear n0_; (try clear hb); (try clear hb2); (try clear hk); (try clear hi)) | ((with_reducible refine gate_callee (f := 12) rfl ?_); refine goesL_ (some 16) rfl rfl Tryd.func12 (by kernel_rfl) rfl #[.slice A0 l0.length c0, .string a1] rfl (by (try simp only [List.map_toArray, List.map_cons, List.map_nil]); first | done | rfl | (simp only [List.length_drop, List.length_take]; rfl)) ?_; (with_reducible refine (filter_Takes.calls k _ _ l0 a1 t102 t103 _ ?side1 ?side2 A4.out).mono ?_); (case side1 => repeat (first | exact (Kd.C_below HR0.out HB.out) | (with_reducible refine Kd.C_alloc ?_ _) | (with_reducible refine Kd.C_drewN ?_ _) | (with_reducible refine Kd.C_drew ?_))); (case side2 => exact HC0.out); rintro e w18 ⟨rfl, hb⟩; refine ⟨_, rfl, ?_⟩; have n0_ := Aside0.mk (below_step (by repeat (first | (with_reducible first | exact HB.out | apply below_alloc | apply pw_below_drewN | apply below_drew1) | exact HB.out)) hb); clear HB; have HB := n0_; clear n0_; (try clear hb); (try clear hb2); (try clear hk); (try clear hi)) | ((with_reducible refine gate_callee (f := 13) rfl ?_); refine goesL_ (some 20) rfl rfl Tryd.func13 (by kernel_rfl) rfl #[.slice A0 l0.length c0] rfl (by (try simp only [List.map_toArray, List.map_cons, List.map_nil]); first | done | rfl | (simp only [List.length_drop, List.length_take]; rfl)) ?_; (with_reducible refine (creelref_RulesFault.calls k _ _ l0 t104 _ ?side1 ?side2 A5.out).mono ?_); (case side1 => repeat (first | exact (Kd.C_below HR0.out HB.out) | (with_reducible refine Kd.C_alloc ?_ _) | (with_reducible refine Kd.C_drewN ?_ _) | (with_reducible refine Kd.C_drew ?_))); (case side2 => exact HC0.out); rintro e w19 ⟨rfl, hb⟩; refine ⟨_, rfl, ?_⟩; have n0_ := Aside0.mk (below_step (by repeat (first | (with_reducible first | exact HB.out | apply below_alloc | apply pw_below_drewN | apply below_drew1) | exact HB.out)) hb); clear HB; have HB := n0_; clear n0_; (try clear hb); (try clear hb2); (try clear hk); (try clear hi)) | ((with_reducible refine gate_callee (f := 14) rfl ?_); refine goesL_ (some 24) rfl rfl Tryd.func14 (by kernel_rfl) rfl #[.slice A0 l0.length c0, .string a1] rfl (by (try simp only [List.map_toArray, List.map_cons, List.map_nil]); first | done | rfl | (simp only [List.length_drop, List.length_take]; rfl)) ?_; (with_reducible refine (creelref_RulesTake.calls k _ _ l0 a1 t105 t106 _ ?side1 ?side2 A6.out).mono ?_); (case side1 => repeat (first | exact (Kd.C_below HR0.out HB.out) | (with_reducible refine Kd.C_alloc ?_ _) | (with_reducible refine Kd.C_drewN ?_ _) | (with_reducible refine Kd.C_drew ?_))); (case side2 => exact HC0.out); rintro e w20 ⟨rfl, hb⟩; refine ⟨_, rfl, ?_⟩; have n0_ := Aside0.mk (below_step (by repeat (first | (with_reducible first | exact HB.out | apply below_alloc | apply pw_below_drewN | apply below_drew1) | exact HB.out)) hb); clear HB; have HB := n0_; clear n0_; (try clear hb); (try clear hb2); (try clear hk); (try clear hi)))
  go_ret
  exact ⟨by first | rfl | (simp [errW_none, errW_some] <;> rfl) | (simp [*, errW_none, errW_some] <;> rfl), by repeat (first | (with_reducible first | exact HB.out | apply below_alloc | apply pw_below_drewN | apply below_drew1) | exact HB.out)⟩

end Go.Proofs.YtcbbcnmifohibaaDoor.All
end
section
namespace Go.Proofs.YtcbbcnmifohibaaDoorW.Opens
open Go.RowKit Go.ChangeShapes Go.WideShapes Go.Proofs.YtcbbcnmifohibaaDoorW.PrintWords

/-- Whatever reads as a datum of type t is a y of kind d, and good. -/
def Opens {α : Type} (P : Program) (t : TypeId) (d : Kd α) (g : α → Prop) : Prop :=
  ∀ (H : Type) (enc : TypeId × Value → H) (w : World) (fuel : Nat) (cs : List Value) (x : DataW H × List MemPlace),
    DataW.trod enc P w 0 (fun _ => true) true fuel t cs = some x → (∀ n ∈ x.1.weights P t, n ≤ reachBytes) → ∃ y, d.K w y cs ∧ g y

theorem opens_bool {P : Program} {t : TypeId} (ht : P.underlying t = some .bool) : Opens P t Kd.bool (fun _ => True) := by
  intro H enc w fuel cs x h _
  obtain ⟨a, e, _⟩ := DataW.trod_bool ht h
  exact ⟨a, e, trivial⟩
theorem opens_string {P : Program} {t : TypeId} (ht : P.underlying t = some .string) : Opens P t Kd.string (fun s => s.size ≤ 140737488351232) := by
  intro H enc w fuel cs x h hw
  obtain ⟨a, e, hx, _⟩ := DataW.trod_string ht h
  refine ⟨a, e, ?_⟩
  have := hw a.data.toList.length (by rw [hx]; simp [DataW.weights])
  rw [Array.length_toList] at this
  exact this

theorem list_of {α : Type} {p : Nat → α → Prop} : ∀ (n : Nat), (∀ i, i < n → ∃ y, p i y) → ∃ l : List α, l.length = n ∧ ∀ i y, l[i]? = some y → p i y
  | 0, _ => ⟨[], rfl, fun i y h => by simp at h⟩
  | n + 1, h => by
    obtain ⟨l, hl, hp⟩ := list_of n (fun i hi => h i (by omega))
    obtain ⟨y, hy⟩ := h n (by omega)
    refine ⟨l ++ [y], by simp [hl], fun i z hz => ?_⟩
    by_cases hi : i < n
    · exact hp i z (by rwa [List.getElem?_append_left (by omega)] at hz)
    · rw [List.getElem?_append_right (by omega), hl] at hz
      have e0 : i - n = 0 := by
        rcases Nat.eq_zero_or_pos (i - n) with e | e
        · exact e
        · rw [List.getElem?_eq_none (by simp; omega)] at hz
          simp at hz
      rw [e0] at hz
      have : i = n := by omega
      subst this
      simp at hz
      subst hz
      exact hy

theorem mem_weightsAll {H : Type} {P : Program} {e : TypeId} {d : DataW H} : ∀ {l : List (DataW H)}, d ∈ l → ∀ n ∈ d.weights P e, n ∈ DataW.weightsAll P e l
  | a :: l, h, n, hn => by
    simp only [DataW.weightsAll, List.mem_append]
    rcases List.mem_cons.1 h with rfl | h
    · exact .inl hn
    · exact .inr (mem_weightsAll h n hn)
  | [], h, _, _ => by simp at h

theorem opens_slice {α : Type} {P : Program} {t e : TypeId} {B : Nat} {d : Kd α} {g : α → Prop} (ht : P.underlying t = some (.slice e)) (hc : P.cellsOf e = d.sz) (hB : P.bytesOf e = B) (ho : Opens P e d g) :
    Opens P t (Kd.slice e d) (fun l => l.length * B ≤ 140737488351232 ∧ ∀ y ∈ l, g y) := by
  intro H enc w fuel cs x h hw
  rcases Go.Deep.open_slice ht h with ⟨rfl, rfl⟩ | ⟨a, len, cap, m, n, D, Pl, rfl, _, hl, hm, hmm, rfl, hel⟩
  · exact ⟨[], ⟨none, 0, rfl, Nat.le_refl _, rfl, by simp, fun h => absurd h (by simp)⟩, by simp, by simp⟩
  · have hml : len ≤ m := by
      rw [hmm]
      simp only [if_true]
      exact hl
    have key : ∀ i, i < len → ∃ y, (∃ c, c.length = d.sz ∧ d.K w y c ∧ ∀ j u, c[j]? = some u → w.cell? (a.add (i * d.sz + j)) = some u) ∧ g y := by
      intro i hi
      obtain ⟨c, h1, h2⟩ := hel i (by omega)
      rw [hc] at h1
      obtain ⟨_, hlen, hcell⟩ := World.cells?_some h1
      obtain ⟨y, hK, hg⟩ := ho H enc w n c (D i, Pl i) h2 (fun q hq => hw q (by
        simp only [DataW.weights, ht, List.mem_cons, List.mem_append]
        exact .inr (.inl (mem_weightsAll (List.mem_map.2 ⟨i, List.mem_range.2 hi, rfl⟩) q hq))))
      refine ⟨y, ⟨c, hlen, hK, fun j u hu => ?_⟩, hg⟩
      have hj : j < d.sz := by
        rw [← hlen]
        exact (List.getElem?_eq_some_iff.1 hu).1
      rw [← Go.Deep.add_add, hcell j hj, hu]
    obtain ⟨l, hlen, hp⟩ := list_of len key
    subst hlen
    refine ⟨l, ⟨some a, cap, rfl, hl, rfl, ?_, fun _ => ⟨a, rfl, fun j p hj => ?_⟩⟩, ?_, ?_⟩
    · unfold maxLen at hm
      omega
    · obtain ⟨⟨c, h1, h2, h3⟩, _⟩ := hp j p hj
      exact ⟨c, h1, h2, h3⟩
    · have := hw ((l.length + (m - l.length)) * P.bytesOf e) (by simp [DataW.weights, ht])
      rw [hB] at this
      exact Nat.le_trans (Nat.mul_le_mul_right _ (by omega)) this
    · intro y hy
      obtain ⟨i, hi⟩ := List.mem_iff_getElem?.1 hy
      exact (hp i y hi).2

/-- The fields of a struct, from one of them on. -/
def OpensF {α : Type} (P : Program) (fs : List Field) (off : Nat) (d : Kd α) (g : α → Prop) : Prop :=
  ∀ (H : Type) (enc : TypeId × Value → H) (w : World) (n : Nat) (cs : List Value) (xs : List (DataW H × List MemPlace)),
    cs.length = off + d.sz → xs.length = fs.length → (∀ (i : Nat) (f : Field), fs[i]? = some f → DataW.trod enc P w 0 (fun _ => true) true n f.type ((cs.drop f.offset).take (P.cellsOf f.type)) = xs[i]?) →
    (∀ m ∈ DataW.weightsEach P (fs.map (·.type)) (xs.map (·.1)), m ≤ reachBytes) → ∃ y, d.K w y (cs.drop off) ∧ g y

theorem opensF_one {α : Type} {P : Program} {f : Field} {off : Nat} {d : Kd α} {g : α → Prop} (hoff : f.offset = off) (hc : P.cellsOf f.type = d.sz) (ho : Opens P f.type d g) : OpensF P [f] off d g := by
  intro H enc w n cs xs hl hx hf hw
  match xs, hx with
  | [x], _ =>
    have h := hf 0 f rfl
    rw [hoff, hc, List.take_of_length_le (by rw [List.length_drop]; omega)] at h
    exact ho H enc w n (cs.drop off) x h (fun m hm => hw m (by simp only [List.map_cons, List.map_nil, DataW.weightsEach, List.append_nil]; exact hm))

theorem opensF_cons {α β : Type} {P : Program} {f : Field} {fs : List Field} {off off2 : Nat} {d1 : Kd α} {d2 : Kd β} {g1 : α → Prop} {g2 : β → Prop} (hoff : f.offset = off) (hc : P.cellsOf f.type = d1.sz) (ho : Opens P f.type d1 g1)
    (h2 : off + d1.sz = off2) (hr : OpensF P fs off2 d2 g2) : OpensF P (f :: fs) off (Kd.pair d1 d2) (fun p => g1 p.1 ∧ g2 p.2) := by
  intro H enc w n cs xs hl hx hf hw
  match xs, hx with
  | x :: xs, hx =>
    subst h2
    have hl' : cs.length = off + (d1.sz + d2.sz) := hl
    have h := hf 0 f rfl
    rw [hoff, hc] at h
    obtain ⟨y1, k1, q1⟩ := ho H enc w n _ x h (fun m hm => hw m (by simp only [List.map_cons, DataW.weightsEach, List.mem_append]; exact .inl hm))
    obtain ⟨y2, k2, q2⟩ := hr H enc w n cs xs (by omega) (by simpa using hx) (fun i f' hi => by simpa using hf (i + 1) f' (by simpa using hi)) (fun m hm => hw m (by simp only [List.map_cons, DataW.weightsEach, List.mem_append]; exact .inr hm))
    refine ⟨(y1, y2), ⟨_, _, ?_, k1, k2⟩, q1, q2⟩
    rw [← List.drop_drop, List.take_append_drop]

theorem opens_struct {α : Type} {P : Program} {t : TypeId} {fs : Array Field} {d : Kd α} {g : α → Prop} (ht : P.underlying t = some (.struct fs)) (hc : P.cellsOf t = d.sz) (hF : OpensF P fs.toList 0 d g) : Opens P t d g := by
  intro H enc w fuel cs x h hw
  obtain ⟨xs, n, _, rfl, hl, hlen, hf⟩ := DataW.trod_struct ht h
  have := hF H enc w n cs xs (by omega) (by simpa using hlen) (fun i f hi => hf i f (by simpa using hi)) (fun m hm => hw m (by simpa only [DataW.weights, ht] using hm))
  simpa using this

theorem opens_iso {α β : Type} {P : Program} {t : TypeId} {d : Kd α} {g : α → Prop} {f : β → α} (inv : α → β) (hinv : ∀ y, f (inv y) = y) (ho : Opens P t d g) : Opens P t (Kd.iso d f) (fun x => g (f x)) := by
  intro H enc w fuel cs x h hw
  obtain ⟨y, hK, hg⟩ := ho H enc w fuel cs x h hw
  exact ⟨inv y, by show d.K w (f (inv y)) cs; rw [hinv]; exact hK, by show g (f (inv y)); rw [hinv]; exact hg⟩

/-- At a row's place. -/
theorem opens_at {α : Type} {P : Program} {t : TypeId} {d : Kd α} {g : α → Prop} (ho : Opens P t d g) {H : Type} {enc : TypeId × Value → H} {w : World} {v : Value} {x : DataW H} {ps : List MemPlace} {ts : List TypeId} {ds : List (DataW H)} {j : Nat}
    (hsz : (DataW.weightsEach P ts ds).all (· ≤ reachBytes) = true) (ht : ts[j]? = some t) (hd : ds[j]? = some x) (h : DataW.Trod enc P w 0 (fun _ => true) true t v x ps) : ∃ y, d.K w y v.cells.toList ∧ g y := by
  obtain ⟨fuel, hf⟩ := h
  exact ho H enc w fuel _ (x, ps) hf (fun n hn => by simpa using List.all_eq_true.1 hsz n (DataW.weights_mem_each ht hd n hn))
end Go.Proofs.YtcbbcnmifohibaaDoorW.Opens
end
section
namespace Go.Proofs.YtcbbcnmifohibaaDoor.GFilterTakes
open Go.RowKit Go.Proofs.YtcbbcnmifohibaaDoor.All Go.Proofs.YtcbbcnmifohibaaDoorW.PrintWords Go.Proofs.YtcbbcnmifohibaaDoorW.PrintLast Go.Proofs.YtcbbcnmifohibaaDoorW.Opens
set_option linter.unusedVariables false
def good58 (x : S58) : Prop := (True) ∧ (x.f1.size ≤ 140737488351232)
theorem opens58 : Opens Tryd.prog 58 k58 good58 := opens_iso (f := (fun x : S58 => (x.f0, x.f1))) (fun p => ⟨p.1, p.2⟩) (fun _ => rfl) (opens_struct Tryd.underlying58 (by kernel_rfl) (opensF_cons (off2 := 1) rfl (by kernel_rfl) (opens_bool Tryd.underlying4) rfl (opensF_one rfl (by kernel_rfl) (opens_string Tryd.underlying9))))

/-- What is to be proved of the plain functions. -/
def Pure : Prop := ∀ (l0 : List S58) (a1 : ByteArray), (l0.length * 24 ≤ 140737488351232 ∧ ∀ y ∈ l0, good58 y) → (a1.size ≤ 140737488351232) → ∃ k, creellaw_FilterTakes.f k l0 a1 = some true
theorem walk (P : Pure) (l0 : List S58) (a1 : ByteArray) (w : World) (g0 : l0.length * 24 ≤ 140737488351232 ∧ ∀ y ∈ l0, good58 y) (g1 : a1.size ≤ 140737488351232) {A0 : Option Addr} {c0 : Nat} (r0 : Kd.C k58 w A0 l0.length l0) (hc0 : l0.length ≤ c0) :
    Calls Tryd.prog 4 #[.slice A0 l0.length c0, .string a1] w fun e w' => e = .returned (.bool true) ∧ Below w.heap.size w w' := by
  obtain ⟨k, h⟩ := P l0 a1 g0 g1
  refine (creellaw_FilterTakes.calls k A0 c0 l0 a1 true w r0 hc0 h).mono ?_
  rintro e w' ⟨rfl, hd⟩
  exact ⟨rfl, hd⟩
end Go.Proofs.YtcbbcnmifohibaaDoor.GFilterTakes
end
section
namespace Go.Proofs.YtcbbcnmifohibaaDoorW.PureBase
open Go.RowKit Go.Proofs.YtcbbcnmifohibaaDoorW.PrintWords

theorem wrap_is {x : Int} (h0 : -9223372036854775808 ≤ x) (h : x ≤ 9223372036854775807) : wrap64 x = x := by unfold wrap64; omega
theorem toList_data (s : ByteArray) : s.toList = s.data.toList := ByteArray.toList_eq s

/-- The byte at a place, as a list's. -/
theorem bt_get (s : ByteArray) (i : Nat) (h : i < s.size) : bt s i = ((s.data.toList[i]'(by simpa using h)).toNat : Int) := by
  unfold bt
  rw [dif_pos (by simpa using h)]
  simp
  rfl
theorem bt_eq_iff (s : ByteArray) (i : Nat) (h : i < s.size) (c : Int) (c0 : 0 ≤ c) (c1 : c ≤ 255) : bt s i = c ↔ s.data.toList[i]? = some c.toNat.toUInt8 := by
  rw [bt_get s i h, List.getElem?_eq_getElem (by simpa using h)]
  simp only [Option.some.injEq]
  constructor
  · intro e
    rw [← e]
    simp
  · intro e
    rw [e]
    simp
    omega
theorem size_list (s : ByteArray) : s.data.toList.length = s.size := by simp
theorem of_list (s : ByteArray) : (⟨s.data.toList.toArray⟩ : ByteArray) = s := by simp
theorem ext_list {s t : ByteArray} (h : s.data.toList = t.data.toList) : s = t := by
  rw [← of_list s, ← of_list t, h]
/-- Is a byte among a string's bytes? -/
theorem mem_bt (s : ByteArray) (c : Int) (c0 : 0 ≤ c) (c1 : c ≤ 255) : (∃ j : Int, 0 ≤ j ∧ j < s.size ∧ bt s j = c) ↔ s.data.toList.contains c.toNat.toUInt8 = true := by
  rw [List.contains_iff_mem]
  constructor
  · rintro ⟨j, h0, h1, h2⟩
    obtain ⟨i, rfl⟩ := Int.eq_ofNat_of_zero_le h0
    have := (bt_eq_iff s i (by omega) c c0 c1).1 h2
    exact List.mem_of_getElem? this
  · intro h
    obtain ⟨i, hi, he⟩ := List.mem_iff_getElem.1 h
    have hs : i < s.size := by simpa using hi
    refine ⟨i, by omega, by omega, ?_⟩
    rw [bt_eq_iff s i hs c c0 c1, List.getElem?_eq_getElem hi, he]

theorem index_ge (l : List UInt8) (c : UInt8) : decide (Lib.indexByte l c ≥ 0) = l.contains c := by
  rw [Lib.contains_iff_indexByte]

/-- Rounds: what is told at some number of rounds and is kept by more. -/
theorem Ev.at_ {α : Type} {g : Nat → Option α} {r : α} (h : Ev g r) : ∃ K, ∀ k, K ≤ k → g k = some r := h
theorem Ev.from_ {α : Type} {g : Nat → Option α} {r : α} (K : Nat) (h : ∀ k, K ≤ k → g k = some r) : Ev g r := ⟨K, h⟩
theorem Ev.const {α : Type} {o : Option α} {r : α} (h : o = some r) : Ev (fun _ => o) r := ⟨0, fun _ _ => h⟩
theorem Ev.ifp {α : Type} {c : Prop} [Decidable c] {g f : Nat → Option α} {r : α} (hc : c) (h : Ev g r) : Ev (fun k => if c then g k else f k) r := by
  obtain ⟨K, hk⟩ := h
  exact ⟨K, fun k h => (if_pos hc).trans (hk k h)⟩
theorem Ev.ifn {α : Type} {c : Prop} [Decidable c] {g f : Nat → Option α} {r : α} (hc : ¬ c) (h : Ev f r) : Ev (fun k => if c then g k else f k) r := by
  obtain ⟨K, hk⟩ := h
  exact ⟨K, fun k h => (if_neg hc).trans (hk k h)⟩
end Go.Proofs.YtcbbcnmifohibaaDoorW.PureBase
end
section
namespace Go.Proofs.YtcbbcnmifohibaaDoor.All
open Go.RowKit Go.Proofs.YtcbbcnmifohibaaDoorW.PrintWords Go.Proofs.YtcbbcnmifohibaaDoorW.PrintLast Go.Proofs.YtcbbcnmifohibaaDoorW.PrintMore
open Go.Proofs.YtcbbcnmifohibaaDoorW.Mine
attribute [local go_sem] gtr_string leq_string geq_string
attribute [local go_sem] max2_int min2_int max_two min_two max_three min_three max_four min_four   -- for this text's walks alone
set_option linter.unusedVariables false
set_option linter.unusedSimpArgs false

/-! ### strings_LastIndexByte: function 72 -/
def strings_LastIndexByte.f (a0 : ByteArray) (a1 : Int) : Option Int := if a0.size < 4611686018427387904 then some (Lib.lastIndexByte a0 a1) else none
theorem strings_LastIndexByte.calls (a0 : ByteArray) (a1 : Int) (r : Int) (w : World) (h : strings_LastIndexByte.f a0 a1 = some r) :
  Calls Tryd.prog 72 #[.string a0, .int .u8 a1] w fun e w' => e = .returned (.int .i64 r) ∧ Drawn0 w w' := by
 unfold strings_LastIndexByte.f at h
 split at h
 ·rename_i hc
  obtain rfl := Option.some.inj h
  exact (Tryd.strings_LastIndexByte a0 a1 hc w).mono fun e w' ⟨he, hw⟩ => ⟨he, by rw [hw]; exact Drawn0.refl _⟩
 ·cases h


end Go.Proofs.YtcbbcnmifohibaaDoor.All
end
section
namespace Go.Proofs.YtcbbcnmifohibaaDoor.All
open Go.RowKit Go.Proofs.YtcbbcnmifohibaaDoorW.PrintWords Go.Proofs.YtcbbcnmifohibaaDoorW.PrintLast Go.Proofs.YtcbbcnmifohibaaDoorW.PrintMore
open Go.Proofs.YtcbbcnmifohibaaDoorW.Mine
attribute [local go_sem] gtr_string leq_string geq_string
attribute [local go_sem] max2_int min2_int max_two min_two max_three min_three max_four min_four   -- for this text's walks alone
set_option linter.unusedVariables false
set_option linter.unusedSimpArgs false

/-! ### creelref_PathParts: function 80 -/
def creelref_PathParts.f (k : Nat) (a0 : ByteArray) : Option (List ByteArray) := if a0.toList = ([] : List UInt8) then (some ([] : List ByteArray)) else ((creelref_parts.f k a0 47).bind fun t101 => (some t101))
theorem creelref_PathParts.mono : ∀ a0 k, LeO (creelref_PathParts.f k a0) (creelref_PathParts.f (k + 1) a0) := by
 intro a0 k
 unfold creelref_PathParts.f
 repeat' first
   | (with_reducible exact creelref_parts.mono _ _ _)
   | (with_reducible exact LeO.refl _)
   | (with_reducible exact LeO.none _)
   | (with_reducible refine LeO.ite ?_ ?_)
   | (with_reducible refine LeO.bind ?_ (fun _ => ?_))
   | exact creelref_parts.mono _ _ _
   | exact LeO.none _
   | refine LeO.ite ?_ ?_
   | refine LeO.bind ?_ (fun _ => ?_)
set_option maxHeartbeats 8000000 in
set_option maxRecDepth 100000 in
theorem creelref_PathParts.calls (k : Nat) (a0 : ByteArray) (r : List ByteArray) (w : World) (h : creelref_PathParts.f k a0 = some r) :
  Calls Tryd.prog 80 #[.string a0] w fun e w' => ∃ v0_ : Value, e = .returned (v0_) ∧ Kd.R Kd.string 9 w' w.heap.size (fun _ => True) v0_ r ∧ Below w.heap.size w w' := by
 have HB := Aside0.mk (Below.refl w.heap.size w)
 have H : (if a0.toList = ([] : List UInt8) then (some ([] : List ByteArray)) else ((creelref_parts.f k a0 47).bind fun t101 => (some t101))) = some r := h
 clear h
 by_cases c2 : a0.toList = ([] : List UInt8)
 ·rw [if_pos c2] at H
  have c2b0 : (a0.toList == ([] : List UInt8)) = true := beq_iff_eq.mpr c2
  have c2b1 : (a0.toList != ([] : List UInt8)) = false := bne_eq_false_iff_eq.mpr c2
  clear c2
  obtain rfl := Option.some.inj H
  go_enter Tryd.func80, Tryd.ntmps80
  go_wp2
  go_ret
  exact ⟨_, by first | rfl | (simp [errW_none, errW_some] <;> rfl) | (simp [*, errW_none, errW_some] <;> rfl), by first | exact Kd.R_nil _ _ _ _ _ | exact Kd.N_nil _ _ _ _ _ | exact Kd.V_nil _ _ _ _ _ | exact Kd.Q_nil _ _ _ _ _ | exact Kd.S_nil _ _ _ _ _, by repeat (first | (with_reducible first | exact HB.out | apply below_alloc | apply pw_below_drewN | apply below_drew1) | exact HB.out)⟩
 ·rw [if_neg c2] at H
  have c2b0 : (a0.toList == ([] : List UInt8)) = false := beq_eq_false_iff_ne.mpr c2
  have c2b1 : (a0.toList != ([] : List UInt8)) = true := bne_iff_ne.mpr c2
  replace H := Option.bind_eq_some_iff.mp H
  obtain ⟨t101, A30, H⟩ := H
  replace H : (some t101) = some r := H
  have A3 := Aside0.mk A30
  clear A30
  obtain rfl := Option.some.inj H
  go_enter Tryd.func80, Tryd.ntmps80
  go_wp2_with (first | ((with_reducible refine gate_callee (f := 33) rfl ?_); refine goesL_ (some 6) rfl rfl Tryd.func33 (by kernel_rfl) rfl #[.string a0, .int .u8 47] rfl (by (try simp only [List.map_toArray, List.map_cons, List.map_nil]); first | done | rfl | (simp only [List.length_drop, List.length_take]; rfl)) ?_; (with_reducible refine (creelref_parts.calls k a0 47 t101 _ A3.out).mono ?_); rintro e w4 ⟨v102, rfl, ho0, hb⟩; refine ⟨_, rfl, ?_⟩; have n0_ := Aside0.mk (Kd.R_lower ho0 (below_size (by repeat (first | (with_reducible first | exact HB.out | apply below_alloc | apply pw_below_drewN | apply below_drew1) | exact HB.out)))); have n1_ := Aside0.mk (below_step (by repeat (first | (with_reducible first | exact HB.out | apply below_alloc | apply pw_below_drewN | apply below_drew1) | exact HB.out)) hb); clear HB; have HO103 := n0_; have HB := n1_; clear n0_ n1_; (try clear hb); (try clear hb2); (try clear hk); (try clear hi); (try clear ho0)))
  go_ret
  exact ⟨_, by first | rfl | (simp [errW_none, errW_some] <;> rfl) | (simp [*, errW_none, errW_some] <;> rfl), by (with_reducible repeat (first | apply Kd.R_alloc | apply Kd.R_drewN | apply Kd.R_drew)); exact HO103.out, by repeat (first | (with_reducible first | exact HB.out | apply below_alloc | apply pw_below_drewN | apply below_drew1) | exact HB.out)⟩

end Go.Proofs.YtcbbcnmifohibaaDoor.All
end
section
namespace Go.Proofs.YtcbbcnmifohibaaDoor.All
open Go.RowKit Go.Proofs.YtcbbcnmifohibaaDoorW.PrintWords Go.Proofs.YtcbbcnmifohibaaDoorW.PrintLast Go.Proofs.YtcbbcnmifohibaaDoorW.PrintMore
open Go.Proofs.YtcbbcnmifohibaaDoorW.Mine
attribute [local go_sem] gtr_string leq_string geq_string
attribute [local go_sem] max2_int min2_int max_two min_two max_three min_three max_four min_four   -- for this text's walks alone
set_option linter.unusedVariables false
set_option linter.unusedSimpArgs false

/-! ### creelref_PathSplit: function 44 -/
def creelref_PathSplit.l0 : Nat → List ByteArray → ByteArray → Int → Option (ByteArray × ByteArray)
 | 0, _, _, _ => none
 | k + 1, x4, x5, x6 => if x6 < (wrap64 ((x4.length : Int) - 1)) then (if x6 > 0 then (if x5.size + 1 ≤ 9223372036854775807 then (if 0 ≤ x6 then (if x6 < (x4.length : Int) then (if (x5 ++ (⟨#[47]⟩ : ByteArray)).size + (rdOf ByteArray.empty x4 x6).size ≤ 9223372036854775807 then (creelref_PathSplit.l0 k x4 ((x5 ++ (⟨#[47]⟩ : ByteArray)) ++ (rdOf ByteArray.empty x4 x6)) (wrap64 (x6 + 1))) else (none)) else (none)) else (none)) else (none)) else (if 0 ≤ x6 then (if x6 < (x4.length : Int) then (if x5.size + (rdOf ByteArray.empty x4 x6).size ≤ 9223372036854775807 then (creelref_PathSplit.l0 k x4 (x5 ++ (rdOf ByteArray.empty x4 x6)) (wrap64 (x6 + 1))) else (none)) else (none)) else (none))) else (if 0 ≤ (wrap64 ((x4.length : Int) - 1)) then (if (wrap64 ((x4.length : Int) - 1)) < (x4.length : Int) then (some (x5, rdOf ByteArray.empty x4 (wrap64 ((x4.length : Int) - 1)))) else (none)) else (none))
def creelref_PathSplit.f (k : Nat) (a0 : ByteArray) : Option (ByteArray × ByteArray) := (creelref_parts.f k a0 47).bind fun t101 => (creelref_PathSplit.l0 k t101 (⟨#[]⟩ : ByteArray) 0)
theorem creelref_PathSplit.mono_l : ∀ k, (∀ y0 y1 y2, LeO (creelref_PathSplit.l0 k y0 y1 y2) (creelref_PathSplit.l0 (k + 1) y0 y1 y2))
 | 0 => fun _ _ _ r h => by simp [creelref_PathSplit.l0] at h
 | k + 1 => by
  have ih0 := creelref_PathSplit.mono_l k
  ·intro y0 y1 y2
   unfold creelref_PathSplit.l0
   repeat' first
   | (with_reducible exact ih0 _ _ _)
   | (with_reducible exact creelref_parts.mono _ _ _)
   | (with_reducible exact LeO.refl _)
   | (with_reducible exact LeO.none _)
   | (with_reducible refine LeO.ite ?_ ?_)
   | (with_reducible refine LeO.bind ?_ (fun _ => ?_))
   | exact ih0 _ _ _
   | exact creelref_parts.mono _ _ _
   | exact LeO.none _
   | refine LeO.ite ?_ ?_
   | refine LeO.bind ?_ (fun _ => ?_)
theorem creelref_PathSplit.mono : ∀ a0 k, LeO (creelref_PathSplit.f k a0) (creelref_PathSplit.f (k + 1) a0) := by
 intro a0 k
 have ih0 := creelref_PathSplit.mono_l k
 unfold creelref_PathSplit.f
 repeat' first
   | (with_reducible exact ih0 _ _ _)
   | (with_reducible exact creelref_parts.mono _ _ _)
   | (with_reducible exact LeO.refl _)
   | (with_reducible exact LeO.none _)
   | (with_reducible refine LeO.ite ?_ ?_)
   | (with_reducible refine LeO.bind ?_ (fun _ => ?_))
   | exact ih0 _ _ _
   | exact creelref_parts.mono _ _ _
   | exact LeO.none _
   | refine LeO.ite ?_ ?_
   | refine LeO.bind ?_ (fun _ => ?_)
set_option maxHeartbeats 8000000 in
set_option maxRecDepth 100000 in
theorem creelref_PathSplit.calls (k : Nat) (a0 : ByteArray) (r1 : ByteArray) (r2 : ByteArray) (w : World) (h : creelref_PathSplit.f k a0 = some (r1, r2)) :
  Calls Tryd.prog 44 #[.string a0] w fun e w' => e = .returned (.tuple #[.string r1, .string r2]) ∧ Below w.heap.size w w' := by
 have HB := Aside0.mk (Below.refl w.heap.size w)
 have H : ((creelref_parts.f k a0 47).bind fun t101 => (creelref_PathSplit.l0 k t101 (⟨#[]⟩ : ByteArray) 0)) = some (r1, r2) := h
 clear h
 replace H := Option.bind_eq_some_iff.mp H
 obtain ⟨t101, A20, H⟩ := H
 replace H : (creelref_PathSplit.l0 k t101 (⟨#[]⟩ : ByteArray) 0) = some (r1, r2) := H
 have A2 := Aside0.mk A20
 clear A20
 have H' := Aside0.mk H
 clear H
 go_enter Tryd.func44, Tryd.ntmps44
 go_wp2_with (first | (go_at_call 33; (with_reducible refine (creelref_parts.calls k a0 47 t101 _ A2.out).mono ?_); rintro e w3 ⟨v102, rfl, ho0, hb⟩; have n0_ := Aside0.mk (Kd.R_lower ho0 (below_size (by repeat (first | (with_reducible first | exact HB.out | apply below_alloc | apply pw_below_drewN | apply below_drew1) | exact HB.out)))); have n1_ := Aside0.mk (below_step (by repeat (first | (with_reducible first | exact HB.out | apply below_alloc | apply pw_below_drewN | apply below_drew1) | exact HB.out)) hb); clear HB; have HO103 := n0_; have HB := n1_; clear n0_ n1_; (try clear hb); (try clear hb2); (try clear hk); (try clear hi); (try clear ho0)))
 repeat (go_quiet (first | (go_at_call 33; (with_reducible refine (creelref_parts.calls k a0 47 t101 _ A2.out).mono ?_); rintro e w3 ⟨v102, rfl, ho0, hb⟩; have n0_ := Aside0.mk (Kd.R_lower ho0 (below_size (by repeat (first | (with_reducible first | exact HB.out | apply below_alloc | apply pw_below_drewN | apply below_drew1) | exact HB.out)))); have n1_ := Aside0.mk (below_step (by repeat (first | (with_reducible first | exact HB.out | apply below_alloc | apply pw_below_drewN | apply below_drew1) | exact HB.out)) hb); clear HB; have HO103 := n0_; have HB := n1_; clear n0_ n1_; (try clear hb); (try clear hb2); (try clear hk); (try clear hi); (try clear ho0))); try go_wp2_with (first | (go_at_call 33; (with_reducible refine (creelref_parts.calls k a0 47 t101 _ A2.out).mono ?_); rintro e w3 ⟨v102, rfl, ho0, hb⟩; have n0_ := Aside0.mk (Kd.R_lower ho0 (below_size (by repeat (first | (with_reducible first | exact HB.out | apply below_alloc | apply pw_below_drewN | apply below_drew1) | exact HB.out)))); have n1_ := Aside0.mk (below_step (by repeat (first | (with_reducible first | exact HB.out | apply below_alloc | apply pw_below_drewN | apply below_drew1) | exact HB.out)) hb); clear HB; have HO103 := n0_; have HB := n1_; clear n0_ n1_; (try clear hb); (try clear hb2); (try clear hk); (try clear hi); (try clear ho0))))
 go_loopg [5, 6] k (fun kq v5 v6 w' => ∃ (x5_1 : ByteArray) (x6_1 : Int), v5 = .string x5_1 ∧ v6 = .int .i64 x6_1 ∧ Aside0 (creelref_PathSplit.l0 kq t101 x5_1 x6_1 = some (r1, r2)) ∧ Aside0 (kq ≤ k) ∧ Aside0 (Kd.R Kd.string 9 w' w.heap.size (fun _ => True) v102 t101) ∧ Aside0 (Below w.heap.size w w'))
 case atStart => exact ⟨((⟨#[]⟩ : ByteArray)), (0), (by first | rfl | (simp; done) | (simp [*]; done)), (by first | rfl | (simp; done) | (simp [*]; done)), H', ⟨Nat.le_refl _⟩, ⟨by (with_reducible repeat (first | apply Kd.R_alloc | apply Kd.R_drewN | apply Kd.R_drew)); exact HO103.out⟩, ⟨by repeat (first | (with_reducible first | exact HB.out | apply below_alloc | apply pw_below_drewN | apply below_drew1) | exact HB.out)⟩⟩
 case round =>
  clear H'
  try clear p2
  obtain ⟨x5_1, x6_1, rfl, rfl, HA, HK1, HO_4, HB⟩ := hrel
  cases gk with
  | zero => exact absurd HA.out (by simp [creelref_PathSplit.l0])
  | succ k1 =>
   have H := HA.out
   clear HA
   simp only [creelref_PathSplit.l0] at H
   by_cases c4 : x6_1 < (wrap64 ((t101.length : Int) - 1))
   ·rw [if_pos c4] at H
    have c4b0 : decide (x6_1 < (wrap64 ((t101.length : Int) - 1))) = true := decide_eq_true c4
    clear c4
    by_cases c5 : x6_1 > 0
    ·rw [if_pos c5] at H
     have c5b0 : decide (0 < x6_1) = true := decide_eq_true c5
     clear c5
     by_cases c6 : x5_1.size + 1 ≤ 9223372036854775807
     ·rw [if_pos c6] at H
      have c6b0 := eq_true c6
      have c6b1 : decide (x5_1.size + 1 ≤ 9223372036854775807) = true := decide_eq_true c6
      try have c6b2 : (9223372036854775807 < x5_1.size + 1) = False := eq_false (Nat.not_lt.2 c6)
      by_cases c7 : 0 ≤ x6_1
      ·rw [if_pos c7] at H
       have c7b0 : decide (0 ≤ x6_1) = true := decide_eq_true c7
       clear c7
       by_cases c8 : x6_1 < (t101.length : Int)
       ·rw [if_pos c8] at H
        have c8b0 : decide (x6_1 < (t101.length : Int)) = true := decide_eq_true c8
        clear c8
        by_cases c9 : (x5_1 ++ (⟨#[47]⟩ : ByteArray)).size + (rdOf ByteArray.empty t101 x6_1).size ≤ 9223372036854775807
        ·rw [if_pos c9] at H
         have c9b0 := eq_true c9
         have c9b1 : decide ((x5_1 ++ (⟨#[47]⟩ : ByteArray)).size + (rdOf ByteArray.empty t101 x6_1).size ≤ 9223372036854775807) = true := decide_eq_true c9
         try have c9b2 : (9223372036854775807 < (x5_1 ++ (⟨#[47]⟩ : ByteArray)).size + (rdOf ByteArray.empty t101 x6_1).size) = False := eq_false (Nat.not_lt.2 c9)
         have H' := Aside0.mk H
         clear H
         obtain ⟨Ao10, co10, eo10⟩ := Kd.R_slice HO_4.out
         subst eo10
         have p104 : 0 ≤ (x6_1 : Int) := of_decide_eq_true (by first | (with_reducible assumption) | assumption)
         have q104 : x6_1 < (t101.length : Int) := of_decide_eq_true (by first | (with_reducible assumption) | assumption)
         obtain ⟨ad104, e104, hx104_0⟩ := Kd.at_string (Kd.R_reads' HO_4.out).2.2 x6_1 p104 q104
         cases e104
         replace p104 := eq_true p104
         replace q104 := eq_true q104
         go_wp2
         repeat (go_quiet (fail); try go_wp2)
         go_roundg k1
         case measure => have := HK1.out; omega
         case rel => exact ⟨((x5_1 ++ (⟨#[47]⟩ : ByteArray)) ++ (rdOf ByteArray.empty t101 x6_1)), (wrap64 (x6_1 + 1)), (by first | rfl | (simp; done) | (simp [*]; done)), (by first | rfl | (simp; done) | (simp [*]; done)), H', ⟨by have := HK1.out; omega⟩, ⟨by (with_reducible repeat (first | apply Kd.R_alloc | apply Kd.R_drewN | apply Kd.R_drew)); exact HO_4.out⟩, ⟨by repeat (first | (with_reducible first | exact HB.out | apply below_alloc | apply pw_below_drewN | apply below_drew1) | exact HB.out)⟩⟩
        ·rw [if_neg c9] at H
         exact absurd H (by simp)
       ·rw [if_neg c8] at H
        exact absurd H (by simp)
      ·rw [if_neg c7] at H
       exact absurd H (by simp)
     ·rw [if_neg c6] at H
      exact absurd H (by simp)
    ·rw [if_neg c5] at H
     have c5b0 : decide (0 < x6_1) = false := decide_eq_false c5
     clear c5
     by_cases c11 : 0 ≤ x6_1
     ·rw [if_pos c11] at H
      have c11b0 : decide (0 ≤ x6_1) = true := decide_eq_true c11
      clear c11
      by_cases c12 : x6_1 < (t101.length : Int)
      ·rw [if_pos c12] at H
       have c12b0 : decide (x6_1 < (t101.length : Int)) = true := decide_eq_true c12
       clear c12
       by_cases c13 : x5_1.size + (rdOf ByteArray.empty t101 x6_1).size ≤ 9223372036854775807
       ·rw [if_pos c13] at H
        have c13b0 := eq_true c13
        have c13b1 : decide (x5_1.size + (rdOf ByteArray.empty t101 x6_1).size ≤ 9223372036854775807) = true := decide_eq_true c13
        try have c13b2 : (9223372036854775807 < x5_1.size + (rdOf ByteArray.empty t101 x6_1).size) = False := eq_false (Nat.not_lt.2 c13)
        have H' := Aside0.mk H
        clear H
        obtain ⟨Ao14, co14, eo14⟩ := Kd.R_slice HO_4.out
        subst eo14
        have p105 : 0 ≤ (x6_1 : Int) := of_decide_eq_true (by first | (with_reducible assumption) | assumption)
        have q105 : x6_1 < (t101.length : Int) := of_decide_eq_true (by first | (with_reducible assumption) | assumption)
        obtain ⟨ad105, e105, hx105_0⟩ := Kd.at_string (Kd.R_reads' HO_4.out).2.2 x6_1 p105 q105
        cases e105
        replace p105 := eq_true p105
        replace q105 := eq_true q105
        go_wp2
        repeat (go_quiet (fail); try go_wp2)
        go_roundg k1
        case measure => have := HK1.out; omega
        case rel => exact ⟨(x5_1 ++ (rdOf ByteArray.empty t101 x6_1)), (wrap64 (x6_1 + 1)), (by first | rfl | (simp; done) | (simp [*]; done)), (by first | rfl | (simp; done) | (simp [*]; done)), H', ⟨by have := HK1.out; omega⟩, ⟨by (with_reducible repeat (first | apply Kd.R_alloc | apply Kd.R_drewN | apply Kd.R_drew)); exact HO_4.out⟩, ⟨by repeat (first | (with_reducible first | exact HB.out | apply below_alloc | apply pw_below_drewN | apply below_drew1) | exact HB.out)⟩⟩
       ·rw [if_neg c13] at H
        exact absurd H (by simp)
      ·rw [if_neg c12] at H
       exact absurd H (by simp)
     ·rw [if_neg c11] at H
      exact absurd H (by simp)
   ·rw [if_neg c4] at H
    have c4b0 : decide (x6_1 < (wrap64 ((t101.length : Int) - 1))) = false := decide_eq_false c4
    clear c4
    obtain ⟨ji15, hji15⟩ : ∃ j_ : Int, (wrap64 ((t101.length : Int) - 1)) = j_ := ⟨_, rfl⟩
    replace H : (if 0 ≤ (ji15) then (if (ji15) < (t101.length : Int) then (some (x5_1, rdOf ByteArray.empty t101 (ji15))) else (none)) else (none)) = some (r1, r2) := by first | (rw [hji15] at H; exact H) | (simp only [hji15] at H ⊢; exact H)
    (try rw [hji15] at c4b0)
    have hji15w : (IntKind.i64.wrap ((t101.length : Int) - 1)) = ji15 := (i64_w _).trans hji15
    by_cases c16 : 0 ≤ (ji15)
    ·rw [if_pos c16] at H
     have c16b0 : decide (0 ≤ (ji15)) = true := decide_eq_true c16
     clear c16
     by_cases c17 : (ji15) < (t101.length : Int)
     ·rw [if_pos c17] at H
      have c17b0 : decide ((ji15) < (t101.length : Int)) = true := decide_eq_true c17
      clear c17
      simp only [Option.some.injEq, Prod.mk.injEq] at H
      obtain ⟨rfl, rfl⟩ := H
      obtain ⟨Ao18, co18, eo18⟩ := Kd.R_slice HO_4.out
      subst eo18
      have p106 : 0 ≤ ((ji15) : Int) := of_decide_eq_true (by first | (with_reducible assumption) | assumption)
      have q106 : (ji15) < (t101.length : Int) := of_decide_eq_true (by first | (with_reducible assumption) | assumption)
      obtain ⟨ad106, e106, hx106_0⟩ := Kd.at_string (Kd.R_reads' HO_4.out).2.2 (ji15) p106 q106
      cases e106
      replace p106 := eq_true p106
      replace q106 := eq_true q106
      go_wp2
      repeat (go_quiet (fail); try go_wp2)
      go_ret2
      exact ⟨by first | rfl | (simp [errW_none, errW_some] <;> rfl) | (simp only [← hji15]; first | rfl | (simp [errW_none, errW_some] <;> rfl)) | (simp [*, errW_none, errW_some] <;> rfl), by repeat (first | (with_reducible first | exact HB.out | apply below_alloc | apply pw_below_drewN | apply below_drew1) | exact HB.out)⟩
     ·rw [if_neg c17] at H
      exact absurd H (by simp)
    ·rw [if_neg c16] at H
     exact absurd H (by simp)

end Go.Proofs.YtcbbcnmifohibaaDoor.All
end
section
namespace Go.Proofs.YtcbbcnmifohibaaDoor.All
open Go.RowKit Go.Proofs.YtcbbcnmifohibaaDoorW.PrintWords Go.Proofs.YtcbbcnmifohibaaDoorW.PrintLast Go.Proofs.YtcbbcnmifohibaaDoorW.PrintMore
open Go.Proofs.YtcbbcnmifohibaaDoorW.Mine
attribute [local go_sem] gtr_string leq_string geq_string
attribute [local go_sem] max2_int min2_int max_two min_two max_three min_three max_four min_four   -- for this text's walks alone
set_option linter.unusedVariables false
set_option linter.unusedSimpArgs false

/-! ### path_Up: function 42 -/
def path_Up.f (a0 : ByteArray) : Option (ByteArray) := (strings_LastIndexByte.f a0 47).bind fun t101 => (if t101 < 0 then (some (⟨#[]⟩ : ByteArray)) else (if 0 ≤ t101 then (if t101 ≤ (a0.size : Int) then (some (a0.extract 0 (t101 : Int).toNat)) else (none)) else (none)))
set_option maxHeartbeats 8000000 in
set_option maxRecDepth 100000 in
theorem path_Up.calls (a0 : ByteArray) (r : ByteArray) (w : World) (h : path_Up.f a0 = some r) :
  Calls Tryd.prog 42 #[.string a0] w fun e w' => e = .returned (.string r) ∧ Drawn0 w w' := by
 have H : ((strings_LastIndexByte.f a0 47).bind fun t101 => (if t101 < 0 then (some (⟨#[]⟩ : ByteArray)) else (if 0 ≤ t101 then (if t101 ≤ (a0.size : Int) then (some (a0.extract 0 (t101 : Int).toNat)) else (none)) else (none)))) = some r := h
 clear h
 replace H := Option.bind_eq_some_iff.mp H
 obtain ⟨t101, A20, H⟩ := H
 replace H : (if t101 < 0 then (some (⟨#[]⟩ : ByteArray)) else (if 0 ≤ t101 then (if t101 ≤ (a0.size : Int) then (some (a0.extract 0 (t101 : Int).toNat)) else (none)) else (none))) = some r := H
 have A2 := Aside0.mk A20
 clear A20
 by_cases c3 : t101 < 0
 ·rw [if_pos c3] at H
  have c3b0 : decide (t101 < 0) = true := decide_eq_true c3
  clear c3
  obtain rfl := Option.some.inj H
  go_enter Tryd.func42, Tryd.ntmps42
  go_wp2_with (first | ((with_reducible refine gate_callee (f := 72) rfl ?_); refine goesL_ (some 5) rfl rfl Tryd.func72 (by kernel_rfl) rfl #[.string a0, .int .u8 47] rfl (by (try simp only [List.map_toArray, List.map_cons, List.map_nil]); first | done | rfl | (simp only [List.length_drop, List.length_take]; rfl)) ?_; (with_reducible refine (strings_LastIndexByte.calls a0 47 t101 _ A2.out).mono ?_); rintro e w' ⟨rfl, ⟨nd, rfl⟩⟩; refine ⟨_, rfl, ?_⟩))
  go_ret
  exact ⟨by first | rfl | (simp; done) | (simp [*]; done), by repeat (first | exact Drawn0.refl _ | apply Drawn0.step)⟩
 ·rw [if_neg c3] at H
  have c3b0 : decide (t101 < 0) = false := decide_eq_false c3
  clear c3
  by_cases c4 : 0 ≤ t101
  ·rw [if_pos c4] at H
   have c4b0 := eq_true c4
   have c4b1 : decide (0 ≤ t101) = true := decide_eq_true c4
   clear c4
   by_cases c5 : t101 ≤ (a0.size : Int)
   ·rw [if_pos c5] at H
    have c5b0 := eq_true c5
    have c5b1 : decide (t101 ≤ (a0.size : Int)) = true := decide_eq_true c5
    clear c5
    obtain rfl := Option.some.inj H
    go_enter Tryd.func42, Tryd.ntmps42
    go_wp2_with (first | ((with_reducible refine gate_callee (f := 72) rfl ?_); refine goesL_ (some 5) rfl rfl Tryd.func72 (by kernel_rfl) rfl #[.string a0, .int .u8 47] rfl (by (try simp only [List.map_toArray, List.map_cons, List.map_nil]); first | done | rfl | (simp only [List.length_drop, List.length_take]; rfl)) ?_; (with_reducible refine (strings_LastIndexByte.calls a0 47 t101 _ A2.out).mono ?_); rintro e w' ⟨rfl, ⟨nd, rfl⟩⟩; refine ⟨_, rfl, ?_⟩))
    go_ret
    exact ⟨by first | rfl | (simp; done) | (simp [*]; done), by repeat (first | exact Drawn0.refl _ | apply Drawn0.step)⟩
   ·rw [if_neg c5] at H
    exact absurd H (by simp)
  ·rw [if_neg c4] at H
   exact absurd H (by simp)

end Go.Proofs.YtcbbcnmifohibaaDoor.All
end
section
namespace Go.Proofs.YtcbbcnmifohibaaDoor.Q
set_option linter.unusedVariables false
set_option linter.unusedSimpArgs false
open Go.RowKit Go.Proofs.YtcbbcnmifohibaaDoor.All Go.Proofs.YtcbbcnmifohibaaDoorW.PrintWords Go.Proofs.YtcbbcnmifohibaaDoorW.PrintLast Go.Proofs.YtcbbcnmifohibaaDoorW.PrintMore Go.Proofs.YtcbbcnmifohibaaDoorW.PureBase

-- FN creelref_has
theorem has_from (s : ByteArray) (c : Int) (hb : s.size ≤ 140737488351232) (d : Nat) : ∀ (k : Nat) (i : Int), 0 ≤ i → i ≤ s.size → (s.size : Int) - i = d → d < k →
    ∃ b, creelref_has.l0 k s c i = some b ∧ (b = true ↔ ∃ j : Int, i ≤ j ∧ j < s.size ∧ bt s j = c) := by
  induction d with
  | zero =>
    intro k i h0 h1 hd hk
    obtain ⟨k, rfl⟩ : ∃ m, k = m + 1 := ⟨k - 1, by omega⟩
    refine ⟨false, ?_, ?_⟩
    · simp only [creelref_has.l0]; rw [if_neg (by omega)]
    · constructor
      · intro h; cases h
      · rintro ⟨j, h1, h2, _⟩; omega
  | succ d ih =>
    intro k i h0 h1 hd hk
    obtain ⟨k, rfl⟩ : ∃ m, k = m + 1 := ⟨k - 1, by omega⟩
    have hlt : i < (s.size : Int) := by omega
    have hw : wrap64 (i + 1) = i + 1 := by unfold wrap64; omega
    by_cases e : bt s i = c
    · refine ⟨true, ?_, ?_⟩
      · simp only [creelref_has.l0]; rw [if_pos hlt, if_pos h0, if_pos e]
      · exact ⟨fun _ => ⟨i, by omega, hlt, e⟩, fun _ => rfl⟩
    · obtain ⟨b, hb1, hb2⟩ := ih k (i + 1) (by omega) (by omega) (by omega) (by omega)
      refine ⟨b, ?_, ?_⟩
      · simp only [creelref_has.l0]; rw [if_pos hlt, if_pos h0, hw, if_neg e]; exact hb1
      · rw [hb2]
        constructor
        · rintro ⟨j, h1, h2, h3⟩; exact ⟨j, by omega, h2, h3⟩
        · rintro ⟨j, h1, h2, h3⟩
          have : j ≠ i := by rintro rfl; exact e h3
          exact ⟨j, by omega, h2, h3⟩
theorem has_ev (s : ByteArray) (c : Int) (c0 : 0 ≤ c) (c1 : c ≤ 255) (hb : s.size ≤ 140737488351232) : Ev (fun k => creelref_has.f k s c) (s.data.toList.contains c.toNat.toUInt8) := by
  refine ⟨s.size + 1, fun k hk => ?_⟩
  obtain ⟨b, h1, h2⟩ := has_from s c hb s.size k 0 (by omega) (by omega) (by omega) (by omega)
  show creelref_has.l0 k s c 0 = _
  rw [h1]
  congr 1
  rw [Bool.eq_iff_iff, h2]
  exact mem_bt s c c0 c1
end Go.Proofs.YtcbbcnmifohibaaDoor.Q
end
section
namespace Go.Proofs.YtcbbcnmifohibaaDoor.Q
set_option linter.unusedVariables false
set_option linter.unusedSimpArgs false
open Go.RowKit Go.Proofs.YtcbbcnmifohibaaDoor.All Go.Proofs.YtcbbcnmifohibaaDoorW.PrintWords Go.Proofs.YtcbbcnmifohibaaDoorW.PrintLast Go.Proofs.YtcbbcnmifohibaaDoorW.PrintMore Go.Proofs.YtcbbcnmifohibaaDoorW.PureBase

-- USES Has
-- FN strings_IndexByte strings_Split strings_LastIndexByte creelref_parts creelref_PathFault creelref_PathParts creelref_PathSplit path_Check path_Parts path_Up path_Base
/-- The parts of a list of bytes between a byte. -/
def sp (c : UInt8) : List UInt8 → List (List UInt8)
  | [] => [[]]
  | b :: l => if b = c then [] :: sp c l else match sp c l with
    | p :: ps => (b :: p) :: ps
    | [] => [[b]]
theorem sp_ne (c : UInt8) (l : List UInt8) : sp c l ≠ [] := by
  cases l with
  | nil => simp [sp]
  | cons b l =>
    simp only [sp]
    split
    · simp
    · split <;> simp
/-- The same from the front: a first part that is under way. -/
theorem sp_go (c : UInt8) : ∀ (l p : List UInt8), c ∉ p → sp c (p ++ l) = (match sp c l with | q :: qs => (p ++ q) :: qs | [] => [p])
  | l, [], _ => by
    cases h : sp c l with
    | nil => exact absurd h (sp_ne c l)
    | cons q qs => simp [h]
  | l, a :: p, hp => by
    have ha : ¬ a = c := fun e => hp (by simp [e])
    have ih := sp_go c l p (fun h => hp (List.mem_cons_of_mem _ h))
    simp only [List.cons_append, sp]
    rw [if_neg ha, ih]
    cases h : sp c l with
    | nil => exact absurd h (sp_ne c l)
    | cons q qs => simp
theorem sp_cut (c : UInt8) (p l : List UInt8) (hp : c ∉ p) : sp c (p ++ c :: l) = p :: sp c l := by
  rw [sp_go c (c :: l) p hp]
  simp [sp]
theorem sp_whole (c : UInt8) (p : List UInt8) (hp : c ∉ p) : sp c p = [p] := by
  have := sp_go c [] p hp
  simpa [sp] using this
theorem sp_len_le (c : UInt8) (l : List UInt8) : (sp c l).length ≤ l.length + 1 := by
  induction l with
  | nil => simp [sp]
  | cons b l ih =>
    simp only [sp]
    split
    · simp; omega
    · split
      · rename_i h; rw [h] at ih; simp at ih ⊢; omega
      · simp

def mk (l : List UInt8) : ByteArray := ⟨l.toArray⟩
theorem mk_data (l : List UInt8) : (mk l).data.toList = l := rfl
theorem mk_toList (l : List UInt8) : (mk l).toList = l := by rw [toList_data, mk_data]
theorem mk_of (s : ByteArray) : mk s.data.toList = s := of_list s
theorem mk_size (l : List UInt8) : (mk l).size = l.length := rfl
/-- A path's parts. -/
def pp (s : ByteArray) : List ByteArray := (sp 47 s.data.toList).map mk

theorem index_one_none {l : List UInt8} {c : UInt8} (h : Lib.index l [c] = -1) : c ∉ l := by
  rw [Lib.index_one] at h
  intro hm
  obtain ⟨i, hi, he⟩ := List.mem_iff_getElem.1 hm
  exact Lib.indexByte_none h i (by rw [List.getElem?_eq_getElem hi, he])
theorem index_one_some {l : List UInt8} {c : UInt8} {o : Nat} (h : Lib.index l [c] = (o : Int)) : o < l.length ∧ c ∉ l.take o ∧ l = l.take o ++ c :: l.drop (o + 1) := by
  rw [Lib.index_one] at h
  obtain ⟨h1, h2⟩ := Lib.indexByte_some h
  have hlt := (List.getElem?_eq_some_iff.1 h1).1
  have he := (List.getElem?_eq_some_iff.1 h1).2
  refine ⟨hlt, ?_, ?_⟩
  · intro hm
    obtain ⟨i, hi, hie⟩ := List.mem_iff_getElem.1 hm
    rw [List.length_take] at hi
    rw [List.getElem_take] at hie
    exact h2 i (by omega) (by rw [List.getElem?_eq_getElem (by omega), hie])
  · conv => lhs; rw [← List.take_append_drop o l]
    rw [List.drop_eq_getElem_cons hlt, he]
theorem split_sp (c : UInt8) : ∀ (k : Nat) (l : List UInt8), Lib.count l [c] ≤ k → Lib.splitK [c] 0 k l = sp c l
  | 0, l, h => by
    rw [Lib.count_one] at h
    have : c ∉ l := by
      intro hm
      have := List.count_pos_iff.2 hm
      omega
    rw [sp_whole c l this]; rfl
  | k + 1, l, h => by
    unfold Lib.splitK
    by_cases hi : Lib.index l [c] = -1
    · rw [if_pos (by simpa using hi), sp_whole c l (index_one_none hi)]
    · rw [if_neg (by simpa using hi)]
      have hge := Lib.indexByte_ge l c
      rw [← Lib.index_one] at hge
      obtain ⟨o, ho⟩ := Int.eq_ofNat_of_zero_le (show 0 ≤ Lib.index l [c] by omega)
      obtain ⟨h1, h2, h3⟩ := index_one_some ho
      rw [ho]
      simp only [Int.toNat_natCast, Nat.add_zero, List.length_singleton]
      have hc : Lib.count (l.drop (o + 1)) [c] ≤ k := by
        rw [Lib.count_one] at h ⊢
        rw [h3, List.count_append, List.count_cons_self] at h
        omega
      rw [split_sp c k _ hc]
      conv => rhs; rw [h3]
      rw [sp_cut c _ _ h2]
theorem split_is (s : ByteArray) (hs : s.size < 4294967281) : strings_Split.f s ⟨#[47]⟩ = some (pp s) := by
  unfold strings_Split.f
  simp only
  rw [if_pos hs]
  congr 1
  have h := Lib.splitB_data ⟨#[47]⟩ 0 (Lib.countB s ⟨#[47]⟩) s
  rw [show (⟨#[47]⟩ : ByteArray).data.toList = [47] from rfl, split_sp 47 _ _ (Nat.le_refl _)] at h
  unfold pp
  rw [← h, List.map_map]
  conv => lhs; rw [← List.map_id (Lib.splitB ⟨#[47]⟩ 0 (Lib.countB s ⟨#[47]⟩) s)]
  apply List.map_congr_left
  intro x _
  exact (mk_of x).symm

theorem drop_cons (s : ByteArray) (i : Nat) (h : i < s.size) : ∃ b : UInt8, s.data.toList.drop i = b :: s.data.toList.drop (i + 1) ∧ (b.toNat : Int) = bt s (i : Int) ∧ s.extract i (i + 1) = mk [b] := by
  have hl : i < s.data.toList.length := by rw [size_list]; exact h
  refine ⟨s.data.toList[i], List.drop_eq_getElem_cons hl, (bt_get s i h).symm, ?_⟩
  apply ext_list
  rw [Lib.extract_data, List.drop_eq_getElem_cons hl, show i + 1 - i = 1 from by omega]
  rfl
theorem byte_eq (b : UInt8) (c : Int) (h : (b.toNat : Int) = c) (n : UInt8) : c = (n.toNat : Int) ↔ b = n := by
  rw [← h]
  constructor
  · intro e
    apply UInt8.toNat_inj.1
    omega
  · intro e
    rw [e]
theorem parts_loop (s : ByteArray) (d : Nat) : ∀ (k i : Nat) (done : List ByteArray) (cur : List UInt8), s.size - i = d → i ≤ s.size → d < k → done.length + d < 8796093022207 → cur.length + d ≤ 4611686018427387904 → s.size ≤ 4611686018427387904 →
    creelref_parts.l0 k s 47 (done ++ [mk cur]) (i : Int) = some (done ++ (match sp 47 (s.data.toList.drop i) with | q :: qs => mk (cur ++ q) :: qs.map mk | [] => [mk cur])) := by
  induction d with
  | zero =>
    intro k i done cur hd hi hk hn hc hs
    obtain ⟨k, rfl⟩ : ∃ m, k = m + 1 := ⟨k - 1, by omega⟩
    simp only [creelref_parts.l0]
    rw [if_neg (by omega), List.drop_eq_nil_of_le (by rw [size_list]; omega)]
    simp [sp]
  | succ d ih =>
    intro k i done cur hd hi hk hn hc hs
    obtain ⟨k, rfl⟩ : ∃ m, k = m + 1 := ⟨k - 1, by omega⟩
    have hlt : i < s.size := by omega
    obtain ⟨b, h1, h2, h3⟩ := drop_cons s i hlt
    have hw : wrap64 ((i : Int) + 1) = ((i + 1 : Nat) : Int) := by rw [wrap_is (by omega) (by omega)]; omega
    have hlen : (done ++ [mk cur]).length = done.length + 1 := by simp
    simp only [creelref_parts.l0]
    rw [if_pos (by omega), if_pos (show (0 : Int) ≤ i by omega), h1, hw, hlen]
    simp only [sp]
    have h47 : bt s (i : Int) = 47 ↔ b = 47 := byte_eq b _ h2 47
    by_cases e : b = 47
    · rw [if_pos (h47.2 e), if_pos (by omega), if_pos e]
      have := ih k (i + 1) (done ++ [mk cur]) [] (by omega) (by omega) (by omega) (by simp only [List.length_append, List.length_singleton]; omega) (by simp only [List.length_nil]; omega) hs
      rw [show (⟨#[]⟩ : ByteArray) = mk [] from rfl, this]
      cases hsp : sp 47 (s.data.toList.drop (i + 1)) with
      | nil => exact absurd hsp (sp_ne _ _)
      | cons q qs => simp
    · have hne : ¬ bt s (i : Int) = 47 := fun h => e (h47.1 h)
      have hw2 : wrap64 (((done.length + 1 : Nat) : Int) - 1) = (done.length : Int) := by rw [wrap_is (by omega) (by omega)]; omega
      have hrd : rdOf ByteArray.empty (done ++ [mk cur]) (done.length : Int) = mk cur := by
        unfold rdOf
        rw [Int.toNat_natCast, List.getD_eq_getElem?_getD, List.getElem?_append_right (Nat.le_refl _), Nat.sub_self]; rfl
      have hex : s.extract ((i : Int)).toNat (((i + 1 : Nat) : Int)).toNat = mk [b] := by rw [Int.toNat_natCast, Int.toNat_natCast, h3]
      have happ : mk cur ++ mk [b] = mk (cur ++ [b]) := by apply ext_list; simp [mk]
      have hset : (done ++ [mk cur]).set done.length (mk (cur ++ [b])) = done ++ [mk (cur ++ [b])] := by
        rw [List.set_append_right _ _ (Nat.le_refl _), Nat.sub_self]; rfl
      rw [if_neg hne, hw2, hrd, hex, if_pos (by omega), if_pos (by omega), if_pos (by omega), if_pos (by omega), if_pos (by rw [mk_size, mk_size]; simp only [List.length_singleton]; omega), happ, Int.toNat_natCast, hset, if_neg e]
      rw [ih k (i + 1) done (cur ++ [b]) (by omega) (by omega) (by omega) (by omega) (by simp only [List.length_append, List.length_singleton]; omega) hs]
      cases hsp : sp 47 (s.data.toList.drop (i + 1)) with
      | nil => exact absurd hsp (sp_ne _ _)
      | cons q qs => simp
theorem parts_is (s : ByteArray) (k : Nat) (hs : s.size ≤ 4294967296) (hk : s.size < k) : creelref_parts.f k s 47 = some (pp s) := by
  unfold creelref_parts.f
  have := parts_loop s s.size k 0 [] [] (by omega) (by omega) hk (by simp only [List.length_nil]; omega) (by simp only [List.length_nil]; omega) (by omega)
  rw [show ([(⟨#[]⟩ : ByteArray)] : List ByteArray) = [] ++ [mk []] from rfl]
  rw [show ((0 : Nat) : Int) = 0 from rfl] at this
  rw [this]
  unfold pp
  rw [List.drop_zero]
  cases hsp : sp 47 s.data.toList with
  | nil => exact absurd hsp (sp_ne _ _)
  | cons q qs => simp
theorem pp_len (s : ByteArray) : (pp s).length ≤ s.size + 1 := by
  unfold pp
  rw [List.length_map]
  have := sp_len_le 47 s.data.toList
  rw [size_list] at this
  exact this

/-- A part that may not be. -/
def bad (p : ByteArray) : Bool := decide (p.toList = []) || decide (p.toList = [46]) || decide (p.toList = [46, 46])
/-- What is wrong with a path. -/
def pathR (s : ByteArray) : Int := if s.size < 1 ∨ 400 < s.size then 1 else if s.data.toList.contains 0 = true then 3 else if (pp s).any bad = true then 9 else 0

theorem check_loop (l : List ByteArray) (hl : l.length ≤ 4294967297) (d : Nat) : ∀ (k i : Nat), l.length - i = d → i ≤ l.length → d < k →
    path_Check.l0 k l (l.length : Int) (i : Int) = some (if (l.drop i).any bad = true then 9 else 0) ∧ creelref_PathFault.l0 k l (l.length : Int) (i : Int) = some (if (l.drop i).any bad = true then 9 else 0) := by
  induction d with
  | zero =>
    intro k i hd hi hk
    obtain ⟨k, rfl⟩ : ∃ m, k = m + 1 := ⟨k - 1, by omega⟩
    simp only [path_Check.l0, creelref_PathFault.l0]
    have hge : ¬ (i : Int) < l.length := by omega
    rw [if_neg hge, if_neg hge, List.drop_eq_nil_of_le (by omega)]
    simp
  | succ d ih =>
    intro k i hd hi hk
    obtain ⟨k, rfl⟩ : ∃ m, k = m + 1 := ⟨k - 1, by omega⟩
    have hlt : i < l.length := by omega
    have hw : wrap64 ((i : Int) + 1) = ((i + 1 : Nat) : Int) := by rw [wrap_is (by omega) (by omega)]; omega
    have hrd : rdOf ByteArray.empty l (i : Int) = l[i] := by
      unfold rdOf
      rw [Int.toNat_natCast, List.getD_eq_getElem?_getD, List.getElem?_eq_getElem hlt]; rfl
    obtain ⟨h1, h2⟩ := ih k (i + 1) (by omega) (by omega) (by omega)
    simp only [path_Check.l0, creelref_PathFault.l0]
    rw [hw, hrd, h1, h2, List.drop_eq_getElem_cons hlt, List.any_cons]
    generalize l[i] = p
    have c1 : (i : Int) < l.length := by omega
    have c2 : (0 : Int) ≤ i := by omega
    simp only [if_pos c1, if_pos c2]
    unfold bad
    by_cases e1 : p.toList = []
    · simp [e1]
    · by_cases e2 : p.toList = [46]
      · simp [e2]
      · by_cases e3 : p.toList = [46, 46]
        · simp [e3]
        · simp [e1, e2, e3]
theorem empty_size (s : ByteArray) : s.toList = ([] : List UInt8) ↔ s.size = 0 := by
  rw [toList_data, ← size_list]
  exact List.length_eq_zero_iff.symm
theorem path_same (s : ByteArray) (hs : s.size ≤ 140737488351232) : Ev (fun k => path_Check.f k s) (pathR s) ∧ Ev (fun k => creelref_PathFault.f k s) (pathR s) := by
  obtain ⟨K, hK⟩ := has_ev s 0 (by omega) (by omega) hs
  replace hK : ∀ k, K ≤ k → creelref_has.f k s 0 = some (s.data.toList.contains 0) := hK
  have hi : (Lib.indexByte s.data.toList ((0 : Int).toNat.toUInt8) ≥ 0) ↔ s.data.toList.contains 0 = true := by
    have := index_ge s.data.toList ((0 : Int).toNat.toUInt8)
    rw [← decide_eq_true_iff (p := Lib.indexByte s.data.toList ((0 : Int).toNat.toUInt8) ≥ 0), this]; rfl
  by_cases c : s.size < 1 ∨ 400 < s.size
  · have e : pathR s = 1 := by unfold pathR; rw [if_pos c]
    rw [e]
    refine ⟨⟨1, fun k hk => ?_⟩, ⟨1, fun k hk => ?_⟩⟩
    · obtain ⟨k, rfl⟩ : ∃ m, k = m + 1 := ⟨k - 1, by omega⟩
      show path_Check.f (k + 1) s = _
      unfold path_Check.f
      by_cases h : (s.size : Int) < 1
      · rw [if_pos h]; simp [path_Check.j0]
      · rw [if_neg h, decide_eq_true (show (s.size : Int) > 400 by omega)]; simp [path_Check.j0]
    · obtain ⟨k, rfl⟩ : ∃ m, k = m + 1 := ⟨k - 1, by omega⟩
      show creelref_PathFault.f (k + 1) s = _
      unfold creelref_PathFault.f
      by_cases h : s.toList = ([] : List UInt8)
      · rw [if_pos h]; simp [creelref_PathFault.j0]
      · rw [if_neg h]
        rw [empty_size] at h
        rw [decide_eq_true (show (s.size : Int) > 400 by omega)]; simp [creelref_PathFault.j0]
  · have h0 : ¬ s.toList = ([] : List UInt8) := by rw [empty_size]; omega
    have hsp := split_is s (by omega)
    have hpl := pp_len s
    by_cases hz : s.data.toList.contains 0 = true
    · have e : pathR s = 3 := by unfold pathR; rw [if_neg c, if_pos hz]
      rw [e]
      refine ⟨⟨1, fun k hk => ?_⟩, ⟨K + 1, fun k hk => ?_⟩⟩
      · obtain ⟨k, rfl⟩ : ∃ m, k = m + 1 := ⟨k - 1, by omega⟩
        show path_Check.f (k + 1) s = _
        unfold path_Check.f
        rw [if_neg (show ¬ (s.size : Int) < 1 by omega), decide_eq_false (show ¬ (s.size : Int) > 400 by omega)]
        simp only [path_Check.j0, Bool.false_eq_true, if_false, strings_IndexByte.f, Option.bind_some]
        rw [if_pos (hi.2 hz)]
      · obtain ⟨k, rfl⟩ : ∃ m, k = m + 1 := ⟨k - 1, by omega⟩
        show creelref_PathFault.f (k + 1) s = _
        unfold creelref_PathFault.f
        rw [if_neg h0, decide_eq_false (show ¬ (s.size : Int) > 400 by omega)]
        simp only [creelref_PathFault.j0, Bool.false_eq_true, if_false]
        rw [hK k (by omega)]
        simp only [Option.bind_some, hz, if_true]
    · have hz' : s.data.toList.contains 0 = false := by simpa using hz
      have e : pathR s = (if (pp s).any bad = true then 9 else 0) := by unfold pathR; rw [if_neg c, if_neg hz]
      rw [e]
      refine ⟨⟨500, fun k hk => ?_⟩, ⟨K + 500, fun k hk => ?_⟩⟩
      · obtain ⟨k, rfl⟩ : ∃ m, k = m + 1 := ⟨k - 1, by omega⟩
        obtain ⟨h1, _⟩ := check_loop (pp s) (by omega) (pp s).length k 0 (by omega) (by omega) (by omega)
        show path_Check.f (k + 1) s = _
        unfold path_Check.f
        rw [if_neg (show ¬ (s.size : Int) < 1 by omega), decide_eq_false (show ¬ (s.size : Int) > 400 by omega)]
        simp only [path_Check.j0, Bool.false_eq_true, if_false, strings_IndexByte.f, Option.bind_some]
        rw [if_neg (fun h => hz (hi.1 h)), hsp]
        simp only [Option.bind_some]
        rw [List.drop_zero] at h1
        exact h1
      · obtain ⟨k, rfl⟩ : ∃ m, k = m + 1 := ⟨k - 1, by omega⟩
        obtain ⟨_, h2⟩ := check_loop (pp s) (by omega) (pp s).length k 0 (by omega) (by omega) (by omega)
        show creelref_PathFault.f (k + 1) s = _
        unfold creelref_PathFault.f
        rw [if_neg h0, decide_eq_false (show ¬ (s.size : Int) > 400 by omega)]
        simp only [creelref_PathFault.j0, Bool.false_eq_true, if_false]
        rw [hK k (by omega)]
        simp only [Option.bind_some, hz', Bool.false_eq_true, if_false]
        rw [parts_is s k (by omega) (by omega)]
        simp only [Option.bind_some]
        rw [List.drop_zero] at h2
        exact h2

/-! Of two lists of parts, and what a path is in. -/
def joinS : List (List UInt8) → List UInt8
  | [] => []
  | [p] => p
  | p :: q :: r => p ++ 47 :: joinS (q :: r)
end Go.Proofs.YtcbbcnmifohibaaDoor.Q
end
section
namespace Go.Proofs.YtcbbcnmifohibaaDoor.Q
set_option linter.unusedVariables false
set_option linter.unusedSimpArgs false
open Go.RowKit Go.Proofs.YtcbbcnmifohibaaDoor.All Go.Proofs.YtcbbcnmifohibaaDoorW.PrintWords Go.Proofs.YtcbbcnmifohibaaDoorW.PrintLast Go.Proofs.YtcbbcnmifohibaaDoorW.PrintMore Go.Proofs.YtcbbcnmifohibaaDoorW.PureBase

-- USES Path
-- FN glob_Check glob_end creelref_GlobFault creelref_parts strings_Split strings_IndexByte strings_HasPrefix
/-- what is behind the first ']' -/
def aft : List UInt8 → Option (List UInt8)
  | [] => none
  | c :: r => if c = 93 then some r else aft r
def skp : List UInt8 → List UInt8
  | [] => []
  | c :: r => if c = 33 then r else c :: r
theorem aft_cons (c : UInt8) (r : List UInt8) : aft (c :: r) = if c = 93 then some r else aft r := rfl
theorem skp_cons (c : UInt8) (r : List UInt8) : skp (c :: r) = if c = 33 then r else c :: r := rfl
/-- what is behind a set, told what is behind its '[' -/
def clo (l : List UInt8) : Option (List UInt8) := match skp l with
  | [] => none
  | _ :: r => aft r
theorem aft_len : ∀ (l r : List UInt8), aft l = some r → r.length < l.length
  | [], r, h => by simp [aft] at h
  | c :: l, r, h => by
    unfold aft at h
    split at h
    · cases h; simp
    · have := aft_len l r h
      simp only [List.length_cons]; omega
theorem skp_len (l : List UInt8) : (skp l).length ≤ l.length := by
  cases l with
  | nil => simp [skp]
  | cons c r =>
    rw [skp_cons]
    split <;> simp
theorem clo_len (l r : List UInt8) (h : clo l = some r) : r.length < l.length := by
  unfold clo at h
  split at h
  · cases h
  · rename_i c q e
    have h1 := aft_len _ _ h
    have h2 := skp_len l
    rw [e] at h2
    simp only [List.length_cons] at h2
    omega
theorem aft_suf : ∀ (l r : List UInt8), aft l = some r → ∃ p, l = p ++ r
  | [], r, h => by simp [aft] at h
  | c :: l, r, h => by
    unfold aft at h
    split at h
    · cases h; exact ⟨[c], rfl⟩
    · obtain ⟨p, e⟩ := aft_suf l r h
      exact ⟨c :: p, by rw [e]; rfl⟩
theorem clo_suf (l r : List UInt8) (h : clo l = some r) : ∃ p, l = p ++ r := by
  unfold clo at h
  cases l with
  | nil => simp [skp] at h
  | cons c q =>
    by_cases hc : c = 33
    · rw [skp_cons, if_pos hc] at h
      cases q with
      | nil => cases h
      | cons d q2 =>
        obtain ⟨p, e⟩ := aft_suf q2 r h
        exact ⟨c :: d :: p, by rw [e]; rfl⟩
    · rw [skp_cons, if_neg hc] at h
      obtain ⟨p, e⟩ := aft_suf q r h
      exact ⟨c :: p, by rw [e]; rfl⟩
/-- may a part be? -/
inductive Res : List UInt8 → Bool → Prop
  | nil : Res [] true
  | sign (c : UInt8) (r : List UInt8) (b : Bool) (h : c ≠ 91) (hr : Res r b) : Res (c :: r) b
  | bad (r : List UInt8) (h : clo r = none) : Res (91 :: r) false
  | set (r q : List UInt8) (b : Bool) (h : clo r = some q) (hr : Res q b) : Res (91 :: r) b
theorem res_of (n : Nat) : ∀ u : List UInt8, u.length ≤ n → ∃ b, Res u b := by
  induction n with
  | zero =>
    intro u h
    have : u = [] := List.length_eq_zero_iff.mp (by omega)
    subst this
    exact ⟨true, .nil⟩
  | succ n ih =>
    intro u h
    cases u with
    | nil => exact ⟨true, .nil⟩
    | cons c r =>
      simp only [List.length_cons] at h
      by_cases hc : c = 91
      · subst hc
        cases e : clo r with
        | none => exact ⟨false, .bad r e⟩
        | some q =>
          have := clo_len r q e
          obtain ⟨b, hb⟩ := ih q (by omega)
          exact ⟨b, .set r q b e hb⟩
      · obtain ⟨b, hb⟩ := ih r (by omega)
        exact ⟨b, .sign c r b hc hb⟩
/-! ### the reference -/
theorem at_byte (s : ByteArray) (i : Nat) (c : UInt8) (r : List UInt8) (h : s.data.toList.drop i = c :: r) : i < s.size ∧ bt s (i : Int) = (c.toNat : Int) ∧ s.data.toList.drop (i + 1) = r := by
  have hi : i < s.size := by
    rcases Nat.lt_or_ge i s.size with h1 | h1
    · exact h1
    · rw [List.drop_of_length_le (by rw [size_list]; exact h1)] at h
      cases h
  obtain ⟨b, h1, h2, _⟩ := drop_cons s i hi
  rw [h] at h1
  injection h1 with h3 h4
  subst h3
  exact ⟨hi, h2.symm, h4.symm⟩
theorem at_end (s : ByteArray) (i : Nat) (h : s.data.toList.drop i = []) : s.size ≤ i := by
  have := List.drop_eq_nil_iff.mp h
  rw [size_list] at this
  exact this
theorem u8_ne (c n : UInt8) (h : c ≠ n) : (c.toNat : Int) ≠ (n.toNat : Int) := fun e => h (UInt8.toNat_inj.mp (by omega))
theorem l1_step (s : ByteArray) (hs : s.size ≤ 1000000) (m fr k : Nat) (x : List Bool) (c : UInt8) (r : List UInt8) (h : s.data.toList.drop k = c :: r) (hk : k = fr ∨ c ≠ 93) : ∃ x2 j, creelref_GlobFault.l1 (m + 1) s (fr : Int) x (k : Int) = creelref_GlobFault.l1 m s (fr : Int) x2 ((j : Nat) : Int) ∧ k < j ∧ j ≤ s.size ∧ aft (s.data.toList.drop j) = aft r := by
  obtain ⟨h1, h2, h3⟩ := at_byte s k c r h
  have w1 : wrap64 ((k : Int) + 1) = ((k + 1 : Nat) : Int) := by rw [wrap_is (by omega) (by omega)]; omega
  have w2 : wrap64 ((k : Int) + 2) = ((k + 2 : Nat) : Int) := by rw [wrap_is (by omega) (by omega)]; omega
  have w3 : wrap64 (((k + 2 : Nat) : Int) + 1) = ((k + 3 : Nat) : Int) := by rw [wrap_is (by omega) (by omega)]; omega
  have hc : (k : Int) = (fr : Int) ∨ bt s (k : Int) ≠ 93 := by
    rcases hk with e | e
    · left; omega
    · right; rw [h2]; exact u8_ne c 93 e
  simp only [creelref_GlobFault.l1]
  rw [if_pos (by omega), if_pos hc]
  cases ht : creelref_GlobFault.two s (k : Int) with
  | false =>
    refine ⟨_, k + 1, by unfold creelref_GlobFault.nx; rw [ht, if_neg (by decide), w1], by omega, by omega, by rw [h3]⟩
  | true =>
    have ht2 := ht
    unfold creelref_GlobFault.two at ht2
    rw [w1, w2, Bool.and_eq_true, Bool.and_eq_true, decide_eq_true_eq, beq_iff_eq, bne_iff_ne] at ht2
    obtain ⟨t1, t2, t3⟩ := ht2
    refine ⟨_, k + 3, by unfold creelref_GlobFault.nx; rw [ht, if_pos rfl, w2, w3], by omega, by omega, ?_⟩
    obtain ⟨a, a1, a2, _⟩ := drop_cons s (k + 1) (by omega)
    obtain ⟨b, b1, b2, _⟩ := drop_cons s (k + 1 + 1) (by omega)
    have ha : a ≠ 93 := fun e => by subst e; rw [t2] at a2; exact absurd a2 (by decide)
    have hb : b ≠ 93 := fun e => by subst e; exact t3 b2.symm
    rw [← h3, a1, b1, aft_cons, if_neg ha, aft_cons, if_neg hb]
theorem l1_run (s : ByteArray) (hs : s.size ≤ 1000000) (fr : Nat) : ∀ (m k : Nat) (x : List Bool), fr < k → k ≤ s.size → s.size - k < m → ∃ x' k', creelref_GlobFault.l1 m s (fr : Int) x (k : Int) = some (x', ((k' : Nat) : Int)) ∧ fr < k' ∧ ((∃ q, aft (s.data.toList.drop k) = some q ∧ k' < s.size ∧ s.data.toList.drop (k' + 1) = q) ∨ (aft (s.data.toList.drop k) = none ∧ s.size ≤ k')) := by
  intro m
  induction m with
  | zero => intro k x _ _ h; omega
  | succ m ih =>
    intro k x h1 h2 h3
    cases hv : s.data.toList.drop k with
    | nil =>
      have := at_end s k hv
      refine ⟨x, k, ?_, h1, Or.inr ⟨rfl, this⟩⟩
      simp only [creelref_GlobFault.l1]
      rw [if_neg (by omega)]
    | cons c r =>
      obtain ⟨g1, g2, g3⟩ := at_byte s k c r hv
      by_cases hc : c = 93
      · subst hc
        refine ⟨x, k, ?_, h1, Or.inl ⟨r, by rw [aft_cons, if_pos rfl], g1, g3⟩⟩
        simp only [creelref_GlobFault.l1]
        rw [if_pos (by omega), if_neg (fun h => h.elim (fun e => by omega) (fun e => e (by rw [g2]; rfl)))]
      · obtain ⟨x2, j, e1, e2, e3, e4⟩ := l1_step s hs m fr k x c r hv (Or.inr hc)
        obtain ⟨x', k', f1, f2, f3⟩ := ih j x2 (by omega) e3 (by omega)
        refine ⟨x', k', e1.trans f1, f2, ?_⟩
        rw [aft_cons, if_neg hc, ← e4]
        exact f3
theorem l1_all (s : ByteArray) (hs : s.size ≤ 1000000) (fr : Nat) (hf : fr ≤ s.size) (x : List Bool) : ∃ x' k', creelref_GlobFault.l1 (s.size + 1) s (fr : Int) x (fr : Int) = some (x', ((k' : Nat) : Int)) ∧ ((∃ c r q, s.data.toList.drop fr = c :: r ∧ aft r = some q ∧ k' < s.size ∧ k' ≠ fr ∧ s.data.toList.drop (k' + 1) = q) ∨ ((∀ c r, s.data.toList.drop fr = c :: r → aft r = none) ∧ (s.size ≤ k' ∨ k' = fr))) := by
  cases hv : s.data.toList.drop fr with
  | nil =>
    have := at_end s fr hv
    refine ⟨x, fr, ?_, Or.inr ⟨fun _ _ h => (by cases h), Or.inr rfl⟩⟩
    simp only [creelref_GlobFault.l1]
    rw [if_neg (by omega)]
  | cons c r =>
    obtain ⟨x2, j, e1, e2, e3, e4⟩ := l1_step s hs s.size fr fr x c r hv (Or.inl rfl)
    obtain ⟨x', k', f1, f2, f3⟩ := l1_run s hs fr s.size j x2 e2 e3 (by omega)
    refine ⟨x', k', e1.trans f1, ?_⟩
    rw [e4] at f3
    rcases f3 with ⟨q, g1, g2, g3⟩ | ⟨g1, g2⟩
    · exact Or.inl ⟨c, r, q, rfl, g1, g2, by omega, g3⟩
    · refine Or.inr ⟨fun c2 r2 h => ?_, Or.inl g2⟩
      injection h with _ h
      subst h
      exact g1
theorem nt_is (s : ByteArray) (hs : s.size ≤ 1000000) (i : Nat) (r : List UInt8) (h : s.data.toList.drop (i + 1) = r) (hi : i < s.size) : ∃ f, creelref_GlobFault.fr s (i : Int) = ((f : Nat) : Int) ∧ i < f ∧ f ≤ s.size ∧ s.data.toList.drop f = skp r := by
  have w1 : wrap64 ((i : Int) + 1) = ((i + 1 : Nat) : Int) := by rw [wrap_is (by omega) (by omega)]; omega
  have w2 : wrap64 (((i + 1 : Nat) : Int) + 1) = ((i + 2 : Nat) : Int) := by rw [wrap_is (by omega) (by omega)]; omega
  unfold creelref_GlobFault.fr creelref_GlobFault.nt
  rw [w1]
  cases r with
  | nil =>
    have := at_end s (i + 1) h
    refine ⟨i + 1, ?_, by omega, by omega, by rw [h]; rfl⟩
    rw [if_neg]
    rw [Bool.and_eq_true, decide_eq_true_eq]
    exact fun h => by omega
  | cons c q =>
    obtain ⟨g1, g2, g3⟩ := at_byte s (i + 1) c q h
    by_cases hc : c = 33
    · subst hc
      refine ⟨i + 2, ?_, by omega, by omega, by rw [g3]; rfl⟩
      rw [if_pos, w2]
      rw [Bool.and_eq_true, decide_eq_true_eq, beq_iff_eq, g2]
      exact ⟨by omega, rfl⟩
    · refine ⟨i + 1, ?_, by omega, by omega, by rw [h, skp_cons, if_neg hc]⟩
      rw [if_neg]
      rw [Bool.and_eq_true, beq_iff_eq, g2]
      exact fun h => u8_ne c 33 hc h.2
theorem ref_res (s : ByteArray) (hs : s.size ≤ 1000000) (u : List UInt8) (b : Bool) (hr : Res u b) : ∀ (i n : Nat) (acc : List (List Bool)), s.data.toList.drop i = u → i ≤ s.size → s.size - i < n → ∃ r, creelref_GlobFault.l0 n s acc (i : Int) = some r ∧ r.2 = b := by
  induction hr with
  | nil =>
    intro i n acc h hi hn
    obtain ⟨n, rfl⟩ : ∃ m, n = m + 1 := ⟨n - 1, by omega⟩
    have := at_end s i h
    refine ⟨(acc, true), ?_, rfl⟩
    simp only [creelref_GlobFault.l0]
    rw [if_neg (by omega)]
  | sign c r b hc hr ih =>
    intro i n acc h hi hn
    obtain ⟨n, rfl⟩ : ∃ m, n = m + 1 := ⟨n - 1, by omega⟩
    obtain ⟨g1, g2, g3⟩ := at_byte s i c r h
    have e : (i : Int) + 1 = ((i + 1 : Nat) : Int) := by omega
    simp only [creelref_GlobFault.l0]
    rw [if_pos (by omega), e]
    by_cases q : bt s (i : Int) = 63
    · rw [if_pos q]
      exact ih (i + 1) n _ g3 (by omega) (by omega)
    · rw [if_neg q, if_neg (by rw [g2]; exact u8_ne c 91 hc)]
      exact ih (i + 1) n _ g3 (by omega) (by omega)
  | bad r hc =>
    intro i n acc h hi hn
    obtain ⟨n, rfl⟩ : ∃ m, n = m + 1 := ⟨n - 1, by omega⟩
    obtain ⟨g1, g2, g3⟩ := at_byte s i 91 r h
    obtain ⟨f, f1, f2, f3, f4⟩ := nt_is s hs i r g3 g1
    obtain ⟨x', k', k1, k2⟩ := l1_all s hs f f3 (creelref_GlobFault.x0 s (i : Int))
    refine ⟨([], false), ?_, rfl⟩
    simp only [creelref_GlobFault.l0]
    rw [if_pos (by omega), if_neg (by rw [g2]; decide), if_pos (by rw [g2]; rfl), f1, k1]
    simp only [Option.bind_some]
    rw [if_pos]
    unfold clo at hc
    rw [← f4] at hc
    rcases k2 with ⟨c, r2, q, q1, q2, _⟩ | ⟨_, q2⟩
    · rw [q1] at hc
      have hc2 : aft r2 = none := hc
      rw [hc2] at q2
      cases q2
    · rcases q2 with q2 | q2
      · left; omega
      · right; omega
  | set r q b hc hr ih =>
    intro i n acc h hi hn
    obtain ⟨n, rfl⟩ : ∃ m, n = m + 1 := ⟨n - 1, by omega⟩
    obtain ⟨g1, g2, g3⟩ := at_byte s i 91 r h
    obtain ⟨f, f1, f2, f3, f4⟩ := nt_is s hs i r g3 g1
    obtain ⟨x', k', k1, k2⟩ := l1_all s hs f f3 (creelref_GlobFault.x0 s (i : Int))
    simp only [creelref_GlobFault.l0]
    rw [if_pos (by omega), if_neg (by rw [g2]; decide), if_pos (by rw [g2]; rfl), f1, k1]
    simp only [Option.bind_some]
    unfold clo at hc
    rw [← f4] at hc
    rcases k2 with ⟨c, r2, q2, q1, q3, q4, q5, q6⟩ | ⟨q1, _⟩
    · rw [q1] at hc
      have e2 : q2 = q := Option.some.inj (q3.symm.trans hc)
      subst e2
      rw [if_neg (by omega), show ((k' : Int) + 1) = ((k' + 1 : Nat) : Int) by omega]
      have hk : i < k' := by
        rcases Nat.lt_or_ge i k' with h1 | h1
        · exact h1
        · have a1 : (s.data.toList.drop (k' + 1)).length = s.size - (k' + 1) := by rw [List.length_drop, size_list]
          have a2 : (s.data.toList.drop f).length = s.size - f := by rw [List.length_drop, size_list]
          rw [q1] at a2
          rw [q6] at a1
          have := aft_len _ _ q3
          simp only [List.length_cons] at a2
          omega
      exact ih (k' + 1) n _ q6 (by omega) (by omega)
    · cases e : s.data.toList.drop f with
      | nil => rw [e] at hc; cases hc
      | cons c r2 =>
        rw [e] at hc
        have := q1 c r2 e
        rw [show aft r2 = some q from hc] at this
        cases this
theorem tok_res (s : ByteArray) (hs : s.size ≤ 1000000) (b : Bool) (hr : Res s.data.toList b) : ∃ l, creelref_GlobFault.tok s = some (l, b) := by
  obtain ⟨r, h1, h2⟩ := ref_res s hs _ b hr 0 (s.size + 1) [] (List.drop_zero ..) (by omega) (by omega)
  refine ⟨r.1, ?_⟩
  unfold creelref_GlobFault.tok
  rw [if_pos hs, show creelref_GlobFault.l0 (s.size + 1) s [] 0 = _ from h1, ← h2]
/-! ### the program -/
theorem aft_index : ∀ l : List UInt8, (Lib.indexByte l 93 = -1 ∧ aft l = none) ∨ ∃ o : Nat, Lib.indexByte l 93 = (o : Int) ∧ o < l.length ∧ aft l = some (l.drop (o + 1))
  | [] => Or.inl ⟨rfl, rfl⟩
  | c :: l => by
    unfold Lib.indexByte aft
    by_cases hc : c = 93
    · subst hc
      exact Or.inr ⟨0, by simp, by simp, by simp⟩
    · rcases aft_index l with ⟨h1, h2⟩ | ⟨o, h1, h2, h3⟩
      · left
        rw [if_neg hc, h2]
        refine ⟨?_, rfl⟩
        simp [hc, h1]
      · right
        refine ⟨o + 1, ?_, by simp; omega, by rw [if_neg hc, h3]; rfl⟩
        simp [hc, h1]
        try omega
def endR (x : ByteArray) (r : List UInt8) : Int := match clo r with
  | none => -1
  | some q => ((x.size - q.length : Nat) : Int)
theorem end_j0 (x : ByteArray) (hs : x.size ≤ 1000000) (r : List UInt8) (h : x.data.toList = 91 :: r) (d : Nat) (h1 : 1 ≤ d) (h2 : d ≤ x.size) (h3 : x.data.toList.drop d = skp r) : Ev (fun k => glob_end.j0 k x (d : Int)) (endR x r) := by
  refine Ev.step (f := fun _ => some (endR x r)) (fun k => ?_) (Ev.now _)
  have w : wrap64 ((d : Int) + 1) = ((d + 1 : Nat) : Int) := by rw [wrap_is (by omega) (by omega)]; omega
  simp only [glob_end.j0]
  unfold endR clo
  cases hv : skp r with
  | nil =>
    rw [hv] at h3
    have := at_end x d h3
    rw [if_neg (by omega), if_pos (by decide)]
  | cons c q =>
    rw [hv] at h3
    obtain ⟨g1, g2, g3⟩ := at_byte x d c q h3
    have hq : (x.extract (((d + 1 : Nat) : Int).toNat) x.size).data.toList = q := by rw [Int.toNat_natCast, Lib.extract_to_end]; exact g3
    have hlen : q.length = x.size - (d + 1) := by rw [← g3, List.length_drop, size_list]
    have hz : ∀ o, o < q.length → x.size - (q.drop (o + 1)).length = d + 1 + o + 1 := fun o ho => by clear w; rw [List.length_drop]; omega
    rw [if_pos (by omega), w, if_pos (by omega), if_pos (by omega)]
    unfold strings_IndexByte.f
    rw [hq]
    simp only [Option.bind_some]
    show (if Lib.indexByte q 93 < 0 then some (-1) else some (wrap64 (wrap64 (((d + 1 : Nat) : Int) + Lib.indexByte q 93) + 1))) = _
    rcases aft_index q with ⟨e1, e2⟩ | ⟨o, e1, e2, e3⟩
    · rw [e1, e2, if_pos (by decide)]
    · rw [e1, e3, if_neg (by omega)]
      have w2 : wrap64 (((d + 1 : Nat) : Int) + (o : Int)) = ((d + 1 + o : Nat) : Int) := by rw [wrap_is (by omega) (by omega)]; omega
      have w3 : wrap64 (((d + 1 + o : Nat) : Int) + 1) = ((d + 1 + o + 1 : Nat) : Int) := by rw [wrap_is (by omega) (by omega)]; omega
      rw [w2, w3]
      show some (((d + 1 + o + 1 : Nat) : Int)) = some (((x.size - (q.drop (o + 1)).length : Nat) : Int))
      rw [hz o e2]
theorem end_is (x : ByteArray) (hs : x.size ≤ 1000000) (r : List UInt8) (h : x.data.toList = 91 :: r) : Ev (fun k => glob_end.f k x) (endR x r) := by
  have hx1 : (x.extract 1 x.size).data.toList = r := by rw [Lib.extract_to_end, h]; rfl
  have hsz : x.size = r.length + 1 := by rw [← size_list, h]; simp
  unfold glob_end.f strings_HasPrefix.f
  refine Ev.ifp (by omega) ?_
  simp only [Option.bind_some]
  rw [hx1]
  cases r with
  | nil =>
    have hp : Lib.hasPrefix ([] : List UInt8) [33] = false := rfl
    refine Ev.ifn (by show ¬ Lib.hasPrefix ([] : List UInt8) [33] = true; rw [hp]; decide) ?_
    exact end_j0 x hs [] h 1 (by omega) (by omega) (by rw [h]; rfl)
  | cons c q =>
    simp only [List.length_cons] at hsz
    by_cases hc : c = 33
    · subst hc
      refine Ev.ifp (show Lib.hasPrefix (33 :: q) [33] = true by simp [Lib.hasPrefix, List.isPrefixOf]) ?_
      exact end_j0 x hs (33 :: q) h 2 (by omega) (by omega) (by rw [h]; rfl)
    · refine Ev.ifn (show ¬ Lib.hasPrefix (c :: q) [33] = true by simp [Lib.hasPrefix, List.isPrefixOf]; exact fun e => hc e.symm) ?_
      exact end_j0 x hs (c :: q) h 1 (by omega) (by omega) (by rw [h, skp_cons, if_neg hc]; rfl)
theorem res_plain (u : List UInt8) (b : Bool) (h : Res u b) : (∀ c ∈ u, c ≠ 91) → b = true := by
  induction h with
  | nil => intro _; rfl
  | sign c r b _ _ ih => intro hu; exact ih (fun d hd => hu d (List.mem_cons_of_mem _ hd))
  | bad r _ => intro hu; exact absurd rfl (hu 91 (List.mem_cons_self ..))
  | set r q b _ _ _ => intro hu; exact absurd rfl (hu 91 (List.mem_cons_self ..))
theorem prog_end (x : ByteArray) (l : List ByteArray) (L n r : Int) (H : Ev (fun k => glob_Check.l0 k l L (wrap64 (n + 1))) r) : Ev (fun k => glob_Check.j3 k x l L n false) r := by
  refine Ev.step (fun k => ?_) H
  simp only [glob_Check.j3]
  rw [if_neg (by decide)]
theorem prog_res (l : List ByteArray) (L n r : Int) (u : List UInt8) (b : Bool) (hr : Res u b) : ∀ (x : ByteArray), x.data.toList = u → x.size ≤ 1000000 → (b = true → Ev (fun k => glob_Check.l0 k l L (wrap64 (n + 1))) r) → (b = false → r = 3) → Ev (fun k => glob_Check.l1 k x l L n) r := by
  have stars : ∀ (x : ByteArray) (u : List UInt8) (b : Bool), Res u b → x.data.toList = u → (b = true → Ev (fun k => glob_Check.l0 k l L (wrap64 (n + 1))) r) → x.toList = ([42, 42] : List UInt8) → Ev (fun k => glob_Check.l1 k x l L n) r := by
    intro x u b hr hx H e
    rw [toList_data, hx] at e
    have hb := res_plain u b hr (fun c hc => by rw [e] at hc; simp at hc; subst hc; decide)
    refine Ev.step (fun k => ?_) (prog_end x l L n r (H hb))
    simp only [glob_Check.l1]
    rw [if_pos (by rw [toList_data, hx, e])]
  have go : ∀ (x : ByteArray) (c : UInt8) (q : List UInt8), x.data.toList = c :: q → ¬ x.toList = ([42, 42] : List UInt8) → Ev (fun k => glob_Check.j3 k x l L n true) r → Ev (fun k => glob_Check.l1 k x l L n) r := by
    intro x c q hx hn H
    refine Ev.step (fun k => ?_) H
    simp only [glob_Check.l1]
    rw [if_neg hn, show (x.toList != ([] : List UInt8)) = true by rw [toList_data, hx]; rfl]
  induction hr with
  | nil =>
    intro x hx hs H1 H2
    refine Ev.step (fun k => ?_) (prog_end x l L n r (H1 rfl))
    simp only [glob_Check.l1]
    rw [if_neg (by rw [toList_data, hx]; decide), show (x.toList != ([] : List UInt8)) = false by rw [toList_data, hx]; rfl]
  | sign c q b hc hr ih =>
    intro x hx hs H1 H2
    by_cases e : x.toList = ([42, 42] : List UInt8)
    · exact stars x _ b (.sign c q b hc hr) hx H1 e
    · obtain ⟨g1, g2, g3⟩ := at_byte x 0 c q hx
      have hx1 : (x.extract 1 x.size).data.toList = q := by rw [Lib.extract_to_end]; exact g3
      have hsz : (x.extract 1 x.size).size ≤ 1000000 := by rw [ByteArray.size_extract]; omega
      refine go x c q hx e (Ev.step (f := fun k => glob_Check.l1 k (x.extract 1 x.size) l L n) (fun k => ?_) (ih _ hx1 hsz H1 H2))
      simp only [glob_Check.j3, if_true]
      rw [if_pos (by omega), if_neg (show ¬ bt x 0 = 91 from fun e => u8_ne c 91 hc (g2.symm.trans e)), if_pos (by omega)]
  | bad q hc =>
    intro x hx hs H1 H2
    by_cases e : x.toList = ([42, 42] : List UInt8)
    · exact stars x _ false (.bad q hc) hx H1 e
    · obtain ⟨g1, g2, g3⟩ := at_byte x 0 91 q hx
      have he : Ev (fun k => glob_end.f k x) (-1) := by
        have he := end_is x hs q hx
        unfold endR at he
        rw [hc] at he
        exact he
      refine go x 91 q hx e ?_
      obtain rfl := H2 rfl
      refine Ev.step (f := fun k => (glob_end.f k x).bind fun t105 => (if t105 < 0 then (some 3) else (if 0 ≤ t105 then (if t105 ≤ (x.size : Int) then (glob_Check.l1 k (x.extract (t105 : Int).toNat x.size) l L n) else (none)) else (none)))) (fun k => ?_) (Ev.bind he (Ev.ifp (by decide) (Ev.now _)))
      simp only [glob_Check.j3, if_true]
      rw [if_pos (by omega), if_pos (show bt x 0 = 91 from g2.trans rfl)]
  | set q p b hc hr ih =>
    intro x hx hs H1 H2
    by_cases e : x.toList = ([42, 42] : List UInt8)
    · exact stars x _ b (.set q p b hc hr) hx H1 e
    · obtain ⟨g1, g2, g3⟩ := at_byte x 0 91 q hx
      have he : Ev (fun k => glob_end.f k x) ((x.size - p.length : Nat) : Int) := by
        have he := end_is x hs q hx
        unfold endR at he
        rw [hc] at he
        exact he
      refine go x 91 q hx e ?_
      have hx1 : (x.extract (((x.size - p.length : Nat) : Int).toNat) x.size).data.toList = p := by
        obtain ⟨pre, ep⟩ := clo_suf q p hc
        have hl : x.size = (91 :: pre).length + p.length := by rw [← size_list, hx, ep]; simp; omega
        rw [Int.toNat_natCast, Lib.extract_to_end, hl, Nat.add_sub_cancel, hx, ep]
        exact List.drop_left
      have hsz : (x.extract (((x.size - p.length : Nat) : Int).toNat) x.size).size ≤ 1000000 := by rw [ByteArray.size_extract]; omega
      refine Ev.step (f := fun k => (glob_end.f k x).bind fun t105 => (if t105 < 0 then (some 3) else (if 0 ≤ t105 then (if t105 ≤ (x.size : Int) then (glob_Check.l1 k (x.extract (t105 : Int).toNat x.size) l L n) else (none)) else (none)))) (fun k => ?_) (Ev.bind he (Ev.ifn (by omega) (Ev.ifp (by omega) (Ev.ifp (by omega) (ih _ hx1 hsz H1 H2)))))
      simp only [glob_Check.j3, if_true]
      rw [if_pos (by omega), if_pos (show bt x 0 = 91 from g2.trans rfl)]
theorem run_ends (l : List ByteArray) (hl : ∀ x ∈ l, x.size ≤ 1000000) : ∃ v, creelref_GlobFault.run l = some v := by
  induction l with
  | nil => exact ⟨0, rfl⟩
  | cons x xs ih =>
    obtain ⟨v, hv⟩ := ih (fun y hy => hl y (List.mem_cons_of_mem _ hy))
    unfold creelref_GlobFault.run
    by_cases h : x.toList = ([] : List UInt8)
    · rw [if_pos h]; exact ⟨9, rfl⟩
    · rw [if_neg h]
      obtain ⟨b, hb⟩ := res_of _ x.data.toList (Nat.le_refl _)
      obtain ⟨t, ht⟩ := tok_res x (hl x (List.mem_cons_self ..)) b hb
      rw [ht]
      cases b with
      | true => exact ⟨v, hv⟩
      | false => exact ⟨3, rfl⟩
theorem prog_parts (L : List ByteArray) (hL : L.length ≤ 1000000) (hs : ∀ x ∈ L, x.size ≤ 1000000) (d : Nat) : ∀ (n : Nat) (v : Int), L.length - n = d → n ≤ L.length → creelref_GlobFault.run (L.drop n) = some v → Ev (fun k => glob_Check.l0 k L (L.length : Int) (n : Int)) v := by
  induction d with
  | zero =>
    intro n v hd hn h
    have e : n = L.length := by omega
    subst e
    rw [List.drop_length] at h
    obtain rfl := Option.some.inj (show some 0 = some v from h)
    refine Ev.step (f := fun _ => some 0) (fun k => ?_) (Ev.now _)
    simp only [glob_Check.l0]
    rw [if_neg (by omega)]
  | succ d ih =>
    intro n v hd hn h
    have hn' : n < L.length := by omega
    have w : wrap64 ((n : Int) + 1) = ((n + 1 : Nat) : Int) := by rw [wrap_is (by omega) (by omega)]; omega
    rw [creelref_GlobFault.at_ L n hn'] at h
    have hm : rdOf ByteArray.empty L (n : Int) ∈ L := by
      unfold rdOf
      rw [Int.toNat_natCast, List.getD_eq_getElem?_getD, List.getElem?_eq_getElem hn']
      exact List.getElem_mem hn'
    have hx := hs _ hm
    unfold creelref_GlobFault.run at h
    by_cases c : (rdOf ByteArray.empty L (n : Int)).toList = ([] : List UInt8)
    · rw [if_pos c] at h
      obtain rfl := Option.some.inj h
      refine Ev.step (f := fun _ => some 9) (fun k => ?_) (Ev.now _)
      simp only [glob_Check.l0]
      rw [if_pos (by omega), if_pos (by omega), if_pos (by omega), if_pos c]
    · rw [if_neg c] at h
      obtain ⟨b, hb⟩ := res_of _ (rdOf ByteArray.empty L (n : Int)).data.toList (Nat.le_refl _)
      obtain ⟨t, ht⟩ := tok_res _ hx b hb
      rw [ht] at h
      have key : Ev (fun k => glob_Check.l1 k (rdOf ByteArray.empty L (n : Int)) L (L.length : Int) (n : Int)) v := by
        refine prog_res L _ _ v _ b hb _ rfl hx (fun e => ?_) (fun e => ?_)
        · subst e
          rw [w]
          exact ih (n + 1) v (by omega) (by omega) h
        · subst e
          exact (Option.some.inj (show some 3 = some v from h)).symm
      refine Ev.step (f := fun k => glob_Check.l1 k (rdOf ByteArray.empty L (n : Int)) L (L.length : Int) (n : Int)) (fun k => ?_) key
      simp only [glob_Check.l0]
      rw [if_pos (by omega), if_pos (by omega), if_pos (by omega), if_neg c]
theorem sp_mem (c : UInt8) : ∀ (l p : List UInt8), p ∈ sp c l → p.length ≤ l.length
  | [], p, h => by
    have : p = [] := by simpa [sp] using h
    rw [this]; simp
  | b :: l, p, h => by
    have ih := sp_mem c l
    unfold sp at h
    simp only [List.length_cons]
    split at h
    · rcases List.mem_cons.mp h with h | h
      · rw [h]; simp
      · have := ih p h; omega
    · split at h
      · rename_i q qs e
        rcases List.mem_cons.mp h with h | h
        · have := ih q (by rw [e]; exact List.mem_cons_self ..)
          rw [h]; simp only [List.length_cons]; omega
        · have := ih p (by rw [e]; exact List.mem_cons_of_mem _ h)
          omega
      · have : p = [b] := by simpa using h
        rw [this]; simp
theorem pp_mem (s x : ByteArray) (h : x ∈ pp s) : x.size ≤ s.size := by
  unfold pp at h
  obtain ⟨p, hp, rfl⟩ := List.mem_map.mp h
  have := sp_mem 47 _ p hp
  rw [size_list] at this
  rw [mk_size]
  exact this
theorem glob_both (s : ByteArray) (_hs : s.size ≤ 140737488351232) : ∃ v, Ev (fun k => glob_Check.f k s) v ∧ Ev (fun k => creelref_GlobFault.f k s) v := by
  unfold glob_Check.f creelref_GlobFault.f
  by_cases c1 : s.size = 0
  · refine ⟨1, Ev.ifp (by omega) (Ev.step (f := fun _ => some 1) (fun k => ?_) (Ev.now _)), Ev.ifp ((empty_size s).2 c1) (Ev.now _)⟩
    simp only [glob_Check.j0]
    rw [if_pos trivial]
  · have n1 : ¬ s.toList = ([] : List UInt8) := fun e => c1 ((empty_size s).1 e)
    by_cases c2 : 400 < s.size
    · refine ⟨1, Ev.ifn (by omega) (Ev.step (f := fun _ => some 1) (fun k => ?_) (Ev.now _)), Ev.ifn n1 (Ev.ifp c2 (Ev.now _))⟩
      simp only [glob_Check.j0]
      rw [if_pos (decide_eq_true (by omega))]
    · have hp := pp_len s
      have hm : ∀ x ∈ pp s, x.size ≤ 1000000 := fun x hx => by have := pp_mem s x hx; omega
      obtain ⟨v, hv⟩ := run_ends (pp s) hm
      have h1 := prog_parts (pp s) (by omega) hm (pp s).length 0 v (by omega) (by omega) (by rw [List.drop_zero]; exact hv)
      refine ⟨v, Ev.ifn (by omega) (Ev.step (f := fun k => glob_Check.l0 k (pp s) ((pp s).length : Int) 0) (fun k => ?_) h1), Ev.ifn n1 (Ev.ifn c2 (Ev.bind (show Ev (fun k => creelref_parts.f k s 47) (pp s) from ⟨s.size + 1, fun k hk => parts_is s k (by omega) (by omega)⟩) (Ev.ifp (by omega) (Ev.const hv))))⟩
      simp only [glob_Check.j0]
      rw [if_neg (by rw [decide_eq_true_eq]; omega), split_is s (by omega)]
      rfl
end Go.Proofs.YtcbbcnmifohibaaDoor.Q
end
section
namespace Go.Proofs.YtcbbcnmifohibaaDoor.Q
set_option linter.unusedVariables false
set_option linter.unusedSimpArgs false
open Go.RowKit Go.Proofs.YtcbbcnmifohibaaDoor.All Go.Proofs.YtcbbcnmifohibaaDoorW.PrintWords Go.Proofs.YtcbbcnmifohibaaDoorW.PrintLast Go.Proofs.YtcbbcnmifohibaaDoorW.PrintMore Go.Proofs.YtcbbcnmifohibaaDoorW.PureBase

-- USES Path
-- FN glob_parts
def nextT (s : Bool) (f : Nat → Bool) (r : Nat → Bool) : Nat → Bool
  | 0 => r 0 && s
  | k + 1 => if s = true then r (k + 1) || nextT s f r k else r k && f k
def rowT (S : Nat → Bool) (F : Nat → Nat → Bool) : Nat → Nat → Bool
  | 0 => fun k => k == 0
  | i + 1 => nextT (S i) (F i) (rowT S F i)
def RmJ (n m : Nat) (S : Nat → Bool) (F : Nat → Nat → Bool) : Nat → Nat → Prop
  | 0, k => k = m
  | j + 1, k => if S (n - (j + 1)) = true then ∃ k', k ≤ k' ∧ k' ≤ m ∧ RmJ n m S F j k' else k < m ∧ F (n - (j + 1)) k = true ∧ RmJ n m S F j (k + 1)
def Rm (n m : Nat) (S : Nat → Bool) (F : Nat → Nat → Bool) (i k : Nat) : Prop := RmJ n m S F (n - i) k
section Wild
variable (n m : Nat) (S : Nat → Bool) (F : Nat → Nat → Bool)
theorem Rm_end (k : Nat) : Rm n m S F n k ↔ k = m := by unfold Rm; rw [Nat.sub_self]; exact Iff.rfl
theorem RmJ_succ (j k : Nat) : RmJ n m S F (j + 1) k ↔ if S (n - (j + 1)) = true then ∃ k', k ≤ k' ∧ k' ≤ m ∧ RmJ n m S F j k' else k < m ∧ F (n - (j + 1)) k = true ∧ RmJ n m S F j (k + 1) := Iff.rfl
theorem Rm_star (i k : Nat) (hi : i < n) (hs : S i = true) : Rm n m S F i k ↔ ∃ k', k ≤ k' ∧ k' ≤ m ∧ Rm n m S F (i + 1) k' := by
  unfold Rm
  rw [show n - i = (n - (i + 1)) + 1 by omega, RmJ_succ, show n - (n - (i + 1) + 1) = i by omega, if_pos hs]
theorem Rm_fits (i k : Nat) (hi : i < n) (hs : S i = false) : Rm n m S F i k ↔ k < m ∧ F i k = true ∧ Rm n m S F (i + 1) (k + 1) := by
  unfold Rm
  rw [show n - i = (n - (i + 1)) + 1 by omega, RmJ_succ, show n - (n - (i + 1) + 1) = i by omega, if_neg (by rw [hs]; decide)]
theorem next_star (f r : Nat → Bool) : ∀ k, nextT true f r k = true ↔ ∃ j, j ≤ k ∧ r j = true
  | 0 => by
    show (r 0 && true) = true ↔ _
    rw [Bool.and_true]
    constructor
    · intro h; exact ⟨0, Nat.le_refl _, h⟩
    · rintro ⟨j, h1, h2⟩
      obtain rfl : j = 0 := by omega
      exact h2
  | k + 1 => by
    show (if true = true then r (k + 1) || nextT true f r k else r k && f k) = true ↔ _
    rw [if_pos rfl, Bool.or_eq_true, next_star f r k]
    constructor
    · rintro (h | ⟨j, h1, h2⟩)
      · exact ⟨k + 1, Nat.le_refl _, h⟩
      · exact ⟨j, by omega, h2⟩
    · rintro ⟨j, h1, h2⟩
      by_cases e : j = k + 1
      · left; rw [← e]; exact h2
      · right; exact ⟨j, by omega, h2⟩
theorem mid : ∀ i, i ≤ n → (Rm n m S F 0 0 ↔ ∃ k, k ≤ m ∧ rowT S F i k = true ∧ Rm n m S F i k)
  | 0, _ => by
    constructor
    · intro h; exact ⟨0, Nat.zero_le _, rfl, h⟩
    · rintro ⟨k, _, h1, h2⟩
      have : k = 0 := by simpa [rowT] using h1
      rw [this] at h2; exact h2
  | i + 1, hi => by
    rw [mid i (by omega)]
    cases hs : S i with
    | true =>
      constructor
      · rintro ⟨k, h0, h1, h2⟩
        obtain ⟨k', a, b, c⟩ := (Rm_star n m S F i k (by omega) hs).1 h2
        refine ⟨k', b, ?_, c⟩
        show nextT (S i) (F i) (rowT S F i) k' = true
        rw [hs]; exact (next_star _ _ _).2 ⟨k, a, h1⟩
      · rintro ⟨k, h0, h1, h2⟩
        have h1' : nextT (S i) (F i) (rowT S F i) k = true := h1
        rw [hs] at h1'
        obtain ⟨j, a, b⟩ := (next_star _ _ _).1 h1'
        exact ⟨j, by omega, b, (Rm_star n m S F i j (by omega) hs).2 ⟨k, a, h0, h2⟩⟩
    | false =>
      constructor
      · rintro ⟨k, h0, h1, h2⟩
        obtain ⟨a, b, c⟩ := (Rm_fits n m S F i k (by omega) hs).1 h2
        refine ⟨k + 1, by omega, ?_, c⟩
        show nextT (S i) (F i) (rowT S F i) (k + 1) = true
        rw [hs]
        show (if false = true then _ else rowT S F i k && F i k) = true
        rw [if_neg (by decide), h1, b]; rfl
      · rintro ⟨k, h0, h1, h2⟩
        have h1' : nextT (S i) (F i) (rowT S F i) k = true := h1
        rw [hs] at h1'
        cases k with
        | zero =>
          have : (rowT S F i 0 && false) = true := h1'
          rw [Bool.and_false] at this; cases this
        | succ k =>
          have : (if false = true then (rowT S F i (k + 1) || nextT false (F i) (rowT S F i) k) else rowT S F i k && F i k) = true := h1'
          rw [if_neg (by decide), Bool.and_eq_true] at this
          exact ⟨k, by omega, this.1, (Rm_fits n m S F i k (by omega) hs).2 ⟨by omega, this.2, h2⟩⟩
theorem row_is : rowT S F n m = true ↔ Rm n m S F 0 0 := by
  rw [mid n m S F n (Nat.le_refl _)]
  constructor
  · intro h; exact ⟨m, Nat.le_refl _, h, (Rm_end n m S F m).2 rfl⟩
  · rintro ⟨k, _, h1, h2⟩
    have := (Rm_end n m S F k).1 h2
    rw [this] at h1; exact h1
theorem Rm_le (i k : Nat) (hi : i ≤ n) (h : Rm n m S F i k) : k ≤ m := by
  by_cases e : i = n
  · subst e; have := (Rm_end i m S F k).1 h; omega
  · cases hs : S i with
    | true => obtain ⟨k', a, b, _⟩ := (Rm_star n m S F i k (by omega) hs).1 h; omega
    | false => have := ((Rm_fits n m S F i k (by omega) hs).1 h).1; omega
theorem Rm_all (j : Nat) : ∀ i, n - i = j → i ≤ n → (Rm n m S F i m ↔ ∀ t, i ≤ t → t < n → S t = true) := by
  induction j with
  | zero =>
    intro i e hi
    have ei : i = n := by omega
    rw [ei, Rm_end]
    exact ⟨fun _ t a b => by omega, fun _ => rfl⟩
  | succ j ih =>
    intro i e hi
    cases hs : S i with
    | true =>
      rw [Rm_star n m S F i m (by omega) hs]
      constructor
      · rintro ⟨k', a, b, c⟩ t h1 h2
        have ek : k' = m := by omega
        rw [ek] at c
        by_cases et : t = i
        · rw [et]; exact hs
        · exact (ih (i + 1) (by omega) (by omega)).1 c t (by omega) h2
      · intro h
        exact ⟨m, Nat.le_refl _, Nat.le_refl _, (ih (i + 1) (by omega) (by omega)).2 fun t h1 h2 => h t (by omega) h2⟩
    | false =>
      rw [Rm_fits n m S F i m (by omega) hs]
      constructor
      · rintro ⟨a, _⟩; omega
      · intro h; have := h i (Nat.le_refl _) (by omega); rw [hs] at this; cases this
theorem Rm_path (a k : Nat) : ∀ d, a + d ≤ n → (∀ t, a ≤ t → t < a + d → S t = false) → Rm n m S F a k → Rm n m S F (a + d) (k + d)
  | 0, _, _, h => h
  | d + 1, hn, hs, h => by
    have h1 := Rm_path a k d (by omega) (fun t x y => hs t x (by omega)) h
    exact ((Rm_fits n m S F (a + d) (k + d) (by omega) (hs _ (by omega) (by omega))).1 h1).2.2
end Wild
section WildRun
variable (n m : Nat) (S : Nat → Bool) (F : Nat → Nat → Bool) (S' : Int → Option Bool) (F' : Int → Int → Option Bool)
variable (hn : n ≤ 1000000000) (hm : m ≤ 1000000000) (hS : ∀ i : Nat, i < n → S' (i : Int) = some (S i)) (hF : ∀ i k : Nat, i < n → k < m → S i = false → F' (i : Int) (k : Int) = some (F i k))
include hn hS in
theorem we_run : ∀ (q i : Nat), i ≤ n → n - i < q → ∃ b, glob_parts.WE (n : Int) S' q (i : Int) = some b ∧ (b = true ↔ ∀ t, i ≤ t → t < n → S t = true)
  | 0, i, _, h => by omega
  | q + 1, i, hi, h => by
    have w : wrap64 ((i : Int) + 1) = ((i + 1 : Nat) : Int) := by rw [wrap_is (by omega) (by omega)]; omega
    simp only [glob_parts.WE]
    by_cases e : i < n
    · rw [if_pos (by omega), hS i e]
      simp only [Option.bind_some]
      cases hs : S i with
      | true =>
        rw [if_pos rfl, w]
        obtain ⟨b, h1, h2⟩ := we_run q (i + 1) (by omega) (by omega)
        refine ⟨b, h1, h2.trans ⟨fun h t a c => ?_, fun h t a c => h t (by omega) c⟩⟩
        by_cases et : t = i
        · rw [et]; exact hs
        · exact h t (by omega) c
      | false =>
        rw [if_neg (by decide)]
        refine ⟨_, rfl, ?_⟩
        constructor
        · intro h; have := of_decide_eq_true (show decide ((i : Int) = (n : Int)) = true from h); omega
        · intro h; have := h i (Nat.le_refl _) e; rw [hs] at this; cases this
    · rw [if_neg (by omega)]
      simp only [Option.bind_some]
      rw [if_neg (by decide)]
      obtain rfl : i = n := by omega
      refine ⟨_, rfl, ⟨fun _ t a b => by omega, fun _ => by simp⟩⟩
/-- what holds at the head of wild's loop -/
def WJ (last : Int) (fr i k : Nat) : Prop :=
  (last = -1 ∧ Aside0 (Rm n m S F 0 0 ↔ Rm n m S F i k)) ∨ ∃ L : Nat, last = (L : Int) ∧ L < i ∧ k = fr + (i - (L + 1)) ∧ Aside0 (∀ t, L < t → t < i → S t = false) ∧ Aside0 (Rm n m S F 0 0 ↔ ∃ k', fr ≤ k' ∧ k' ≤ m ∧ Rm n m S F (L + 1) k') ∧ Aside0 (Rm n m S F (L + 1) fr ↔ Rm n m S F i k)
include hn hm hS hF in
theorem wl_run : ∀ (q i fr k : Nat) (last : Int), i ≤ n → k ≤ m → fr ≤ k → WJ n m S F last fr i k → (m - fr) * (n + 2) + (n - i) + n + 2 < q → ∃ b, glob_parts.WL (n : Int) (m : Int) S' F' q (i : Int) last (fr : Int) (k : Int) = some b ∧ (b = true ↔ Rm n m S F 0 0)
  | 0, _, _, _, _, _, _, _, _, h => by omega
  | q + 1, i, fr, k, last, hi, hk, hf, J, h => by
    have w1 : wrap64 ((i : Int) + 1) = ((i + 1 : Nat) : Int) := by rw [wrap_is (by omega) (by omega)]; omega
    have w2 : wrap64 ((k : Int) + 1) = ((k + 1 : Nat) : Int) := by rw [wrap_is (by omega) (by omega)]; omega
    have w3 : wrap64 ((fr : Int) + 1) = ((fr + 1 : Nat) : Int) := by rw [wrap_is (by omega) (by omega)]; omega
    simp only [glob_parts.WL]
    by_cases hkm : k < m
    · rw [if_pos (by clear w1 w2 w3; omega)]
      -- the way back
      have back : ¬ Rm n m S F i k → ∃ b, (if 0 ≤ last then glob_parts.WL (n : Int) (m : Int) S' F' q (wrap64 (last + 1)) last (wrap64 ((fr : Int) + 1)) (wrap64 ((fr : Int) + 1)) else some false) = some b ∧ (b = true ↔ Rm n m S F 0 0) := by
        intro hno
        rcases J with ⟨e, J⟩ | ⟨L, e, h1, h2, h3, h4, h5⟩
        · rw [if_neg (by rw [e]; decide)]
          exact ⟨_, rfl, ⟨fun h => (by cases h), fun h => absurd (J.out.1 h) hno⟩⟩
        · have w4 : wrap64 ((L : Int) + 1) = ((L + 1 : Nat) : Int) := by clear w1 w2 w3; rw [wrap_is (by omega) (by omega)]; omega
          rw [if_pos (by rw [e]; exact Int.natCast_nonneg L), e, w4, w3]
          clear w1 w2 w3 w4
          have hmul : (m - fr) * (n + 2) = (m - (fr + 1)) * (n + 2) + (n + 2) := by
            rw [show m - fr = (m - (fr + 1)) + 1 by omega, Nat.add_mul, Nat.one_mul]
          refine wl_run q (L + 1) (fr + 1) (fr + 1) (L : Int) (by omega) (by omega) (Nat.le_refl _) (Or.inr ⟨L, rfl, by omega, by omega, ⟨fun t a b => by omega⟩, ⟨?_⟩, ⟨Iff.rfl⟩⟩) (by rw [hmul] at h; omega)
          rw [h4.out]
          constructor
          · rintro ⟨k', a, b, c⟩
            by_cases ek : k' = fr
            · subst ek; exact absurd (h5.out.1 c) hno
            · exact ⟨k', by omega, b, c⟩
          · rintro ⟨k', a, b, c⟩; exact ⟨k', by omega, b, c⟩
      by_cases e : i < n
      · rw [if_pos (by clear w1 w2 w3; omega), if_pos (by clear w1 w2 w3; omega), hS i e]
        simp only [Option.bind_some]
        cases hs : S i with
        | true =>
          rw [if_pos rfl, w1]
          clear w1 w2 w3
          have hmul : (m - k) * (n + 2) ≤ (m - fr) * (n + 2) := Nat.mul_le_mul_right _ (by omega)
          refine wl_run q (i + 1) k k (i : Int) (by omega) hk (Nat.le_refl _) (Or.inr ⟨i, rfl, by omega, by omega, ⟨fun t a b => by omega⟩, ⟨?_⟩, ⟨Iff.rfl⟩⟩) (by omega)
          have st := Rm_star n m S F i k e hs
          rcases J with ⟨_, J⟩ | ⟨L, _, h1, h2, h3, h4, h5⟩
          · exact J.out.trans st
          · constructor
            · intro hr
              obtain ⟨k', a, b, c⟩ := h4.out.1 hr
              have p := Rm_path n m S F (L + 1) k' (i - (L + 1)) (by omega) (fun t x y => h3.out t (by omega) (by omega)) c
              rw [show L + 1 + (i - (L + 1)) = i by omega] at p
              obtain ⟨k2, a2, b2, c2⟩ := (Rm_star n m S F i _ e hs).1 p
              exact ⟨k2, by omega, b2, c2⟩
            · intro hr
              exact h4.out.2 ⟨fr, Nat.le_refl _, by omega, h5.out.2 (st.2 hr)⟩
        | false =>
          rw [if_neg (by decide), hF i k e hkm hs]
          simp only [Option.bind_some]
          have ft := Rm_fits n m S F i k e hs
          cases hb : F i k with
          | true =>
            rw [if_pos rfl, w1, w2]
            clear w1 w2 w3
            refine wl_run q (i + 1) fr (k + 1) last (by omega) (by omega) (by omega) ?_ (by omega)
            have ft2 : Rm n m S F i k ↔ Rm n m S F (i + 1) (k + 1) := ft.trans ⟨fun x => x.2.2, fun x => ⟨hkm, hb, x⟩⟩
            rcases J with ⟨e, J⟩ | ⟨L, e, h1, h2, h3, h4, h5⟩
            · exact Or.inl ⟨e, ⟨J.out.trans ft2⟩⟩
            · refine Or.inr ⟨L, e, by omega, by omega, ⟨fun t a b => ?_⟩, h4, ⟨h5.out.trans ft2⟩⟩
              by_cases et : t = i
              · rw [et]; exact hs
              · exact h3.out t a (by omega)
          | false =>
            rw [if_neg (by decide)]
            exact back fun x => by have := (ft.1 x).2.1; rw [hb] at this; cases this
      · rw [if_neg (by clear w1 w2 w3; omega), if_neg (by clear w1 w2 w3; omega)]
        simp only [Option.bind_some]
        rw [if_neg (by decide), if_neg (by decide)]
        obtain rfl : i = n := by omega
        exact back fun x => by have := (Rm_end i m S F k).1 x; omega
    · rw [if_neg (by clear w1 w2 w3; omega)]
      clear w1 w2 w3
      obtain rfl : k = m := by omega
      obtain ⟨b, h1, h2⟩ := we_run n S S' hn hS q i hi (by omega)
      refine ⟨b, h1, h2.trans ?_⟩
      rw [← Rm_all n k S F (n - i) i rfl hi]
      rcases J with ⟨_, J⟩ | ⟨L, _, g1, g2, g3, g4, g5⟩
      · exact J.out.symm
      · constructor
        · intro x; exact g4.out.2 ⟨fr, Nat.le_refl _, by omega, g5.out.2 x⟩
        · intro x
          obtain ⟨k', a, b2, c⟩ := g4.out.1 x
          have p := Rm_path n k S F (L + 1) k' (i - (L + 1)) (by omega) (fun t x y => g3.out t (by omega) (by omega)) c
          rw [show L + 1 + (i - (L + 1)) = i by omega] at p
          have := Rm_le n k S F i _ hi p
          rw [show k' + (i - (L + 1)) = k by omega] at p
          exact p
include hn hm hS hF in
theorem wild_run (q : Nat) (h : m * (n + 2) + n + n + 2 < q) : glob_parts.WL (n : Int) (m : Int) S' F' q 0 (-1) 0 0 = some (rowT S F n m) := by
  obtain ⟨b, h1, h2⟩ := wl_run n m S F S' F' hn hm hS hF q 0 0 0 (-1) (Nat.zero_le _) (Nat.zero_le _) (Nat.le_refl _) (Or.inl ⟨rfl, ⟨Iff.rfl⟩⟩) (by simpa using h)
  refine h1.trans (congrArg some ?_)
  rw [Bool.eq_iff_iff, h2, row_is]
end WildRun
end Go.Proofs.YtcbbcnmifohibaaDoor.Q
end
section
namespace Go.Proofs.YtcbbcnmifohibaaDoor.Q
set_option linter.unusedVariables false
set_option linter.unusedSimpArgs false
open Go.RowKit Go.Proofs.YtcbbcnmifohibaaDoor.All Go.Proofs.YtcbbcnmifohibaaDoorW.PrintWords Go.Proofs.YtcbbcnmifohibaaDoorW.PrintLast Go.Proofs.YtcbbcnmifohibaaDoorW.PrintMore Go.Proofs.YtcbbcnmifohibaaDoorW.PureBase

-- USES GlobR WildL
-- FN glob_Check glob_end glob_set glob_sign glob_split glob_parts creelref_GlobFault creelref_GlobFits creelref_parts strings_Split strings_IndexByte strings_HasPrefix
/-! ### the signs that a set takes -/
def memB (c : UInt8) : List UInt8 → Bool
  | [] => false
  | [a] => decide (a = c)
  | [a, b] => decide (a = c) || memB c [b]
  | a :: d :: b :: r => if d = 45 then (decide (a.toNat ≤ c.toNat) && decide (c.toNat ≤ b.toNat)) || memB c r else decide (a = c) || memB c (d :: b :: r)
theorem memB_one (c a : UInt8) : memB c [a] = (decide (a = c) || memB c []) := by unfold memB; rw [Bool.or_false]
theorem memB_two (c a b : UInt8) : memB c [a, b] = (decide (a = c) || memB c [b]) := rfl
theorem memB_rng (c a b : UInt8) (r : List UInt8) : memB c (a :: 45 :: b :: r) = ((decide (a.toNat ≤ c.toNat) && decide (c.toNat ≤ b.toNat)) || memB c r) := by
  show (if (45 : UInt8) = 45 then _ else _) = _
  rw [if_pos rfl]
theorem memB_far (c a d b : UInt8) (r : List UInt8) (h : d ≠ 45) : memB c (a :: d :: b :: r) = (decide (a = c) || memB c (d :: b :: r)) := by
  show (if d = 45 then _ else _) = _
  rw [if_neg h]
/-- one step: a range, or a sign -/
inductive Stp : List UInt8 → UInt8 → UInt8 → List UInt8 → Prop
  | rng (a b : UInt8) (r : List UInt8) : Stp (a :: 45 :: b :: r) a b r
  | one (a : UInt8) (r : List UInt8) (h : ∀ b r', r ≠ 45 :: b :: r') : Stp (a :: r) a a r
theorem stp_of (a : UInt8) (r : List UInt8) : ∃ b r', Stp (a :: r) a b r' := by
  by_cases h : ∃ b r', r = 45 :: b :: r'
  · obtain ⟨b, r', rfl⟩ := h
    exact ⟨b, r', .rng a b r'⟩
  · exact ⟨a, r, .one a r (fun b r' e => h ⟨b, r', e⟩)⟩
theorem u8_eq (a c : UInt8) : a = c ↔ a.toNat ≤ c.toNat ∧ c.toNat ≤ a.toNat := ⟨fun h => by rw [h]; exact ⟨Nat.le_refl _, Nat.le_refl _⟩, fun h => UInt8.toNat_inj.mp (by omega)⟩
theorem memB_stp (c : UInt8) {l : List UInt8} {a b : UInt8} {r : List UInt8} (h : Stp l a b r) : memB c l = ((decide (a.toNat ≤ c.toNat) && decide (c.toNat ≤ b.toNat)) || memB c r) := by
  cases h with
  | rng => exact memB_rng c a b r
  | one _ _ h =>
    have e : (decide (a.toNat ≤ c.toNat) && decide (c.toNat ≤ a.toNat)) = decide (a = c) := by
      rw [Bool.eq_iff_iff, Bool.and_eq_true, decide_eq_true_eq, decide_eq_true_eq, decide_eq_true_eq]
      exact (u8_eq a c).symm
    rw [e]
    cases r with
    | nil => exact memB_one c a
    | cons d r =>
      cases r with
      | nil => exact memB_two c a d
      | cons b r =>
        by_cases hd : d = 45
        · subst hd; exact absurd rfl (h b r)
        · exact memB_far c a d b r hd
theorem stp_len {l : List UInt8} {a b : UInt8} {r : List UInt8} (h : Stp l a b r) : r.length < l.length ∧ ∃ p, l = p ++ r ∧ p.head? = some a := by
  cases h with
  | rng => exact ⟨by simp; omega, [a, 45, b], rfl, rfl⟩
  | one => exact ⟨by simp, [a], rfl, rfl⟩
theorem ran_get : ∀ (n : Nat) (x : List Bool) (c j : Nat), c + n < x.length → (creelref_GlobFault.ran n x c).getD j false = (decide (c + 1 ≤ j ∧ j ≤ c + n) || x.getD j false)
  | 0, x, c, j, _ => by
    rw [creelref_GlobFault.ran_zero, decide_eq_false (by omega), Bool.false_or]
  | n + 1, x, c, j, h => by
    rw [creelref_GlobFault.ran_succ, ran_get n (x.set (c + 1) true) (c + 1) j (by rw [List.length_set]; omega)]
    by_cases e : j = c + 1
    · subst e
      rw [List.getD_eq_getElem?_getD, List.getElem?_set_self (by omega), decide_eq_true (p := c + 1 ≤ c + 1 ∧ c + 1 ≤ c + (n + 1)) (by omega)]
      simp
    · rw [List.getD_eq_getElem?_getD, List.getElem?_set_ne (by omega), ← List.getD_eq_getElem?_getD]
      congr 1
      exact decide_eq_decide.mpr (by omega)
theorem flip_get : ∀ (n : Nat) (x : List Bool) (c j : Nat), c + n < x.length → (creelref_GlobFault.flip n x c).getD j false = (if c + 1 ≤ j ∧ j ≤ c + n then !(x.getD j false) else x.getD j false)
  | 0, x, c, j, _ => by
    rw [creelref_GlobFault.flip_zero, if_neg (by omega)]
  | n + 1, x, c, j, h => by
    rw [creelref_GlobFault.flip_succ, flip_get n _ (c + 1) j (by rw [List.length_set]; omega)]
    by_cases e : j = c + 1
    · subst e
      rw [if_neg (by omega), if_pos (by omega), List.getD_eq_getElem?_getD, List.getElem?_set_self (by omega)]
      rfl
    · rw [List.getD_eq_getElem?_getD, List.getElem?_set_ne (by omega), ← List.getD_eq_getElem?_getD]
      by_cases e2 : c + 1 + 1 ≤ j ∧ j ≤ c + 1 + n
      · rw [if_pos e2, if_pos (by omega)]
      · rw [if_neg e2, if_neg (by omega)]
def gx (x : List Bool) (c : UInt8) : Bool := x.getD (c.toNat + 1) false
theorem stp_two (s : ByteArray) (hs : s.size ≤ 1000000) (k : Nat) (l q : List UInt8) (a b : UInt8) (r : List UInt8) (h : Stp l a b r) (ht : (93 : UInt8) ∉ l.tail) (hd : s.data.toList.drop k = l ++ 93 :: q) :
    bt s (k : Int) = (a.toNat : Int) ∧ creelref_GlobFault.hgh s (k : Int) = (b.toNat : Int) ∧ creelref_GlobFault.nx s (k : Int) = ((k + (l.length - r.length) : Nat) : Int) ∧ k < s.size := by
  have w1 : ∀ j : Nat, j ≤ 2000000 → wrap64 ((j : Int) + 1) = ((j + 1 : Nat) : Int) := fun j hj => by rw [wrap_is (by omega) (by omega)]; omega
  have w2 : ∀ j : Nat, j ≤ 2000000 → wrap64 ((j : Int) + 2) = ((j + 2 : Nat) : Int) := fun j hj => by rw [wrap_is (by omega) (by omega)]; omega
  cases h with
  | rng =>
    obtain ⟨h1, h2, h3⟩ := at_byte s k a (45 :: b :: (r ++ 93 :: q)) hd
    obtain ⟨g1, g2, g3⟩ := at_byte s (k + 1) 45 _ h3
    obtain ⟨f1, f2, f3⟩ := at_byte s (k + 1 + 1) b _ g3
    have hb : b ≠ 93 := fun e => ht (by rw [e]; simp)
    have ht2 : creelref_GlobFault.two s (k : Int) = true := by
      unfold creelref_GlobFault.two
      rw [w1 k (by omega), w2 k (by omega), Bool.and_eq_true, Bool.and_eq_true, decide_eq_true_eq, beq_iff_eq, bne_iff_ne]
      exact ⟨by omega, g2, by rw [show k + 2 = k + 1 + 1 from rfl, f2]; exact u8_ne b 93 hb⟩
    refine ⟨h2, ?_, ?_, h1⟩
    · unfold creelref_GlobFault.hgh; rw [ht2, if_pos rfl, w2 k (by omega)]; exact f2
    · unfold creelref_GlobFault.nx; rw [ht2, if_pos rfl, w2 k (by omega), w1 (k + 2) (by omega)]
      simp only [List.length_cons]; congr 1; omega
  | one _ _ hn =>
    obtain ⟨h1, h2, h3⟩ := at_byte s k a (r ++ 93 :: q) hd
    have ht2 : creelref_GlobFault.two s (k : Int) = false := by
      cases e : creelref_GlobFault.two s (k : Int) with
      | false => rfl
      | true =>
        exfalso
        unfold creelref_GlobFault.two at e
        rw [w1 k (by omega), w2 k (by omega), Bool.and_eq_true, Bool.and_eq_true, decide_eq_true_eq, beq_iff_eq, bne_iff_ne] at e
        obtain ⟨e1, e2, e3⟩ := e
        cases r with
        | nil =>
          obtain ⟨g1, g2, g3⟩ := at_byte s (k + 1) 93 _ h3
          rw [g2] at e2; exact absurd e2 (by decide)
        | cons d r =>
          obtain ⟨g1, g2, g3⟩ := at_byte s (k + 1) d _ h3
          have hd45 : d = 45 := UInt8.toNat_inj.mp (by rw [g2] at e2; have : ((45 : UInt8).toNat : Int) = 45 := rfl; omega)
          subst hd45
          cases r with
          | nil =>
            obtain ⟨f1, f2, f3⟩ := at_byte s (k + 1 + 1) 93 _ g3
            exact e3 f2
          | cons b r => exact hn b r rfl
    refine ⟨h2, ?_, ?_, h1⟩
    · unfold creelref_GlobFault.hgh; rw [ht2, if_neg (by decide)]; exact h2
    · unfold creelref_GlobFault.nx; rw [ht2, if_neg (by decide), w1 k (by omega)]
      simp only [List.length_cons]; congr 1; omega
theorem tail_suf {p r : List UInt8} {a : UInt8} (hp : p.head? = some a) (h : (93 : UInt8) ∉ (p ++ r).tail) : (93 : UInt8) ∉ r := by
  cases p with
  | nil => cases hp
  | cons b p => exact fun hm => h (by simp [hm])
theorem l1_mem (s : ByteArray) (hs : s.size ≤ 1000000) (fr : Nat) (q : List UInt8) (d : Nat) : ∀ (l : List UInt8) (m k : Nat) (x : List Bool), l.length ≤ d → d < m → x.length = 257 → (l = [] → k ≠ fr) → (93 : UInt8) ∉ l.tail → (k ≠ fr → (93 : UInt8) ∉ l) → s.data.toList.drop k = l ++ 93 :: q → fr ≤ k →
    ∃ x', creelref_GlobFault.l1 m s (fr : Int) x (k : Int) = some (x', ((k + l.length : Nat) : Int)) ∧ x'.length = 257 ∧ x'.getD 0 false = x.getD 0 false ∧ ∀ c : UInt8, gx x' c = (memB c l || gx x c) := by
  induction d with
  | zero =>
    intro l m k x hl hm hx h0 _ _ hd _
    obtain rfl : l = [] := List.length_eq_zero_iff.mp (by omega)
    obtain ⟨m, rfl⟩ : ∃ n, m = n + 1 := ⟨m - 1, by omega⟩
    obtain ⟨h1, h2, h3⟩ := at_byte s k 93 q hd
    refine ⟨x, ?_, hx, rfl, fun c => rfl⟩
    simp only [creelref_GlobFault.l1]
    rw [if_pos (by omega), if_neg (fun h => h.elim (fun e => h0 rfl (by omega)) (fun e => e (by rw [h2]; rfl)))]
    rfl
  | succ d ih =>
    intro l m k x hl hm hx h0 ht hk hd hf
    obtain ⟨m, rfl⟩ : ∃ n, m = n + 1 := ⟨m - 1, by omega⟩
    cases l with
    | nil =>
      obtain ⟨h1, h2, h3⟩ := at_byte s k 93 q hd
      refine ⟨x, ?_, hx, rfl, fun c => rfl⟩
      simp only [creelref_GlobFault.l1]
      rw [if_pos (by omega), if_neg (fun h => h.elim (fun e => h0 rfl (by omega)) (fun e => e (by rw [h2]; rfl)))]
      rfl
    | cons a l =>
      obtain ⟨b, r, hs1⟩ := stp_of a l
      obtain ⟨e1, e2, e3, e4⟩ := stp_two s hs k (a :: l) q a b r hs1 ht hd
      have E1 := Aside0.mk e1
      have E2 := Aside0.mk e2
      have E3 := Aside0.mk e3
      clear e1 e2 e3
      obtain ⟨g1, p, g2, g3⟩ := stp_len hs1
      have g4 : (a :: l).length = p.length + r.length := by rw [g2, List.length_append]
      have hr : (93 : UInt8) ∉ r := tail_suf g3 (by rw [← g2]; exact ht)
      have hdr : s.data.toList.drop (k + ((a :: l).length - r.length)) = r ++ 93 :: q := by
        rw [← List.drop_drop, hd, g2, List.append_assoc, List.length_append, Nat.add_sub_cancel, List.drop_left]
      have hka : a.toNat < 256 := a.toNat_lt
      have hkb : b.toNat < 256 := b.toNat_lt
      obtain ⟨x', f1, f2, f3, f4⟩ := ih r m (k + ((a :: l).length - r.length)) (creelref_GlobFault.ran (b.toNat + 1 - a.toNat) x a.toNat) (by simp only [List.length_cons] at hl g1; omega) (by omega) (by rw [creelref_GlobFault.ran_len]; exact hx) (fun _ => by simp only [List.length_cons] at g1 ⊢; omega) (fun hm => hr (List.mem_of_mem_tail hm)) (fun _ => hr) hdr (by omega)
      refine ⟨x', ?_, f2, ?_, ?_⟩
      · simp only [creelref_GlobFault.l1]
        rw [if_pos (by omega), if_pos]
        · rw [E2.out, E1.out, E3.out, Int.toNat_natCast, Int.toNat_natCast, f1]
          congr 2
          simp only [List.length_cons] at g1 ⊢
          omega
        · by_cases ek : k = fr
          · left; omega
          · right; rw [E1.out]; exact u8_ne a 93 (fun e => hk ek (by rw [e]; simp))
      · rw [f3, ran_get _ _ _ _ (by omega), decide_eq_false (by omega), Bool.false_or]
      · intro c
        rw [f4 c, memB_stp c hs1]
        unfold gx
        rw [ran_get _ _ _ _ (by omega)]
        have hd2 : decide (a.toNat + 1 ≤ c.toNat + 1 ∧ c.toNat + 1 ≤ a.toNat + (b.toNat + 1 - a.toNat)) = (decide (a.toNat ≤ c.toNat) && decide (c.toNat ≤ b.toNat)) := by
          rw [Bool.eq_iff_iff, Bool.and_eq_true, decide_eq_true_eq, decide_eq_true_eq, decide_eq_true_eq]
          omega
        rw [hd2]
        cases (decide (a.toNat ≤ c.toNat) && decide (c.toNat ≤ b.toNat)) <;> cases memB c r <;> simp

/-! ### a pattern's pieces -/
/-- a piece, and the signs that it takes -/
inductive Pc : List UInt8 → (UInt8 → Bool) → Prop
  | any : Pc [63] (fun _ => true)
  | one (b : UInt8) (h1 : b ≠ 63) (h2 : b ≠ 91) : Pc [b] (fun c => decide (b = c))
  | set (p B : List UInt8) (no : Bool) (h : skp p = B ++ [93]) (hB : B ≠ []) (h93 : (93 : UInt8) ∉ B.tail) (hno : no = decide (p.head? = some 33)) : Pc (91 :: p) (fun c => memB c B != no)
/-- the pieces of a pattern's part -/
inductive Pcs : List UInt8 → List (List UInt8) → List (UInt8 → Bool) → Prop
  | nil : Pcs [] [] []
  | sign (c : UInt8) (r : List UInt8) (l : List (List UInt8)) (f : UInt8 → Bool) (fs : List (UInt8 → Bool)) (hc : c ≠ 91) (hf : Pc [c] f) (hr : Pcs r l fs) : Pcs (c :: r) ([c] :: l) (f :: fs)
  | set (p q : List UInt8) (l : List (List UInt8)) (f : UInt8 → Bool) (fs : List (UInt8 → Bool)) (hcl : clo (p ++ q) = some q) (hf : Pc (91 :: p) f) (hr : Pcs q l fs) : Pcs (91 :: (p ++ q)) ((91 :: p) :: l) (f :: fs)
theorem aft_cut : ∀ (l q : List UInt8), aft l = some q → ∃ B, l = B ++ 93 :: q ∧ (93 : UInt8) ∉ B
  | [], q, h => by cases h
  | c :: l, q, h => by
    rw [aft_cons] at h
    by_cases hc : c = 93
    · subst hc
      rw [if_pos rfl] at h
      cases h
      exact ⟨[], rfl, by simp⟩
    · rw [if_neg hc] at h
      obtain ⟨B, e, hB⟩ := aft_cut l q h
      refine ⟨c :: B, by rw [e]; rfl, fun hm => ?_⟩
      rcases List.mem_cons.mp hm with h1 | h1
      · exact hc h1.symm
      · exact hB h1
theorem clo_cut (r q : List UInt8) (h : clo r = some q) : ∃ p B, r = p ++ q ∧ skp p = B ++ [93] ∧ B ≠ [] ∧ (93 : UInt8) ∉ B.tail ∧ ∀ x, skp (p ++ x) = skp p ++ x := by
  have h0 := h
  unfold clo at h
  have key : ∀ (b : UInt8) (t : List UInt8), aft t = some q → ∃ B, b :: t = B ++ [93] ++ q ∧ B ≠ [] ∧ (93 : UInt8) ∉ B.tail := by
    intro b t ht
    obtain ⟨B, e, hB⟩ := aft_cut t q ht
    exact ⟨b :: B, by rw [e]; simp, by simp, hB⟩
  cases r with
  | nil => cases h
  | cons c t =>
    by_cases hc : c = 33
    · subst hc
      rw [skp_cons, if_pos rfl] at h
      cases t with
      | nil => cases h
      | cons b t =>
        obtain ⟨B, e, hB, h93⟩ := key b t h
        refine ⟨33 :: (B ++ [93]), B, by rw [e]; simp, by rw [skp_cons, if_pos rfl], hB, h93, fun x => ?_⟩
        rw [List.cons_append, skp_cons, skp_cons, if_pos rfl, if_pos rfl]
    · rw [skp_cons, if_neg hc] at h
      obtain ⟨B, e, hB, h93⟩ := key c t h
      have hs : ∀ x : List UInt8, skp (B ++ [93] ++ x) = B ++ [93] ++ x := by
        intro x
        cases B with
        | nil => exact absurd rfl hB
        | cons d B =>
          have : d = c := by simp at e; exact e.1.symm
          subst this
          rw [List.cons_append, List.cons_append, skp_cons, if_neg hc]
      have hs0 := hs []
      rw [List.append_nil] at hs0
      exact ⟨B ++ [93], B, e, hs0, hB, h93, fun x => by rw [hs, hs0]⟩
theorem pcs_of (u : List UInt8) (b : Bool) (h : Res u b) : b = true → ∃ l fs, Pcs u l fs := by
  induction h with
  | nil => intro _; exact ⟨_, _, .nil⟩
  | sign c r b hc _ ih =>
    intro hb
    obtain ⟨l, fs, h1⟩ := ih hb
    by_cases hq : c = 63
    · subst hq; exact ⟨_, _, .sign 63 r l _ fs hc .any h1⟩
    · exact ⟨_, _, .sign c r l _ fs hc (.one c hq hc) h1⟩
  | bad r _ => intro hb; cases hb
  | set r q b hcl _ ih =>
    intro hb
    obtain ⟨l, fs, h1⟩ := ih hb
    obtain ⟨p, B, e1, e2, e3, e4, _⟩ := clo_cut r q hcl
    rw [e1] at hcl ⊢
    exact ⟨_, _, .set p q l _ fs hcl (.set p B _ e2 e3 e4 rfl) h1⟩
theorem pcs_len {u : List UInt8} {l : List (List UInt8)} {fs : List (UInt8 → Bool)} (h : Pcs u l fs) : l.length = fs.length ∧ l.length ≤ u.length := by
  induction h with
  | nil => exact ⟨rfl, Nat.le_refl _⟩
  | sign c r l f fs _ _ _ ih => simp only [List.length_cons]; omega
  | set p q l f fs _ _ _ ih => simp only [List.length_cons, List.length_append]; omega
/-- a row of bits of a piece -/
def TkOk (p : List UInt8) (f : UInt8 → Bool) (t : List Bool) : Prop := t.length = 257 ∧ t.getD 0 false = decide (p = [42]) ∧ ∀ c, gx t c = f c
inductive Tks : List (List UInt8) → List (UInt8 → Bool) → List (List Bool) → Prop
  | nil : Tks [] [] []
  | cons (p : List UInt8) (f : UInt8 → Bool) (t : List Bool) (l : List (List UInt8)) (fs : List (UInt8 → Bool)) (ts : List (List Bool)) (h : TkOk p f t) (hr : Tks l fs ts) : Tks (p :: l) (f :: fs) (t :: ts)
theorem tks_get {l : List (List UInt8)} {fs : List (UInt8 → Bool)} {ts : List (List Bool)} (h : Tks l fs ts) : ts.length = l.length ∧ ∀ i, i < l.length → TkOk (l.getD i []) (fs.getD i (fun _ => false)) (ts.getD i []) := by
  induction h with
  | nil => exact ⟨rfl, fun i hi => absurd hi (Nat.not_lt_zero _)⟩
  | cons p f t l fs ts h _ ih =>
    refine ⟨by simp only [List.length_cons]; omega, fun i hi => ?_⟩
    cases i with
    | zero => exact h
    | succ i => exact ih.2 i (by simp only [List.length_cons] at hi; omega)
/-! #### the reference's rows -/
theorem x0_eq (s : ByteArray) (i : Int) : creelref_GlobFault.x0 s i = (bt s i == 42) :: List.replicate 256 false := by
  unfold creelref_GlobFault.x0 creelref_GlobFault.z256
  rfl
theorem cons_rep (b : Bool) (n m : Nat) : (b :: List.replicate n false).getD (m + 1) false = false := by
  rw [List.getD_cons_succ, List.getD_eq_getElem?_getD, List.getElem?_replicate]
  split <;> rfl
theorem x0_gx (s : ByteArray) (i : Int) (c : UInt8) : gx (creelref_GlobFault.x0 s i) c = false := by
  rw [x0_eq]
  exact cons_rep _ 256 c.toNat
theorem nt_head (s : ByteArray) (hs : s.size ≤ 1000000) (i : Nat) (c : UInt8) (r p : List UInt8) (h : s.data.toList.drop (i + 1) = c :: r) (hi : i < s.size) : creelref_GlobFault.nt s (i : Int) = decide ((c :: p).head? = some 33) := by
  unfold creelref_GlobFault.nt
  have w1 : wrap64 ((i : Int) + 1) = ((i + 1 : Nat) : Int) := by rw [wrap_is (by omega) (by omega)]; omega
  rw [w1]
  obtain ⟨k1, k2, k3⟩ := at_byte s (i + 1) c r h
  rw [k2, decide_eq_true (by clear w1; omega), Bool.true_and, Bool.eq_iff_iff, beq_iff_eq, decide_eq_true_eq]
  simp only [List.head?_cons, Option.some.injEq]
  clear w1
  constructor
  · intro h; exact UInt8.toNat_inj.mp (by have : ((33 : UInt8).toNat : Int) = 33 := rfl; omega)
  · intro h; rw [h]; rfl
theorem ref_toks (s : ByteArray) (hs : s.size ≤ 1000000) {u : List UInt8} {l : List (List UInt8)} {fs : List (UInt8 → Bool)} (h : Pcs u l fs) : ∀ (i n : Nat) (acc : List (List Bool)), s.data.toList.drop i = u → i ≤ s.size → s.size - i < n → ∃ ts, creelref_GlobFault.l0 n s acc (i : Int) = some (acc ++ ts, true) ∧ Tks l fs ts := by
  induction h with
  | nil =>
    intro i n acc h hi hn
    obtain ⟨n, rfl⟩ : ∃ m, n = m + 1 := ⟨n - 1, by omega⟩
    have := at_end s i h
    refine ⟨[], ?_, .nil⟩
    simp only [creelref_GlobFault.l0]
    rw [if_neg (by omega), List.append_nil]
  | sign c r l f fs hc hf hr ih =>
    intro i n acc h hi hn
    obtain ⟨n, rfl⟩ : ∃ m, n = m + 1 := ⟨n - 1, by omega⟩
    obtain ⟨g1, g2, g3⟩ := at_byte s i c r h
    have e : (i : Int) + 1 = ((i + 1 : Nat) : Int) := by omega
    have h91 : bt s (i : Int) ≠ 91 := by rw [g2]; exact u8_ne c 91 hc
    have hx0 : (creelref_GlobFault.x0 s (i : Int)).length = 257 := creelref_GlobFault.x0_len s _
    have hst : (creelref_GlobFault.x0 s (i : Int)).getD 0 false = decide ([c] = ([42] : List UInt8)) := by
      rw [x0_eq]
      show (bt s (i : Int) == 42) = _
      rw [g2, Bool.eq_iff_iff, beq_iff_eq, decide_eq_true_eq]
      constructor
      · intro h; rw [show c = 42 from UInt8.toNat_inj.mp (by have : ((42 : UInt8).toNat : Int) = 42 := rfl; omega)]
      · intro h; injection h with h _; rw [h]; rfl
    simp only [creelref_GlobFault.l0]
    rw [if_pos (by omega), e]
    cases hf with
    | any =>
      rw [if_pos (by rw [g2]; rfl)]
      obtain ⟨ts, t1, t2⟩ := ih (i + 1) n (acc ++ [creelref_GlobFault.ran 256 (creelref_GlobFault.x0 s (i : Int)) 0]) g3 (by omega) (by omega)
      refine ⟨_ :: ts, by rw [t1, List.append_assoc]; rfl, .cons _ _ _ _ _ _ ⟨by rw [creelref_GlobFault.ran_len]; exact hx0, ?_, ?_⟩ t2⟩
      · rw [ran_get _ _ _ _ (by omega), decide_eq_false (by omega), Bool.false_or]; exact hst
      · intro d
        have := d.toNat_lt
        unfold gx
        rw [ran_get _ _ _ _ (by omega), decide_eq_true (by omega), Bool.true_or]
    | one _ h1 h2 =>
      rw [if_neg (by rw [g2]; exact u8_ne c 63 h1), if_neg h91]
      have hc256 := c.toNat_lt
      have hbt : (bt s (i : Int)).toNat = c.toNat := by rw [g2, Int.toNat_natCast]
      obtain ⟨ts, t1, t2⟩ := ih (i + 1) n (acc ++ [(creelref_GlobFault.x0 s (i : Int)).set ((bt s (i : Int)).toNat + 1) true]) g3 (by omega) (by omega)
      refine ⟨_ :: ts, by rw [t1, List.append_assoc]; rfl, .cons _ _ _ _ _ _ ⟨by rw [List.length_set]; exact hx0, ?_, ?_⟩ t2⟩
      · rw [List.getD_eq_getElem?_getD, List.getElem?_set_ne (by omega), ← List.getD_eq_getElem?_getD]; exact hst
      · intro d
        rw [hbt]
        show _ = decide (c = d)
        by_cases e : c = d
        · subst e
          rw [decide_eq_true rfl]
          unfold gx
          rw [List.getD_eq_getElem?_getD, List.getElem?_set_self (by omega)]
          rfl
        · rw [decide_eq_false e, ← x0_gx s (i : Int) d]
          unfold gx
          rw [List.getD_eq_getElem?_getD, List.getElem?_set_ne (fun h => e (UInt8.toNat_inj.mp (by omega))), ← List.getD_eq_getElem?_getD]
    | set p B no h1 h2 h3 h4 => exact absurd rfl hc
  | set p q l f fs hcl hf hr ih =>
    intro i n acc h hi hn
    obtain ⟨n, rfl⟩ : ∃ m, n = m + 1 := ⟨n - 1, by omega⟩
    obtain ⟨g1, g2, g3⟩ := at_byte s i 91 (p ++ q) h
    obtain ⟨F, f1, f2, f3, f4⟩ := nt_is s hs i (p ++ q) g3 g1
    have F1 := Aside0.mk f1
    clear f1
    cases hf with
    | one _ _ h2 => exact absurd rfl h2
    | set _ B no hsk hB h93 hno =>
      have hskq : skp (p ++ q) = B ++ 93 :: q := by
        cases p with
        | nil => simp [skp] at hsk
        | cons c p =>
          rw [List.cons_append, skp_cons]
          rw [skp_cons] at hsk
          by_cases h33 : c = 33
          · rw [if_pos h33] at hsk ⊢; rw [hsk]; simp
          · rw [if_neg h33] at hsk ⊢
            rw [← List.cons_append, hsk]; simp
      rw [hskq] at f4
      have hlen : s.data.toList.length - F = B.length + 1 + q.length := by
        have := congrArg List.length f4
        rw [List.length_drop] at this
        rw [this]; simp; omega
      rw [size_list] at hlen
      obtain ⟨x', e1, e2, e3, e4⟩ := l1_mem s hs F q B.length B (s.size + 1) F (creelref_GlobFault.x0 s (i : Int)) (Nat.le_refl _) (by omega) (creelref_GlobFault.x0_len s _) (fun h => absurd h hB) h93 (fun h => absurd rfl h) f4 (Nat.le_refl _)
      have hBl : 0 < B.length := List.length_pos_iff.mpr hB
      have hnt : creelref_GlobFault.nt s (i : Int) = no := by
        cases p with
        | nil => simp [skp] at hsk
        | cons c p => rw [hno]; exact nt_head s hs i c (p ++ q) p g3 g1
      simp only [creelref_GlobFault.l0]
      rw [if_pos (by omega), if_neg (by rw [g2]; decide), if_pos (by rw [g2]; rfl), F1.out, e1]
      simp only [Option.bind_some]
      have hw : ((F + B.length : Nat) : Int) + 1 = ((F + B.length + 1 : Nat) : Int) := by omega
      have hdq : s.data.toList.drop (F + B.length + 1) = q := by
        rw [show F + B.length + 1 = F + (B.length + 1) by omega, ← List.drop_drop, f4, show B ++ 93 :: q = (B ++ [93]) ++ q by simp, show B.length + 1 = (B ++ [93]).length by simp, List.drop_left]
      rw [if_neg (by omega), hw, hnt]
      obtain ⟨ts, t1, t2⟩ := ih (F + B.length + 1) n (acc ++ [if no = true then creelref_GlobFault.flip 256 x' 0 else x']) hdq (by omega) (by omega)
      have hst : (creelref_GlobFault.x0 s (i : Int)).getD 0 false = decide ((91 :: p) = ([42] : List UInt8)) := by
        rw [x0_eq]
        show (bt s (i : Int) == 42) = _
        rw [g2, decide_eq_false (by intro h; injection h with h _; exact absurd h (by decide))]
        rfl
      refine ⟨_ :: ts, by rw [t1, List.append_assoc]; rfl, .cons _ _ _ _ _ _ ?_ t2⟩
      cases no with
      | true =>
        rw [if_pos rfl]
        refine ⟨by rw [creelref_GlobFault.flip_len]; exact e2, ?_, ?_⟩
        · rw [flip_get _ _ _ _ (by omega), if_neg (by omega), e3]; exact hst
        · intro c
          have := c.toNat_lt
          have h4 := e4 c
          unfold gx at h4 ⊢
          rw [flip_get _ _ _ _ (by omega), if_pos (by omega), h4]
          have h5 := x0_gx s (i : Int) c
          unfold gx at h5
          rw [h5]
          simp
      | false =>
        rw [if_neg (by decide)]
        refine ⟨e2, by rw [e3]; exact hst, fun c => ?_⟩
        rw [e4 c, x0_gx]
        simp
theorem tok_toks (s : ByteArray) (hs : s.size ≤ 1000000) {l : List (List UInt8)} {fs : List (UInt8 → Bool)} (h : Pcs s.data.toList l fs) : ∃ ts, creelref_GlobFault.tok s = some (ts, true) ∧ Tks l fs ts := by
  obtain ⟨ts, h1, h2⟩ := ref_toks s hs h 0 (s.size + 1) [] (List.drop_zero ..) (by omega) (by omega)
  refine ⟨ts, ?_, h2⟩
  unfold creelref_GlobFault.tok
  rw [if_pos hs, show creelref_GlobFault.l0 (s.size + 1) s [] 0 = _ from h1, List.nil_append]
end Go.Proofs.YtcbbcnmifohibaaDoor.Q
end
section
namespace Go.Proofs.YtcbbcnmifohibaaDoor.Q
set_option linter.unusedVariables false
set_option linter.unusedSimpArgs false
open Go.RowKit Go.Proofs.YtcbbcnmifohibaaDoor.All Go.Proofs.YtcbbcnmifohibaaDoorW.PrintWords Go.Proofs.YtcbbcnmifohibaaDoorW.PrintLast Go.Proofs.YtcbbcnmifohibaaDoorW.PrintMore Go.Proofs.YtcbbcnmifohibaaDoorW.PureBase

-- USES GlobM
-- FN glob_Check glob_Fits glob_end glob_set glob_sign glob_split glob_parts creelref_GlobFault creelref_GlobFits creelref_parts strings_Split strings_IndexByte strings_HasPrefix path_Check path_Parts creelref_PathFault
/-! ### glob.split -/
theorem mk_ext {x : ByteArray} {l : List UInt8} (h : x.data.toList = l) : x = mk l := by rw [← h, mk_of]
theorem split_run {u : List UInt8} {l : List (List UInt8)} {fs : List (UInt8 → Bool)} (h : Pcs u l fs) : ∀ (x : ByteArray) (acc : List ByteArray), x.data.toList = u → x.size ≤ 1000000 → acc.length + u.length ≤ 1000000 → Ev (fun k => glob_split.l0 k x acc) (acc ++ l.map mk) := by
  induction h with
  | nil =>
    intro x acc hx hs ha
    refine Ev.step (f := fun _ => some (acc ++ ([] : List (List UInt8)).map mk)) (fun k => ?_) (Ev.now _)
    simp only [glob_split.l0]
    rw [if_pos (by rw [toList_data, hx])]
    simp
  | sign c r l f fs hc hf hr ih =>
    intro x acc hx hs ha
    simp only [List.length_cons] at ha
    obtain ⟨g1, g2, g3⟩ := at_byte x 0 c r (by rw [List.drop_zero]; exact hx)
    have g2' : bt x 0 = (c.toNat : Int) := g2
    refine Ev.step (f := fun k => glob_split.l0 k (x.extract 1 x.size) (acc ++ [x.extract 0 1])) (fun k => ?_) ?_
    · simp only [glob_split.l0]
      rw [if_neg (by rw [toList_data, hx]; simp), if_pos (by omega), if_neg (by rw [g2']; exact u8_ne c 91 hc), if_pos (by decide), if_pos (by omega), if_pos (by omega)]
    · have e1 : x.extract 0 1 = mk [c] := mk_ext (by rw [Lib.extract_data, List.drop_zero, hx]; rfl)
      have h1 := ih (x.extract 1 x.size) (acc ++ [x.extract 0 1]) (by rw [Lib.extract_to_end]; exact g3) (by rw [ByteArray.size_extract]; omega) (by rw [List.length_append, List.length_singleton]; omega)
      rw [e1, List.append_assoc] at h1
      rw [e1]
      exact h1
  | set p q l f fs hcl hf hr ih =>
    intro x acc hx hs ha
    simp only [List.length_cons, List.length_append] at ha
    obtain ⟨g1, g2, g3⟩ := at_byte x 0 91 (p ++ q) (by rw [List.drop_zero]; exact hx)
    have g2' : bt x 0 = 91 := g2
    have hsz : x.size = p.length + q.length + 1 := by rw [← size_list, hx]; simp
    have hE : endR x (p ++ q) = ((p.length + 1 : Nat) : Int) := by
      unfold endR
      rw [hcl]
      show ((x.size - q.length : Nat) : Int) = _
      rw [show x.size - q.length = p.length + 1 by omega]
    have he := end_is x hs (p ++ q) hx
    rw [hE] at he
    refine Ev.step (f := fun k => (glob_end.f k x).bind fun t101 => (if 0 ≤ t101 then (if t101 ≤ (x.size : Int) then (if acc.length < 8796093022208 then (glob_split.l0 k (x.extract (t101 : Int).toNat x.size) (acc ++ [x.extract 0 (t101 : Int).toNat])) else (none)) else (none)) else (none))) (fun k => ?_) ?_
    · simp only [glob_split.l0]
      rw [if_neg (by rw [toList_data, hx]; simp), if_pos (by omega), if_pos g2']
    · refine Ev.bind he ?_
      refine Ev.ifp (by omega) (Ev.ifp (by omega) (Ev.ifp (by omega) ?_))
      rw [Int.toNat_natCast]
      have e1 : x.extract 0 (p.length + 1) = mk (91 :: p) := mk_ext (by rw [Lib.extract_data, List.drop_zero, hx, Nat.sub_zero, List.take_succ_cons, List.take_left])
      have e2 : (x.extract (p.length + 1) x.size).data.toList = q := by rw [Lib.extract_to_end, hx, List.drop_succ_cons, List.drop_left]
      have h1 := ih (x.extract (p.length + 1) x.size) (acc ++ [x.extract 0 (p.length + 1)]) e2 (by rw [ByteArray.size_extract]; omega) (by rw [List.length_append, List.length_singleton]; omega)
      rw [e1, List.append_assoc] at h1
      rw [e1]
      exact h1
/-! ### glob.set -/
theorem set_two {y : ByteArray} {t : List UInt8} (ht : (93 : UInt8) ∉ t) (hy : y.data.toList = t ++ [93]) : glob_set.two y ↔ ∃ b r, t = 45 :: b :: r := by
  unfold glob_set.two
  have hz : y.size = t.length + 1 := by rw [← size_list, hy]; simp
  constructor
  · rintro ⟨h1, h2, h3⟩
    cases t with
    | nil => simp at hz; omega
    | cons a t =>
      obtain ⟨g1, g2, g3⟩ := at_byte y 0 a (t ++ [93]) (by rw [List.drop_zero, hy]; rfl)
      have g2' : bt y 0 = (a.toNat : Int) := g2
      have ha : a = 45 := UInt8.toNat_inj.mp (by rw [g2'] at h2; have : ((45 : UInt8).toNat : Int) = 45 := rfl; omega)
      subst ha
      cases t with
      | nil => simp at hz; omega
      | cons b r => exact ⟨b, r, rfl⟩
  · rintro ⟨b, r, rfl⟩
    obtain ⟨g1, g2, g3⟩ := at_byte y 0 45 (b :: (r ++ [93])) (by rw [List.drop_zero, hy]; rfl)
    obtain ⟨f1, f2, f3⟩ := at_byte y 1 b (r ++ [93]) g3
    have hb : b ≠ 93 := fun e => ht (by rw [e]; simp)
    refine ⟨by simp only [List.length_cons] at hz; omega, g2, ?_⟩
    have f2' : bt y 1 = (b.toNat : Int) := f2
    rw [f2']
    exact u8_ne b 93 hb
theorem cmp_bytes (a b c : UInt8) : (decide ((a.toNat : Int) ≤ (c.toNat : Int)) && decide ((c.toNat : Int) ≤ (b.toNat : Int))) = (decide (a.toNat ≤ c.toNat) && decide (c.toNat ≤ b.toNat)) := by
  congr 1 <;> exact decide_eq_decide.mpr (by omega)
theorem set_run (c : UInt8) (no : Bool) (d : Nat) : ∀ (l : List UInt8) (x : ByteArray) (inn : Bool) (k q : Nat), l.length ≤ d → d < q → (l = [] → 0 < k) → (93 : UInt8) ∉ l.tail → (0 < k → (93 : UInt8) ∉ l) → x.data.toList = l ++ [93] → k + l.length ≤ 1000000 → ∃ y, glob_set.l0 q x (c.toNat : Int) no inn (k : Int) = some ((inn || memB c l) != no, y) := by
  have done : ∀ (x : ByteArray) (inn : Bool) (k q : Nat), 0 < k → 0 < q → x.data.toList = [93] → ∃ y, glob_set.l0 q x (c.toNat : Int) no inn (k : Int) = some ((inn || memB c []) != no, y) := by
    intro x inn k q hk hq hx
    obtain ⟨q, rfl⟩ : ∃ m, q = m + 1 := ⟨q - 1, by omega⟩
    obtain ⟨g1, g2, g3⟩ := at_byte x 0 93 [] (by rw [List.drop_zero]; exact hx)
    have g2' : bt x 0 = 93 := g2
    refine ⟨x.extract 1 x.size, ?_⟩
    rw [glob_set.l0, if_pos (by omega), if_pos ⟨by omega, g2'⟩]
    simp [memB]
  induction d with
  | zero =>
    intro l x inn k q hl hq h0 _ _ hx _
    obtain rfl : l = [] := List.length_eq_zero_iff.mp (by omega)
    exact done x inn k q (h0 rfl) hq hx
  | succ d ih =>
    intro l x inn k q hl hq h0 ht hk hx hb
    cases l with
    | nil => exact done x inn k q (h0 rfl) (by omega) hx
    | cons a t =>
      obtain ⟨q, rfl⟩ : ∃ m, q = m + 1 := ⟨q - 1, by omega⟩
      obtain ⟨g1, g2, g3⟩ := at_byte x 0 a (t ++ [93]) (by rw [List.drop_zero]; exact hx)
      have g2' : bt x 0 = (a.toNat : Int) := g2
      have hy : (x.extract 1 x.size).data.toList = t ++ [93] := by rw [Lib.extract_to_end]; exact g3
      simp only [List.length_cons] at hl hb
      have w1 : wrap64 ((k : Int) + 1) = ((k + 1 : Nat) : Int) := by rw [wrap_is (by omega) (by omega)]; omega
      have W1 := Aside0.mk w1
      clear w1
      have ht' : (93 : UInt8) ∉ t := ht
      rw [glob_set.l0, if_pos (by omega), if_neg (fun h => hk (by omega) (by rw [show a = 93 from UInt8.toNat_inj.mp (by have h2 := h.2; rw [g2'] at h2; have : ((93 : UInt8).toNat : Int) = 93 := rfl; omega)]; simp)), W1.out]
      by_cases h2 : glob_set.two (x.extract 1 x.size)
      · rw [if_pos h2]
        obtain ⟨b, r, rfl⟩ := (set_two ht' hy).1 h2
        obtain ⟨f1, f2, f3⟩ := at_byte (x.extract 1 x.size) 1 b (r ++ [93]) (by rw [hy]; rfl)
        have f2' : bt (x.extract 1 x.size) 1 = (b.toNat : Int) := f2
        rw [g2', f2', cmp_bytes]
        have hz : ((x.extract 1 x.size).extract 2 (x.extract 1 x.size).size).data.toList = r ++ [93] := by rw [Lib.extract_to_end, hy]; rfl
        have hr : (93 : UInt8) ∉ r := fun h => ht' (by simp [h])
        simp only [List.length_cons] at hl hb
        obtain ⟨y, e⟩ := ih r _ (inn || (decide (a.toNat ≤ c.toNat) && decide (c.toNat ≤ b.toNat))) (k + 1) q (by omega) (by omega) (fun _ => by omega) (fun h => hr (List.mem_of_mem_tail h)) (fun _ => hr) hz (by omega)
        exact ⟨y, by rw [e, memB_rng, Bool.or_assoc]⟩
      · rw [if_neg h2]
        have hs1 : Stp (a :: t) a a t := .one a t (fun b r e => h2 ((set_two ht' hy).2 ⟨b, r, e⟩))
        rw [g2', cmp_bytes]
        obtain ⟨y, e⟩ := ih t _ (inn || (decide (a.toNat ≤ c.toNat) && decide (c.toNat ≤ a.toNat))) (k + 1) q (by omega) (by omega) (fun _ => by omega) (fun h => ht' (List.mem_of_mem_tail h)) (fun _ => ht') hy (by omega)
        exact ⟨y, by rw [e, memB_stp c hs1, Bool.or_assoc]⟩
theorem sign_is {pc : List UInt8} {f : UInt8 → Bool} (hf : Pc pc f) (hl : pc.length ≤ 1000000) (c : UInt8) : Ev (fun k => glob_sign.f k (mk pc) (c.toNat : Int)) (f c) := by
  unfold glob_sign.f
  cases hf with
  | any =>
    exact Ev.ifp (by decide) (Ev.ifp (by rfl) (Ev.now _))
  | one b h1 h2 =>
    obtain ⟨g1, g2, g3⟩ := at_byte (mk [b]) 0 b [] rfl
    have g2' : bt (mk [b]) 0 = (b.toNat : Int) := g2
    refine Ev.ifp (by omega) (Ev.ifn (by rw [g2']; exact u8_ne b 63 h1) (Ev.ifn (by rw [g2']; exact u8_ne b 91 h2) (Ev.const ?_)))
    rw [g2']
    congr 1
    rw [Bool.eq_iff_iff, beq_iff_eq, decide_eq_true_eq]
    exact ⟨fun h => UInt8.toNat_inj.mp (by omega), fun h => by rw [h]⟩
  | set p B no h hB h93 hno =>
    obtain ⟨g1, g2, g3⟩ := at_byte (mk (91 :: p)) 0 91 p rfl
    have g2' : bt (mk (91 :: p)) 0 = 91 := g2
    refine Ev.ifp (by omega) (Ev.ifn (by rw [g2']; decide) (Ev.ifp g2' ?_))
    have hy : ((mk (91 :: p)).extract 1 (mk (91 :: p)).size).data.toList = p := by rw [Lib.extract_to_end]; rfl
    simp only [List.length_cons] at hl
    have hBl : B.length ≤ p.length := by
      cases p with
      | nil => simp [skp] at h
      | cons d p =>
        rw [skp_cons] at h
        by_cases e : d = 33
        · rw [if_pos e] at h; rw [h]; simp; omega
        · rw [if_neg e] at h; rw [h]; simp
    have key : ∀ k, B.length + 1 ≤ k → ∃ y, glob_set.f k (mk (91 :: p)) (c.toNat : Int) = some (memB c B != no, y) := by
      intro k hk
      unfold glob_set.f
      rw [if_pos (by omega), hy]
      cases p with
      | nil => simp [skp] at h
      | cons d p =>
        rw [skp_cons] at h
        by_cases e : d = 33
        · rw [if_pos e] at h
          rw [if_pos (by rw [e]; simp [Lib.hasPrefix])]
          have hno1 : no = true := by rw [hno, e]; simp
          obtain ⟨y, e2⟩ := set_run c true B.length B (((mk (91 :: d :: p)).extract 1 (mk (91 :: d :: p)).size).extract 1 ((mk (91 :: d :: p)).extract 1 (mk (91 :: d :: p)).size).size) false 0 k (Nat.le_refl _) (by omega) (fun e => absurd e hB) h93 (fun h => absurd h (by omega)) (by rw [Lib.extract_to_end, hy]; exact h) (by simp only [List.length_cons] at hl hBl; omega)
          refine ⟨y, ?_⟩
          rw [show ((0 : Nat) : Int) = 0 from rfl] at e2
          rw [e2, hno1, Bool.false_or]
        · rw [if_neg e] at h
          rw [if_neg (by simp [Lib.hasPrefix]; exact fun h => e h.symm)]
          have hno1 : no = false := by rw [hno]; simp [e]
          obtain ⟨y, e2⟩ := set_run c false B.length B ((mk (91 :: d :: p)).extract 1 (mk (91 :: d :: p)).size) false 0 k (Nat.le_refl _) (by omega) (fun e => absurd e hB) h93 (fun h => absurd h (by omega)) (by rw [hy]; exact h) (by simp only [List.length_cons] at hl hBl; omega)
          refine ⟨y, ?_⟩
          rw [show ((0 : Nat) : Int) = 0 from rfl] at e2
          rw [e2, hno1, Bool.false_or]
    refine Ev.from_ (B.length + 1) (fun k hk => ?_)
    obtain ⟨y, e⟩ := key k hk
    rw [e]
    rfl
/-! ### the table -/
theorem tk_run (S : Nat → Option Bool) (F : Nat → Nat → Option Bool) (i m : Nat) (row : List Bool) (si : Bool) (f : Nat → Bool) (hS : S i = some si) (hF : ∀ k, k < m → si = false → F i k = some (f k)) : ∀ (d k : Nat) (nx : List Bool), k + d = m → nx.length = m + 1 → (∀ j, j ≤ k → nx.getD j false = nextT si f (fun j => row.getD j false) j) → ∃ nx', creelref_GlobFits.TK S F i row d k nx = some nx' ∧ nx'.length = m + 1 ∧ ∀ j, j ≤ m → nx'.getD j false = nextT si f (fun j => row.getD j false) j
  | 0, k, nx, h, hl, hk => ⟨nx, rfl, hl, fun j hj => hk j (by omega)⟩
  | d + 1, k, nx, h, hl, hk => by
    have put : ∀ v : Bool, v = nextT si f (fun j => row.getD j false) (k + 1) → ∀ j, j ≤ k + 1 → (nx.set (k + 1) v).getD j false = nextT si f (fun j => row.getD j false) j := by
      intro v hv j hj
      by_cases e : j = k + 1
      · subst e
        rw [List.getD_eq_getElem?_getD, List.getElem?_set_self (by omega), ← hv]; rfl
      · rw [List.getD_eq_getElem?_getD, List.getElem?_set_ne (by omega), ← List.getD_eq_getElem?_getD]
        exact hk j (by omega)
    unfold creelref_GlobFits.TK
    rw [hS]
    simp only [Option.bind_some]
    cases si with
    | true =>
      rw [if_pos rfl]
      refine tk_run S F i m row true f hS hF d (k + 1) _ (by omega) (by rw [List.length_set]; exact hl) (put _ ?_)
      rw [hk k (Nat.le_refl _)]
      show _ = (if true = true then _ else _)
      rw [if_pos rfl]
    | false =>
      rw [if_neg (by decide)]
      have hv : (if row.getD k false = true then F i k else some false) = some (row.getD k false && f k) := by
        cases row.getD k false with
        | true => rw [if_pos rfl, hF k (by omega) rfl, Bool.true_and]
        | false => rw [if_neg (by decide), Bool.false_and]
      rw [hv]
      simp only [Option.bind_some]
      refine tk_run S F i m row false f hS hF d (k + 1) _ (by omega) (by rw [List.length_set]; exact hl) (put _ ?_)
      show _ = (if false = true then _ else _)
      rw [if_neg (by decide)]
theorem first_is (m : Nat) (b : Bool) (j : Nat) : ((List.replicate (m + 1) false).set 0 b).getD j false = (decide (j = 0) && b) := by
  cases j with
  | zero => rw [List.getD_eq_getElem?_getD, List.getElem?_set_self (by simp)]; simp
  | succ j =>
    rw [List.getD_eq_getElem?_getD, List.getElem?_set_ne (by omega), List.getElem?_replicate]
    split <;> simp
theorem ti_run (n m : Nat) (S' : Nat → Option Bool) (F' : Nat → Nat → Option Bool) (S : Nat → Bool) (F : Nat → Nat → Bool) (hS : ∀ i, i < n → S' i = some (S i)) (hF : ∀ i k, i < n → k < m → S i = false → F' i k = some (F i k)) : ∀ (d i : Nat) (row : List Bool), i + d = n → row.length = m + 1 → (∀ j, j ≤ m → row.getD j false = rowT S F i j) → ∃ R, creelref_GlobFits.TI m S' F' d i row = some R ∧ ∀ j, j ≤ m → R.getD j false = rowT S F n j
  | 0, i, row, h, hl, hr => ⟨row, rfl, fun j hj => by rw [hr j hj, show i = n by omega]⟩
  | d + 1, i, row, h, hl, hr => by
    unfold creelref_GlobFits.TI
    have hv : (if row.getD 0 false = true then S' i else some false) = some (row.getD 0 false && S i) := by
      cases row.getD 0 false with
      | true => rw [if_pos rfl, hS i (by omega), Bool.true_and]
      | false => rw [if_neg (by decide), Bool.false_and]
    rw [hv]
    simp only [Option.bind_some]
    obtain ⟨nx, e1, e2, e3⟩ := tk_run S' F' i m row (S i) (F i) (hS i (by omega)) (fun k hk hs => hF i k (by omega) hk hs) m 0 ((List.replicate (m + 1) false).set 0 (row.getD 0 false && S i)) (by omega) (by simp) (fun j hj => by
      obtain rfl : j = 0 := by omega
      rw [first_is]
      show (decide (0 = 0) && (row.getD 0 false && S i)) = (row.getD 0 false && S i)
      simp)
    rw [e1]
    simp only [Option.bind_some]
    refine ti_run n m S' F' S F hS hF d (i + 1) nx (by omega) e2 (fun j hj => ?_)
    rw [e3 j hj]
    show _ = nextT (S i) (F i) (rowT S F i) j
    have same : ∀ j, j ≤ m → nextT (S i) (F i) (fun j => row.getD j false) j = nextT (S i) (F i) (rowT S F i) j := by
      intro j
      induction j with
      | zero => intro hj; show (row.getD 0 false && S i) = (rowT S F i 0 && S i); rw [hr 0 hj]
      | succ j ih =>
        intro hj
        show (if S i = true then row.getD (j + 1) false || nextT (S i) (F i) (fun j => row.getD j false) j else row.getD j false && F i j) = (if S i = true then rowT S F i (j + 1) || nextT (S i) (F i) (rowT S F i) j else rowT S F i j && F i j)
        rw [hr (j + 1) hj, hr j (by omega), ih (by omega)]
    exact same j hj
theorem tab_run (n m : Nat) (hn : n ≤ 1000000000 ∧ m ≤ 1000000000) (S' : Nat → Option Bool) (F' : Nat → Nat → Option Bool) (S : Nat → Bool) (F : Nat → Nat → Bool) (hS : ∀ i, i < n → S' i = some (S i)) (hF : ∀ i k, i < n → k < m → S i = false → F' i k = some (F i k)) : creelref_GlobFits.tab n m S' F' = some (rowT S F n m) := by
  obtain ⟨R, e1, e2⟩ := ti_run n m S' F' S F hS hF n 0 ((List.replicate (m + 1) false).set 0 true) (by omega) (by simp) (fun j hj => by
    rw [first_is]
    show (decide (j = 0) && true) = (j == 0)
    rw [Bool.and_true, Bool.eq_iff_iff, decide_eq_true_eq, beq_iff_eq])
  unfold creelref_GlobFits.tab
  rw [if_pos ⟨by omega, by omega⟩, e1]
  simp only [Option.bind_some]
  rw [e2 m (Nat.le_refl _)]
/-! ### both -/
theorem uni1 (n : Nat) (P : Nat → Nat → Prop) (h : ∀ i, i < n → ∃ K, ∀ k, K ≤ k → P i k) : ∃ K, ∀ k, K ≤ k → ∀ i, i < n → P i k := by
  induction n with
  | zero => exact ⟨0, fun k _ i hi => absurd hi (Nat.not_lt_zero _)⟩
  | succ n ih =>
    obtain ⟨K1, h1⟩ := ih (fun i hi => h i (by omega))
    obtain ⟨K2, h2⟩ := h n (by omega)
    refine ⟨max K1 K2, fun k hk i hi => ?_⟩
    by_cases e : i = n
    · subst e; exact h2 k (by omega)
    · exact h1 k (by omega) i (by omega)
theorem uni2 (n m : Nat) (P : Nat → Nat → Nat → Prop) (h : ∀ i j, i < n → j < m → ∃ K, ∀ k, K ≤ k → P i j k) : ∃ K, ∀ k, K ≤ k → ∀ i j, i < n → j < m → P i j k := by
  obtain ⟨K, hK⟩ := uni1 n (fun i k => ∀ j, j < m → P i j k) (fun i hi => uni1 m (fun j k => P i j k) (fun j hj => h i j hi hj))
  exact ⟨K, fun k hk i j hi hj => hK k hk i hi j hj⟩
theorem rd_mk (l : List (List UInt8)) (i : Nat) (h : i < l.length) : rdOf ByteArray.empty (l.map mk) (i : Int) = mk (l.getD i []) := by
  unfold rdOf
  rw [Int.toNat_natCast, List.getD_eq_getElem?_getD, List.getElem?_map, List.getD_eq_getElem?_getD, List.getElem?_eq_getElem h]
  rfl
theorem beq_dec (a b : List UInt8) : (a == b) = decide (a = b) := by
  rw [Bool.eq_iff_iff, beq_iff_eq, decide_eq_true_eq]
theorem pcs_pc {u : List UInt8} {l : List (List UInt8)} {fs : List (UInt8 → Bool)} (h : Pcs u l fs) : ∀ i, i < l.length → Pc (l.getD i []) (fs.getD i (fun _ => false)) ∧ (l.getD i []).length ≤ u.length := by
  induction h with
  | nil => intro i hi; exact absurd hi (Nat.not_lt_zero _)
  | sign c r l f fs _ hf _ ih =>
    intro i hi
    cases i with
    | zero => exact ⟨hf, by simp⟩
    | succ i =>
      obtain ⟨h1, h2⟩ := ih i (by simp only [List.length_cons] at hi; omega)
      exact ⟨h1, by simp only [List.length_cons, List.getD_cons_succ]; omega⟩
  | set p q l f fs _ hf _ ih =>
    intro i hi
    cases i with
    | zero => exact ⟨hf, by simp⟩
    | succ i =>
      obtain ⟨h1, h2⟩ := ih i (by simp only [List.length_cons] at hi; omega)
      exact ⟨h1, by simp only [List.length_cons, List.length_append, List.getD_cons_succ]; omega⟩
theorem bt_list (s : ByteArray) (j : Nat) (h : j < s.size) : bt s (j : Int) = ((s.data.toList.getD j 0).toNat : Int) := by
  rw [bt_get s j h, List.getD_eq_getElem?_getD, List.getElem?_eq_getElem (by rw [size_list]; exact h)]
  rfl
theorem part_both (p s : ByteArray) (hp : p.size ≤ 1000) (hs : s.size ≤ 1000000) (hr : Res p.data.toList true) : ∃ b, Ev (fun k => glob_parts.part k p s) b ∧ creelref_GlobFits.part p s = some b := by
  obtain ⟨l, fs, h⟩ := pcs_of _ _ hr rfl
  obtain ⟨hl1, hl2⟩ := pcs_len h
  rw [size_list] at hl2
  have hpc := pcs_pc h
  refine ⟨rowT (fun i => decide (l.getD i [] = [42])) (fun i j => (fs.getD i (fun _ => false)) (s.data.toList.getD j 0)) l.length s.size, ?_, ?_⟩
  · unfold glob_parts.part
    have h1 : Ev (fun k => glob_split.f k p) (l.map mk) := by
      have := split_run h p [] rfl (by omega) (by rw [size_list]; simp; omega)
      exact this
    refine Ev.bind h1 ?_
    obtain ⟨K, hK⟩ := uni2 l.length s.size (fun i j k => glob_parts.fit1 k (l.map mk) s (i : Int) (j : Int) = some ((fs.getD i (fun _ => false)) (s.data.toList.getD j 0))) (fun i j hi hj => by
      obtain ⟨K, hK⟩ := sign_is (hpc i hi).1 (by have := (hpc i hi).2; rw [size_list] at this; omega) (s.data.toList.getD j 0)
      refine ⟨K, fun k hk => ?_⟩
      unfold glob_parts.fit1
      rw [if_pos (by omega), if_pos (by rw [List.length_map]; omega), if_pos (by omega), if_pos (by omega), rd_mk l i hi, bt_list s j hj]
      exact hK k hk)
    refine Ev.from_ (max K (s.size * (l.length + 2) + l.length + l.length + 2 + 1)) (fun k hk => ?_)
    rw [List.length_map]
    exact wild_run l.length s.size _ _ _ _ (by omega) (by omega) (fun i hi => by
      unfold glob_parts.star
      rw [if_pos (by omega), if_pos (by rw [List.length_map]; omega), rd_mk l i hi, mk_toList, beq_dec]) (fun i j hi hj _ => hK k (by omega) i j hi hj) k (by omega)
  · unfold creelref_GlobFits.part
    obtain ⟨ts, e1, e2⟩ := tok_toks p (by omega) h
    obtain ⟨t1, t2⟩ := tks_get e2
    rw [e1]
    simp only [Option.bind_some]
    rw [t1]
    refine tab_run l.length s.size ⟨by omega, by omega⟩ _ _ _ _ (fun i hi => ?_) (fun i j hi hj _ => ?_)
    · unfold creelref_GlobFits.tstar
      rw [if_pos (by omega), (t2 i hi).2.1]
    · unfold creelref_GlobFits.tfit
      have hb := bt_list s j hj
      rw [if_pos (by omega), if_pos hj, hb, Int.toNat_natCast, Nat.add_comm, ← (t2 i hi).2.2 (s.data.toList.getD j 0)]
      rfl
/-- what is told of a whole pattern that may be -/
theorem run_zero : ∀ l : List ByteArray, creelref_GlobFault.run l = some 0 → ∀ x ∈ l, x.size ≤ 1000000 → Res x.data.toList true
  | [], _, x, hx, _ => by cases hx
  | y :: l, h, x, hx, hs => by
    unfold creelref_GlobFault.run at h
    by_cases c : y.toList = ([] : List UInt8)
    · rw [if_pos c] at h; injection h with h; exact absurd h (by decide)
    · rw [if_neg c] at h
      obtain ⟨r, h1, h2⟩ := Option.bind_eq_some_iff.1 h
      by_cases c2 : r.2 = true
      · rw [if_pos c2] at h2
        rcases List.mem_cons.mp hx with e | e
        · subst e
          obtain ⟨b, hb⟩ := res_of _ x.data.toList (Nat.le_refl _)
          obtain ⟨q, e3⟩ := tok_res x hs b hb
          rw [h1] at e3
          have : r = (q, b) := Option.some.inj e3
          rw [this] at c2
          have c3 : b = true := c2
          rw [c3] at hb
          exact hb
        · exact run_zero l h2 x e hs
      · rw [if_neg c2] at h2; injection h2 with h2; exact absurd h2 (by decide)
theorem glob_parts_ok (p : ByteArray) (h : Ev (fun k => creelref_GlobFault.f k p) 0) : (1 ≤ p.size ∧ p.size ≤ 400) ∧ ∀ x ∈ pp p, Res x.data.toList true := by
  obtain ⟨K, hK⟩ := h
  have h1 : creelref_GlobFault.f (max K (p.size + 1)) p = some 0 := hK (max K (p.size + 1)) (by omega)
  unfold creelref_GlobFault.f at h1
  by_cases c1 : p.toList = ([] : List UInt8)
  · rw [if_pos c1] at h1; injection h1 with h1; exact absurd h1 (by decide)
  · rw [if_neg c1] at h1
    by_cases c2 : 400 < p.size
    · rw [if_pos c2] at h1; injection h1 with h1; exact absurd h1 (by decide)
    · rw [if_neg c2, parts_is p _ (by omega) (by omega)] at h1
      simp only [Option.bind_some] at h1
      have hl := pp_len p
      rw [if_pos (by omega)] at h1
      refine ⟨⟨?_, by omega⟩, fun x hx => run_zero _ h1 x hx (by have := pp_mem p x hx; omega)⟩
      rcases Nat.eq_zero_or_pos p.size with e | e
      · exact absurd ((empty_size p).2 e) c1
      · exact e
theorem rd_pp (p : ByteArray) (i : Nat) (h : i < (pp p).length) : rdOf ByteArray.empty (pp p) (i : Int) ∈ pp p := by
  unfold rdOf
  rw [Int.toNat_natCast, List.getD_eq_getElem?_getD, List.getElem?_eq_getElem h]
  exact List.getElem_mem h
theorem wild_parts (p s : ByteArray) (hp : p.size ≤ 400) (hs : s.size ≤ 400) (hr : ∀ x ∈ pp p, Res x.data.toList true) : ∃ b, Ev (fun k => glob_parts.f k (pp p) (pp s)) b ∧ creelref_GlobFits.tab (pp p).length (pp s).length (creelref_GlobFits.star (pp p)) (creelref_GlobFits.fit (pp p) (pp s)) = some b := by
  have hlp := pp_len p
  have hls := pp_len s
  have both : ∀ i j, i < (pp p).length → j < (pp s).length → ∃ b, Ev (fun k => glob_parts.part k (rdOf ByteArray.empty (pp p) (i : Int)) (rdOf ByteArray.empty (pp s) (j : Int))) b ∧ creelref_GlobFits.part (rdOf ByteArray.empty (pp p) (i : Int)) (rdOf ByteArray.empty (pp s) (j : Int)) = some b := fun i j hi hj =>
    part_both _ _ (by have := pp_mem p _ (rd_pp p i hi); omega) (by have := pp_mem s _ (rd_pp s j hj); omega) (hr _ (rd_pp p i hi))
  have hF : ∀ i j, i < (pp p).length → j < (pp s).length → ∃ K, ∀ k, K ≤ k → glob_parts.part k (rdOf ByteArray.empty (pp p) (i : Int)) (rdOf ByteArray.empty (pp s) (j : Int)) = some ((creelref_GlobFits.part (rdOf ByteArray.empty (pp p) (i : Int)) (rdOf ByteArray.empty (pp s) (j : Int))).getD false) := fun i j hi hj => by
    obtain ⟨b, ⟨K, h1⟩, h2⟩ := both i j hi hj
    exact ⟨K, fun k hk => (h1 k hk).trans (by rw [h2]; rfl)⟩
  refine ⟨rowT (fun i => (rdOf ByteArray.empty (pp p) (i : Int)).toList == [42, 42]) (fun i j => (creelref_GlobFits.part (rdOf ByteArray.empty (pp p) (i : Int)) (rdOf ByteArray.empty (pp s) (j : Int))).getD false) (pp p).length (pp s).length, ?_, ?_⟩
  · obtain ⟨K, hK⟩ := uni2 (pp p).length (pp s).length _ hF
    refine Ev.from_ (max K ((pp s).length * ((pp p).length + 2) + (pp p).length + (pp p).length + 2 + 1)) (fun k hk => ?_)
    refine wild_run (pp p).length (pp s).length _ _ _ _ (by omega) (by omega) (fun i hi => ?_) (fun i j hi hj _ => ?_) k (by omega)
    · unfold glob_parts.star
      rw [if_pos (by omega), if_pos (by omega)]
    · unfold glob_parts.fit2
      rw [if_pos (by omega), if_pos (by omega), if_pos (by omega), if_pos (by omega)]
      exact hK k (by omega) i j hi hj
  · refine tab_run _ _ ⟨by omega, by omega⟩ _ _ _ _ (fun i hi => ?_) (fun i j hi hj _ => ?_)
    · unfold creelref_GlobFits.star
      rw [if_pos hi]
    · unfold creelref_GlobFits.fit
      rw [if_pos hi, if_pos hj]
      obtain ⟨b, _, h2⟩ := both i j hi hj
      rw [h2]; rfl
theorem fits_both (p s : ByteArray) (hp : p.size ≤ 140737488351232) (hs : s.size ≤ 140737488351232) : ∃ r, Ev (fun k => glob_Fits.f k p s) r ∧ Ev (fun k => creelref_GlobFits.f k p s) r := by
  obtain ⟨v, h1, h2⟩ := glob_both p hp
  obtain ⟨h3, h4⟩ := path_same s hs
  unfold glob_Fits.f creelref_GlobFits.f
  by_cases c1 : v = 0
  · subst c1
    by_cases c2 : pathR s = 0
    · rw [c2] at h3 h4
      obtain ⟨⟨g1, g2⟩, g3⟩ := glob_parts_ok p h2
      have hs2 : 1 ≤ s.size ∧ s.size ≤ 400 := by
        unfold pathR at c2
        by_cases e : s.size < 1 ∨ 400 < s.size
        · rw [if_pos e] at c2; exact absurd c2 (by decide)
        · omega
      obtain ⟨b, e1, e2⟩ := wild_parts p s g2 hs2.2 g3
      have pne : ∀ x : ByteArray, 1 ≤ x.size → path_Parts.f x = some (pp x) ∨ ¬ x.size ≤ 1048576 := fun x hx => by
        by_cases e : x.size ≤ 1048576
        · left
          unfold path_Parts.f
          rw [if_neg (fun e => by have := (empty_size x).1 e; omega), split_is x (by omega)]
          rfl
        · right; exact e
      have q1 : path_Parts.f p = some (pp p) := (pne p g1).resolve_right (fun h => h (by omega))
      have q2 : path_Parts.f s = some (pp s) := (pne s hs2.1).resolve_right (fun h => h (by omega))
      refine ⟨(b, 0), ?_, ?_⟩
      · refine Ev.bind h1 (Ev.ifp rfl (Ev.bind h3 (Ev.ifp rfl ?_)))
        rw [q1, q2]
        simp only [Option.bind_some]
        exact Ev.bind e1 (Ev.now _)
      · refine Ev.bind h2 (Ev.ifp rfl (Ev.bind h4 (Ev.ifp rfl ?_)))
        refine Ev.bind (a := pp p) (Ev.from_ (p.size + 1) (fun k hk => parts_is p k (by omega) (by omega))) ?_
        refine Ev.bind (a := pp s) (Ev.from_ (s.size + 1) (fun k hk => parts_is s k (by omega) (by omega))) ?_
        rw [e2]
        exact Ev.now _
    · exact ⟨(false, pathR s), Ev.bind h1 (Ev.ifp rfl (Ev.bind h3 (Ev.ifn c2 (Ev.now _)))), Ev.bind h2 (Ev.ifp rfl (Ev.bind h4 (Ev.ifn c2 (Ev.now _))))⟩
  · exact ⟨(false, v), Ev.bind h1 (Ev.ifn c1 (Ev.now _)), Ev.bind h2 (Ev.ifn c1 (Ev.now _))⟩
end Go.Proofs.YtcbbcnmifohibaaDoor.Q
end
section
namespace Go.Proofs.YtcbbcnmifohibaaDoor.Q
set_option linter.unusedVariables false
set_option linter.unusedSimpArgs false
open Go.RowKit Go.Proofs.YtcbbcnmifohibaaDoor.All Go.Proofs.YtcbbcnmifohibaaDoorW.PrintWords Go.Proofs.YtcbbcnmifohibaaDoorW.PrintLast Go.Proofs.YtcbbcnmifohibaaDoorW.PrintMore Go.Proofs.YtcbbcnmifohibaaDoorW.PureBase

-- USES GlobP
-- FN filter_Check filter_takes creelref_RulesFault creelref_taken glob_Fits creelref_GlobFits
theorem rule_mem (l : List S58) (n : Nat) (h : n < l.length) : rd_T58 l (n : Int) ∈ l := by
  unfold rd_T58
  rw [Int.toNat_natCast, List.getD_eq_getElem?_getD, List.getElem?_eq_getElem h]
  exact List.getElem_mem h
theorem rules_loop (l : List S58) (hl : l.length ≤ 12) (hg : ∀ y ∈ l, y.f1.size ≤ 140737488351232) (d : Nat) : ∀ n : Nat, l.length - n = d → n ≤ l.length → ∃ v, Ev (fun k => filter_Check.l0 k l (l.length : Int) (n : Int)) v ∧ Ev (fun k => creelref_RulesFault.l0 k l (l.length : Int) (n : Int)) v := by
  induction d with
  | zero =>
    intro n hd hn
    refine ⟨0, Ev.step (f := fun _ => some 0) (fun k => ?_) (Ev.now _), Ev.step (f := fun _ => some 0) (fun k => ?_) (Ev.now _)⟩
    · simp only [filter_Check.l0]
      rw [if_neg (by omega)]
    · simp only [creelref_RulesFault.l0]
      rw [if_neg (by omega)]
  | succ d ih =>
    intro n hd hn
    have w : wrap64 ((n : Int) + 1) = ((n + 1 : Nat) : Int) := by rw [wrap_is (by omega) (by omega)]; omega
    obtain ⟨v, h1, h2⟩ := ih (n + 1) (by omega) (by omega)
    obtain ⟨e, g1, g2⟩ := glob_both (rd_T58 l (n : Int)).f1 (hg _ (rule_mem l n (by omega)))
    have p1 : Ev (fun k => (glob_Check.f k (rd_T58 l (n : Int)).f1).bind fun t103 => (if t103 = 0 then (filter_Check.l0 k l (l.length : Int) ((n + 1 : Nat) : Int)) else (some t103))) (if e = 0 then v else e) := by
      refine Ev.bind g1 ?_
      by_cases c : e = 0
      · rw [if_pos c]; exact Ev.ifp c h1
      · rw [if_neg c]; exact Ev.ifn c (Ev.now _)
    have p2 : Ev (fun k => (creelref_GlobFault.f k (rd_T58 l (n : Int)).f1).bind fun t103 => (if t103 = 0 then (creelref_RulesFault.l0 k l (l.length : Int) ((n + 1 : Nat) : Int)) else (some t103))) (if e = 0 then v else e) := by
      refine Ev.bind g2 ?_
      by_cases c : e = 0
      · rw [if_pos c]; exact Ev.ifp c h2
      · rw [if_neg c]; exact Ev.ifn c (Ev.now _)
    refine ⟨_, Ev.step (fun k => ?_) p1, Ev.step (fun k => ?_) p2⟩
    · simp only [filter_Check.l0]
      rw [if_pos (by omega), if_pos (by omega), if_pos (by omega), w]
    · simp only [creelref_RulesFault.l0]
      rw [if_pos (by omega), if_pos (by omega), if_pos (by omega), w]
theorem rules_both (l : List S58) (hg : ∀ y ∈ l, y.f1.size ≤ 140737488351232) : ∃ v, Ev (fun k => filter_Check.f k l) v ∧ Ev (fun k => creelref_RulesFault.f k l) v := by
  unfold filter_Check.f creelref_RulesFault.f
  by_cases c : (l.length : Int) > 12
  · exact ⟨1, Ev.ifp c (Ev.now _), Ev.ifp c (Ev.now _)⟩
  · obtain ⟨v, h1, h2⟩ := rules_loop l (by omega) hg l.length 0 (by omega) (by omega)
    exact ⟨v, Ev.ifn c h1, Ev.ifn c h2⟩

open Classical in
/-- does a path fit a pattern, and what is wrong with them -/
noncomputable def fitV (p s : ByteArray) : Bool × Int := if h : p.size ≤ 140737488351232 ∧ s.size ≤ 140737488351232 then (fits_both p s h.1 h.2).choose else (false, 0)
theorem fitV_is (p s : ByteArray) (hp : p.size ≤ 140737488351232) (hs : s.size ≤ 140737488351232) : Ev (fun k => glob_Fits.f k p s) (fitV p s) ∧ Ev (fun k => creelref_GlobFits.f k p s) (fitV p s) := by
  have e : fitV p s = (fits_both p s hp hs).choose := by unfold fitV; rw [dif_pos ⟨hp, hs⟩]
  rw [e]
  exact (fits_both p s hp hs).choose_spec
/-- what the last rule that fits says -/
noncomputable def takeV (s : ByteArray) (l : List S58) : Bool := l.foldl (fun is x => if (fitV x.f1 s).1 = true then x.f0 else is) true
theorem rule_take (l : List S58) (n : Nat) (h : n < l.length) : l.take (n + 1) = l.take n ++ [rd_T58 l (n : Int)] := by
  rw [List.take_succ_eq_append_getElem h]
  unfold rd_T58
  rw [Int.toNat_natCast, List.getD_eq_getElem?_getD, List.getElem?_eq_getElem h]
  rfl
theorem takeV_snoc (s : ByteArray) (l : List S58) (n : Nat) (h : n < l.length) : takeV s (l.take (n + 1)) = if (fitV (rd_T58 l (n : Int)).f1 s).1 = true then (rd_T58 l (n : Int)).f0 else takeV s (l.take n) := by
  unfold takeV
  rw [rule_take l n h, List.foldl_append]
  rfl
theorem prog_takes (s : ByteArray) (hs : s.size ≤ 140737488351232) (l : List S58) (hl : l.length ≤ 12) (hg : ∀ y ∈ l, y.f1.size ≤ 140737488351232) : ∀ n : Nat, n ≤ l.length → Ev (fun k => filter_takes.l0 k l s ((n : Int) - 1)) (takeV s (l.take n))
  | 0, _ => by
    refine Ev.step (f := fun _ => some true) (fun k => ?_) (Ev.now _)
    simp only [filter_takes.l0]
    rw [if_neg (by omega)]
  | n + 1, hn => by
    have ih := prog_takes s hs l hl hg n (by omega)
    have e : ((n + 1 : Nat) : Int) - 1 = (n : Int) := by omega
    have w : wrap64 ((n : Int) - 1) = (n : Int) - 1 := by rw [wrap_is (by omega) (by omega)]
    rw [takeV_snoc s l n (by omega), e]
    refine Ev.step (f := fun k => (glob_Fits.f k (rd_T58 l (n : Int)).f1 s).bind fun b => if b.1 = true then some (rd_T58 l (n : Int)).f0 else filter_takes.l0 k l s ((n : Int) - 1)) (fun k => ?_) ?_
    · simp only [filter_takes.l0]
      rw [if_pos (by omega), if_pos (by omega), if_pos (by omega), w]
    · refine Ev.bind (fitV_is _ s (hg _ (rule_mem l n (by omega))) hs).1 ?_
      by_cases c : (fitV (rd_T58 l (n : Int)).f1 s).1 = true
      · rw [if_pos c]; exact Ev.ifp c (Ev.now _)
      · rw [if_neg c]; exact Ev.ifn c ih
theorem ref_takes (s : ByteArray) (hs : s.size ≤ 140737488351232) (l : List S58) (hl : l.length ≤ 12) (hg : ∀ y ∈ l, y.f1.size ≤ 140737488351232) (d : Nat) : ∀ n : Nat, l.length - n = d → n ≤ l.length → Ev (fun k => creelref_taken.l0 k s (takeV s (l.take n)) l (l.length : Int) (n : Int)) (takeV s l) := by
  induction d with
  | zero =>
    intro n hd hn
    have e : n = l.length := by omega
    refine Ev.step (f := fun _ => some (takeV s l)) (fun k => ?_) (Ev.now _)
    simp only [creelref_taken.l0]
    rw [if_neg (by omega), e, List.take_length]
  | succ d ih =>
    intro n hd hn
    have w : wrap64 ((n : Int) + 1) = ((n + 1 : Nat) : Int) := by rw [wrap_is (by omega) (by omega)]; omega
    have h1 := ih (n + 1) (by omega) (by omega)
    refine Ev.step (f := fun k => (creelref_GlobFits.f k (rd_T58 l (n : Int)).f1 s).bind fun b => if b.1 = true then creelref_taken.l0 k s (rd_T58 l (n : Int)).f0 l (l.length : Int) ((n + 1 : Nat) : Int) else creelref_taken.l0 k s (takeV s (l.take n)) l (l.length : Int) ((n + 1 : Nat) : Int)) (fun k => ?_) ?_
    · simp only [creelref_taken.l0]
      rw [if_pos (by omega), if_pos (by omega), if_pos (by omega), w]
    · refine Ev.bind (fitV_is _ s (hg _ (rule_mem l n (by omega))) hs).2 ?_
      rw [takeV_snoc s l n (by omega)] at h1
      by_cases c : (fitV (rd_T58 l (n : Int)).f1 s).1 = true
      · rw [if_pos c] at h1; exact Ev.ifp c h1
      · rw [if_neg c] at h1; exact Ev.ifn c h1
theorem takes_both (s : ByteArray) (hs : s.size ≤ 140737488351232) (l : List S58) (hl : l.length ≤ 12) (hg : ∀ y ∈ l, y.f1.size ≤ 140737488351232) : Ev (fun k => filter_takes.f k l s) (takeV s l) ∧ Ev (fun k => creelref_taken.f k l s) (takeV s l) := by
  have h1 := prog_takes s hs l hl hg l.length (Nat.le_refl _)
  rw [List.take_length] at h1
  have h2 := ref_takes s hs l hl hg l.length 0 (by omega) (by omega)
  have w : wrap64 ((l.length : Int) - 1) = (l.length : Int) - 1 := by rw [wrap_is (by omega) (by omega)]
  refine ⟨?_, h2⟩
  unfold filter_takes.f
  rw [w]
  exact h1
theorem rules_len (l : List S58) (h : Ev (fun k => filter_Check.f k l) 0) : l.length ≤ 12 := by
  obtain ⟨K, hK⟩ := h
  have h1 : filter_Check.f K l = some 0 := hK K (Nat.le_refl _)
  unfold filter_Check.f at h1
  by_cases c : (l.length : Int) > 12
  · rw [if_pos c] at h1; injection h1 with h1; exact absurd h1 (by decide)
  · omega
end Go.Proofs.YtcbbcnmifohibaaDoor.Q
end
