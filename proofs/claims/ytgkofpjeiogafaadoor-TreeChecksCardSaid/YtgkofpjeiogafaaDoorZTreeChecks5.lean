/- Made by programs of the prover: walks of Go functions, the words that they use, and plain laws, each text in a section of its own; no condition of its own. -/
import Derived.Test.YtgkofpjeiogafaaDoorZTreeChecks2
import Derived.Test.YtgkofpjeiogafaaDoorZTreeChecks4
section
namespace Go.Proofs.YtgkofpjeiogafaaDoor.All
open Go.RowKit Go.Proofs.YtgkofpjeiogafaaDoorW.PrintWords Go.Proofs.YtgkofpjeiogafaaDoorW.PrintLast Go.Proofs.YtgkofpjeiogafaaDoorW.PrintMore
open Go.Proofs.YtgkofpjeiogafaaDoorW.Mine
attribute [local go_sem] gtr_string leq_string geq_string
attribute [local go_sem] max2_int min2_int max_two min_two max_three min_three max_four min_four   -- for this text's walks alone
set_option linter.unusedVariables false
set_option linter.unusedSimpArgs false

/-! ### cmp_Compare_string: function 88 -/
def cmp_Compare_string.f (a0 : ByteArray) (a1 : ByteArray) : Option (Int) := (cmp_isNaN_string.f a0).bind fun t101 => ((cmp_isNaN_string.f a1).bind fun t102 => (if t101 = true then (if t102 = true then (some 0) else (some (-1))) else (if t102 = true then (some 1) else (if (Op.bytesLess a0.toList a1.toList) = true then (some (-1)) else (if (Op.bytesLess a1.toList a0.toList) = true then (some 1) else (some 0))))))
set_option maxHeartbeats 8000000 in
set_option maxRecDepth 100000 in
theorem cmp_Compare_string.calls (a0 : ByteArray) (a1 : ByteArray) (r : Int) (w : World) (h : cmp_Compare_string.f a0 a1 = some r) :
  Calls Tryd.prog 88 #[.string a0, .string a1] w fun e w' => e = .returned (.int .i64 r) ∧ Drawn0 w w' := by
 have H : ((cmp_isNaN_string.f a0).bind fun t101 => ((cmp_isNaN_string.f a1).bind fun t102 => (if t101 = true then (if t102 = true then (some 0) else (some (-1))) else (if t102 = true then (some 1) else (if (Op.bytesLess a0.toList a1.toList) = true then (some (-1)) else (if (Op.bytesLess a1.toList a0.toList) = true then (some 1) else (some 0))))))) = some r := h
 clear h
 replace H := Option.bind_eq_some_iff.mp H
 obtain ⟨t101, A30, H⟩ := H
 replace H : ((cmp_isNaN_string.f a1).bind fun t102 => (if t101 = true then (if t102 = true then (some 0) else (some (-1))) else (if t102 = true then (some 1) else (if (Op.bytesLess a0.toList a1.toList) = true then (some (-1)) else (if (Op.bytesLess a1.toList a0.toList) = true then (some 1) else (some 0)))))) = some r := H
 have A3 := Aside0.mk A30
 clear A30
 replace H := Option.bind_eq_some_iff.mp H
 obtain ⟨t102, A40, H⟩ := H
 replace H : (if t101 = true then (if t102 = true then (some 0) else (some (-1))) else (if t102 = true then (some 1) else (if (Op.bytesLess a0.toList a1.toList) = true then (some (-1)) else (if (Op.bytesLess a1.toList a0.toList) = true then (some 1) else (some 0))))) = some r := H
 have A4 := Aside0.mk A40
 clear A40
 by_cases c5 : t101 = true
 ·subst c5
  have H1 : (if t102 = true then (some 0) else (some (-1))) = some r := by rw [if_pos rfl] at H; exact H
  clear H
  have H := H1
  clear H1
  by_cases c6 : t102 = true
  ·subst c6
   have H1 : (some 0) = some r := by rw [if_pos rfl] at H; exact H
   clear H
   have H := H1
   clear H1
   obtain rfl := Option.some.inj H
   go_enter Tryd.func88, Tryd.ntmps88
   go_wp2_with (first | ((with_reducible refine gate_callee (f := 103) rfl ?_); refine goesL_ (some 8) rfl rfl Tryd.func103 (by kernel_rfl) rfl #[.string a0] rfl (by (try simp only [List.map_toArray, List.map_cons, List.map_nil]); first | done | rfl | (simp only [List.length_drop, List.length_take]; rfl)) ?_; (with_reducible refine (cmp_isNaN_string.calls a0 true _ A3.out).mono ?_); rintro e w' ⟨rfl, ⟨nd, rfl⟩⟩; refine ⟨_, rfl, ?_⟩) | ((with_reducible refine gate_callee (f := 103) rfl ?_); refine goesL_ (some 10) rfl rfl Tryd.func103 (by kernel_rfl) rfl #[.string a1] rfl (by (try simp only [List.map_toArray, List.map_cons, List.map_nil]); first | done | rfl | (simp only [List.length_drop, List.length_take]; rfl)) ?_; (with_reducible refine (cmp_isNaN_string.calls a1 true _ A4.out).mono ?_); rintro e w' ⟨rfl, ⟨nd, rfl⟩⟩; refine ⟨_, rfl, ?_⟩))
   go_ret
   exact ⟨by first | rfl | (simp; done) | (simp [*]; done), by repeat (first | exact Drawn0.refl _ | apply Drawn0.step)⟩
  ·replace c6 := Bool.eq_false_iff.mpr c6
   subst c6
   have H1 : (some (-1)) = some r := by rw [if_neg (show ¬ (false = true) by decide)] at H; exact H
   clear H
   have H := H1
   clear H1
   obtain rfl := Option.some.inj H
   go_enter Tryd.func88, Tryd.ntmps88
   go_wp2_with (first | ((with_reducible refine gate_callee (f := 103) rfl ?_); refine goesL_ (some 8) rfl rfl Tryd.func103 (by kernel_rfl) rfl #[.string a0] rfl (by (try simp only [List.map_toArray, List.map_cons, List.map_nil]); first | done | rfl | (simp only [List.length_drop, List.length_take]; rfl)) ?_; (with_reducible refine (cmp_isNaN_string.calls a0 true _ A3.out).mono ?_); rintro e w' ⟨rfl, ⟨nd, rfl⟩⟩; refine ⟨_, rfl, ?_⟩) | ((with_reducible refine gate_callee (f := 103) rfl ?_); refine goesL_ (some 10) rfl rfl Tryd.func103 (by kernel_rfl) rfl #[.string a1] rfl (by (try simp only [List.map_toArray, List.map_cons, List.map_nil]); first | done | rfl | (simp only [List.length_drop, List.length_take]; rfl)) ?_; (with_reducible refine (cmp_isNaN_string.calls a1 false _ A4.out).mono ?_); rintro e w' ⟨rfl, ⟨nd, rfl⟩⟩; refine ⟨_, rfl, ?_⟩))
   go_ret
   exact ⟨by first | rfl | (simp; done) | (simp [*]; done), by repeat (first | exact Drawn0.refl _ | apply Drawn0.step)⟩
 ·replace c5 := Bool.eq_false_iff.mpr c5
  subst c5
  have H1 : (if t102 = true then (some 1) else (if (Op.bytesLess a0.toList a1.toList) = true then (some (-1)) else (if (Op.bytesLess a1.toList a0.toList) = true then (some 1) else (some 0)))) = some r := by rw [if_neg (show ¬ (false = true) by decide)] at H; exact H
  clear H
  have H := H1
  clear H1
  by_cases c7 : t102 = true
  ·subst c7
   have H1 : (some 1) = some r := by rw [if_pos rfl] at H; exact H
   clear H
   have H := H1
   clear H1
   obtain rfl := Option.some.inj H
   go_enter Tryd.func88, Tryd.ntmps88
   go_wp2_with (first | ((with_reducible refine gate_callee (f := 103) rfl ?_); refine goesL_ (some 8) rfl rfl Tryd.func103 (by kernel_rfl) rfl #[.string a0] rfl (by (try simp only [List.map_toArray, List.map_cons, List.map_nil]); first | done | rfl | (simp only [List.length_drop, List.length_take]; rfl)) ?_; (with_reducible refine (cmp_isNaN_string.calls a0 false _ A3.out).mono ?_); rintro e w' ⟨rfl, ⟨nd, rfl⟩⟩; refine ⟨_, rfl, ?_⟩) | ((with_reducible refine gate_callee (f := 103) rfl ?_); refine goesL_ (some 10) rfl rfl Tryd.func103 (by kernel_rfl) rfl #[.string a1] rfl (by (try simp only [List.map_toArray, List.map_cons, List.map_nil]); first | done | rfl | (simp only [List.length_drop, List.length_take]; rfl)) ?_; (with_reducible refine (cmp_isNaN_string.calls a1 true _ A4.out).mono ?_); rintro e w' ⟨rfl, ⟨nd, rfl⟩⟩; refine ⟨_, rfl, ?_⟩))
   go_ret
   exact ⟨by first | rfl | (simp; done) | (simp [*]; done), by repeat (first | exact Drawn0.refl _ | apply Drawn0.step)⟩
  ·replace c7 := Bool.eq_false_iff.mpr c7
   subst c7
   have H1 : (if (Op.bytesLess a0.toList a1.toList) = true then (some (-1)) else (if (Op.bytesLess a1.toList a0.toList) = true then (some 1) else (some 0))) = some r := by rw [if_neg (show ¬ (false = true) by decide)] at H; exact H
   clear H
   have H := H1
   clear H1
   by_cases c8 : (Op.bytesLess a0.toList a1.toList) = true
   ·rw [if_pos c8] at H
    have c8b0 : (Op.bytesLess a0.toList a1.toList) = true := c8
    clear c8
    obtain rfl := Option.some.inj H
    go_enter Tryd.func88, Tryd.ntmps88
    go_wp2_with (first | ((with_reducible refine gate_callee (f := 103) rfl ?_); refine goesL_ (some 8) rfl rfl Tryd.func103 (by kernel_rfl) rfl #[.string a0] rfl (by (try simp only [List.map_toArray, List.map_cons, List.map_nil]); first | done | rfl | (simp only [List.length_drop, List.length_take]; rfl)) ?_; (with_reducible refine (cmp_isNaN_string.calls a0 false _ A3.out).mono ?_); rintro e w' ⟨rfl, ⟨nd, rfl⟩⟩; refine ⟨_, rfl, ?_⟩) | ((with_reducible refine gate_callee (f := 103) rfl ?_); refine goesL_ (some 10) rfl rfl Tryd.func103 (by kernel_rfl) rfl #[.string a1] rfl (by (try simp only [List.map_toArray, List.map_cons, List.map_nil]); first | done | rfl | (simp only [List.length_drop, List.length_take]; rfl)) ?_; (with_reducible refine (cmp_isNaN_string.calls a1 false _ A4.out).mono ?_); rintro e w' ⟨rfl, ⟨nd, rfl⟩⟩; refine ⟨_, rfl, ?_⟩))
    go_ret
    exact ⟨by first | rfl | (simp; done) | (simp [*]; done), by repeat (first | exact Drawn0.refl _ | apply Drawn0.step)⟩
   ·rw [if_neg c8] at H
    have c8b0 : (Op.bytesLess a0.toList a1.toList) = false := by simpa using c8
    clear c8
    by_cases c9 : (Op.bytesLess a1.toList a0.toList) = true
    ·rw [if_pos c9] at H
     have c9b0 : (Op.bytesLess a1.toList a0.toList) = true := c9
     clear c9
     obtain rfl := Option.some.inj H
     go_enter Tryd.func88, Tryd.ntmps88
     go_wp2_with (first | ((with_reducible refine gate_callee (f := 103) rfl ?_); refine goesL_ (some 8) rfl rfl Tryd.func103 (by kernel_rfl) rfl #[.string a0] rfl (by (try simp only [List.map_toArray, List.map_cons, List.map_nil]); first | done | rfl | (simp only [List.length_drop, List.length_take]; rfl)) ?_; (with_reducible refine (cmp_isNaN_string.calls a0 false _ A3.out).mono ?_); rintro e w' ⟨rfl, ⟨nd, rfl⟩⟩; refine ⟨_, rfl, ?_⟩) | ((with_reducible refine gate_callee (f := 103) rfl ?_); refine goesL_ (some 10) rfl rfl Tryd.func103 (by kernel_rfl) rfl #[.string a1] rfl (by (try simp only [List.map_toArray, List.map_cons, List.map_nil]); first | done | rfl | (simp only [List.length_drop, List.length_take]; rfl)) ?_; (with_reducible refine (cmp_isNaN_string.calls a1 false _ A4.out).mono ?_); rintro e w' ⟨rfl, ⟨nd, rfl⟩⟩; refine ⟨_, rfl, ?_⟩))
     go_ret
     exact ⟨by first | rfl | (simp; done) | (simp [*]; done), by repeat (first | exact Drawn0.refl _ | apply Drawn0.step)⟩
    ·rw [if_neg c9] at H
     have c9b0 : (Op.bytesLess a1.toList a0.toList) = false := by simpa using c9
     clear c9
     obtain rfl := Option.some.inj H
     go_enter Tryd.func88, Tryd.ntmps88
     go_wp2_with (first | ((with_reducible refine gate_callee (f := 103) rfl ?_); refine goesL_ (some 8) rfl rfl Tryd.func103 (by kernel_rfl) rfl #[.string a0] rfl (by (try simp only [List.map_toArray, List.map_cons, List.map_nil]); first | done | rfl | (simp only [List.length_drop, List.length_take]; rfl)) ?_; (with_reducible refine (cmp_isNaN_string.calls a0 false _ A3.out).mono ?_); rintro e w' ⟨rfl, ⟨nd, rfl⟩⟩; refine ⟨_, rfl, ?_⟩) | ((with_reducible refine gate_callee (f := 103) rfl ?_); refine goesL_ (some 10) rfl rfl Tryd.func103 (by kernel_rfl) rfl #[.string a1] rfl (by (try simp only [List.map_toArray, List.map_cons, List.map_nil]); first | done | rfl | (simp only [List.length_drop, List.length_take]; rfl)) ?_; (with_reducible refine (cmp_isNaN_string.calls a1 false _ A4.out).mono ?_); rintro e w' ⟨rfl, ⟨nd, rfl⟩⟩; refine ⟨_, rfl, ?_⟩))
     go_ret
     exact ⟨by first | rfl | (simp; done) | (simp [*]; done), by repeat (first | exact Drawn0.refl _ | apply Drawn0.step)⟩

end Go.Proofs.YtgkofpjeiogafaaDoor.All
end
section
namespace Go.Proofs.YtgkofpjeiogafaaDoor.All
open Go.RowKit Go.Proofs.YtgkofpjeiogafaaDoorW.PrintWords Go.Proofs.YtgkofpjeiogafaaDoorW.PrintLast Go.Proofs.YtgkofpjeiogafaaDoorW.PrintMore
open Go.Proofs.YtgkofpjeiogafaaDoorW.Mine
attribute [local go_sem] gtr_string leq_string geq_string
attribute [local go_sem] max2_int min2_int max_two min_two max_three min_three max_four min_four   -- for this text's walks alone
set_option linter.unusedVariables false
set_option linter.unusedSimpArgs false

/-! ### slices_Compare_string_string: function 72 -/
def slices_Compare_string_string.l0 : Nat → List ByteArray → List ByteArray → List ByteArray → Int → Int → Option (Int)
 | 0, _, _, _, _, _ => none
 | k + 1, x0, x1, x9, x10, x11 => if x11 < x10 then (if 0 ≤ x11 then (if x11 < (x9.length : Int) then (if x11 ≥ (x1.length : Int) then (some 1) else (if x11 < (x1.length : Int) then ((cmp_Compare_string.f (rdOf ByteArray.empty x9 x11) (rdOf ByteArray.empty x1 x11)).bind fun t103 => (if t103 = 0 then (slices_Compare_string_string.l0 k x0 x1 x9 x10 (wrap64 (x11 + 1))) else (some t103))) else (none))) else (none)) else (none)) else (if (x0.length : Int) < (x1.length : Int) then (some (-1)) else (some 0))
def slices_Compare_string_string.f (k : Nat) (l0 : List ByteArray) (l1 : List ByteArray) : Option (Int) := slices_Compare_string_string.l0 k l0 l1 l0 (l0.length : Int) 0
theorem slices_Compare_string_string.mono_l : ∀ k, (∀ y0 y1 y2 y3 y4, LeO (slices_Compare_string_string.l0 k y0 y1 y2 y3 y4) (slices_Compare_string_string.l0 (k + 1) y0 y1 y2 y3 y4))
 | 0 => fun _ _ _ _ _ r h => by simp [slices_Compare_string_string.l0] at h
 | k + 1 => by
  have ih0 := slices_Compare_string_string.mono_l k
  ·intro y0 y1 y2 y3 y4
   unfold slices_Compare_string_string.l0
   repeat' first
   | (with_reducible exact ih0 _ _ _ _ _)
   | (with_reducible exact LeO.refl _)
   | (with_reducible exact LeO.none _)
   | (with_reducible refine LeO.ite ?_ ?_)
   | (with_reducible refine LeO.bind ?_ (fun _ => ?_))
   | exact ih0 _ _ _ _ _
   | exact LeO.none _
   | refine LeO.ite ?_ ?_
   | refine LeO.bind ?_ (fun _ => ?_)
theorem slices_Compare_string_string.mono : ∀ a0 a1 k, LeO (slices_Compare_string_string.f k a0 a1) (slices_Compare_string_string.f (k + 1) a0 a1) := by
 intro a0 a1 k
 have ih0 := slices_Compare_string_string.mono_l k
 unfold slices_Compare_string_string.f
 repeat' first
   | (with_reducible exact ih0 _ _ _ _ _)
   | (with_reducible exact LeO.refl _)
   | (with_reducible exact LeO.none _)
   | (with_reducible refine LeO.ite ?_ ?_)
   | (with_reducible refine LeO.bind ?_ (fun _ => ?_))
   | exact ih0 _ _ _ _ _
   | exact LeO.none _
   | refine LeO.ite ?_ ?_
   | refine LeO.bind ?_ (fun _ => ?_)
set_option maxHeartbeats 8000000 in
set_option maxRecDepth 100000 in
theorem slices_Compare_string_string.calls (k : Nat) (A0 : Option Addr) (c0 : Nat) (l0 : List ByteArray) (A1 : Option Addr) (c1 : Nat) (l1 : List ByteArray) (r : Int) (w : World) (hr0 : Kd.C Kd.string w A0 l0.length l0) (hc0 : l0.length ≤ c0) (hr1 : Kd.C Kd.string w A1 l1.length l1) (hc1 : l1.length ≤ c1) (h : slices_Compare_string_string.f k l0 l1 = some r) :
  Calls Tryd.prog 72 #[.slice A0 l0.length c0, .slice A1 l1.length c1] w fun e w' => e = .returned (.int .i64 r) ∧ Drawn0 w w' := by
 have HR0 := Aside0.mk hr0
 have HC0 := Aside0.mk hc0
 clear hr0 hc0
 have HR1 := Aside0.mk hr1
 have HC1 := Aside0.mk hc1
 clear hr1 hc1
 have H : (slices_Compare_string_string.l0 k l0 l1 l0 (l0.length : Int) 0) = some r := h
 clear h
 have H' := Aside0.mk H
 clear H
 go_enter Tryd.func72, Tryd.ntmps72
 go_wp2
 go_loopg [11] k (fun kq v11 w' => ∃ (x11_1 : Int), v11 = .int .i64 x11_1 ∧ Aside0 (slices_Compare_string_string.l0 kq l0 l1 l0 (l0.length : Int) x11_1 = some r) ∧ Aside0 (kq ≤ k) ∧ Drawn0 w w')
 case atStart => exact ⟨(0), (by first | rfl | (simp; done) | (simp [*]; done)), H', ⟨Nat.le_refl _⟩, by repeat (first | exact Drawn0.refl _ | apply Drawn0.step)⟩
 case round =>
  clear H'
  try clear c1
  try clear p2
  obtain ⟨x11_1, rfl, HA, HK1, ⟨m1, rfl⟩⟩ := hrel
  cases gk with
  | zero => exact absurd HA.out (by simp [slices_Compare_string_string.l0])
  | succ k1 =>
   have H := HA.out
   clear HA
   simp only [slices_Compare_string_string.l0] at H
   by_cases c3 : x11_1 < (l0.length : Int)
   ·rw [if_pos c3] at H
    have c3b0 : decide (x11_1 < (l0.length : Int)) = true := decide_eq_true c3
    clear c3
    by_cases c4 : 0 ≤ x11_1
    ·rw [if_pos c4] at H
     have c4b0 : decide (0 ≤ x11_1) = true := decide_eq_true c4
     clear c4
     by_cases c5 : x11_1 < (l0.length : Int)
     ·rw [if_pos c5] at H
      have c5b0 : decide (x11_1 < (l0.length : Int)) = true := decide_eq_true c5
      clear c5
      by_cases c6 : x11_1 ≥ (l1.length : Int)
      ·rw [if_pos c6] at H
       have c6b0 : decide ((l1.length : Int) ≤ x11_1) = true := decide_eq_true c6
       clear c6
       obtain rfl := Option.some.inj H
       have p101 : 0 ≤ (x11_1 : Int) := of_decide_eq_true (by first | (with_reducible assumption) | assumption)
       have q101 : x11_1 < (l0.length : Int) := of_decide_eq_true (by first | (with_reducible assumption) | assumption)
       obtain ⟨ad101, e101, hx101_0⟩ := Kd.at_string HR0.out x11_1 p101 q101
       cases e101
       replace p101 := eq_true p101
       replace q101 := eq_true q101
       go_wp2
       go_ret
       exact ⟨by first | rfl | (simp; done) | (simp [*]; done), by repeat (first | exact Drawn0.refl _ | apply Drawn0.step)⟩
      ·rw [if_neg c6] at H
       have c6b0 : decide ((l1.length : Int) ≤ x11_1) = false := decide_eq_false c6
       clear c6
       by_cases c7 : x11_1 < (l1.length : Int)
       ·rw [if_pos c7] at H
        have c7b0 : decide (x11_1 < (l1.length : Int)) = true := decide_eq_true c7
        clear c7
        replace H := Option.bind_eq_some_iff.mp H
        obtain ⟨t103, A80, H⟩ := H
        replace H : (if t103 = 0 then (slices_Compare_string_string.l0 k1 l0 l1 l0 (l0.length : Int) (wrap64 (x11_1 + 1))) else (some t103)) = some r := H
        have A8 := Aside0.mk A80
        clear A80
        by_cases c9 : t103 = 0
        ·rw [if_pos c9] at H
         have c9b0 : (t103 == 0) = true := beq_iff_eq.mpr c9
         have c9b1 : (t103 != 0) = false := bne_eq_false_iff_eq.mpr c9
         clear c9
         have H' := Aside0.mk H
         clear H
         have p101 : 0 ≤ (x11_1 : Int) := of_decide_eq_true (by first | (with_reducible assumption) | assumption)
         have q101 : x11_1 < (l0.length : Int) := of_decide_eq_true (by first | (with_reducible assumption) | assumption)
         obtain ⟨ad101, e101, hx101_0⟩ := Kd.at_string HR0.out x11_1 p101 q101
         cases e101
         replace p101 := eq_true p101
         replace q101 := eq_true q101
         have p102 : 0 ≤ (x11_1 : Int) := of_decide_eq_true (by first | (with_reducible assumption) | assumption)
         have q102 : x11_1 < (l1.length : Int) := of_decide_eq_true (by first | (with_reducible assumption) | assumption)
         obtain ⟨ad102, e102, hx102_0⟩ := Kd.at_string HR1.out x11_1 p102 q102
         cases e102
         replace p102 := eq_true p102
         replace q102 := eq_true q102
         go_wp2_with (first | ((with_reducible refine gate_callee (f := 88) rfl ?_); refine goesL_ (some 26) rfl rfl Tryd.func88 (by kernel_rfl) rfl #[.string (rdOf ByteArray.empty l0 x11_1), .string (rdOf ByteArray.empty l1 x11_1)] rfl (by (try simp only [List.map_toArray, List.map_cons, List.map_nil]); first | done | rfl | (simp only [List.length_drop, List.length_take]; rfl)) ?_; (with_reducible refine (cmp_Compare_string.calls (rdOf ByteArray.empty l0 x11_1) (rdOf ByteArray.empty l1 x11_1) t103 _ A8.out).mono ?_); rintro e w' ⟨rfl, ⟨nd, rfl⟩⟩; refine ⟨_, rfl, ?_⟩))
         go_roundg k1
         case measure => have := HK1.out; omega
         case rel => exact ⟨(wrap64 (x11_1 + 1)), (by first | rfl | (simp; done) | (simp [*]; done)), H', ⟨by have := HK1.out; omega⟩, by repeat (first | exact Drawn0.refl _ | apply Drawn0.step)⟩
        ·rw [if_neg c9] at H
         have c9b0 : (t103 == 0) = false := beq_eq_false_iff_ne.mpr c9
         have c9b1 : (t103 != 0) = true := bne_iff_ne.mpr c9
         obtain rfl := Option.some.inj H
         have p101 : 0 ≤ (x11_1 : Int) := of_decide_eq_true (by first | (with_reducible assumption) | assumption)
         have q101 : x11_1 < (l0.length : Int) := of_decide_eq_true (by first | (with_reducible assumption) | assumption)
         obtain ⟨ad101, e101, hx101_0⟩ := Kd.at_string HR0.out x11_1 p101 q101
         cases e101
         replace p101 := eq_true p101
         replace q101 := eq_true q101
         have p102 : 0 ≤ (x11_1 : Int) := of_decide_eq_true (by first | (with_reducible assumption) | assumption)
         have q102 : x11_1 < (l1.length : Int) := of_decide_eq_true (by first | (with_reducible assumption) | assumption)
         obtain ⟨ad102, e102, hx102_0⟩ := Kd.at_string HR1.out x11_1 p102 q102
         cases e102
         replace p102 := eq_true p102
         replace q102 := eq_true q102
         go_wp2_with (first | ((with_reducible refine gate_callee (f := 88) rfl ?_); refine goesL_ (some 26) rfl rfl Tryd.func88 (by kernel_rfl) rfl #[.string (rdOf ByteArray.empty l0 x11_1), .string (rdOf ByteArray.empty l1 x11_1)] rfl (by (try simp only [List.map_toArray, List.map_cons, List.map_nil]); first | done | rfl | (simp only [List.length_drop, List.length_take]; rfl)) ?_; (with_reducible refine (cmp_Compare_string.calls (rdOf ByteArray.empty l0 x11_1) (rdOf ByteArray.empty l1 x11_1) t103 _ A8.out).mono ?_); rintro e w' ⟨rfl, ⟨nd, rfl⟩⟩; refine ⟨_, rfl, ?_⟩))
         go_ret
         exact ⟨by first | rfl | (simp; done) | (simp [*]; done), by repeat (first | exact Drawn0.refl _ | apply Drawn0.step)⟩
       ·rw [if_neg c7] at H
        exact absurd H (by simp)
     ·rw [if_neg c5] at H
      exact absurd H (by simp)
    ·rw [if_neg c4] at H
     exact absurd H (by simp)
   ·rw [if_neg c3] at H
    have c3b0 : decide (x11_1 < (l0.length : Int)) = false := decide_eq_false c3
    clear c3
    by_cases c10 : (l0.length : Int) < (l1.length : Int)
    ·rw [if_pos c10] at H
     have c10b0 : decide ((l0.length : Int) < (l1.length : Int)) = true := decide_eq_true c10
     have c10b1 : decide (l0.length < l1.length) = true := decide_eq_true (Int.ofNat_lt.mp c10)
     clear c10
     obtain rfl := Option.some.inj H
     go_wp2
     go_ret
     exact ⟨by first | rfl | (simp; done) | (simp [*]; done), by repeat (first | exact Drawn0.refl _ | apply Drawn0.step)⟩
    ·rw [if_neg c10] at H
     have c10b0 : decide ((l0.length : Int) < (l1.length : Int)) = false := decide_eq_false c10
     have c10b1 : decide (l0.length < l1.length) = false := decide_eq_false (fun h => c10 (Int.ofNat_lt.mpr h))
     clear c10
     obtain rfl := Option.some.inj H
     go_wp2
     go_ret
     exact ⟨by first | rfl | (simp; done) | (simp [*]; done), by repeat (first | exact Drawn0.refl _ | apply Drawn0.step)⟩

end Go.Proofs.YtgkofpjeiogafaaDoor.All
end
section
namespace Go.Proofs.YtgkofpjeiogafaaDoor.All
open Go.RowKit Go.Proofs.YtgkofpjeiogafaaDoorW.PrintWords Go.Proofs.YtgkofpjeiogafaaDoorW.PrintLast Go.Proofs.YtgkofpjeiogafaaDoorW.PrintMore
open Go.Proofs.YtgkofpjeiogafaaDoorW.Mine
attribute [local go_sem] gtr_string leq_string geq_string
attribute [local go_sem] max2_int min2_int max_two min_two max_three min_three max_four min_four   -- for this text's walks alone
set_option linter.unusedVariables false
set_option linter.unusedSimpArgs false

/-! ### path_Parts: function 73 -/
def path_Parts.f (a0 : ByteArray) : Option (List ByteArray) := if a0.toList = ([] : List UInt8) then (some ([] : List ByteArray)) else ((strings_Split.f a0 (⟨#[47]⟩ : ByteArray)).bind fun t101 => (some t101))
set_option maxHeartbeats 8000000 in
set_option maxRecDepth 100000 in
theorem path_Parts.calls (a0 : ByteArray) (r : List ByteArray) (w : World) (h : path_Parts.f a0 = some r) :
  Calls Tryd.prog 73 #[.string a0] w fun e w' => ∃ v0_ : Value, e = .returned (v0_) ∧ Kd.R Kd.string 9 w' w.heap.size (fun _ => True) v0_ r ∧ Below w.heap.size w w' := by
 have HB := Aside0.mk (Below.refl w.heap.size w)
 have H : (if a0.toList = ([] : List UInt8) then (some ([] : List ByteArray)) else ((strings_Split.f a0 (⟨#[47]⟩ : ByteArray)).bind fun t101 => (some t101))) = some r := h
 clear h
 by_cases c2 : a0.toList = ([] : List UInt8)
 ·rw [if_pos c2] at H
  have c2b0 : (a0.toList == ([] : List UInt8)) = true := beq_iff_eq.mpr c2
  have c2b1 : (a0.toList != ([] : List UInt8)) = false := bne_eq_false_iff_eq.mpr c2
  clear c2
  obtain rfl := Option.some.inj H
  go_enter Tryd.func73, Tryd.ntmps73
  go_wp2
  go_ret
  exact ⟨_, by first | rfl | (simp [errW_none, errW_some] <;> rfl) | (simp [*, errW_none, errW_some] <;> rfl), by first | exact Kd.R_nil _ _ _ _ _ | exact Kd.N_nil _ _ _ _ _ | exact Kd.V_nil _ _ _ _ _ | exact Kd.Q_nil _ _ _ _ _ | exact Kd.S_nil _ _ _ _ _, by repeat (first | (with_reducible first | exact HB.out | apply below_alloc | apply pw_below_drewN | apply below_drew1) | exact HB.out)⟩
 ·rw [if_neg c2] at H
  have c2b0 : (a0.toList == ([] : List UInt8)) = false := beq_eq_false_iff_ne.mpr c2
  have c2b1 : (a0.toList != ([] : List UInt8)) = true := bne_iff_ne.mpr c2
  replace H := Option.bind_eq_some_iff.mp H
  obtain ⟨t101, A30, H⟩ := H
  replace H : (some t101) = some r := H
  have A3 := Aside0.mk A30
  clear A30
  obtain rfl := Option.some.inj H
  go_enter Tryd.func73, Tryd.ntmps73
  go_wp2_with (first | ((with_reducible refine gate_callee (f := 56) rfl ?_); refine goesL_ (some 6) rfl rfl Tryd.func56 (by kernel_rfl) rfl #[.string a0, .string (⟨#[47]⟩ : ByteArray)] rfl (by (try simp only [List.map_toArray, List.map_cons, List.map_nil]); first | done | rfl | (simp only [List.length_drop, List.length_take]; rfl)) ?_; (with_reducible refine (strings_Split.calls a0 (⟨#[47]⟩ : ByteArray) t101 _ A3.out).mono ?_); rintro e w4 ⟨v102, rfl, ho0, hb⟩; refine ⟨_, rfl, ?_⟩; have n0_ := Aside0.mk (Kd.R_lower ho0 (below_size (by repeat (first | (with_reducible first | exact HB.out | apply below_alloc | apply pw_below_drewN | apply below_drew1) | exact HB.out)))); have n1_ := Aside0.mk (below_step (by repeat (first | (with_reducible first | exact HB.out | apply below_alloc | apply pw_below_drewN | apply below_drew1) | exact HB.out)) hb); clear HB; have HO103 := n0_; have HB := n1_; clear n0_ n1_; (try clear hb); (try clear hb2); (try clear hk); (try clear hi); (try clear ho0)))
  go_ret
  exact ⟨_, by first | rfl | (simp [errW_none, errW_some] <;> rfl) | (simp [*, errW_none, errW_some] <;> rfl), by (with_reducible repeat (first | apply Kd.R_alloc | apply Kd.R_drewN | apply Kd.R_drew)); exact HO103.out, by repeat (first | (with_reducible first | exact HB.out | apply below_alloc | apply pw_below_drewN | apply below_drew1) | exact HB.out)⟩

end Go.Proofs.YtgkofpjeiogafaaDoor.All
end
section
namespace Go.Proofs.YtgkofpjeiogafaaDoor.All
open Go.RowKit Go.Proofs.YtgkofpjeiogafaaDoorW.PrintWords Go.Proofs.YtgkofpjeiogafaaDoorW.PrintLast Go.Proofs.YtgkofpjeiogafaaDoorW.PrintMore
open Go.Proofs.YtgkofpjeiogafaaDoorW.Mine
attribute [local go_sem] gtr_string leq_string geq_string
attribute [local go_sem] max2_int min2_int max_two min_two max_three min_three max_four min_four   -- for this text's walks alone
set_option linter.unusedVariables false
set_option linter.unusedSimpArgs false

/-! ### path_Compare: function 42 -/
def path_Compare.f (k : Nat) (a0 : ByteArray) (a1 : ByteArray) : Option (Int) := (path_Parts.f a0).bind fun t101 => ((path_Parts.f a1).bind fun t104 => ((slices_Compare_string_string.f k t101 t104).bind fun t107 => (some t107)))
theorem path_Compare.mono : ∀ a0 a1 k, LeO (path_Compare.f k a0 a1) (path_Compare.f (k + 1) a0 a1) := by
 intro a0 a1 k
 unfold path_Compare.f
 repeat' first
   | (with_reducible exact slices_Compare_string_string.mono _ _ _)
   | (with_reducible exact LeO.refl _)
   | (with_reducible exact LeO.none _)
   | (with_reducible refine LeO.ite ?_ ?_)
   | (with_reducible refine LeO.bind ?_ (fun _ => ?_))
   | exact slices_Compare_string_string.mono _ _ _
   | exact LeO.none _
   | refine LeO.ite ?_ ?_
   | refine LeO.bind ?_ (fun _ => ?_)
set_option maxHeartbeats 8000000 in
set_option maxRecDepth 100000 in
theorem path_Compare.calls (k : Nat) (a0 : ByteArray) (a1 : ByteArray) (r : Int) (w : World) (h : path_Compare.f k a0 a1 = some r) :
  Calls Tryd.prog 42 #[.string a0, .string a1] w fun e w' => e = .returned (.int .i64 r) ∧ Below w.heap.size w w' := by
 have HB := Aside0.mk (Below.refl w.heap.size w)
 have H : ((path_Parts.f a0).bind fun t101 => ((path_Parts.f a1).bind fun t104 => ((slices_Compare_string_string.f k t101 t104).bind fun t107 => (some t107)))) = some r := h
 clear h
 replace H := Option.bind_eq_some_iff.mp H
 obtain ⟨t101, A30, H⟩ := H
 replace H : ((path_Parts.f a1).bind fun t104 => ((slices_Compare_string_string.f k t101 t104).bind fun t107 => (some t107))) = some r := H
 have A3 := Aside0.mk A30
 clear A30
 replace H := Option.bind_eq_some_iff.mp H
 obtain ⟨t104, A40, H⟩ := H
 replace H : ((slices_Compare_string_string.f k t101 t104).bind fun t107 => (some t107)) = some r := H
 have A4 := Aside0.mk A40
 clear A40
 replace H := Option.bind_eq_some_iff.mp H
 obtain ⟨t107, A50, H⟩ := H
 replace H : (some t107) = some r := H
 have A5 := Aside0.mk A50
 clear A50
 obtain rfl := Option.some.inj H
 go_enter Tryd.func42, Tryd.ntmps42
 go_wp2_with (first | ((with_reducible refine gate_callee (f := 73) rfl ?_); refine goesL_ (some 6) rfl rfl Tryd.func73 (by kernel_rfl) rfl #[.string a0] rfl (by (try simp only [List.map_toArray, List.map_cons, List.map_nil]); first | done | rfl | (simp only [List.length_drop, List.length_take]; rfl)) ?_; (with_reducible refine (path_Parts.calls a0 t101 _ A3.out).mono ?_); rintro e w6 ⟨v102, rfl, ho0, hb⟩; refine ⟨_, rfl, ?_⟩; have n0_ := Aside0.mk (Kd.R_lower ho0 (below_size (by repeat (first | (with_reducible first | exact HB.out | apply below_alloc | apply pw_below_drewN | apply below_drew1) | exact HB.out)))); have n1_ := Aside0.mk (below_step (by repeat (first | (with_reducible first | exact HB.out | apply below_alloc | apply pw_below_drewN | apply below_drew1) | exact HB.out)) hb); clear HB; have HO103 := n0_; have HB := n1_; clear n0_ n1_; (try clear hb); (try clear hb2); (try clear hk); (try clear hi); (try clear ho0)) | ((with_reducible refine gate_callee (f := 73) rfl ?_); refine goesL_ (some 8) rfl rfl Tryd.func73 (by kernel_rfl) rfl #[.string a1] rfl (by (try simp only [List.map_toArray, List.map_cons, List.map_nil]); first | done | rfl | (simp only [List.length_drop, List.length_take]; rfl)) ?_; (with_reducible refine (path_Parts.calls a1 t104 _ A4.out).mono ?_); rintro e w7 ⟨v105, rfl, ho0, hb⟩; refine ⟨_, rfl, ?_⟩; have n0_ := Aside0.mk (Kd.R_elder' (by (with_reducible repeat (first | apply Kd.R_alloc | apply Kd.R_drewN | apply Kd.R_drew)); exact HO103.out) (Kd.R_base ho0) hb); have n1_ := Aside0.mk (Kd.R_lower (Kd.R_new' ho0 (Kd.R_lt (by (with_reducible repeat (first | apply Kd.R_alloc | apply Kd.R_drewN | apply Kd.R_drew)); exact HO103.out))) (below_size (by repeat (first | (with_reducible first | exact HB.out | apply below_alloc | apply pw_below_drewN | apply below_drew1) | exact HB.out)))); have n2_ := Aside0.mk (below_step (by repeat (first | (with_reducible first | exact HB.out | apply below_alloc | apply pw_below_drewN | apply below_drew1) | exact HB.out)) hb); clear HO103; clear HB; have HO103 := n0_; have HO106 := n1_; have HB := n2_; clear n0_ n1_ n2_; (try clear hb); (try clear hb2); (try clear hk); (try clear hi); (try clear ho0); obtain ⟨Ao8, co8, eo8⟩ := Kd.R_slice HO103.out; subst eo8; obtain ⟨Ao9, co9, eo9⟩ := Kd.R_slice HO106.out; subst eo9) | ((with_reducible refine gate_callee (f := 72) rfl ?_); refine goesL_ (some 9) rfl rfl Tryd.func72 (by kernel_rfl) rfl #[.slice Ao8 t101.length co8, .slice Ao9 t104.length co9] rfl (by (try simp only [List.map_toArray, List.map_cons, List.map_nil]); first | done | rfl | (simp only [List.length_drop, List.length_take]; rfl)) ?_; (with_reducible refine (slices_Compare_string_string.calls k _ _ t101 _ _ t104 t107 _ ?side1 ?side2 ?side3 ?side4 A5.out).mono ?_); (case side1 => repeat (first | exact (Kd.R_reads' HO103.out).2.2 | (with_reducible refine Kd.C_alloc ?_ _) | (with_reducible refine Kd.C_drewN ?_ _) | (with_reducible refine Kd.C_drew ?_))); (case side2 => exact (Kd.R_reads' HO103.out).2.1); (case side3 => repeat (first | exact (Kd.R_reads' HO106.out).2.2 | (with_reducible refine Kd.C_alloc ?_ _) | (with_reducible refine Kd.C_drewN ?_ _) | (with_reducible refine Kd.C_drew ?_))); (case side4 => exact (Kd.R_reads' HO106.out).2.1); rintro e w' ⟨rfl, ⟨nd, rfl⟩⟩; refine ⟨_, rfl, ?_⟩))
 go_ret
 exact ⟨by first | rfl | (simp [errW_none, errW_some] <;> rfl) | (simp [*, errW_none, errW_some] <;> rfl), by repeat (first | (with_reducible first | exact HB.out | apply below_alloc | apply pw_below_drewN | apply below_drew1) | exact HB.out)⟩

end Go.Proofs.YtgkofpjeiogafaaDoor.All
end
section
namespace Go.Proofs.YtgkofpjeiogafaaDoor.All
open Go.RowKit Go.Proofs.YtgkofpjeiogafaaDoorW.PrintWords Go.Proofs.YtgkofpjeiogafaaDoorW.PrintLast Go.Proofs.YtgkofpjeiogafaaDoorW.PrintMore
open Go.Proofs.YtgkofpjeiogafaaDoorW.Mine
attribute [local go_sem] gtr_string leq_string geq_string
attribute [local go_sem] max2_int min2_int max_two min_two max_three min_three max_four min_four   -- for this text's walks alone
set_option linter.unusedVariables false
set_option linter.unusedSimpArgs false

/-! ### strings_LastIndexByte: function 74 -/
def strings_LastIndexByte.f (a0 : ByteArray) (a1 : Int) : Option Int := if a0.size < 4611686018427387904 then some (Lib.lastIndexByte a0 a1) else none
theorem strings_LastIndexByte.calls (a0 : ByteArray) (a1 : Int) (r : Int) (w : World) (h : strings_LastIndexByte.f a0 a1 = some r) :
  Calls Tryd.prog 74 #[.string a0, .int .u8 a1] w fun e w' => e = .returned (.int .i64 r) ∧ Drawn0 w w' := by
 unfold strings_LastIndexByte.f at h
 split at h
 ·rename_i hc
  obtain rfl := Option.some.inj h
  exact (Tryd.strings_LastIndexByte a0 a1 hc w).mono fun e w' ⟨he, hw⟩ => ⟨he, by rw [hw]; exact Drawn0.refl _⟩
 ·cases h


end Go.Proofs.YtgkofpjeiogafaaDoor.All
end
section
namespace Go.Proofs.YtgkofpjeiogafaaDoor.All
open Go.RowKit Go.Proofs.YtgkofpjeiogafaaDoorW.PrintWords Go.Proofs.YtgkofpjeiogafaaDoorW.PrintLast Go.Proofs.YtgkofpjeiogafaaDoorW.PrintMore
open Go.Proofs.YtgkofpjeiogafaaDoorW.Mine
attribute [local go_sem] gtr_string leq_string geq_string
attribute [local go_sem] max2_int min2_int max_two min_two max_three min_three max_four min_four   -- for this text's walks alone
set_option linter.unusedVariables false
set_option linter.unusedSimpArgs false

/-! ### path_Up: function 43 -/
def path_Up.f (a0 : ByteArray) : Option (ByteArray) := (strings_LastIndexByte.f a0 47).bind fun t101 => (if t101 < 0 then (some (⟨#[]⟩ : ByteArray)) else (if 0 ≤ t101 then (if t101 ≤ (a0.size : Int) then (some (a0.extract 0 (t101 : Int).toNat)) else (none)) else (none)))
set_option maxHeartbeats 8000000 in
set_option maxRecDepth 100000 in
theorem path_Up.calls (a0 : ByteArray) (r : ByteArray) (w : World) (h : path_Up.f a0 = some r) :
  Calls Tryd.prog 43 #[.string a0] w fun e w' => e = .returned (.string r) ∧ Drawn0 w w' := by
 have H : ((strings_LastIndexByte.f a0 47).bind fun t101 => (if t101 < 0 then (some (⟨#[]⟩ : ByteArray)) else (if 0 ≤ t101 then (if t101 ≤ (a0.size : Int) then (some (a0.extract 0 (t101 : Int).toNat)) else (none)) else (none)))) = some r := h
 clear h
 replace H := Option.bind_eq_some_iff.mp H
 obtain ⟨t101, A20, H⟩ := H
 replace H : (if t101 < 0 then (some (⟨#[]⟩ : ByteArray)) else (if 0 ≤ t101 then (if t101 ≤ (a0.size : Int) then (some (a0.extract 0 (t101 : Int).toNat)) else (none)) else (none))) = some r := H
 have A2 := Aside0.mk A20
 clear A20
 by_cases c3 : t101 < 0
 ·rw [if_pos c3] at H
  have c3b0 : decide (t101 < 0) = true := decide_eq_true c3
  clear c3
  obtain rfl := Option.some.inj H
  go_enter Tryd.func43, Tryd.ntmps43
  go_wp2_with (first | ((with_reducible refine gate_callee (f := 74) rfl ?_); refine goesL_ (some 5) rfl rfl Tryd.func74 (by kernel_rfl) rfl #[.string a0, .int .u8 47] rfl (by (try simp only [List.map_toArray, List.map_cons, List.map_nil]); first | done | rfl | (simp only [List.length_drop, List.length_take]; rfl)) ?_; (with_reducible refine (strings_LastIndexByte.calls a0 47 t101 _ A2.out).mono ?_); rintro e w' ⟨rfl, ⟨nd, rfl⟩⟩; refine ⟨_, rfl, ?_⟩))
  go_ret
  exact ⟨by first | rfl | (simp; done) | (simp [*]; done), by repeat (first | exact Drawn0.refl _ | apply Drawn0.step)⟩
 ·rw [if_neg c3] at H
  have c3b0 : decide (t101 < 0) = false := decide_eq_false c3
  clear c3
  by_cases c4 : 0 ≤ t101
  ·rw [if_pos c4] at H
   have c4b0 := eq_true c4
   have c4b1 : decide (0 ≤ t101) = true := decide_eq_true c4
   clear c4
   by_cases c5 : t101 ≤ (a0.size : Int)
   ·rw [if_pos c5] at H
    have c5b0 := eq_true c5
    have c5b1 : decide (t101 ≤ (a0.size : Int)) = true := decide_eq_true c5
    clear c5
    obtain rfl := Option.some.inj H
    go_enter Tryd.func43, Tryd.ntmps43
    go_wp2_with (first | ((with_reducible refine gate_callee (f := 74) rfl ?_); refine goesL_ (some 5) rfl rfl Tryd.func74 (by kernel_rfl) rfl #[.string a0, .int .u8 47] rfl (by (try simp only [List.map_toArray, List.map_cons, List.map_nil]); first | done | rfl | (simp only [List.length_drop, List.length_take]; rfl)) ?_; (with_reducible refine (strings_LastIndexByte.calls a0 47 t101 _ A2.out).mono ?_); rintro e w' ⟨rfl, ⟨nd, rfl⟩⟩; refine ⟨_, rfl, ?_⟩))
    go_ret
    exact ⟨by first | rfl | (simp; done) | (simp [*]; done), by repeat (first | exact Drawn0.refl _ | apply Drawn0.step)⟩
   ·rw [if_neg c5] at H
    exact absurd H (by simp)
  ·rw [if_neg c4] at H
   exact absurd H (by simp)

end Go.Proofs.YtgkofpjeiogafaaDoor.All
end
section
namespace Go.Proofs.YtgkofpjeiogafaaDoor.All
open Go.RowKit Go.Proofs.YtgkofpjeiogafaaDoorW.PrintWords Go.Proofs.YtgkofpjeiogafaaDoorW.PrintLast Go.Proofs.YtgkofpjeiogafaaDoorW.PrintMore
open Go.Proofs.YtgkofpjeiogafaaDoorW.Mine
attribute [local go_sem] gtr_string leq_string geq_string
attribute [local go_sem] max2_int min2_int max_two min_two max_three min_three max_four min_four   -- for this text's walks alone
set_option linter.unusedVariables false
set_option linter.unusedSimpArgs false

theorem eqA65 (d : Nat) (w : World) (x0 y0 : Int) (x1 y1 : Int) (x2 y2 : Int) (x3 y3 : ByteArray) (x4 y4 : ByteArray) (x5 y5 : Int) (x6 y6 : Int) :
  (Op.equalIn (d + 2) 65 (.agg #[.int .i64 x0, .int .i64 x1, .int .i64 x2, .string x3, .string x4, .int .i64 x5, .int .i64 x6]) (.agg #[.int .i64 y0, .int .i64 y1, .int .i64 y2, .string y3, .string y4, .int .i64 y5, .int .i64 y6])).run Tryd.prog w = .ok (x0 == y0 && (x1 == y1 && (x2 == y2 && (x3.toList == y3.toList && (x4.toList == y4.toList && (x5 == y5 && (x6 == y6))))))) w := by
 refine eqA_of Tryd.underlying65 (by kernel_rfl) ?_
 refine eqf_cons (by rfl) (by go_simp; rfl) (by go_simp; rfl) (by go_simp) ?_
 refine eqf_cons (by rfl) (by go_simp; rfl) (by go_simp; rfl) (by go_simp) ?_
 refine eqf_cons (by rfl) (by go_simp; rfl) (by go_simp; rfl) (by go_simp) ?_
 refine eqf_cons (by rfl) (by go_simp; rfl) (by go_simp; rfl) (by go_simp) ?_
 refine eqf_cons (by rfl) (by go_simp; rfl) (by go_simp; rfl) (by go_simp) ?_
 refine eqf_cons (by rfl) (by go_simp; rfl) (by go_simp; rfl) (by go_simp) ?_
 exact eqf_last (by rfl) (by go_simp; rfl) (by go_simp; rfl) (by go_simp)
end Go.Proofs.YtgkofpjeiogafaaDoor.All
end
section
namespace Go.Proofs.YtgkofpjeiogafaaDoor.All
open Go.RowKit Go.Proofs.YtgkofpjeiogafaaDoorW.PrintWords Go.Proofs.YtgkofpjeiogafaaDoorW.PrintLast Go.Proofs.YtgkofpjeiogafaaDoorW.PrintMore
open Go.Proofs.YtgkofpjeiogafaaDoorW.Mine
attribute [local go_sem] gtr_string leq_string geq_string
attribute [local go_sem] max2_int min2_int max_two min_two max_three min_three max_four min_four   -- for this text's walks alone
set_option linter.unusedVariables false
set_option linter.unusedSimpArgs false

attribute [local go_sem high] eqA65
/-! ### tree_alike: function 44 -/
def tree_alike.f (a0_0 : ByteArray) (a0_1 : Int) (a0_2 : Int) (a0_3 : ByteArray) (a0_4 : Int) (a0_5 : Int) (a0_6 : Int) (a0_7 : ByteArray) (a0_8 : ByteArray) (a0_9 : Int) (a0_10 : Int) (l0_11 : List Int) (a1_0 : ByteArray) (a1_1 : Int) (a1_2 : Int) (a1_3 : ByteArray) (a1_4 : Int) (a1_5 : Int) (a1_6 : Int) (a1_7 : ByteArray) (a1_8 : ByteArray) (a1_9 : Int) (a1_10 : Int) (l1_11 : List Int) : Option (Bool) := if (a0_4 == a1_4 && (a0_5 == a1_5 && (a0_6 == a1_6 && (a0_7.toList == a1_7.toList && (a0_8.toList == a1_8.toList && (a0_9 == a1_9 && (a0_10 == a1_10))))))) = true then (some ((strOfNums l0_11).toList == (strOfNums l1_11).toList)) else (some false)
set_option maxHeartbeats 8000000 in
set_option maxRecDepth 100000 in
theorem tree_alike.calls (a0_0 : ByteArray) (a0_1 : Int) (a0_2 : Int) (a0_3 : ByteArray) (a0_4 : Int) (a0_5 : Int) (a0_6 : Int) (a0_7 : ByteArray) (a0_8 : ByteArray) (a0_9 : Int) (a0_10 : Int) (A0_11 : Option Addr) (c0_11 : Nat) (l0_11 : List Int) (a1_0 : ByteArray) (a1_1 : Int) (a1_2 : Int) (a1_3 : ByteArray) (a1_4 : Int) (a1_5 : Int) (a1_6 : Int) (a1_7 : ByteArray) (a1_8 : ByteArray) (a1_9 : Int) (a1_10 : Int) (A1_11 : Option Addr) (c1_11 : Nat) (l1_11 : List Int) (r : Bool) (w : World) (hr0_11 : Kd.C (Kd.int .u8) w A0_11 l0_11.length l0_11) (hc0_11 : l0_11.length ≤ c0_11) (hr1_11 : Kd.C (Kd.int .u8) w A1_11 l1_11.length l1_11) (hc1_11 : l1_11.length ≤ c1_11) (h : tree_alike.f a0_0 a0_1 a0_2 a0_3 a0_4 a0_5 a0_6 a0_7 a0_8 a0_9 a0_10 l0_11 a1_0 a1_1 a1_2 a1_3 a1_4 a1_5 a1_6 a1_7 a1_8 a1_9 a1_10 l1_11 = some r) :
  Calls Tryd.prog 44 #[.agg #[.string a0_0, .int .i64 a0_1, .int .i64 a0_2, .string a0_3, .int .i64 a0_4, .int .i64 a0_5, .int .i64 a0_6, .string a0_7, .string a0_8, .int .i64 a0_9, .int .i64 a0_10, .slice A0_11 l0_11.length c0_11], .agg #[.string a1_0, .int .i64 a1_1, .int .i64 a1_2, .string a1_3, .int .i64 a1_4, .int .i64 a1_5, .int .i64 a1_6, .string a1_7, .string a1_8, .int .i64 a1_9, .int .i64 a1_10, .slice A1_11 l1_11.length c1_11]] w fun e w' => e = .returned (.bool r) ∧ Below w.heap.size w w' := by
 have hu68 := Tryd.underlying68
 have hu65 := Tryd.underlying65
 have HR0_11 := Aside0.mk hr0_11
 have HC0_11 := Aside0.mk hc0_11
 clear hr0_11 hc0_11
 have HR1_11 := Aside0.mk hr1_11
 have HC1_11 := Aside0.mk hc1_11
 clear hr1_11 hc1_11
 have HB := Aside0.mk (Below.refl w.heap.size w)
 have H : (if (a0_4 == a1_4 && (a0_5 == a1_5 && (a0_6 == a1_6 && (a0_7.toList == a1_7.toList && (a0_8.toList == a1_8.toList && (a0_9 == a1_9 && (a0_10 == a1_10))))))) = true then (some ((strOfNums l0_11).toList == (strOfNums l1_11).toList)) else (some false)) = some r := h
 clear h
 by_cases c3 : (a0_4 == a1_4 && (a0_5 == a1_5 && (a0_6 == a1_6 && (a0_7.toList == a1_7.toList && (a0_8.toList == a1_8.toList && (a0_9 == a1_9 && (a0_10 == a1_10))))))) = true
 ·rw [if_pos c3] at H
  have c3b0 : (a0_4 == a1_4 && (a0_5 == a1_5 && (a0_6 == a1_6 && (a0_7.toList == a1_7.toList && (a0_8.toList == a1_8.toList && (a0_9 == a1_9 && (a0_10 == a1_10))))))) = true := c3
  (try (have c3b1 : decide (a0_4 = a1_4 && (a0_5 == a1_5 && (a0_6 == a1_6 && (a0_7.toList == a1_7.toList && (a0_8.toList == a1_8.toList && (a0_9 == a1_9 && (a0_10 == a1_10))))))) = true := by simpa using c3))
  (try (have c3b2 : (a0_4 == a1_4 && (a0_5 == a1_5 && (a0_6 == a1_6 && (a0_7.toList == a1_7.toList && (a0_8.toList == a1_8.toList && (a0_9 == a1_9 && (a0_10 == a1_10))))))) = true := by simpa using c3))
  clear c3
  obtain rfl := Option.some.inj H
  go_enter Tryd.func44, Tryd.ntmps44
  go_wp2_with (first | ((with_reducible refine gate_dst (N := 2) rfl ?_); refine box_event ?hg (N := 2) ?hd (cs := #[.string a0_0, .int .i64 a0_1, .int .i64 a0_2, .string a0_3, .int .i64 a0_4, .int .i64 a0_5, .int .i64 a0_6, .string a0_7, .string a0_8, .int .i64 a0_9, .int .i64 a0_10, .slice A0_11 l0_11.length c0_11]) (t := 68) ?hr ?_; (case hd => rfl); (case hg => rfl); (case hr => first | (go_simp; done) | (go_simp; rfl)); intro gb101 hg w4 hbox hb; have n0_ := Aside0.mk (below_step (by repeat (first | (with_reducible first | exact HB.out | apply below_alloc | apply pw_below_drewN | apply below_drew1) | exact HB.out)) hb); have n1_ := Aside0.mk (hbox); have n2_ := Aside0.mk ((by rw [hg]; exact (below_size (by repeat (first | (with_reducible first | exact HB.out | apply below_alloc | apply pw_below_drewN | apply below_drew1) | exact HB.out))) : w.heap.size ≤ gb101)); have n3_ := Aside0.mk ((by rw [hg]; exact (below_size (by repeat (first | (with_reducible first | exact HB.out | apply below_alloc | apply pw_below_drewN | apply below_drew1) | exact HB.out))) : w.heap.size ≤ gb101)); clear HB; have HB := n0_; have BK101 := n1_; have GW101 := n2_; have GE101 := n3_; clear n0_ n1_ n2_ n3_; clear hb hbox hg) | ((with_reducible refine gate_dst (N := 3) rfl ?_); refine box_event ?hg (N := 3) ?hd (cs := #[.string a1_0, .int .i64 a1_1, .int .i64 a1_2, .string a1_3, .int .i64 a1_4, .int .i64 a1_5, .int .i64 a1_6, .string a1_7, .string a1_8, .int .i64 a1_9, .int .i64 a1_10, .slice A1_11 l1_11.length c1_11]) (t := 68) ?hr ?_; (case hd => rfl); (case hg => rfl); (case hr => first | (go_simp; done) | (go_simp; rfl)); intro gb102 hg w5 hbox hb; have n0_ := Aside0.mk (blk_below (g := gb101) (o := .cells #[.string a0_0, .int .i64 a0_1, .int .i64 a0_2, .string a0_3, .int .i64 a0_4, .int .i64 a0_5, .int .i64 a0_6, .string a0_7, .string a0_8, .int .i64 a0_9, .int .i64 a0_10, .slice A0_11 l0_11.length c0_11] 68 (0, 0)) (by (with_reducible repeat (first | refine blk_drewN ?_ _ | refine blk_drew ?_ | refine blk_alloc ?_ _)); exact BK101.out) hb); have n1_ := Aside0.mk (below_step (by repeat (first | (with_reducible first | exact HB.out | apply below_alloc | apply pw_below_drewN | apply below_drew1 | refine below_set ?_ GE101.out) | exact HB.out)) hb); have n2_ := Aside0.mk (hbox); have n3_ := Aside0.mk ((by rw [hg]; exact (below_size (by repeat (first | (with_reducible first | exact HB.out | apply below_alloc | apply pw_below_drewN | apply below_drew1 | refine below_set ?_ GE101.out) | exact HB.out))) : w.heap.size ≤ gb102)); have n4_ := Aside0.mk ((by rw [hg]; exact (below_size (by repeat (first | (with_reducible first | exact HB.out | apply below_alloc | apply pw_below_drewN | apply below_drew1 | refine below_set ?_ GE101.out) | exact HB.out))) : w.heap.size ≤ gb102)); have n5_ := Aside0.mk ((by rw [hg]; exact Nat.ne_of_lt (blk_lt (g := gb101) (o := .cells #[.string a0_0, .int .i64 a0_1, .int .i64 a0_2, .string a0_3, .int .i64 a0_4, .int .i64 a0_5, .int .i64 a0_6, .string a0_7, .string a0_8, .int .i64 a0_9, .int .i64 a0_10, .slice A0_11 l0_11.length c0_11] 68 (0, 0)) (by (with_reducible repeat (first | refine blk_drewN ?_ _ | refine blk_drew ?_ | refine blk_alloc ?_ _)); exact BK101.out)) : gb101 ≠ gb102)); have n6_ := Aside0.mk ((by rw [hg]; exact Nat.ne_of_gt (blk_lt (g := gb101) (o := .cells #[.string a0_0, .int .i64 a0_1, .int .i64 a0_2, .string a0_3, .int .i64 a0_4, .int .i64 a0_5, .int .i64 a0_6, .string a0_7, .string a0_8, .int .i64 a0_9, .int .i64 a0_10, .slice A0_11 l0_11.length c0_11] 68 (0, 0)) (by (with_reducible repeat (first | refine blk_drewN ?_ _ | refine blk_drew ?_ | refine blk_alloc ?_ _)); exact BK101.out)) : gb102 ≠ gb101)); clear BK101; clear HB; have BK101 := n0_; have HB := n1_; have BK102 := n2_; have GW102 := n3_; have GE102 := n4_; have NB101_102 := n5_; have NB102_101 := n6_; clear n0_ n1_ n2_ n3_ n4_ n5_ n6_; clear hb hbox hg; have hnb6 := NB101_102.out; have hnc6 := NB102_101.out; have hcz7_0 : w5.cell? ⟨gb101, 0, none⟩ = some (.string a0_0) := (blk_cell BK101.out 0).trans rfl; have hcz7_1 : w5.cell? ⟨gb101, 1, none⟩ = some (.int .i64 a0_1) := (blk_cell BK101.out 1).trans rfl; have hcz7_2 : w5.cell? ⟨gb101, 2, none⟩ = some (.int .i64 a0_2) := (blk_cell BK101.out 2).trans rfl; have hcz7_3 : w5.cell? ⟨gb101, 3, none⟩ = some (.string a0_3) := (blk_cell BK101.out 3).trans rfl; have hcz7_4 : w5.cell? ⟨gb101, 4, none⟩ = some (.int .i64 a0_4) := (blk_cell BK101.out 4).trans rfl; have hcz7_5 : w5.cell? ⟨gb101, 5, none⟩ = some (.int .i64 a0_5) := (blk_cell BK101.out 5).trans rfl; have hcz7_6 : w5.cell? ⟨gb101, 6, none⟩ = some (.int .i64 a0_6) := (blk_cell BK101.out 6).trans rfl; have hcz7_7 : w5.cell? ⟨gb101, 7, none⟩ = some (.string a0_7) := (blk_cell BK101.out 7).trans rfl; have hcz7_8 : w5.cell? ⟨gb101, 8, none⟩ = some (.string a0_8) := (blk_cell BK101.out 8).trans rfl; have hcz7_9 : w5.cell? ⟨gb101, 9, none⟩ = some (.int .i64 a0_9) := (blk_cell BK101.out 9).trans rfl; have hcz7_10 : w5.cell? ⟨gb101, 10, none⟩ = some (.int .i64 a0_10) := (blk_cell BK101.out 10).trans rfl; have hcz7_11 : w5.cell? ⟨gb101, 11, none⟩ = some (.slice A0_11 l0_11.length c0_11) := (blk_cell BK101.out 11).trans rfl; have hfz7_0 := blk_frozen BK101.out 0; have hfz7_1 := blk_frozen BK101.out 1; have hfz7_2 := blk_frozen BK101.out 2; have hfz7_3 := blk_frozen BK101.out 3; have hfz7_4 := blk_frozen BK101.out 4; have hfz7_5 := blk_frozen BK101.out 5; have hfz7_6 := blk_frozen BK101.out 6; have hfz7_7 := blk_frozen BK101.out 7; have hfz7_8 := blk_frozen BK101.out 8; have hfz7_9 := blk_frozen BK101.out 9; have hfz7_10 := blk_frozen BK101.out 10; have hfz7_11 := blk_frozen BK101.out 11; have hcz8_0 : w5.cell? ⟨gb102, 0, none⟩ = some (.string a1_0) := (blk_cell BK102.out 0).trans rfl; have hcz8_1 : w5.cell? ⟨gb102, 1, none⟩ = some (.int .i64 a1_1) := (blk_cell BK102.out 1).trans rfl; have hcz8_2 : w5.cell? ⟨gb102, 2, none⟩ = some (.int .i64 a1_2) := (blk_cell BK102.out 2).trans rfl; have hcz8_3 : w5.cell? ⟨gb102, 3, none⟩ = some (.string a1_3) := (blk_cell BK102.out 3).trans rfl; have hcz8_4 : w5.cell? ⟨gb102, 4, none⟩ = some (.int .i64 a1_4) := (blk_cell BK102.out 4).trans rfl; have hcz8_5 : w5.cell? ⟨gb102, 5, none⟩ = some (.int .i64 a1_5) := (blk_cell BK102.out 5).trans rfl; have hcz8_6 : w5.cell? ⟨gb102, 6, none⟩ = some (.int .i64 a1_6) := (blk_cell BK102.out 6).trans rfl; have hcz8_7 : w5.cell? ⟨gb102, 7, none⟩ = some (.string a1_7) := (blk_cell BK102.out 7).trans rfl; have hcz8_8 : w5.cell? ⟨gb102, 8, none⟩ = some (.string a1_8) := (blk_cell BK102.out 8).trans rfl; have hcz8_9 : w5.cell? ⟨gb102, 9, none⟩ = some (.int .i64 a1_9) := (blk_cell BK102.out 9).trans rfl; have hcz8_10 : w5.cell? ⟨gb102, 10, none⟩ = some (.int .i64 a1_10) := (blk_cell BK102.out 10).trans rfl; have hcz8_11 : w5.cell? ⟨gb102, 11, none⟩ = some (.slice A1_11 l1_11.length c1_11) := (blk_cell BK102.out 11).trans rfl; have hfz8_0 := blk_frozen BK102.out 0; have hfz8_1 := blk_frozen BK102.out 1; have hfz8_2 := blk_frozen BK102.out 2; have hfz8_3 := blk_frozen BK102.out 3; have hfz8_4 := blk_frozen BK102.out 4; have hfz8_5 := blk_frozen BK102.out 5; have hfz8_6 := blk_frozen BK102.out 6; have hfz8_7 := blk_frozen BK102.out 7; have hfz8_8 := blk_frozen BK102.out 8; have hfz8_9 := blk_frozen BK102.out 9; have hfz8_10 := blk_frozen BK102.out 10; have hfz8_11 := blk_frozen BK102.out 11; have hcv9 := Kd.C_string (P := Tryd.prog) (A := A0_11) (c := c0_11) Tryd.underlying66 Tryd.underlying5 Tryd.underlying9 (Kd.C_below HR0_11.out HB.out); have hcv10 := Kd.C_string (P := Tryd.prog) (A := A1_11) (c := c1_11) Tryd.underlying66 Tryd.underlying5 Tryd.underlying9 (Kd.C_below HR1_11.out HB.out)))
  go_ret
  exact ⟨by first | rfl | (simp [errW_none, errW_some] <;> rfl) | (simp [*, errW_none, errW_some] <;> rfl), by repeat (first | (with_reducible first | exact HB.out | apply below_alloc | apply pw_below_drewN | apply below_drew1 | refine below_set ?_ GE101.out | refine below_set ?_ GE102.out) | exact HB.out)⟩
 ·rw [if_neg c3] at H
  have c3b0 : (a0_4 == a1_4 && (a0_5 == a1_5 && (a0_6 == a1_6 && (a0_7.toList == a1_7.toList && (a0_8.toList == a1_8.toList && (a0_9 == a1_9 && (a0_10 == a1_10))))))) = false := by simpa using c3
  (try (have c3b1 : decide (a0_4 = a1_4 && (a0_5 == a1_5 && (a0_6 == a1_6 && (a0_7.toList == a1_7.toList && (a0_8.toList == a1_8.toList && (a0_9 == a1_9 && (a0_10 == a1_10))))))) = false := by simpa using c3))
  (try (have c3b2 : (a0_4 == a1_4 && (a0_5 == a1_5 && (a0_6 == a1_6 && (a0_7.toList == a1_7.toList && (a0_8.toList == a1_8.toList && (a0_9 == a1_9 && (a0_10 == a1_10))))))) = false := by simpa using c3))
  (try (have c3b3 : ¬ (a0_4 = a1_4 && (a0_5 == a1_5 && (a0_6 == a1_6 && (a0_7.toList == a1_7.toList && (a0_8.toList == a1_8.toList && (a0_9 == a1_9 && (a0_10 == a1_10))))))) := by simpa using c3))
  clear c3
  obtain rfl := Option.some.inj H
  go_enter Tryd.func44, Tryd.ntmps44
  go_wp2_with (first | ((with_reducible refine gate_dst (N := 2) rfl ?_); refine box_event ?hg (N := 2) ?hd (cs := #[.string a0_0, .int .i64 a0_1, .int .i64 a0_2, .string a0_3, .int .i64 a0_4, .int .i64 a0_5, .int .i64 a0_6, .string a0_7, .string a0_8, .int .i64 a0_9, .int .i64 a0_10, .slice A0_11 l0_11.length c0_11]) (t := 68) ?hr ?_; (case hd => rfl); (case hg => rfl); (case hr => first | (go_simp; done) | (go_simp; rfl)); intro gb101 hg w11 hbox hb; have n0_ := Aside0.mk (below_step (by repeat (first | (with_reducible first | exact HB.out | apply below_alloc | apply pw_below_drewN | apply below_drew1) | exact HB.out)) hb); have n1_ := Aside0.mk (hbox); have n2_ := Aside0.mk ((by rw [hg]; exact (below_size (by repeat (first | (with_reducible first | exact HB.out | apply below_alloc | apply pw_below_drewN | apply below_drew1) | exact HB.out))) : w.heap.size ≤ gb101)); have n3_ := Aside0.mk ((by rw [hg]; exact (below_size (by repeat (first | (with_reducible first | exact HB.out | apply below_alloc | apply pw_below_drewN | apply below_drew1) | exact HB.out))) : w.heap.size ≤ gb101)); clear HB; have HB := n0_; have BK101 := n1_; have GW101 := n2_; have GE101 := n3_; clear n0_ n1_ n2_ n3_; clear hb hbox hg) | ((with_reducible refine gate_dst (N := 3) rfl ?_); refine box_event ?hg (N := 3) ?hd (cs := #[.string a1_0, .int .i64 a1_1, .int .i64 a1_2, .string a1_3, .int .i64 a1_4, .int .i64 a1_5, .int .i64 a1_6, .string a1_7, .string a1_8, .int .i64 a1_9, .int .i64 a1_10, .slice A1_11 l1_11.length c1_11]) (t := 68) ?hr ?_; (case hd => rfl); (case hg => rfl); (case hr => first | (go_simp; done) | (go_simp; rfl)); intro gb102 hg w12 hbox hb; have n0_ := Aside0.mk (blk_below (g := gb101) (o := .cells #[.string a0_0, .int .i64 a0_1, .int .i64 a0_2, .string a0_3, .int .i64 a0_4, .int .i64 a0_5, .int .i64 a0_6, .string a0_7, .string a0_8, .int .i64 a0_9, .int .i64 a0_10, .slice A0_11 l0_11.length c0_11] 68 (0, 0)) (by (with_reducible repeat (first | refine blk_drewN ?_ _ | refine blk_drew ?_ | refine blk_alloc ?_ _)); exact BK101.out) hb); have n1_ := Aside0.mk (below_step (by repeat (first | (with_reducible first | exact HB.out | apply below_alloc | apply pw_below_drewN | apply below_drew1 | refine below_set ?_ GE101.out) | exact HB.out)) hb); have n2_ := Aside0.mk (hbox); have n3_ := Aside0.mk ((by rw [hg]; exact (below_size (by repeat (first | (with_reducible first | exact HB.out | apply below_alloc | apply pw_below_drewN | apply below_drew1 | refine below_set ?_ GE101.out) | exact HB.out))) : w.heap.size ≤ gb102)); have n4_ := Aside0.mk ((by rw [hg]; exact (below_size (by repeat (first | (with_reducible first | exact HB.out | apply below_alloc | apply pw_below_drewN | apply below_drew1 | refine below_set ?_ GE101.out) | exact HB.out))) : w.heap.size ≤ gb102)); have n5_ := Aside0.mk ((by rw [hg]; exact Nat.ne_of_lt (blk_lt (g := gb101) (o := .cells #[.string a0_0, .int .i64 a0_1, .int .i64 a0_2, .string a0_3, .int .i64 a0_4, .int .i64 a0_5, .int .i64 a0_6, .string a0_7, .string a0_8, .int .i64 a0_9, .int .i64 a0_10, .slice A0_11 l0_11.length c0_11] 68 (0, 0)) (by (with_reducible repeat (first | refine blk_drewN ?_ _ | refine blk_drew ?_ | refine blk_alloc ?_ _)); exact BK101.out)) : gb101 ≠ gb102)); have n6_ := Aside0.mk ((by rw [hg]; exact Nat.ne_of_gt (blk_lt (g := gb101) (o := .cells #[.string a0_0, .int .i64 a0_1, .int .i64 a0_2, .string a0_3, .int .i64 a0_4, .int .i64 a0_5, .int .i64 a0_6, .string a0_7, .string a0_8, .int .i64 a0_9, .int .i64 a0_10, .slice A0_11 l0_11.length c0_11] 68 (0, 0)) (by (with_reducible repeat (first | refine blk_drewN ?_ _ | refine blk_drew ?_ | refine blk_alloc ?_ _)); exact BK101.out)) : gb102 ≠ gb101)); clear BK101; clear HB; have BK101 := n0_; have HB := n1_; have BK102 := n2_; have GW102 := n3_; have GE102 := n4_; have NB101_102 := n5_; have NB102_101 := n6_; clear n0_ n1_ n2_ n3_ n4_ n5_ n6_; clear hb hbox hg; have hnb13 := NB101_102.out; have hnc13 := NB102_101.out; have hcz14_0 : w12.cell? ⟨gb101, 0, none⟩ = some (.string a0_0) := (blk_cell BK101.out 0).trans rfl; have hcz14_1 : w12.cell? ⟨gb101, 1, none⟩ = some (.int .i64 a0_1) := (blk_cell BK101.out 1).trans rfl; have hcz14_2 : w12.cell? ⟨gb101, 2, none⟩ = some (.int .i64 a0_2) := (blk_cell BK101.out 2).trans rfl; have hcz14_3 : w12.cell? ⟨gb101, 3, none⟩ = some (.string a0_3) := (blk_cell BK101.out 3).trans rfl; have hcz14_4 : w12.cell? ⟨gb101, 4, none⟩ = some (.int .i64 a0_4) := (blk_cell BK101.out 4).trans rfl; have hcz14_5 : w12.cell? ⟨gb101, 5, none⟩ = some (.int .i64 a0_5) := (blk_cell BK101.out 5).trans rfl; have hcz14_6 : w12.cell? ⟨gb101, 6, none⟩ = some (.int .i64 a0_6) := (blk_cell BK101.out 6).trans rfl; have hcz14_7 : w12.cell? ⟨gb101, 7, none⟩ = some (.string a0_7) := (blk_cell BK101.out 7).trans rfl; have hcz14_8 : w12.cell? ⟨gb101, 8, none⟩ = some (.string a0_8) := (blk_cell BK101.out 8).trans rfl; have hcz14_9 : w12.cell? ⟨gb101, 9, none⟩ = some (.int .i64 a0_9) := (blk_cell BK101.out 9).trans rfl; have hcz14_10 : w12.cell? ⟨gb101, 10, none⟩ = some (.int .i64 a0_10) := (blk_cell BK101.out 10).trans rfl; have hcz14_11 : w12.cell? ⟨gb101, 11, none⟩ = some (.slice A0_11 l0_11.length c0_11) := (blk_cell BK101.out 11).trans rfl; have hfz14_0 := blk_frozen BK101.out 0; have hfz14_1 := blk_frozen BK101.out 1; have hfz14_2 := blk_frozen BK101.out 2; have hfz14_3 := blk_frozen BK101.out 3; have hfz14_4 := blk_frozen BK101.out 4; have hfz14_5 := blk_frozen BK101.out 5; have hfz14_6 := blk_frozen BK101.out 6; have hfz14_7 := blk_frozen BK101.out 7; have hfz14_8 := blk_frozen BK101.out 8; have hfz14_9 := blk_frozen BK101.out 9; have hfz14_10 := blk_frozen BK101.out 10; have hfz14_11 := blk_frozen BK101.out 11; have hcz15_0 : w12.cell? ⟨gb102, 0, none⟩ = some (.string a1_0) := (blk_cell BK102.out 0).trans rfl; have hcz15_1 : w12.cell? ⟨gb102, 1, none⟩ = some (.int .i64 a1_1) := (blk_cell BK102.out 1).trans rfl; have hcz15_2 : w12.cell? ⟨gb102, 2, none⟩ = some (.int .i64 a1_2) := (blk_cell BK102.out 2).trans rfl; have hcz15_3 : w12.cell? ⟨gb102, 3, none⟩ = some (.string a1_3) := (blk_cell BK102.out 3).trans rfl; have hcz15_4 : w12.cell? ⟨gb102, 4, none⟩ = some (.int .i64 a1_4) := (blk_cell BK102.out 4).trans rfl; have hcz15_5 : w12.cell? ⟨gb102, 5, none⟩ = some (.int .i64 a1_5) := (blk_cell BK102.out 5).trans rfl; have hcz15_6 : w12.cell? ⟨gb102, 6, none⟩ = some (.int .i64 a1_6) := (blk_cell BK102.out 6).trans rfl; have hcz15_7 : w12.cell? ⟨gb102, 7, none⟩ = some (.string a1_7) := (blk_cell BK102.out 7).trans rfl; have hcz15_8 : w12.cell? ⟨gb102, 8, none⟩ = some (.string a1_8) := (blk_cell BK102.out 8).trans rfl; have hcz15_9 : w12.cell? ⟨gb102, 9, none⟩ = some (.int .i64 a1_9) := (blk_cell BK102.out 9).trans rfl; have hcz15_10 : w12.cell? ⟨gb102, 10, none⟩ = some (.int .i64 a1_10) := (blk_cell BK102.out 10).trans rfl; have hcz15_11 : w12.cell? ⟨gb102, 11, none⟩ = some (.slice A1_11 l1_11.length c1_11) := (blk_cell BK102.out 11).trans rfl; have hfz15_0 := blk_frozen BK102.out 0; have hfz15_1 := blk_frozen BK102.out 1; have hfz15_2 := blk_frozen BK102.out 2; have hfz15_3 := blk_frozen BK102.out 3; have hfz15_4 := blk_frozen BK102.out 4; have hfz15_5 := blk_frozen BK102.out 5; have hfz15_6 := blk_frozen BK102.out 6; have hfz15_7 := blk_frozen BK102.out 7; have hfz15_8 := blk_frozen BK102.out 8; have hfz15_9 := blk_frozen BK102.out 9; have hfz15_10 := blk_frozen BK102.out 10; have hfz15_11 := blk_frozen BK102.out 11))
  go_ret
  exact ⟨by first | rfl | (simp [errW_none, errW_some] <;> rfl) | (simp [*, errW_none, errW_some] <;> rfl), by repeat (first | (with_reducible first | exact HB.out | apply below_alloc | apply pw_below_drewN | apply below_drew1 | refine below_set ?_ GE101.out | refine below_set ?_ GE102.out) | exact HB.out)⟩

end Go.Proofs.YtgkofpjeiogafaaDoor.All
end
section
namespace Go.Proofs.YtgkofpjeiogafaaDoor.All
open Go.RowKit Go.Proofs.YtgkofpjeiogafaaDoorW.PrintWords Go.Proofs.YtgkofpjeiogafaaDoorW.PrintLast Go.Proofs.YtgkofpjeiogafaaDoorW.PrintMore
open Go.Proofs.YtgkofpjeiogafaaDoorW.Mine
attribute [local go_sem] gtr_string leq_string geq_string
attribute [local go_sem] max2_int min2_int max_two min_two max_three min_three max_four min_four   -- for this text's walks alone
set_option linter.unusedVariables false
set_option linter.unusedSimpArgs false

/-! ### tree_Check: function 10 -/
open Go.Proofs.YtgkofpjeiogafaaDoorW.MapOwn
/-- is the path behind the last one no greater? -/
def tree_Check.two (k : Nat) (l : List S68) (x : S68) (n : Nat) : Option Bool := if 0 < n then (path_Compare.f k (rd_T68 l ((n - 1 : Nat) : Int)).f0 x.f0).bind fun c => some (decide (0 ≤ c)) else some false
/-- is what it is in no directory ahead of it? -/
def tree_Check.up (k : Nat) (l : List S68) (x : S68) (n : Nat) : Option Bool := (path_Up.f x.f0).bind fun up => if up.toList = ([] : List UInt8) then some false else (tree_Find.f k (l.take n) up).bind fun r => if r.2 = 0 then (if 0 ≤ r.1 ∧ r.1 < (l.length : Int) then some ((rd_T68 l r.1).f1 != 2) else none) else some true
def tree_Check.alike (y x : S68) : Option Bool := tree_alike.f (y).f0 (y).f1 (y).f2 (y).f3 (y).f4.f0 (y).f4.f1 (y).f4.f2 (y).f4.f3 (y).f4.f4 (y).f4.f5 (y).f4.f6 (y).f5 (x).f0 (x).f1 (x).f2 (x).f3 (x).f4.f0 (x).f4.f1 (x).f4.f2 (x).f4.f3 (x).f4.f4 (x).f4.f5 (x).f4.f6 (x).f5
def tree_Check.right (k : Nat) (x : S68) : Option Int := tree_Right.f k (x).f0 (x).f1 (x).f2 (x).f3 (x).f4.f0 (x).f4.f1 (x).f4.f2 (x).f4.f3 (x).f4.f4 (x).f4.f5 (x).f4.f6 (x).f5
/-- the files met so far, and this one -/
def tree_Check.same (m : List (Int × S68)) (x : S68) : Option (Int × List (Int × S68)) := if x.f2 = 0 then some (0, m) else if (Lit.int .i64 x.f2).wf = true then (match get m x.f2 with
 | some y => (tree_Check.alike y x).bind fun b => if b = true then some (0, m) else some (11, m)
 | none => some (0, (x.f2, x) :: m)) else none
def tree_Check.step (k : Nat) (l : List S68) (m : List (Int × S68)) (x : S68) (n : Nat) : Option (Int × List (Int × S68)) := (tree_Check.right k x).bind fun e => if e = 0 then ((tree_Check.two k l x n).bind fun t => if t = true then some (6, m) else (tree_Check.up k l x n).bind fun u => if u = true then some (10, m) else tree_Check.same m x) else some (e, m)
def tree_Check.l0 : Nat → List S68 → List (Int × S68) → Nat → Option Int
 | 0, _, _, _ => none
 | k + 1, l, m, n => if n < l.length then (tree_Check.step k l m (rd_T68 l (n : Int)) n).bind fun r => if r.1 = 0 then tree_Check.l0 k l r.2 (n + 1) else some r.1 else some 0
def tree_Check.f (k : Nat) (l0 : List S68) : Option Int := if 40 < l0.length then some 1 else tree_Check.l0 k l0 [] 0
theorem tree_Check.mono_two : ∀ l x n k, LeO (tree_Check.two k l x n) (tree_Check.two (k + 1) l x n) := by
 intro l x n k
 unfold tree_Check.two
 repeat' first
   | (with_reducible exact ih0 _ _ _ _)
   | (with_reducible exact LeO.refl _)
   | (with_reducible exact LeO.none _)
   | (with_reducible refine LeO.ite ?_ ?_)
   | (with_reducible refine LeO.bind ?_ (fun _ => ?_))
   | exact path_Compare.mono _ _ _
theorem tree_Check.mono_up : ∀ l x n k, LeO (tree_Check.up k l x n) (tree_Check.up (k + 1) l x n) := by
 intro l x n k
 unfold tree_Check.up
 repeat' first
   | (with_reducible exact ih0 _ _ _ _)
   | (with_reducible exact LeO.refl _)
   | (with_reducible exact LeO.none _)
   | (with_reducible refine LeO.ite ?_ ?_)
   | (with_reducible refine LeO.bind ?_ (fun _ => ?_))
   | exact tree_Find.mono _ _ _
theorem tree_Check.mono_step : ∀ l m x n k, LeO (tree_Check.step k l m x n) (tree_Check.step (k + 1) l m x n) := by
 intro l m x n k
 unfold tree_Check.step tree_Check.right
 repeat' first
   | (with_reducible exact ih0 _ _ _ _)
   | (with_reducible exact LeO.refl _)
   | (with_reducible exact LeO.none _)
   | (with_reducible refine LeO.ite ?_ ?_)
   | (with_reducible refine LeO.bind ?_ (fun _ => ?_))
   | exact tree_Check.mono_two _ _ _ _
   | exact tree_Check.mono_up _ _ _ _
   | exact tree_Right.mono _ _ _ _ _ _ _ _ _ _ _ _ _
theorem tree_Check.mono_l : ∀ k, (∀ y0 y1 y2, LeO (tree_Check.l0 k y0 y1 y2) (tree_Check.l0 (k + 1) y0 y1 y2))
 | 0 => fun _ _ _ r h => by simp [tree_Check.l0] at h
 | k + 1 => by
  have ih0 := tree_Check.mono_l k
  intro y0 y1 y2
  unfold tree_Check.l0
  repeat' first
   | (with_reducible exact ih0 _ _ _)
   | (with_reducible exact LeO.refl _)
   | (with_reducible exact LeO.none _)
   | (with_reducible refine LeO.ite ?_ ?_)
   | (with_reducible refine LeO.bind ?_ (fun _ => ?_))
   | exact tree_Check.mono_step _ _ _ _ _
theorem tree_Check.mono : ∀ a0 k, LeO (tree_Check.f k a0) (tree_Check.f (k + 1) a0) := by
 intro a0 k
 have ih0 := tree_Check.mono_l k
 unfold tree_Check.f
 repeat' first
   | (with_reducible exact ih0 _ _ _)
   | (with_reducible exact LeO.refl _)
   | (with_reducible exact LeO.none _)
   | (with_reducible refine LeO.ite ?_ ?_)
   | (with_reducible refine LeO.bind ?_ (fun _ => ?_))
theorem tree_Check.zeroE (w : World) : (zeroValue 68).run Tryd.prog w = .ok (.agg #[.string (⟨#[]⟩ : ByteArray), .int .i64 0, .int .i64 0, .string (⟨#[]⟩ : ByteArray), .int .i64 0, .int .i64 0, .int .i64 0, .string (⟨#[]⟩ : ByteArray), .string (⟨#[]⟩ : ByteArray), .int .i64 0, .int .i64 0, .slice none 0 0]) w := by kernel_rfl
/-- a node as the map keeps it -/
def tree_Check.Rep (w : World) (y : S68) (v : Value) : Prop := ∃ cs : Array Value, v = .agg cs ∧ k68.K w y cs.toList
/-- what the loop holds -/
def tree_Check.Inv (w W : World) (bm n : Nat) (m : List (Int × S68)) : Prop := MapAt (Lit.int .i64) Tryd.prog 3 (tree_Check.Rep w) W bm n m ∧ w.heap.size ≤ bm ∧ Below w.heap.size w W
theorem tree_Check.Inv.step {w W W' : World} {bm n : Nat} {m : List (Int × S68)} (h : tree_Check.Inv w W bm n m) (hb : Below W.heap.size W W') : tree_Check.Inv w W' bm n m := ⟨h.1.below hb, h.2.1, below_step h.2.2 hb⟩
theorem tree_Check.szN : (Tryd.prog.info? 68).map (·.size) = some 12 := by kernel_rfl
theorem tree_Check.elem {w : World} {A : Option Addr} {l : List S68} (h : Kd.C k68 w A l.length l) (n : Nat) (hn : n < l.length) : ∃ ad A11 c11, A = some ad ∧ (∀ j v, ([.string (rd_T68 l (n : Int)).f0, .int .i64 (rd_T68 l (n : Int)).f1, .int .i64 (rd_T68 l (n : Int)).f2, .string (rd_T68 l (n : Int)).f3, .int .i64 (rd_T68 l (n : Int)).f4.f0, .int .i64 (rd_T68 l (n : Int)).f4.f1, .int .i64 (rd_T68 l (n : Int)).f4.f2, .string (rd_T68 l (n : Int)).f4.f3, .string (rd_T68 l (n : Int)).f4.f4, .int .i64 (rd_T68 l (n : Int)).f4.f5, .int .i64 (rd_T68 l (n : Int)).f4.f6, .slice A11 (rd_T68 l (n : Int)).f5.length c11] : List Value)[j]? = some v → w.cell? ((ad.add (n * 12)).add j) = some v) ∧ (rd_T68 l (n : Int)).f5.length ≤ c11 ∧ (Kd.int .u8).C w A11 (rd_T68 l (n : Int)).f5.length (rd_T68 l (n : Int)).f5 := by
 obtain ⟨ad, c, e, _, hK, hc0⟩ := Kd.C_get h z68 (n : Int) (Int.natCast_nonneg _) (by omega)
 obtain ⟨A11, c11, rfl, l11, g11⟩ := k68_open hK
 refine ⟨ad, A11, c11, e, fun j v hv => ?_, l11, g11⟩
 have := hc0 j v hv
 rw [Int.toNat_natCast] at this
 rw [← this]
 congr 1
 show (ad.add (n * 12)).add j = ad.add (n * 12 + j)
 unfold Addr.add
 by_cases h1 : j = 0
 ·subst h1; simp
 ·by_cases h2 : n * 12 = 0
  ·simp [h1, h2]
  ·rw [if_neg h1, if_neg h2, if_neg (by omega)]; simp [Nat.add_assoc]
theorem tree_Check.Inv.drewN {w W : World} {bm n : Nat} {m : List (Int × S68)} (h : tree_Check.Inv w W bm n m) (q : Nat) : tree_Check.Inv w (W.drewN q) bm n m := h.step (pw_below_drewN (Below.refl _ _) q)
/-- the loop's own state and the node's own copy -/
def tree_Check.St (w W : World) (bm n : Nat) (m : List (Int × S68)) (gb : Nat) (cs : Array Value) : Prop := tree_Check.Inv w W bm n m ∧ w.heap.size ≤ gb ∧ gb ≠ bm ∧ W.heap[gb]? = some (.cells cs 68 (0, 0))
theorem tree_Check.St.step {w W W' : World} {bm n gb : Nat} {m : List (Int × S68)} {cs : Array Value} (h : tree_Check.St w W bm n m gb cs) (hb : Below W.heap.size W W') : tree_Check.St w W' bm n m gb cs := ⟨h.1.step hb, h.2.1, h.2.2.1, blk_below h.2.2.2 hb⟩
theorem tree_Check.St.drewN {w W : World} {bm n gb : Nat} {m : List (Int × S68)} {cs : Array Value} (h : tree_Check.St w W bm n m gb cs) (q : Nat) : tree_Check.St w (W.drewN q) bm n m gb cs := h.step (pw_below_drewN (Below.refl _ _) q)
theorem tree_Check.St.drew {w W : World} {bm n gb : Nat} {m : List (Int × S68)} {cs : Array Value} (h : tree_Check.St w W bm n m gb cs) : tree_Check.St w W.drew bm n m gb cs := h.step (below_drew1 (Below.refl _ _))
theorem tree_Check.Inv.box {w W W' : World} {bm n gb : Nat} {m : List (Int × S68)} {cs : Array Value} (h : tree_Check.Inv w W bm n m) (hg : gb = W.heap.size) (hk : W'.heap[gb]? = some (.cells cs 68 (0, 0))) (hb : Below W.heap.size W W') : tree_Check.St w W' bm n m gb cs := ⟨h.step hb, by rw [hg]; exact h.2.2.size, by have := h.1.lt; omega, hk⟩
theorem tree_Check.St.put {w W W' : World} {bm n gb : Nat} {m : List (Int × S68)} {cs cs' : Array Value} (h : tree_Check.St w W bm n m gb cs) (hk : W'.heap[gb]? = some (.cells cs' 68 (0, 0))) (hg : W.grownBy W' (some gb)) : tree_Check.St w W' bm n m gb cs' := ⟨⟨h.1.1.kept hg (fun e => h.2.2.1 (by injection e with e; exact e.symm)), h.1.2.1, below_grown h.1.2.2 hg h.2.1 (blk_lt h.2.2.2)⟩, h.2.1, h.2.2.1, hk⟩
theorem tree_Check.Inv.next {w W : World} {bm n : Nat} {m : List (Int × S68)} (h : tree_Check.Inv w W bm n m) : tree_Check.Inv w W bm (n + 1) m := ⟨h.1.mono (Nat.le_succ n), h.2⟩
theorem tree_Check.Inv.putM {w W W' : World} {bm n : Nat} {m m' : List (Int × S68)} (h : tree_Check.Inv w W bm n m) (hm : MapAt (Lit.int .i64) Tryd.prog 3 (tree_Check.Rep w) W' bm (n + 1) m') (hg : W.grownBy W' (some bm)) : tree_Check.Inv w W' bm (n + 1) m' := ⟨hm, h.2.1, below_grown h.2.2 hg h.2.1 h.1.lt⟩
theorem tree_Check.St.apart {w W : World} {bm n gb g2 : Nat} {m : List (Int × S68)} {cs : Array Value} (h : tree_Check.St w W bm n m gb cs) (hg : g2 = W.heap.size) : w.heap.size ≤ g2 ∧ gb ≠ g2 ∧ bm ≠ g2 := ⟨by rw [hg]; exact h.1.2.2.size, by have := blk_lt h.2.2.2; omega, by have := h.1.1.lt; omega⟩
theorem tree_Check.St.other {w W W' : World} {bm n gb g2 : Nat} {m : List (Int × S68)} {cs : Array Value} (h : tree_Check.St w W bm n m gb cs) (hg : W.grownBy W' (some g2)) (ha : w.heap.size ≤ g2 ∧ gb ≠ g2 ∧ bm ≠ g2) (hl : g2 < W.heap.size) : tree_Check.St w W' bm n m gb cs := ⟨⟨h.1.1.kept hg (fun e => ha.2.2 (by injection e)), h.1.2.1, below_grown h.1.2.2 hg ha.1 hl⟩, h.2.1, h.2.2.1, blk_grown h.2.2.2 hg (fun e => ha.2.1 (by injection e))⟩
set_option maxHeartbeats 8000000 in
set_option maxRecDepth 100000 in
theorem tree_Check.calls (k : Nat) (A0 : Option Addr) (c0 : Nat) (l0 : List (S68)) (r : Int) (w : World) (hr0 : Kd.C k68 w A0 l0.length l0) (hc0 : l0.length ≤ c0) (h : tree_Check.f k l0 = some r) :
  Calls Tryd.prog 10 #[.slice A0 l0.length c0] w fun e w' => e = .returned (.int .i64 r) ∧ Below w.heap.size w w' := by
 have hu68 := Tryd.underlying68
 have HR0 := Aside0.mk hr0
 have HC0 := Aside0.mk hc0
 clear hr0 hc0
 by_cases c1 : 40 < l0.length
 ·have H : (if 40 < l0.length then some 1 else tree_Check.l0 k l0 [] 0) = some r := h
  rw [if_pos c1] at H
  obtain rfl := Option.some.inj H
  clear h H
  have c1b : decide ((40 : Int) < (l0.length : Int)) = true := decide_eq_true (by omega)
  clear c1
  go_enter Tryd.func10, Tryd.ntmps10
  go_wp2
  go_ret
  exact ⟨rfl, by first | exact Below.refl _ _ | exact below_drew1 (Below.refl _ _)⟩
 ·have H : (if 40 < l0.length then some 1 else tree_Check.l0 k l0 [] 0) = some r := h
  rw [if_neg c1] at H
  have H' := Aside0.mk H
  have HN := Aside0.mk (Nat.not_lt.1 c1)
  have c1b : decide ((40 : Int) < (l0.length : Int)) = false := decide_eq_false (by omega)
  clear h H c1
  have hmm := @run_makeMap Tryd.prog
  go_enter Tryd.func10, Tryd.ntmps10
  go_wp2
  go_loopg [18] k (fun kq v18 wx => ∃ (n : Nat) (m : List (Int × S68)), v18 = .int .i64 (n : Int) ∧ Aside0 (n ≤ l0.length) ∧ Aside0 (tree_Check.l0 kq l0 m n = some r) ∧ Aside0 (kq ≤ k) ∧ Aside0 (tree_Check.Inv w wx w.heap.size n m))
  case atStart => exact ⟨0, [], rfl, ⟨Nat.zero_le _⟩, H', ⟨Nat.le_refl _⟩, ⟨⟨MapAt.made _ _ _ _ _, Nat.le_refl _, below_alloc (Below.refl _ _) _⟩⟩⟩
  case round =>
   clear H'
   obtain ⟨n, m, rfl, HN1, HA, HK1, HI⟩ := hrel
   cases gk with
   | zero => exact absurd HA.out (by simp [tree_Check.l0])
   | succ k1 =>
    have H := HA.out
    clear HA
    simp only [tree_Check.l0] at H
    by_cases c3 : n < l0.length
    ·rw [if_pos c3] at H
     have c3b : decide ((n : Int) < (l0.length : Int)) = true := decide_eq_true (by omega)
     replace H := Option.bind_eq_some_iff.mp H
     obtain ⟨⟨e0, m1⟩, AS, H⟩ := H
     obtain ⟨ad, A11, c11, e, hx, hl11, hi11⟩ := tree_Check.elem HR0.out n c3
     cases e
     have HXC := Aside0.mk hx
     clear hx
     have p3 : ((n : Int) < (l0.length : Int)) = True := eq_true (by omega)
     have p4 : (0 ≤ (n : Int)) = True := eq_true (by omega)
     have HX := Aside0.mk hi11
     have HL := Aside0.mk hl11
     have HLT := Aside0.mk c3
     clear hi11 hl11 c3
     generalize hx : rd_T68 l0 (n : Int) = x at *
     clear hx
     obtain ⟨e1, AR, AS⟩ := Option.bind_eq_some_iff.mp (show ((tree_Check.right k1 x).bind fun e => if e = 0 then ((tree_Check.two k1 l0 x n).bind fun t => if t = true then some (6, m) else (tree_Check.up k1 l0 x n).bind fun u => if u = true then some (10, m) else tree_Check.same m x) else some (e, m)) = some (e0, m1) from AS)
     have HAR := Aside0.mk (show tree_Right.f k1 (x).f0 (x).f1 (x).f2 (x).f3 (x).f4.f0 (x).f4.f1 (x).f4.f2 (x).f4.f3 (x).f4.f4 (x).f4.f5 (x).f4.f6 (x).f5 = some e1 from AR)
     clear AR
     by_cases c6 : e1 = 0
     ·rw [if_pos c6] at AS
      obtain ⟨t, AT, AS⟩ := Option.bind_eq_some_iff.mp AS
      have HAT := Aside0.mk AT
      have HQ := Aside0.mk AS
      have HH := Aside0.mk H
      have c6a : (e1 == 0) = true := beq_iff_eq.mpr c6
      have c6b : (e1 != 0) = false := bne_eq_false_iff_eq.mpr c6
      clear AS H AT c6
      go_upto_region 10 with (first | ((with_reducible refine gate_dst (N := 22) rfl ?_); refine load_event (ad := ad.add (n * 12)) rfl rfl hu68 rfl rfl (cs := [.string (x).f0, .int .i64 (x).f1, .int .i64 (x).f2, .string (x).f3, .int .i64 (x).f4.f0, .int .i64 (x).f4.f1, .int .i64 (x).f4.f2, .string (x).f4.f3, .string (x).f4.f4, .int .i64 (x).f4.f5, .int .i64 (x).f4.f6, .slice A11 (x).f5.length c11]) tree_Check.szN (fun j v hv => (HI.out.2.2.cell (World.block_lt_of_cell? w _ (HXC.out j v hv))).trans (HXC.out j v hv)) ?_) | ((with_reducible refine gate_dst (N := 5) rfl ?_); refine box_event ?hg (N := 5) ?hd (cs := #[.string (⟨#[]⟩ : ByteArray), .int .i64 0, .int .i64 0, .string (⟨#[]⟩ : ByteArray), .int .i64 0, .int .i64 0, .int .i64 0, .string (⟨#[]⟩ : ByteArray), .string (⟨#[]⟩ : ByteArray), .int .i64 0, .int .i64 0, .slice none 0 0]) (t := 68) ?hr ?_; (case hd => rfl); (case hg => rfl); (case hr => first | (go_simp; done) | (go_simp; rfl)); intro gb hg w2 hbox hb2; have HS := Aside0.mk (HI.out.box hg hbox hb2); clear hg hbox hb2 HI) | ((with_reducible refine gate_store (t := 68) (p := 5) rfl ?_); refine put_event rfl rfl rfl rfl rfl HS.out.2.2.2 (tree_Check.szN) rfl rfl ?_; intro w3 hk3 hg3; have HS3 := Aside0.mk (HS.out.put hk3 hg3); clear HS hk3 hg3; have HS := HS3; clear HS3) | ((with_reducible refine gate_dst (N := 23) rfl ?_); refine load_event rfl rfl hu68 rfl rfl (cs := [.string (x).f0, .int .i64 (x).f1, .int .i64 (x).f2, .string (x).f3, .int .i64 (x).f4.f0, .int .i64 (x).f4.f1, .int .i64 (x).f4.f2, .string (x).f4.f3, .string (x).f4.f4, .int .i64 (x).f4.f5, .int .i64 (x).f4.f6, .slice A11 (x).f5.length c11]) tree_Check.szN (cells_of_blk HS.out.2.2.2) ?_) | (go_at_call 41; refine (tree_Right.calls k1 (x).f0 (x).f1 (x).f2 (x).f3 (x).f4.f0 (x).f4.f1 (x).f4.f2 (x).f4.f3 (x).f4.f4 (x).f4.f5 (x).f4.f6 A11 c11 (x).f5 e1 _ (Kd.C_below HX.out HS.out.1.2.2) HL.out HAR.out).mono ?_; rintro e w3 ⟨rfl, hb3⟩; have HS3 := Aside0.mk (HS.out.step hb3); clear HS hb3; have HS := HS3; clear HS3))
      (try simp only [Act.put, List.setIfInBounds_toArray, List.set_cons_zero, List.set_cons_succ])
      go_cut [41] (fun v41 wc => v41 = .bool t ∧ Aside0 (tree_Check.St w wc w.heap.size n m gb #[.string (x).f0, .int .i64 (x).f1, .int .i64 (x).f2, .string (x).f3, .int .i64 (x).f4.f0, .int .i64 (x).f4.f1, .int .i64 (x).f4.f2, .string (x).f4.f3, .string (x).f4.f4, .int .i64 (x).f4.f5, .int .i64 (x).f4.f6, .slice A11 (x).f5.length c11]))
      case first =>
       by_cases c7 : 0 < n
       ·have AT := HAT.out
        clear HAT
        unfold tree_Check.two at AT
        rw [if_pos c7] at AT
        obtain ⟨c, AC, AT⟩ := Option.bind_eq_some_iff.mp AT
        obtain rfl := Option.some.inj AT
        have HAC := Aside0.mk AC
        clear AC AT
        obtain ⟨ad', A11', c11', e', hx', _, _⟩ := tree_Check.elem HR0.out (n - 1) (by have := HN1.out; omega)
        cases e'
        have h0 : w.cell? (ad.add ((n - 1) * 12)) = some (.string (rd_T68 l0 ((n - 1 : Nat) : Int)).f0) := hx' 0 _ rfl
        have HP := Aside0.mk ((HS.out.1.2.2.cell (World.block_lt_of_cell? w _ h0)).trans h0)
        have HPL := Aside0.mk (Nat.lt_of_lt_of_le (World.block_lt_of_cell? w _ h0) HS.out.1.2.2.size)
        clear hx' h0
        have hw : IntKind.i64.wrap ((n : Int) - 1) = ((n - 1 : Nat) : Int) := by have := HN.out; have := HN1.out; rw [IntWalk.i64_in _ (by omega)]; omega
        have hp : w.heap.size ≤ gb := HS.out.2.1
        have hn' : ((n - 1 : Nat) : Int) < (l0.length : Int) := by have := HN1.out; omega
        have hc0 := HP.out
        have hc1 := blk_cell HS.out.2.2.2 0
        have hg0 : decide ((0 : Int) < (n : Int)) = true := decide_eq_true (by omega)
        have hg1 : (0 < n) = True := eq_true c7
        go_region_held3 (fun w' => w'.cell? (ad.add ((n - 1) * 12)) = some (.string (rd_T68 l0 ((n - 1 : Nat) : Int)).f0) ∧ w'.cell? ⟨gb, 0, none⟩ = some (.string x.f0)) (first | go_keep | (go_split_ands; exact ⟨(hb3.cell (World.block_lt_of_cell? _ _ (by assumption))).trans (by assumption), (hb3.cell (World.block_lt_of_cell? _ _ (by assumption))).trans (by assumption)⟩)) ((go_at_call 42; refine (path_Compare.calls k1 _ _ c _ HAC.out).mono ?_; rintro e w3 ⟨rfl, hb3⟩))
        go_wp2
        go_meet
        case rel => exact ⟨rfl, ⟨by first | exact HS.out.step hb3 | exact (HS.out.drewN _).step hb3 | exact HS.out.drew.step hb3⟩⟩
       ·have AT := HAT.out
        clear HAT
        unfold tree_Check.two at AT
        rw [if_neg c7] at AT
        obtain rfl := Option.some.inj AT
        clear AT
        have hg0 : decide ((0 : Int) < (n : Int)) = false := decide_eq_false (by omega)
        have hg1 : (0 < n) = False := eq_false c7
        go_quiet (fail)
        go_wp2
        go_meet
        case rel => exact ⟨rfl, ⟨by first | exact HS.out | exact HS.out.drewN _ | exact HS.out.drew⟩⟩
      case rest =>
       obtain ⟨rfl, HS⟩ := hcut
       cases t with
       | true =>
        have AS := HQ.out
        have H := HH.out
        rw [if_pos rfl] at AS
        simp only [Option.some.injEq, Prod.mk.injEq] at AS
        obtain ⟨rfl, rfl⟩ := AS
        rw [if_neg (by decide)] at H
        obtain rfl := Option.some.inj H
        clear HQ HH H HAT
        go_wp2
        go_ret
        exact ⟨rfl, HS.out.1.2.2⟩
       | false =>
        have AS := HQ.out
        rw [if_neg (by decide)] at AS
        obtain ⟨u, AU, AS⟩ := Option.bind_eq_some_iff.mp AS
        have HQ2 := Aside0.mk AS
        obtain ⟨up, AP, AU⟩ := Option.bind_eq_some_iff.mp (show ((path_Up.f x.f0).bind fun up => if up.toList = ([] : List UInt8) then some false else (tree_Find.f k1 (l0.take n) up).bind fun r => if r.2 = 0 then (if 0 ≤ r.1 ∧ r.1 < (l0.length : Int) then some ((rd_T68 l0 r.1).f1 != 2) else none) else some true) = some u from AU)
        have HAP := Aside0.mk AP
        have HAU := Aside0.mk AU
        clear AS AU AP HQ HAT
        have hc0 := blk_cell HS.out.2.2.2 0
        go_upto_if 46 with (go_at_call 43; refine (path_Up.calls x.f0 up _ HAP.out).mono ?_; rintro e w4 ⟨rfl, nd, rfl⟩)
        (try simp only [Act.put, List.setIfInBounds_toArray, List.set_cons_zero, List.set_cons_succ])
        have HS2 := Aside0.mk (HS.out.drewN nd)
        clear HS hc0
        have HS := HS2
        clear HS2
        go_cut [] (fun wc => Aside0 (u = false) ∧ Aside0 (tree_Check.St w wc w.heap.size n m gb #[.string (x).f0, .int .i64 (x).f1, .int .i64 (x).f2, .string (x).f3, .int .i64 (x).f4.f0, .int .i64 (x).f4.f1, .int .i64 (x).f4.f2, .string (x).f4.f3, .string (x).f4.f4, .int .i64 (x).f4.f5, .int .i64 (x).f4.f6, .slice A11 (x).f5.length c11]))
        case first =>
         have AU := HAU.out
         by_cases c8 : up.toList = ([] : List UInt8)
         ·rw [if_pos c8] at AU
          have HU := Aside0.mk (Option.some.inj AU).symm
          have c8a : up.toList.isEmpty = true := by rw [c8]; rfl
          clear AU c8
          rw [c8a]
          go_wp2
          go_meet
          case rel => exact ⟨HU, ⟨by first | exact HS.out | exact HS.out.drewN _ | exact HS.out.drew⟩⟩
         ·rw [if_neg c8] at AU
          obtain ⟨⟨j1, j2⟩, AF, AU⟩ := Option.bind_eq_some_iff.mp AU
          have c8a : up.toList.isEmpty = false := by cases h : up.toList with | nil => exact absurd h c8 | cons a b => rfl
          have HF : Aside0 (∀ W, Below w.heap.size w W → Calls Tryd.prog 11 #[.slice (some ad) n c0, .string up] W fun e w' => e = .returned (.tuple #[.int .i64 j1, .int .i64 j2]) ∧ Below W.heap.size W w') := ⟨fun W hb => by
           have hlen : (l0.take n).length = n := by have := HN1.out; simp; omega
           have := tree_Find.calls k1 (some ad) c0 (l0.take n) up j1 j2 W (Kd.C_below (Kd.C_take HR0.out HN1.out) hb) (by have := HC0.out; have := HN1.out; omega) AF
           rw [hlen] at this
           exact this⟩
          have hnc : (n : Int) ≤ (c0 : Int) := by have := HC0.out; have := HN1.out; omega
          have hnc' : n ≤ c0 := by omega
          clear c8 AF
          rw [c8a]
          by_cases c9 : j2 = 0
          ·rw [if_pos c9] at AU
           by_cases c10 : 0 ≤ j1 ∧ j1 < (l0.length : Int)
           ·rw [if_pos c10] at AU
            obtain rfl := Option.some.inj AU
            clear AU
            have c9a : (j2 == 0) = true := beq_iff_eq.mpr c9
            have c9b : (j2 != 0) = false := bne_eq_false_iff_eq.mpr c9
            clear c9
            obtain ⟨ad', A11', c11', e', hq0, hq1, hq2, hq3, hq4, hq5, hq6, hq7, hq8, hq9, hq10, hq11, _, _⟩ := at_T68 HR0.out j1 c10.1 c10.2
            cases e'
            have HQ1 := Aside0.mk hq1
            have HQL := Aside0.mk (World.block_lt_of_cell? w _ hq1)
            clear hq0 hq1 hq2 hq3 hq4 hq5 hq6 hq7 hq8 hq9 hq10 hq11
            have c10a := eq_true c10.1
            have c10b := eq_true c10.2
            by_cases c11 : (rd_T68 l0 j1).f1 = 2
            ·have c11a : ((rd_T68 l0 j1).f1 != 2) = false := bne_eq_false_iff_eq.mpr c11
             have c11b : ((rd_T68 l0 j1).f1 == 2) = true := beq_iff_eq.mpr c11
             have HU := Aside0.mk c11a
             clear c11
             go_wp2_with (go_at_call 11; refine (HF.out _ HS.out.1.2.2).mono ?_; rintro e w5 ⟨rfl, hb5⟩; have HS5 := Aside0.mk (HS.out.step hb5); clear HS hb5; have HS := HS5; clear HS5; have hq1 : _ = _ := (HS.out.1.2.2.cell HQL.out).trans HQ1.out)
             go_meet
             case rel => exact ⟨HU, ⟨by first | exact HS.out | exact HS.out.drewN _ | exact HS.out.drew⟩⟩
            ·have c11a : ((rd_T68 l0 j1).f1 != 2) = true := bne_iff_ne.mpr c11
             have c11b : ((rd_T68 l0 j1).f1 == 2) = false := beq_eq_false_iff_ne.mpr c11
             have AS := HQ2.out
             rw [c11a, if_pos rfl] at AS
             simp only [Option.some.injEq, Prod.mk.injEq] at AS
             obtain ⟨rfl, rfl⟩ := AS
             have H := HH.out
             rw [if_neg (by decide)] at H
             obtain rfl := Option.some.inj H
             clear c11 H HH HQ2
             go_wp2_with (go_at_call 11; refine (HF.out _ HS.out.1.2.2).mono ?_; rintro e w5 ⟨rfl, hb5⟩; have HS5 := Aside0.mk (HS.out.step hb5); clear HS hb5; have HS := HS5; clear HS5; have hq1 : _ = _ := (HS.out.1.2.2.cell HQL.out).trans HQ1.out)
             go_ret
             exact ⟨rfl, HS.out.1.2.2⟩
           ·rw [if_neg c10] at AU
            cases AU
          ·rw [if_neg c9] at AU
           obtain rfl := Option.some.inj AU
           have c9a : (j2 == 0) = false := beq_eq_false_iff_ne.mpr c9
           have c9b : (j2 != 0) = true := bne_iff_ne.mpr c9
           have AS := HQ2.out
           rw [if_pos rfl] at AS
           simp only [Option.some.injEq, Prod.mk.injEq] at AS
           obtain ⟨rfl, rfl⟩ := AS
           have H := HH.out
           rw [if_neg (by decide)] at H
           obtain rfl := Option.some.inj H
           clear c9 H HH HQ2
           go_wp2_with (go_at_call 11; refine (HF.out _ HS.out.1.2.2).mono ?_; rintro e w5 ⟨rfl, hb5⟩; have HS5 := Aside0.mk (HS.out.step hb5); clear HS hb5; have HS := HS5; clear HS5)
           go_ret
           exact ⟨rfl, HS.out.1.2.2⟩
        case rest =>
         obtain ⟨HU, HS⟩ := hcut
         obtain rfl := HU.out
         have AS := HQ2.out
         rw [if_neg (by decide)] at AS
         clear HQ2 HAU HU
         have H := HH.out
         clear HH
         have hc2 := blk_cell HS.out.2.2.2 2
         by_cases c12 : x.f2 = 0
         ·simp only [tree_Check.same, if_pos c12, Option.some.injEq, Prod.mk.injEq] at AS
          obtain ⟨rfl, rfl⟩ := AS
          rw [if_pos rfl] at H
          have H' := Aside0.mk H
          have c12b : (x.f2 == 0) = true := beq_iff_eq.mpr c12
          have h40 : (n : Int) < 40 := by have := HLT.out; have := HN.out; omega
          clear H c12
          go_wp2
          go_roundg k1
          case measure => have := HK1.out; omega
          case rel => exact ⟨n + 1, m, by go_num, ⟨HLT.out⟩, H', ⟨by have := HK1.out; omega⟩, ⟨(by first | exact HS.out.1.next | exact HS.out.drew.1.next)⟩⟩
         ·by_cases c13 : (Lit.int .i64 x.f2).wf = true
          ·simp only [tree_Check.same, if_neg c12, if_pos c13] at AS
           have c12b : (x.f2 == 0) = false := beq_eq_false_iff_ne.mpr c12
           have HWF := Aside0.mk c13
           clear c12 c13
           cases hget : get m x.f2 with
           | none =>
            rw [hget] at AS
            simp only [Option.some.injEq, Prod.mk.injEq] at AS
            obtain ⟨rfl, rfl⟩ := AS
            rw [if_pos rfl] at H
            have H' := Aside0.mk H
            have HGET := Aside0.mk hget
            have h40 : (n : Int) < 40 := by have := HLT.out; have := HN.out; omega
            clear H hget
            go_wp2_with (first | (at_lookup; refine wp_look_ok_miss _ rfl _ _ 63 rfl 68 (Maps.int_keyed Tryd.underlying3) Tryd.underlying63 (tree_Check.zeroE _) w.heap.size n rfl HS.out.1.1 _ rfl (Maps.keyOf_int_mk Tryd.underlying3 HWF.out) HGET.out ?_) | ((with_reducible refine gate_dst (N := 10) rfl ?_); refine box_event ?hg (N := 10) ?hd (cs := #[.string (⟨#[]⟩ : ByteArray), .int .i64 0, .int .i64 0, .string (⟨#[]⟩ : ByteArray), .int .i64 0, .int .i64 0, .int .i64 0, .string (⟨#[]⟩ : ByteArray), .string (⟨#[]⟩ : ByteArray), .int .i64 0, .int .i64 0, .slice none 0 0]) (t := 68) ?hr ?_; (case hd => rfl); (case hg => rfl); (case hr => first | (go_simp; done) | (go_simp; rfl)); intro gb2 hg w2 hbox hb2; have HG2 := Aside0.mk (HS.out.apart hg); have HS2 := Aside0.mk (HS.out.step hb2); have HK2 := Aside0.mk hbox; clear hg hbox hb2 HS; have HS := HS2; clear HS2) | ((with_reducible refine gate_store (t := 68) (p := 10) rfl ?_); refine put_event rfl rfl rfl rfl rfl HK2.out (tree_Check.szN) rfl rfl ?_; intro w3 hk3 hg3; have HS3 := Aside0.mk (HS.out.other hg3 HG2.out (blk_lt HK2.out)); clear HS HK2; have HK2 := Aside0.mk hk3; have HS := HS3; have hc2 := blk_cell HS.out.2.2.2 2; clear HS3 hk3 hg3) | ((with_reducible refine gate_dst (N := 87) rfl ?_); refine load_event rfl rfl hu68 rfl rfl (cs := [.string (x).f0, .int .i64 (x).f1, .int .i64 (x).f2, .string (x).f3, .int .i64 (x).f4.f0, .int .i64 (x).f4.f1, .int .i64 (x).f4.f2, .string (x).f4.f3, .string (x).f4.f4, .int .i64 (x).f4.f5, .int .i64 (x).f4.f6, .slice A11 (x).f5.length c11]) tree_Check.szN (cells_of_blk HS.out.2.2.2) ?_) | (at_mapUpdate; refine wp_put _ (fun a b h => by injection h) rfl _ _ _ 63 rfl 68 (Maps.int_keyed Tryd.underlying3) Tryd.underlying63 w.heap.size n rfl HS.out.1.1 (by have := HN.out; have := HN1.out; unfold maxLen; omega) _ _ rfl rfl (Maps.keyOf_int_mk Tryd.underlying3 HWF.out) (y := x) ⟨_, rfl, k68_mk w x HL.out HX.out⟩ ?_; intro w4 hm4 hg4; have HI4 := Aside0.mk (HS.out.1.putM hm4 hg4); clear hm4 hg4))
            go_roundg k1
            case measure => have := HK1.out; omega
            case rel => exact ⟨n + 1, _, by go_num, ⟨HLT.out⟩, H', ⟨by have := HK1.out; omega⟩, HI4⟩
           | some y =>
            rw [hget] at AS
            obtain ⟨b, AA, AS⟩ := Option.bind_eq_some_iff.mp AS
            have HAA := Aside0.mk (show tree_alike.f (y).f0 (y).f1 (y).f2 (y).f3 (y).f4.f0 (y).f4.f1 (y).f4.f2 (y).f4.f3 (y).f4.f4 (y).f4.f5 (y).f4.f6 (y).f5 (x).f0 (x).f1 (x).f2 (x).f3 (x).f4.f0 (x).f4.f1 (x).f4.f2 (x).f4.f3 (x).f4.f4 (x).f4.f5 (x).f4.f6 (x).f5 = some b from AA)
            have HGET := Aside0.mk hget
            clear AA hget
            cases b with
            | true =>
             rw [if_pos rfl] at AS
             simp only [Option.some.injEq, Prod.mk.injEq] at AS
             obtain ⟨rfl, rfl⟩ := AS
             rw [if_pos rfl] at H
             have H' := Aside0.mk H
             have h40 : (n : Int) < 40 := by have := HLT.out; have := HN.out; omega
             clear H
             go_wp2_with (first | (at_lookup; refine wp_look_ok_hit _ rfl _ _ 63 rfl 68 (Maps.int_keyed Tryd.underlying3) Tryd.underlying63 (tree_Check.zeroE _) w.heap.size n rfl HS.out.1.1 _ rfl (Maps.keyOf_int_mk Tryd.underlying3 HWF.out) HGET.out ?_; rintro v ⟨cs, rfl, hKy⟩; obtain ⟨A11y, c11y, hcs, l11y, g11y⟩ := k68_open hKy; obtain rfl : cs = #[.string (y).f0, .int .i64 (y).f1, .int .i64 (y).f2, .string (y).f3, .int .i64 (y).f4.f0, .int .i64 (y).f4.f1, .int .i64 (y).f4.f2, .string (y).f4.f3, .string (y).f4.f4, .int .i64 (y).f4.f5, .int .i64 (y).f4.f6, .slice A11y (y).f5.length c11y] := Array.toList_inj.mp hcs; have HYL := Aside0.mk l11y; have HYG := Aside0.mk g11y; clear hKy hcs l11y g11y) | ((with_reducible refine gate_dst (N := 10) rfl ?_); refine box_event ?hg (N := 10) ?hd (cs := #[.string (⟨#[]⟩ : ByteArray), .int .i64 0, .int .i64 0, .string (⟨#[]⟩ : ByteArray), .int .i64 0, .int .i64 0, .int .i64 0, .string (⟨#[]⟩ : ByteArray), .string (⟨#[]⟩ : ByteArray), .int .i64 0, .int .i64 0, .slice none 0 0]) (t := 68) ?hr ?_; (case hd => rfl); (case hg => rfl); (case hr => first | (go_simp; done) | (go_simp; rfl)); intro gb2 hg w2 hbox hb2; have HG2 := Aside0.mk (HS.out.apart hg); have HS2 := Aside0.mk (HS.out.step hb2); have HK2 := Aside0.mk hbox; clear hg hbox hb2 HS; have HS := HS2; clear HS2) | ((with_reducible refine gate_store (t := 68) (p := 10) rfl ?_); refine put_event rfl rfl rfl rfl rfl HK2.out (tree_Check.szN) rfl rfl ?_; intro w3 hk3 hg3; have HS3 := Aside0.mk (HS.out.other hg3 HG2.out (blk_lt HK2.out)); clear HS HK2; have HK2 := Aside0.mk hk3; have HS := HS3; have hc2 := blk_cell HS.out.2.2.2 2; clear HS3 hk3 hg3) | ((with_reducible refine gate_dst (N := 77) rfl ?_); refine load_event rfl rfl hu68 rfl rfl (cs := [.string (y).f0, .int .i64 (y).f1, .int .i64 (y).f2, .string (y).f3, .int .i64 (y).f4.f0, .int .i64 (y).f4.f1, .int .i64 (y).f4.f2, .string (y).f4.f3, .string (y).f4.f4, .int .i64 (y).f4.f5, .int .i64 (y).f4.f6, .slice A11y (y).f5.length c11y]) tree_Check.szN (cells_of_blk HK2.out) ?_) | ((with_reducible refine gate_dst (N := 78) rfl ?_); refine load_event rfl rfl hu68 rfl rfl (cs := [.string (x).f0, .int .i64 (x).f1, .int .i64 (x).f2, .string (x).f3, .int .i64 (x).f4.f0, .int .i64 (x).f4.f1, .int .i64 (x).f4.f2, .string (x).f4.f3, .string (x).f4.f4, .int .i64 (x).f4.f5, .int .i64 (x).f4.f6, .slice A11 (x).f5.length c11]) tree_Check.szN (cells_of_blk HS.out.2.2.2) ?_) | (go_at_call 44; refine (tree_alike.calls (y).f0 (y).f1 (y).f2 (y).f3 (y).f4.f0 (y).f4.f1 (y).f4.f2 (y).f4.f3 (y).f4.f4 (y).f4.f5 (y).f4.f6 A11y c11y (y).f5 (x).f0 (x).f1 (x).f2 (x).f3 (x).f4.f0 (x).f4.f1 (x).f4.f2 (x).f4.f3 (x).f4.f4 (x).f4.f5 (x).f4.f6 A11 c11 (x).f5 _ _ (Kd.C_below HYG.out HS.out.1.2.2) HYL.out (Kd.C_below HX.out HS.out.1.2.2) HL.out HAA.out).mono ?_; rintro e w5 ⟨rfl, hb5⟩; have HS5 := Aside0.mk (HS.out.step hb5); clear HS hb5; have HS := HS5; clear HS5))
             go_roundg k1
             case measure => have := HK1.out; omega
             case rel => exact ⟨n + 1, m, by go_num, ⟨HLT.out⟩, H', ⟨by have := HK1.out; omega⟩, ⟨HS.out.1.next⟩⟩
            | false =>
             rw [if_neg (by decide)] at AS
             simp only [Option.some.injEq, Prod.mk.injEq] at AS
             obtain ⟨rfl, rfl⟩ := AS
             rw [if_neg (by decide)] at H
             obtain rfl := Option.some.inj H
             clear H
             go_wp2_with (first | (at_lookup; refine wp_look_ok_hit _ rfl _ _ 63 rfl 68 (Maps.int_keyed Tryd.underlying3) Tryd.underlying63 (tree_Check.zeroE _) w.heap.size n rfl HS.out.1.1 _ rfl (Maps.keyOf_int_mk Tryd.underlying3 HWF.out) HGET.out ?_; rintro v ⟨cs, rfl, hKy⟩; obtain ⟨A11y, c11y, hcs, l11y, g11y⟩ := k68_open hKy; obtain rfl : cs = #[.string (y).f0, .int .i64 (y).f1, .int .i64 (y).f2, .string (y).f3, .int .i64 (y).f4.f0, .int .i64 (y).f4.f1, .int .i64 (y).f4.f2, .string (y).f4.f3, .string (y).f4.f4, .int .i64 (y).f4.f5, .int .i64 (y).f4.f6, .slice A11y (y).f5.length c11y] := Array.toList_inj.mp hcs; have HYL := Aside0.mk l11y; have HYG := Aside0.mk g11y; clear hKy hcs l11y g11y) | ((with_reducible refine gate_dst (N := 10) rfl ?_); refine box_event ?hg (N := 10) ?hd (cs := #[.string (⟨#[]⟩ : ByteArray), .int .i64 0, .int .i64 0, .string (⟨#[]⟩ : ByteArray), .int .i64 0, .int .i64 0, .int .i64 0, .string (⟨#[]⟩ : ByteArray), .string (⟨#[]⟩ : ByteArray), .int .i64 0, .int .i64 0, .slice none 0 0]) (t := 68) ?hr ?_; (case hd => rfl); (case hg => rfl); (case hr => first | (go_simp; done) | (go_simp; rfl)); intro gb2 hg w2 hbox hb2; have HG2 := Aside0.mk (HS.out.apart hg); have HS2 := Aside0.mk (HS.out.step hb2); have HK2 := Aside0.mk hbox; clear hg hbox hb2 HS; have HS := HS2; clear HS2) | ((with_reducible refine gate_store (t := 68) (p := 10) rfl ?_); refine put_event rfl rfl rfl rfl rfl HK2.out (tree_Check.szN) rfl rfl ?_; intro w3 hk3 hg3; have HS3 := Aside0.mk (HS.out.other hg3 HG2.out (blk_lt HK2.out)); clear HS HK2; have HK2 := Aside0.mk hk3; have HS := HS3; have hc2 := blk_cell HS.out.2.2.2 2; clear HS3 hk3 hg3) | ((with_reducible refine gate_dst (N := 77) rfl ?_); refine load_event rfl rfl hu68 rfl rfl (cs := [.string (y).f0, .int .i64 (y).f1, .int .i64 (y).f2, .string (y).f3, .int .i64 (y).f4.f0, .int .i64 (y).f4.f1, .int .i64 (y).f4.f2, .string (y).f4.f3, .string (y).f4.f4, .int .i64 (y).f4.f5, .int .i64 (y).f4.f6, .slice A11y (y).f5.length c11y]) tree_Check.szN (cells_of_blk HK2.out) ?_) | ((with_reducible refine gate_dst (N := 78) rfl ?_); refine load_event rfl rfl hu68 rfl rfl (cs := [.string (x).f0, .int .i64 (x).f1, .int .i64 (x).f2, .string (x).f3, .int .i64 (x).f4.f0, .int .i64 (x).f4.f1, .int .i64 (x).f4.f2, .string (x).f4.f3, .string (x).f4.f4, .int .i64 (x).f4.f5, .int .i64 (x).f4.f6, .slice A11 (x).f5.length c11]) tree_Check.szN (cells_of_blk HS.out.2.2.2) ?_) | (go_at_call 44; refine (tree_alike.calls (y).f0 (y).f1 (y).f2 (y).f3 (y).f4.f0 (y).f4.f1 (y).f4.f2 (y).f4.f3 (y).f4.f4 (y).f4.f5 (y).f4.f6 A11y c11y (y).f5 (x).f0 (x).f1 (x).f2 (x).f3 (x).f4.f0 (x).f4.f1 (x).f4.f2 (x).f4.f3 (x).f4.f4 (x).f4.f5 (x).f4.f6 A11 c11 (x).f5 _ _ (Kd.C_below HYG.out HS.out.1.2.2) HYL.out (Kd.C_below HX.out HS.out.1.2.2) HL.out HAA.out).mono ?_; rintro e w5 ⟨rfl, hb5⟩; have HS5 := Aside0.mk (HS.out.step hb5); clear HS hb5; have HS := HS5; clear HS5))
             go_ret
             exact ⟨rfl, HS.out.1.2.2⟩
          ·simp only [tree_Check.same, if_neg c12, if_neg c13] at AS
           cases AS
     ·rw [if_neg c6] at AS
      simp only [Option.some.injEq, Prod.mk.injEq] at AS
      obtain ⟨rfl, rfl⟩ := AS
      rw [if_neg c6] at H
      obtain rfl := Option.some.inj H
      have c6a : (e1 == 0) = false := beq_eq_false_iff_ne.mpr c6
      have c6b : (e1 != 0) = true := bne_iff_ne.mpr c6
      clear c6 H
      go_wp2_with (first | ((with_reducible refine gate_dst (N := 22) rfl ?_); refine load_event (ad := ad.add (n * 12)) rfl rfl hu68 rfl rfl (cs := [.string (x).f0, .int .i64 (x).f1, .int .i64 (x).f2, .string (x).f3, .int .i64 (x).f4.f0, .int .i64 (x).f4.f1, .int .i64 (x).f4.f2, .string (x).f4.f3, .string (x).f4.f4, .int .i64 (x).f4.f5, .int .i64 (x).f4.f6, .slice A11 (x).f5.length c11]) tree_Check.szN (fun j v hv => (HI.out.2.2.cell (World.block_lt_of_cell? w _ (HXC.out j v hv))).trans (HXC.out j v hv)) ?_) | ((with_reducible refine gate_dst (N := 5) rfl ?_); refine box_event ?hg (N := 5) ?hd (cs := #[.string (⟨#[]⟩ : ByteArray), .int .i64 0, .int .i64 0, .string (⟨#[]⟩ : ByteArray), .int .i64 0, .int .i64 0, .int .i64 0, .string (⟨#[]⟩ : ByteArray), .string (⟨#[]⟩ : ByteArray), .int .i64 0, .int .i64 0, .slice none 0 0]) (t := 68) ?hr ?_; (case hd => rfl); (case hg => rfl); (case hr => first | (go_simp; done) | (go_simp; rfl)); intro gb hg w2 hbox hb2; have HS := Aside0.mk (HI.out.box hg hbox hb2); clear hg hbox hb2 HI) | ((with_reducible refine gate_store (t := 68) (p := 5) rfl ?_); refine put_event rfl rfl rfl rfl rfl HS.out.2.2.2 (tree_Check.szN) rfl rfl ?_; intro w3 hk3 hg3; have HS3 := Aside0.mk (HS.out.put hk3 hg3); clear HS hk3 hg3; have HS := HS3; clear HS3) | ((with_reducible refine gate_dst (N := 23) rfl ?_); refine load_event rfl rfl hu68 rfl rfl (cs := [.string (x).f0, .int .i64 (x).f1, .int .i64 (x).f2, .string (x).f3, .int .i64 (x).f4.f0, .int .i64 (x).f4.f1, .int .i64 (x).f4.f2, .string (x).f4.f3, .string (x).f4.f4, .int .i64 (x).f4.f5, .int .i64 (x).f4.f6, .slice A11 (x).f5.length c11]) tree_Check.szN (cells_of_blk HS.out.2.2.2) ?_) | (go_at_call 41; refine (tree_Right.calls k1 (x).f0 (x).f1 (x).f2 (x).f3 (x).f4.f0 (x).f4.f1 (x).f4.f2 (x).f4.f3 (x).f4.f4 (x).f4.f5 (x).f4.f6 A11 c11 (x).f5 e1 _ (Kd.C_below HX.out HS.out.1.2.2) HL.out HAR.out).mono ?_; rintro e w3 ⟨rfl, hb3⟩; have HS3 := Aside0.mk (HS.out.step hb3); clear HS hb3; have HS := HS3; clear HS3))
      go_ret
      exact ⟨rfl, HS.out.1.2.2⟩
    ·rw [if_neg c3] at H
     obtain rfl := Option.some.inj H
     have c3b : decide ((n : Int) < (l0.length : Int)) = false := decide_eq_false (by omega)
     have c3c : decide (n < l0.length) = false := decide_eq_false c3
     have c3d := eq_false c3
     clear c3 H
     go_wp2
     go_ret
     exact ⟨rfl, HI.out.2.2⟩


end Go.Proofs.YtgkofpjeiogafaaDoor.All
end
section
namespace Go.Proofs.YtgkofpjeiogafaaDoor.All
open Go.RowKit Go.Proofs.YtgkofpjeiogafaaDoorW.PrintWords Go.Proofs.YtgkofpjeiogafaaDoorW.PrintLast Go.Proofs.YtgkofpjeiogafaaDoorW.PrintMore
open Go.Proofs.YtgkofpjeiogafaaDoorW.Mine
attribute [local go_sem] gtr_string leq_string geq_string
attribute [local go_sem] max2_int min2_int max_two min_two max_three min_three max_four min_four   -- for this text's walks alone
set_option linter.unusedVariables false
set_option linter.unusedSimpArgs false

/-! ### creelref_TreeFind: function 13 -/
def creelref_TreeFind.l0 : Nat → List (S68) → ByteArray → Int → Option (Int)
 | 0, _, _, _ => none
 | k + 1, x0, x1, x5 => if x5 < (x0.length : Int) then (if 0 ≤ x5 then (if ((rd_T68 x0 x5).f0).toList = x1.toList then (some x5) else (creelref_TreeFind.l0 k x0 x1 (wrap64 (x5 + 1)))) else (none)) else (some (x0.length : Int))
def creelref_TreeFind.f (k : Nat) (l0 : List (S68)) (a1 : ByteArray) : Option (Int) := creelref_TreeFind.l0 k l0 a1 0
theorem creelref_TreeFind.mono_l : ∀ k, (∀ y0 y1 y2, LeO (creelref_TreeFind.l0 k y0 y1 y2) (creelref_TreeFind.l0 (k + 1) y0 y1 y2))
 | 0 => fun _ _ _ r h => by simp [creelref_TreeFind.l0] at h
 | k + 1 => by
  have ih0 := creelref_TreeFind.mono_l k
  ·intro y0 y1 y2
   unfold creelref_TreeFind.l0
   repeat' first
   | (with_reducible exact ih0 _ _ _)
   | (with_reducible exact LeO.refl _)
   | (with_reducible exact LeO.none _)
   | (with_reducible refine LeO.ite ?_ ?_)
   | (with_reducible refine LeO.bind ?_ (fun _ => ?_))
   | exact ih0 _ _ _
   | exact LeO.none _
   | refine LeO.ite ?_ ?_
   | refine LeO.bind ?_ (fun _ => ?_)
theorem creelref_TreeFind.mono : ∀ a0 a1 k, LeO (creelref_TreeFind.f k a0 a1) (creelref_TreeFind.f (k + 1) a0 a1) := by
 intro a0 a1 k
 have ih0 := creelref_TreeFind.mono_l k
 unfold creelref_TreeFind.f
 repeat' first
   | (with_reducible exact ih0 _ _ _)
   | (with_reducible exact LeO.refl _)
   | (with_reducible exact LeO.none _)
   | (with_reducible refine LeO.ite ?_ ?_)
   | (with_reducible refine LeO.bind ?_ (fun _ => ?_))
   | exact ih0 _ _ _
   | exact LeO.none _
   | refine LeO.ite ?_ ?_
   | refine LeO.bind ?_ (fun _ => ?_)
set_option maxHeartbeats 8000000 in
set_option maxRecDepth 100000 in
theorem creelref_TreeFind.calls (k : Nat) (A0 : Option Addr) (c0 : Nat) (l0 : List (S68)) (a1 : ByteArray) (r : Int) (w : World) (hr0 : Kd.C k68 w A0 l0.length l0) (hc0 : l0.length ≤ c0) (h : creelref_TreeFind.f k l0 a1 = some r) :
  Calls Tryd.prog 13 #[.slice A0 l0.length c0, .string a1] w fun e w' => e = .returned (.int .i64 r) ∧ Drawn0 w w' := by
 have HR0 := Aside0.mk hr0
 have HC0 := Aside0.mk hc0
 clear hr0 hc0
 have H : (creelref_TreeFind.l0 k l0 a1 0) = some r := h
 clear h
 have H' := Aside0.mk H
 clear H
 go_enter Tryd.func13, Tryd.ntmps13
 go_wp2
 go_loopg [5] k (fun kq v5 w' => ∃ (x5_1 : Int), v5 = .int .i64 x5_1 ∧ Aside0 (creelref_TreeFind.l0 kq l0 a1 x5_1 = some r) ∧ Aside0 (kq ≤ k) ∧ Drawn0 w w')
 case atStart => exact ⟨(0), (by first | rfl | (simp; done) | (simp [*]; done)), H', ⟨Nat.le_refl _⟩, by repeat (first | exact Drawn0.refl _ | apply Drawn0.step)⟩
 case round =>
  clear H'
  try clear c1
  try clear p2
  obtain ⟨x5_1, rfl, HA, HK1, ⟨m1, rfl⟩⟩ := hrel
  cases gk with
  | zero => exact absurd HA.out (by simp [creelref_TreeFind.l0])
  | succ k1 =>
   have H := HA.out
   clear HA
   simp only [creelref_TreeFind.l0] at H
   by_cases c3 : x5_1 < (l0.length : Int)
   ·rw [if_pos c3] at H
    have c3b0 : decide (x5_1 < (l0.length : Int)) = true := decide_eq_true c3
    clear c3
    by_cases c4 : 0 ≤ x5_1
    ·rw [if_pos c4] at H
     have c4b0 : decide (0 ≤ x5_1) = true := decide_eq_true c4
     clear c4
     by_cases c5 : ((rd_T68 l0 x5_1).f0).toList = a1.toList
     ·rw [if_pos c5] at H
      have c5b0 : (((rd_T68 l0 x5_1).f0).toList == a1.toList) = true := beq_iff_eq.mpr c5
      have c5b1 : (((rd_T68 l0 x5_1).f0).toList != a1.toList) = false := bne_eq_false_iff_eq.mpr c5
      clear c5
      obtain rfl := Option.some.inj H
      have p101 : 0 ≤ (x5_1 : Int) := of_decide_eq_true (by first | (with_reducible assumption) | assumption)
      have q101 : x5_1 < (l0.length : Int) := of_decide_eq_true (by first | (with_reducible assumption) | assumption)
      obtain ⟨ad101, A101_11, c101_11, e101, hx101_0, hx101_1, hx101_2, hx101_3, hx101_4, hx101_5, hx101_6, hx101_7, hx101_8, hx101_9, hx101_10, hx101_11, hl101_11, hi101_11⟩ := at_T68 HR0.out x5_1 p101 q101
      cases e101
      have HR101_11 := Aside0.mk hi101_11
      have HC101_11 := Aside0.mk hl101_11
      clear hi101_11 hl101_11
      replace p101 := eq_true p101
      replace q101 := eq_true q101
      go_wp2
      go_ret
      exact ⟨by first | rfl | (simp; done) | (simp [*]; done), by repeat (first | exact Drawn0.refl _ | apply Drawn0.step)⟩
     ·rw [if_neg c5] at H
      have c5b0 : (((rd_T68 l0 x5_1).f0).toList == a1.toList) = false := beq_eq_false_iff_ne.mpr c5
      have c5b1 : (((rd_T68 l0 x5_1).f0).toList != a1.toList) = true := bne_iff_ne.mpr c5
      have H' := Aside0.mk H
      clear H
      have p101 : 0 ≤ (x5_1 : Int) := of_decide_eq_true (by first | (with_reducible assumption) | assumption)
      have q101 : x5_1 < (l0.length : Int) := of_decide_eq_true (by first | (with_reducible assumption) | assumption)
      obtain ⟨ad101, A101_11, c101_11, e101, hx101_0, hx101_1, hx101_2, hx101_3, hx101_4, hx101_5, hx101_6, hx101_7, hx101_8, hx101_9, hx101_10, hx101_11, hl101_11, hi101_11⟩ := at_T68 HR0.out x5_1 p101 q101
      cases e101
      have HR101_11 := Aside0.mk hi101_11
      have HC101_11 := Aside0.mk hl101_11
      clear hi101_11 hl101_11
      replace p101 := eq_true p101
      replace q101 := eq_true q101
      go_wp2
      go_roundg k1
      case measure => have := HK1.out; omega
      case rel => exact ⟨(wrap64 (x5_1 + 1)), (by first | rfl | (simp; done) | (simp [*]; done)), H', ⟨by have := HK1.out; omega⟩, by repeat (first | exact Drawn0.refl _ | apply Drawn0.step)⟩
    ·rw [if_neg c4] at H
     exact absurd H (by simp)
   ·rw [if_neg c3] at H
    have c3b0 : decide (x5_1 < (l0.length : Int)) = false := decide_eq_false c3
    clear c3
    obtain rfl := Option.some.inj H
    go_wp2
    go_ret
    exact ⟨by first | rfl | (simp; done) | (simp [*]; done), by repeat (first | exact Drawn0.refl _ | apply Drawn0.step)⟩

end Go.Proofs.YtgkofpjeiogafaaDoor.All
end
section
namespace Go.Proofs.YtgkofpjeiogafaaDoor.All
open Go.RowKit Go.Proofs.YtgkofpjeiogafaaDoorW.PrintWords Go.Proofs.YtgkofpjeiogafaaDoorW.PrintLast Go.Proofs.YtgkofpjeiogafaaDoorW.PrintMore
open Go.Proofs.YtgkofpjeiogafaaDoorW.Mine
attribute [local go_sem] gtr_string leq_string geq_string
attribute [local go_sem] max2_int min2_int max_two min_two max_three min_three max_four min_four   -- for this text's walks alone
set_option linter.unusedVariables false
set_option linter.unusedSimpArgs false
theorem eqK65 (d : Nat) (w : World) (x0 y0 : Int) (x1 y1 : Int) (x2 y2 : Int) (x3 y3 : ByteArray) (x4 y4 : ByteArray) (x5 y5 : Int) (x6 y6 : Int) : (Op.equalIn (d + 2) 65 (.agg #[.int .i64 x0, .int .i64 x1, .int .i64 x2, .string x3, .string x4, .int .i64 x5, .int .i64 x6]) (.agg #[.int .i64 y0, .int .i64 y1, .int .i64 y2, .string y3, .string y4, .int .i64 y5, .int .i64 y6])).run Tryd.prog w = .ok (x0 == y0 && (x1 == y1 && (x2 == y2 && (x3.toList == y3.toList && (x4.toList == y4.toList && (x5 == y5 && (x6 == y6))))))) w := by
 refine eqA_of Tryd.underlying65 (by kernel_rfl) ?_
 refine eqf_cons (by rfl) (by go_simp; rfl) (by go_simp; rfl) (by go_simp) ?_
 refine eqf_cons (by rfl) (by go_simp; rfl) (by go_simp; rfl) (by go_simp) ?_
 refine eqf_cons (by rfl) (by go_simp; rfl) (by go_simp; rfl) (by go_simp) ?_
 refine eqf_cons (by rfl) (by go_simp; rfl) (by go_simp; rfl) (by go_simp) ?_
 refine eqf_cons (by rfl) (by go_simp; rfl) (by go_simp; rfl) (by go_simp) ?_
 refine eqf_cons (by rfl) (by go_simp; rfl) (by go_simp; rfl) (by go_simp) ?_
 exact eqf_last (by rfl) (by go_simp; rfl) (by go_simp; rfl) (by go_simp)

theorem sz68 : (Tryd.prog.info? 68).map (·.size) = some 12 := by kernel_rfl
theorem elem68 {w : World} {A : Option Addr} {l : List S68} (h : Kd.C k68 w A l.length l) (n : Nat) (hn : n < l.length) : ∃ ad A11 c11, A = some ad ∧ (∀ j v, ([.string (rd_T68 l (n : Int)).f0, .int .i64 (rd_T68 l (n : Int)).f1, .int .i64 (rd_T68 l (n : Int)).f2, .string (rd_T68 l (n : Int)).f3, .int .i64 (rd_T68 l (n : Int)).f4.f0, .int .i64 (rd_T68 l (n : Int)).f4.f1, .int .i64 (rd_T68 l (n : Int)).f4.f2, .string (rd_T68 l (n : Int)).f4.f3, .string (rd_T68 l (n : Int)).f4.f4, .int .i64 (rd_T68 l (n : Int)).f4.f5, .int .i64 (rd_T68 l (n : Int)).f4.f6, .slice A11 (rd_T68 l (n : Int)).f5.length c11] : List Value)[j]? = some v → w.cell? ((ad.add (n * 12)).add j) = some v) ∧ (rd_T68 l (n : Int)).f5.length ≤ c11 ∧ (Kd.int .u8).C w A11 (rd_T68 l (n : Int)).f5.length (rd_T68 l (n : Int)).f5 := by
 obtain ⟨ad, c, e, _, hK, hc0⟩ := Kd.C_get h z68 (n : Int) (Int.natCast_nonneg _) (by omega)
 obtain ⟨A11, c11, rfl, l11, g11⟩ := k68_open hK
 refine ⟨ad, A11, c11, e, fun j v hv => ?_, l11, g11⟩
 have := hc0 j v hv
 rw [Int.toNat_natCast] at this
 rw [← this]
 congr 1
 show (ad.add (n * 12)).add j = ad.add (n * 12 + j)
 exact Go.Proofs.YtgkofpjeiogafaaDoorW.MapOwn.add_add ad (n * 12) j

end Go.Proofs.YtgkofpjeiogafaaDoor.All
end
