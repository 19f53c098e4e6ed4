/- Made by a program of the prover (over the print of the kit): a Lean function with the answers of a Go function, and the proof that the call comes to them; conditions: those in the statements alone. -/
import Derived.Test.YtolbjjeoaeadcaaDoorK
namespace Go.Proofs.YtolbjjeoaeadcaaDoor.All
open Go.RowKit Go.Proofs.YtolbjjeoaeadcaaDoorW.PrintWords Go.Proofs.YtolbjjeoaeadcaaDoorW.PrintLast Go.Proofs.YtolbjjeoaeadcaaDoorW.PrintMore
open Go.Proofs.YtolbjjeoaeadcaaDoorW.Mine
attribute [local go_sem] gtr_string leq_string geq_string
attribute [local go_sem] max2_int min2_int max_two min_two max_three min_three max_four min_four   -- for this text's walks alone
set_option linter.unusedVariables false
set_option linter.unusedSimpArgs false

/-! ### creelref_PathIn: function 35 -/
def creelref_PathIn.f (a0 a1 : ByteArray) : Option Bool := some (if a1.toList = ([] : List UInt8) then !a0.toList.isEmpty else if a1.size < a0.size then (if (a0.extract 0 a1.size).toList = a1.toList then bt a0 (a1.size : Int) == 47 else false) else false)
set_option maxHeartbeats 1000000 in
theorem creelref_PathIn.calls (a0 : ByteArray) (a1 : ByteArray) (r : Bool) (w : World) (h : creelref_PathIn.f a0 a1 = some r) :
    Calls Tryd.prog 35 #[.string a0, .string a1] w fun e w' => e = .returned (.bool r) ∧ Drawn0 w w' := by
  unfold creelref_PathIn.f at h
  obtain rfl := Option.some.inj h
  clear h
  by_cases c1 : a1.toList = ([] : List UInt8)
  · rw [if_pos c1]
    have c1a : (a1.toList == ([] : List UInt8)) = true := beq_iff_eq.2 c1
    clear c1
    go_enter Tryd.func35, Tryd.ntmps35
    go_wp2
    go_ret
    exact ⟨by first | rfl | simp, Drawn0.refl _⟩
  · rw [if_neg c1]
    have c1a : (a1.toList == ([] : List UInt8)) = false := beq_eq_false_iff_ne.2 c1
    have c1b : a1.toList.isEmpty = false := by simpa using c1
    clear c1
    by_cases c2 : a1.size < a0.size
    · rw [if_pos c2]
      have c2a : decide ((a1.size : Int) < (a0.size : Int)) = true := decide_eq_true (by omega)
      have c2b : decide (a1.size < a0.size) = true := decide_eq_true c2
      have c2c : (a1.size : Int) ≤ a0.size := by omega
      have c2d : a1.size ≤ a0.size := by omega
      by_cases c3 : (a0.extract 0 a1.size).toList = a1.toList
      · rw [if_pos c3]
        have c3a : ((a0.extract 0 a1.size).toList == a1.toList) = true := beq_iff_eq.2 c3
        clear c3
        have hb := bt_at a0 (a1.size : Int) (by simpa using c2)
        have hb2 : ((a0[a1.size]'c2).toNat : Int) = bt a0 (a1.size : Int) := hb
        obtain ⟨B, hB⟩ : ∃ B, bt a0 (a1.size : Int) = B := ⟨_, rfl⟩
        rw [hB] at hb2 ⊢
        clear hb hB
        go_enter Tryd.func35, Tryd.ntmps35
        go_wp2
        all_goals go_ret
        all_goals exact ⟨by first | rfl | (simp [hb2]; done) | simp_all, Drawn0.refl _⟩
      · rw [if_neg c3]
        have c3a : ((a0.extract 0 a1.size).toList == a1.toList) = false := beq_eq_false_iff_ne.2 c3
        clear c3
        go_enter Tryd.func35, Tryd.ntmps35
        go_wp2
        all_goals go_ret
        all_goals exact ⟨by first | rfl | simp_all, Drawn0.refl _⟩
    · rw [if_neg c2]
      have c2a : decide ((a1.size : Int) < (a0.size : Int)) = false := decide_eq_false (by omega)
      have c2b : decide (a1.size < a0.size) = false := decide_eq_false c2
      go_enter Tryd.func35, Tryd.ntmps35
      go_wp2
      all_goals go_ret
      all_goals exact ⟨by first | rfl | simp_all, Drawn0.refl _⟩


end Go.Proofs.YtolbjjeoaeadcaaDoor.All
