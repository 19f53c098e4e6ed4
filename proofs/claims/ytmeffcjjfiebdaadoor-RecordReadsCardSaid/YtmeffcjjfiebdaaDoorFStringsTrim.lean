/- Made by a program of the prover (over the print of the kit): a Lean function with the answers of a Go function, and the proof that the call comes to them; conditions: those in the statements alone. -/
import Derived.Test.YtmeffcjjfiebdaaDoorK
namespace Go.Proofs.YtmeffcjjfiebdaaDoor.All
open Go.RowKit Go.Proofs.YtmeffcjjfiebdaaDoorW.PrintWords Go.Proofs.YtmeffcjjfiebdaaDoorW.PrintLast Go.Proofs.YtmeffcjjfiebdaaDoorW.PrintMore
open Go.Proofs.YtmeffcjjfiebdaaDoorW.Mine
attribute [local go_sem] gtr_string leq_string geq_string
attribute [local go_sem] max2_int min2_int max_two min_two max_three min_three max_four min_four   -- for this text's walks alone
set_option linter.unusedVariables false
set_option linter.unusedSimpArgs false

/-! ### strings_Trim: function 64 -/
def strings_Trim.f (a0 : ByteArray) (a1 : ByteArray) : Option ByteArray := match a1 with
  | ⟨⟨[c]⟩⟩ => if c.toNat < 128 ∧ a0.size ≤ 9223372036854775807 then some ⟨(Lib.trimB a0.data.toList c).toArray⟩ else none
  | ⟨⟨l⟩⟩ => if l.all (fun b => decide (b.toNat < 128)) = true ∧ l.length < 4294967281 ∧ a0.size ≤ 9223372036854775807 then some ⟨(Lib.trimS a0.data.toList l).toArray⟩ else none
/-- At one byte nothing is made. -/
theorem strings_Trim.calls0 (a0 : ByteArray) (c : UInt8) (r : ByteArray) (w : World) (h : strings_Trim.f a0 ⟨#[c]⟩ = some r) :
    Calls Tryd.prog 64 #[.string a0, .string ⟨#[c]⟩] w fun e w' => e = .returned (.string r) ∧ Drawn0 w w' := by
  have h : (if c.toNat < 128 ∧ a0.size ≤ 9223372036854775807 then some (⟨(Lib.trimB a0.data.toList c).toArray⟩ : ByteArray) else none) = some r := h
  split at h
  · rename_i hc
    obtain rfl := Option.some.inj h
    refine (Tryd.strings_Trim_one a0 c hc.1 w hc.2).mono ?_
    rintro e w' ⟨rfl, hw⟩
    refine ⟨rfl, ?_⟩
    rcases hw with rfl | rfl
    · exact Drawn0.refl _
    · exact Drawn0.step (Drawn0.refl _) 1
  · cases h
theorem strings_Trim.calls (a0 : ByteArray) (a1 : ByteArray) (r : ByteArray) (w : World) (h : strings_Trim.f a0 a1 = some r) :
    Calls Tryd.prog 64 #[.string a0, .string a1] w fun e w' => e = .returned (.string r) ∧ Below w.heap.size w w' := by
  by_cases hone : ∃ c, a1 = ⟨#[c]⟩
  · obtain ⟨c, rfl⟩ := hone
    refine (strings_Trim.calls0 a0 c r w h).mono ?_
    rintro e w' ⟨rfl, hd⟩
    exact ⟨rfl, hd.below⟩
  · unfold strings_Trim.f at h
    split at h
    · rename_i c
      exact absurd ⟨c, rfl⟩ hone
    · rename_i l _
      split at h
      · rename_i hc
        obtain rfl := Option.some.inj h
        exact Any.strings_Trim_laid Tryd.lays160 (by kernel_rfl) a0 ⟨⟨l⟩⟩ w hc.2.2 (by simpa [ByteArray.size] using hc.2.1) (ascii_of_all hc.1)
      · cases h


end Go.Proofs.YtmeffcjjfiebdaaDoor.All
