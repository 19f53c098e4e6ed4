/- strings.Cut at one byte, over lists of bytes. No conditions but on sizes. -/
import Derived.Test.YtmeffcjjfiebdaaDoorWPureBase
import Derived.Test.YtmeffcjjfiebdaaDoorFJoined
import Derived.Test.YtmeffcjjfiebdaaDoorQDigits
namespace Go.Proofs.YtmeffcjjfiebdaaDoor.Q
set_option linter.unusedVariables false
set_option linter.unusedSimpArgs false
open Go.RowKit Go.Proofs.YtmeffcjjfiebdaaDoor.All Go.Proofs.YtmeffcjjfiebdaaDoorW.PrintWords Go.Proofs.YtmeffcjjfiebdaaDoorW.PrintLast Go.Proofs.YtmeffcjjfiebdaaDoorW.PrintMore Go.Proofs.YtmeffcjjfiebdaaDoorW.PureBase

-- USES Digits
-- FN strings_Cut stringslite_Cut stringslite_Index
theorem cutB_at (c : UInt8) (D T : List UInt8) (h : c ∉ D) (hs : D.length + T.length < 1000000000000000) : strings_Cut.f (tx (D ++ c :: T)) (⟨#[c]⟩ : ByteArray) = some (tx D, tx T, true) := by
  have hi : stringslite_Index.f (tx (D ++ c :: T)) (⟨#[c]⟩ : ByteArray) = some (D.length : Int) := by
    show some (Lib.indexByte (tx (D ++ c :: T)).data.toList c) = _
    rw [tx_data, idx_at D T c h]
  have hz : (tx (D ++ c :: T)).size = D.length + 1 + T.length := by rw [tx_size]; simp; omega
  have h1 : ((⟨#[c]⟩ : ByteArray).size : Int) = 1 := rfl
  have e : wrap64 ((D.length : Int) + 1) = ((D.length + 1 : Nat) : Int) := by rw [wrap_nat (by omega) (by omega)]; rfl
  unfold strings_Cut.f stringslite_Cut.f
  rw [hi]
  simp only [Option.bind_some]
  rw [h1, e, if_pos (by omega), if_pos (by omega), if_pos (by omega), if_pos (by omega), if_pos (by omega), Int.toNat_natCast, Int.toNat_natCast, hz, tx_extract, tx_extract]
  simp only [Option.bind_some]
  congr 2
  · rw [List.drop_zero, List.take_left]
  · congr 1
    rw [List.take_of_length_le (by simp; omega), show D ++ c :: T = (D ++ [c]) ++ T by simp, show D.length + 1 = (D ++ [c]).length by simp, List.drop_left]
theorem cutB_no (c : UInt8) (D : List UInt8) (h : c ∉ D) : strings_Cut.f (tx D) (⟨#[c]⟩ : ByteArray) = some (tx D, (⟨#[]⟩ : ByteArray), false) := by
  have hi : stringslite_Index.f (tx D) (⟨#[c]⟩ : ByteArray) = some (-1) := by
    show some (Lib.indexByte (tx D).data.toList c) = _
    rw [tx_data, idx_no D c h]
  unfold strings_Cut.f stringslite_Cut.f
  rw [hi]
  simp only [Option.bind_some]
  rw [if_neg (by omega)]
  rfl
/-- A list without a byte, or with it: up to the first, and behind. -/
theorem split_at (c : UInt8) (l : List UInt8) : c ∉ l ∨ ∃ D T, l = D ++ c :: T ∧ c ∉ D := by
  induction l with
  | nil => exact .inl (by simp)
  | cons a l ih =>
    by_cases ha : a = c
    · exact .inr ⟨[], l, by rw [ha]; rfl, by simp⟩
    · rcases ih with h | ⟨D, T, e, h⟩
      · exact .inl (by simp; exact ⟨fun e => ha e.symm, h⟩)
      · exact .inr ⟨a :: D, T, by rw [e]; rfl, by simp; exact ⟨fun e => ha e.symm, h⟩⟩
end Go.Proofs.YtmeffcjjfiebdaaDoor.Q
