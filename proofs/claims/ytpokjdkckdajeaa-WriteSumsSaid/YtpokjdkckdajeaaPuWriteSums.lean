/- The plain law of WriteSums: what the walks compute answers true at every input that the row admits. No condition of its own. -/
import Derived.Test.YtpokjdkckdajeaaGWriteSums
import Derived.Test.YtpokjdkckdajeaaWPureBase
namespace Go.Proofs.Ytpokjdkckdajeaa.PuWriteSums
set_option linter.unusedVariables false
set_option linter.unusedSimpArgs false
open Go.RowKit Go.Proofs.Ytpokjdkckdajeaa.All Go.Proofs.Ytpokjdkckdajeaa.GWriteSums Go.Proofs.YtpokjdkckdajeaaW.PrintWords Go.Proofs.YtpokjdkckdajeaaW.PrintLast Go.Proofs.YtpokjdkckdajeaaW.PrintMore Go.Proofs.YtpokjdkckdajeaaW.PureBase

theorem sums_same (l : List Int) (hb : l.length ≤ 140737488351232) (d : Nat) : ∀ (k : Nat) (x i : Int), 0 ≤ i → i ≤ l.length → (l.length : Int) - i = d → d < k →
    ∃ r, write_Sum.l0 k x l (l.length : Int) i = some r ∧ creelref_ArcSum.l0 k l x i = some r := by
  induction d with
  | zero =>
    intro k x i h0 h1 hd hk
    obtain ⟨k, rfl⟩ : ∃ m, k = m + 1 := ⟨k - 1, by omega⟩
    refine ⟨x, ?_, ?_⟩
    · simp only [write_Sum.l0]; rw [if_neg (by omega)]
    · simp only [creelref_ArcSum.l0]; rw [if_neg (by omega)]
  | succ d ih =>
    intro k x i h0 h1 hd hk
    obtain ⟨k, rfl⟩ : ∃ m, k = m + 1 := ⟨k - 1, by omega⟩
    have hlt : i < (l.length : Int) := by omega
    have hw : wrap64 (i + 1) = i + 1 := by unfold wrap64; omega
    obtain ⟨r, h, h'⟩ := ih k (Int.tmod (wrap64 ((wrap64 (x * 31)) + (wrap64 (rd l i)))) 1000003) (i + 1) (by omega) (by omega) (by omega) (by omega)
    refine ⟨r, ?_, ?_⟩
    · simp only [write_Sum.l0]; rw [if_pos hlt, if_pos h0, if_pos hlt, hw]; exact h
    · simp only [creelref_ArcSum.l0]; rw [if_pos hlt, if_pos h0, hw]; exact h'

theorem pure : Pure := by
  intro l ⟨hb, _⟩
  obtain ⟨r, h, h'⟩ := sums_same l (by omega) l.length (l.length + 1) 1 0 (by omega) (by omega) (by omega) (by omega)
  refine ⟨l.length + 1, ?_⟩
  unfold creellaw_WriteSums.f write_Sum.f creelref_ArcSum.f
  rw [h]; simp only [Option.bind_some]; rw [h']; simp
end Go.Proofs.Ytpokjdkckdajeaa.PuWriteSums
