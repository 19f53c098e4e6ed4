/- The plain law of PaxFinds: what the walks compute answers true at every input that the row admits. No condition of its own. -/
import Derived.Test.YtpokjdkckdajeaaGPaxFinds
import Derived.Test.YtpokjdkckdajeaaWPureBase
namespace Go.Proofs.Ytpokjdkckdajeaa.PuPaxFinds
set_option linter.unusedVariables false
set_option linter.unusedSimpArgs false
open Go.RowKit Go.Proofs.Ytpokjdkckdajeaa.All Go.Proofs.Ytpokjdkckdajeaa.GPaxFinds Go.Proofs.YtpokjdkckdajeaaW.PrintWords Go.Proofs.YtpokjdkckdajeaaW.PrintLast Go.Proofs.YtpokjdkckdajeaaW.PrintMore Go.Proofs.YtpokjdkckdajeaaW.PureBase

theorem finds_same (l : List S55) (key : ByteArray) (hb : l.length ≤ 140737488351232) (d : Nat) : ∀ (k : Nat) (i : Int), 0 ≤ i → i ≤ l.length → (l.length : Int) - i = d → d < k →
    ∃ r, pax_Find.l0 k key l (l.length : Int) i = some r ∧ creelref_PaxFind.l0 k l key i = some r := by
  induction d with
  | zero =>
    intro k i h0 h1 hd hk
    obtain ⟨k, rfl⟩ : ∃ m, k = m + 1 := ⟨k - 1, by omega⟩
    refine ⟨((⟨#[]⟩ : ByteArray), false), ?_, ?_⟩
    · simp only [pax_Find.l0]; rw [if_neg (by omega)]
    · simp only [creelref_PaxFind.l0]; rw [if_neg (by omega)]
  | succ d ih =>
    intro k i h0 h1 hd hk
    obtain ⟨k, rfl⟩ : ∃ m, k = m + 1 := ⟨k - 1, by omega⟩
    have hlt : i < (l.length : Int) := by omega
    have hw : wrap64 (i + 1) = i + 1 := by unfold wrap64; omega
    simp only [pax_Find.l0, creelref_PaxFind.l0]
    rw [if_pos hlt, if_pos hlt, if_pos h0, if_pos h0, if_pos hlt, hw]
    by_cases c : ((rd_T55 l i).f0).toList = key.toList
    · rw [if_pos c, if_pos c]; exact ⟨_, rfl, rfl⟩
    · rw [if_neg c, if_neg c]; exact ih k (i + 1) (by omega) (by omega) (by omega) (by omega)

theorem pure : Pure := by
  intro l key ⟨hb, _⟩ _
  obtain ⟨r, h, h'⟩ := finds_same l key (by omega) l.length (l.length + 1) 0 (by omega) (by omega) (by omega) (by omega)
  refine ⟨l.length + 1, ?_⟩
  unfold creellaw_PaxFinds.f pax_Find.f creelref_PaxFind.f
  rw [h]; simp only [Option.bind_some]; rw [h']; simp
end Go.Proofs.Ytpokjdkckdajeaa.PuPaxFinds
