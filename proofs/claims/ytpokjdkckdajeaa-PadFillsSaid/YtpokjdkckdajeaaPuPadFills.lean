/- The plain law of PadFills: what the walks compute answers true at every input that the row admits. No condition of its own. -/
import Derived.Test.YtpokjdkckdajeaaGPadFills
import Derived.Test.YtpokjdkckdajeaaWPureBase
namespace Go.Proofs.Ytpokjdkckdajeaa.PuPadFills
set_option linter.unusedVariables false
set_option linter.unusedSimpArgs false
open Go.RowKit Go.Proofs.Ytpokjdkckdajeaa.All Go.Proofs.Ytpokjdkckdajeaa.GPadFills Go.Proofs.YtpokjdkckdajeaaW.PrintWords Go.Proofs.YtpokjdkckdajeaaW.PrintLast Go.Proofs.YtpokjdkckdajeaaW.PrintMore Go.Proofs.YtpokjdkckdajeaaW.PureBase

theorem blocks_same (n : Int) (hw : (Lit.int .i64 n).wf = true) : ∃ k e, pad_Blocks.f n = some (k, e) ∧ Ev (fun r => creelref_PadBlocks.f r n) (k, e) := by
  by_cases c : 0 ≤ n ∧ n ≤ 8589934591
  · obtain ⟨c0, c1⟩ := c
    refine ⟨(n + 511) / 512, 0, ?_, 1, fun k hk => ?_⟩
    · unfold pad_Blocks.f
      rw [if_neg (by omega), if_neg (by omega), wrap_nat (x := n + 512) (by omega) (by omega), wrap_nat (x := n + 512 - 1) (by omega) (by omega), Int.tdiv_eq_ediv_of_nonneg (by omega), wrap_nat (by omega) (by omega), show n + 512 - 1 = n + 511 from by omega]
    · obtain ⟨k, rfl⟩ : ∃ m, k = m + 1 := ⟨k - 1, by omega⟩
      show creelref_PadBlocks.f (k + 1) n = _
      unfold creelref_PadBlocks.f
      rw [if_neg (by omega), decide_eq_false (by omega)]
      simp only [creelref_PadBlocks.j0, Bool.false_eq_true, if_false]
      rw [Int.tdiv_eq_ediv_of_nonneg c0, wrap_nat (x := n / 512) (by omega) (by omega), wrap_nat (x := n / 512 * 512) (by omega) (by omega), wrap_nat (x := n / 512 + 1) (by omega) (by omega)]
      by_cases h : n / 512 * 512 < n
      · rw [if_pos h, show n / 512 + 1 = (n + 511) / 512 from by omega]
      · rw [if_neg h, show n / 512 = (n + 511) / 512 from by omega]
  · refine ⟨0, 4, ?_, 1, fun k hk => ?_⟩
    · unfold pad_Blocks.f
      by_cases h : n < 0
      · rw [if_pos h]
      · rw [if_neg h, if_pos (by omega)]
    · obtain ⟨k, rfl⟩ : ∃ m, k = m + 1 := ⟨k - 1, by omega⟩
      show creelref_PadBlocks.f (k + 1) n = _
      unfold creelref_PadBlocks.f
      by_cases h : n < 0
      · rw [if_pos h]; simp [creelref_PadBlocks.j0]
      · rw [if_neg h, decide_eq_true (by omega)]; simp [creelref_PadBlocks.j0]

theorem fill_loop (d : Nat) : ∀ (k : Nat) (l : List Int), d < k → ((512 - ((l.length : Int) % 512)) % 512) = d → l.length + d < 140737488355328 → creelref_PadFill.l0 k l = some (l ++ List.replicate d 0) := by
  induction d with
  | zero =>
    intro k l hk hd hl
    obtain ⟨k, rfl⟩ : ∃ m, k = m + 1 := ⟨k - 1, by omega⟩
    simp only [creelref_PadFill.l0]
    rw [if_pos (by omega)]; simp
  | succ d ih =>
    intro k l hk hd hl
    obtain ⟨k, rfl⟩ : ∃ m, k = m + 1 := ⟨k - 1, by omega⟩
    simp only [creelref_PadFill.l0]
    rw [if_neg (by omega), if_pos (by omega), ih k (l ++ [0]) (by omega) (by simp only [List.length_append, List.length_singleton]; omega) (by simp only [List.length_append, List.length_singleton]; omega)]
    rw [List.append_assoc]; rfl

theorem fill_same (l : List Int) (h : l.length ≤ 140737488351232) : ∃ r, pad_Fill.f l = some r ∧ Ev (fun k => creelref_PadFill.f k l) r := by
  obtain ⟨d, hd⟩ : ∃ d : Nat, ((512 - ((l.length : Int) % 512)) % 512) = (d : Int) := ⟨((512 - ((l.length : Int) % 512)) % 512).toNat, by omega⟩
  refine ⟨l ++ List.replicate d 0, ?_, 600, fun k hk => ?_⟩
  · unfold pad_Fill.f
    rw [if_pos (by simp only [List.length_nil]; omega)]
    simp only [Option.bind_some, List.nil_append]
    rw [hd, if_pos (by omega), if_pos (by omega)]; simp
  · show creelref_PadFill.f k l = _
    unfold creelref_PadFill.f
    simp only [Option.bind_some, List.nil_append, List.length_nil]
    rw [if_pos (by omega), fill_loop d k l (by omega) hd (by omega)]

theorem pure : Pure := by
  intro n l gn ⟨gl, _⟩
  obtain ⟨m, e, a1, K1, b1⟩ := blocks_same n gn
  obtain ⟨r, a2, K2, b2⟩ := fill_same l (by omega)
  have c1 := b1 _ (Nat.le_max_left K1 K2)
  have c2 := b2 _ (Nat.le_max_right K1 K2)
  dsimp only at c1 c2
  refine ⟨max K1 K2, ?_⟩
  unfold creellaw_PadFills.f
  rw [a1, a2, c1, c2]
  simp [creellaw_sameBytes.f]
end Go.Proofs.Ytpokjdkckdajeaa.PuPadFills
