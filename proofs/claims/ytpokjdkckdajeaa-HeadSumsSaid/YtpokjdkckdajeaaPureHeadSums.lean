/- The plain law of HeadSums: the functions that print.sh wrote for it answer true at every input that the row admits; no condition of its own. -/
import Derived.Test.YtpokjdkckdajeaaPHeadSumsx1
namespace Go.Proofs.Ytpokjdkckdajeaa.Pure
open Go.RowKit Go.Proofs.Ytpokjdkckdajeaa.PHeadSums Go.Proofs.YtpokjdkckdajeaaW.PrintWords Go.Proofs.YtpokjdkckdajeaaW.PrintLast

-- BODY
/-- How many bytes of the sum's own field are behind. -/
def past (i : Int) : Int := if i < 148 then 0 else if i < 156 then i - 148 else 8

theorem wrap_small {x : Int} (h0 : 0 ≤ x) (h : x ≤ 1000000) : wrap64 x = x := by unfold wrap64; omega

theorem heads_same (s : ByteArray) (hs : s.size = 512) (d : Nat) : ∀ (k : Nat) (x i : Int), 0 ≤ i → i ≤ 512 → (512 : Int) - i = d → d < k → 256 ≤ x → x ≤ 256 + 255 * i →
    ∃ r, head_Sum.l0 k s x 512 i = some (r, 0) ∧ creelref_HeadSum.l0 k s (x - 256 + 32 * past i) i = some (r, 0) := by
  induction d with
  | zero =>
    intro k x i h0 h1 hd hk hx hx'
    obtain ⟨k, rfl⟩ : ∃ m, k = m + 1 := ⟨k - 1, by omega⟩
    obtain rfl : i = 512 := by omega
    refine ⟨x, ?_, ?_⟩
    · simp only [head_Sum.l0]; rw [if_neg (by omega)]
    · simp only [creelref_HeadSum.l0]; rw [if_neg (by omega)]
      have e : x - 256 + 32 * past 512 = x := by simp [past]
      rw [e]
  | succ d ih =>
    intro k x i h0 h1 hd hk hx hx'
    obtain ⟨k, rfl⟩ : ∃ m, k = m + 1 := ⟨k - 1, by omega⟩
    have hlt : i < 512 := by omega
    have hsz : i < (s.size : Int) := by omega
    have hw : wrap64 (i + 1) = i + 1 := wrap_small (by omega) (by omega)
    have hb := bt_range s i
    have hbw : wrap64 (bt s i) = bt s i := wrap_small (by omega) (by omega)
    by_cases c1 : i < 148
    · obtain ⟨r, h, h'⟩ := ih k (x + bt s i) (i + 1) (by omega) (by omega) (by omega) (by omega) (by omega) (by omega)
      refine ⟨r, ?_, ?_⟩
      · simp only [head_Sum.l0]; rw [if_pos hlt, if_pos c1, if_pos h0, if_pos hsz, hw, hbw, wrap_small (by omega) (by omega)]; exact h
      · simp only [creelref_HeadSum.l0]; rw [if_pos hlt, if_neg (by omega), if_pos h0, if_pos hsz, hw, hbw, wrap_small (by unfold past; split <;> (try split) <;> omega) (by unfold past; split <;> (try split) <;> omega)]
        rw [← h']; congr 1; unfold past; split <;> split <;> (try split) <;> omega
    · by_cases c2 : i < 156
      · obtain ⟨r, h, h'⟩ := ih k x (i + 1) (by omega) (by omega) (by omega) (by omega) (by omega) (by omega)
        refine ⟨r, ?_, ?_⟩
        · simp only [head_Sum.l0]; rw [if_pos hlt, if_neg c1, if_neg (by omega), hw]; exact h
        · simp only [creelref_HeadSum.l0]; rw [if_pos hlt, if_pos (by omega), if_pos c2, hw, wrap_small (by unfold past; split <;> (try split) <;> omega) (by unfold past; split <;> (try split) <;> omega)]
          rw [← h']; congr 1; unfold past; split <;> (try split) <;> (try split) <;> (try split) <;> omega
      · obtain ⟨r, h, h'⟩ := ih k (x + bt s i) (i + 1) (by omega) (by omega) (by omega) (by omega) (by omega) (by omega)
        refine ⟨r, ?_, ?_⟩
        · simp only [head_Sum.l0]; rw [if_pos hlt, if_neg c1, if_pos (by omega), if_pos h0, if_pos hsz, hw, hbw, wrap_small (by omega) (by omega)]; exact h
        · simp only [creelref_HeadSum.l0]; rw [if_pos hlt, if_pos (by omega), if_neg c2, if_pos h0, if_pos hsz, hw, hbw, wrap_small (by unfold past; split <;> (try split) <;> omega) (by unfold past; split <;> (try split) <;> omega)]
          rw [← h']; congr 1; unfold past; split <;> (try split) <;> (try split) <;> (try split) <;> omega

theorem HeadSums : creellaw_HeadSums.Pure := by
  intro s _
  by_cases hs : s.size = 512
  · obtain ⟨r, h, h'⟩ := heads_same s hs 512 513 256 0 (by omega) (by omega) (by omega) (by omega) (by omega) (by omega)
    have e : (256 : Int) - 256 + 32 * past 0 = 0 := by simp [past]
    rw [e] at h'
    have hi : (s.size : Int) = 512 := by omega
    refine ⟨513, ?_⟩
    unfold creellaw_HeadSums.f head_Sum.f creelref_HeadSum.f
    rw [if_pos hi, if_pos hi, hi, h]; simp only [Option.bind_some]; rw [h']; simp
  · refine ⟨0, ?_⟩
    unfold creellaw_HeadSums.f head_Sum.f creelref_HeadSum.f
    rw [if_neg (by omega), if_neg (by omega)]; simp

end Go.Proofs.Ytpokjdkckdajeaa.Pure
