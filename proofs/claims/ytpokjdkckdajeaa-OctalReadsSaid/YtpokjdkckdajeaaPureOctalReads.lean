/- The plain law of OctalReads: the functions that print.sh wrote for it answer true at every input that the row admits; no condition of its own. -/
import Derived.Test.YtpokjdkckdajeaaPOctalReadsx1
namespace Go.Proofs.Ytpokjdkckdajeaa.Pure
open Go.RowKit Go.Proofs.Ytpokjdkckdajeaa.POctalReads Go.Proofs.YtpokjdkckdajeaaW.PrintWords Go.Proofs.YtpokjdkckdajeaaW.PrintLast

-- BODY
theorem wrap_small {x : Int} (h0 : 0 ≤ x) (h : x ≤ 1000000000000) : wrap64 x = x := by unfold wrap64; omega

theorem power_is (d : Nat) : ∀ (k : Nat) (n x i : Int), 0 ≤ i → i ≤ n → n - i = d → d < k → n ≤ 11 → 0 ≤ x → x * 8 ^ d ≤ 8589934592 →
    creelref_power.l0 k n x i = some (x * 8 ^ d) := by
  induction d with
  | zero =>
    intro k n x i h0 h1 hd hk hn hx hb
    obtain ⟨k, rfl⟩ : ∃ m, k = m + 1 := ⟨k - 1, by omega⟩
    simp only [creelref_power.l0]; rw [if_neg (by omega)]; simp
  | succ d ih =>
    intro k n x i h0 h1 hd hk hn hx hb
    obtain ⟨k, rfl⟩ : ∃ m, k = m + 1 := ⟨k - 1, by omega⟩
    have e : x * 8 ^ (d + 1) = (x * 8) * 8 ^ d := by rw [Int.pow_succ]; rw [Int.mul_assoc, Int.mul_comm 8]
    rw [e] at hb ⊢
    have hp : (1 : Int) ≤ 8 ^ d := by have : (0 : Int) < 8 ^ d := Int.pow_pos (by omega); omega
    have hx8 : x * 8 ≤ 8589934592 := Int.le_trans (by have := Int.mul_le_mul_of_nonneg_left hp (show (0 : Int) ≤ x * 8 by omega); simpa using this) hb
    simp only [creelref_power.l0]; rw [if_pos (by omega), wrap_small (by omega) (by omega), wrap_small (by omega) (by omega)]
    exact ih k n (x * 8) (i + 1) (by omega) (by omega) (by omega) (by omega) hn (by omega) hb

theorem most_is (n : Int) (h2 : 2 ≤ n) (h12 : n ≤ 12) : ∃ m, octal_Most.f n = some (m, 0) := by
  unfold octal_Most.f
  rw [if_neg (by omega), if_neg (by omega), wrap_small (x := n - 1) (by omega) (by omega), wrap_small (x := 3 * (n - 1)) (by omega) (by omega), if_pos (by omega)]
  exact ⟨_, rfl⟩

/-- What is read so far, by either: h by Horner's rule, and the same by powers. -/
theorem reads_same (s : ByteArray) (n : Int) (hn : (s.size : Int) = n) (h2 : 2 ≤ n) (h12 : n ≤ 12) (d : Nat) : ∀ (k : Nat) (x i : Int), 0 ≤ i → i ≤ n - 1 → n - 1 - i = d → d + 13 < k →
    0 ≤ x → (x + 1) * 8 ^ d ≤ 8589934592 →
    ∃ r, octal_Read.l0 k s x (n - 1) i = some r ∧ creelref_OctalOf.l0 k s (x * 8 ^ d) i = some r := by
  induction d with
  | zero =>
    intro k x i h0 h1 hd hk hx hb
    obtain ⟨k, rfl⟩ : ∃ m, k = m + 1 := ⟨k - 1, by omega⟩
    have hw : wrap64 (n - 1) = n - 1 := wrap_small (by omega) (by omega)
    simp only [octal_Read.l0, creelref_OctalOf.l0]; rw [hn, hw, if_neg (show ¬ i < n - 1 by omega), if_neg (show ¬ i < n - 1 by omega), if_pos (show 0 ≤ n - 1 by omega), if_pos (show 0 ≤ n - 1 by omega), if_pos (show n - 1 < n by omega), if_pos (show n - 1 < n by omega)]
    by_cases c : bt s (n - 1) = 0
    · rw [if_pos c, if_pos c]; exact ⟨_, rfl, by simp⟩
    · rw [if_neg c, if_neg c]; exact ⟨_, rfl, rfl⟩
  | succ d ih =>
    intro k x i h0 h1 hd hk hx hb
    obtain ⟨k, rfl⟩ : ∃ m, k = m + 1 := ⟨k - 1, by omega⟩
    have hw : wrap64 (n - 1) = n - 1 := wrap_small (by omega) (by omega)
    have hw2 : wrap64 (n - 2) = n - 2 := wrap_small (by omega) (by omega)
    have hwi : wrap64 (n - 2 - i) = (d : Int) := by rw [wrap_small (by omega) (by omega)]; omega
    have hi1 : wrap64 (i + 1) = i + 1 := wrap_small (by omega) (by omega)
    have hbt := bt_range s i
    have hbw : wrap64 (bt s i) = bt s i := wrap_small (by omega) (by omega)
    simp only [octal_Read.l0, creelref_OctalOf.l0]; rw [hn, hw, hw2, hwi, hi1, hbw]; rw [if_pos (show i < n - 1 by omega), if_pos (show i < n - 1 by omega), if_pos h0, if_pos h0, if_pos (show i < n by omega), if_pos (show i < n by omega)]
    by_cases c1 : bt s i < 48
    · rw [if_pos c1, if_pos c1]; exact ⟨_, rfl, rfl⟩
    · rw [if_neg c1, if_neg c1]
      by_cases c2 : bt s i > 55
      · rw [if_pos c2, if_pos c2]; exact ⟨_, rfl, rfl⟩
      · rw [if_neg c2, if_neg c2]
        have hp : (1 : Int) ≤ 8 ^ d := by have : (0 : Int) < 8 ^ d := Int.pow_pos (by omega); omega
        have e8 : (8 : Int) ^ (d + 1) = 8 * 8 ^ d := by rw [Int.pow_succ, Int.mul_comm]
        have hp1 : (8 : Int) ^ (d + 1) ≤ 8589934592 := by
          have : (1 : Int) * 8 ^ (d + 1) ≤ (x + 1) * 8 ^ (d + 1) := Int.mul_le_mul_of_nonneg_right (by omega) (Int.le_of_lt (Int.pow_pos (by omega)))
          omega
        have hpd : (8 : Int) ^ d ≤ 8589934592 := by omega
        have hxb : x + 1 ≤ 8589934592 := by
          have : (x + 1) * 1 ≤ (x + 1) * 8 ^ (d + 1) := Int.mul_le_mul_of_nonneg_left (by omega) (by omega)
          omega
        obtain ⟨v, hv⟩ : ∃ v, bt s i - 48 = v := ⟨_, rfl⟩
        have hv0 : 0 ≤ v := by omega
        have hv7 : v ≤ 7 := by omega
        have hm : (8 * x + v + 1) * 8 ^ d ≤ 8589934592 := by
          have : (8 * x + v + 1) * 8 ^ d ≤ (8 * (x + 1)) * 8 ^ d := Int.mul_le_mul_of_nonneg_right (by omega) (by omega)
          have e : (8 * (x + 1)) * 8 ^ d = (x + 1) * 8 ^ (d + 1) := by rw [e8, Int.mul_comm 8 (x + 1), Int.mul_assoc]
          omega
        obtain ⟨r, h, h'⟩ := ih k (8 * x + v) (i + 1) (by omega) (by omega) (by omega) (by omega) (by omega) hm
        have hpow : creelref_power.f k (d : Int) = some (8 ^ d) := by
          have := power_is d k d 1 0 (by omega) (by omega) (by omega) (by omega) (by omega) (by omega) (by omega)
          unfold creelref_power.f; rw [this]; simp
        have hvd0 : 0 ≤ v * 8 ^ d := Int.mul_nonneg hv0 (by omega)
        have hvd : v * 8 ^ d ≤ 8589934592 := by
          have : v * 8 ^ d ≤ (8 * x + v + 1) * 8 ^ d := Int.mul_le_mul_of_nonneg_right (by omega) (by omega)
          omega
        have hxd0 : 0 ≤ x * 8 ^ (d + 1) := Int.mul_nonneg hx (by omega)
        have hxd : x * 8 ^ (d + 1) ≤ 8589934592 := by
          have : x * 8 ^ (d + 1) ≤ (x + 1) * 8 ^ (d + 1) := Int.mul_le_mul_of_nonneg_right (by omega) (by omega)
          omega
        refine ⟨r, ?_, ?_⟩
        · rw [hv, show v % 256 = v from by omega, wrap_small (x := 8 * x) (by omega) (by omega), wrap_small (by omega) (by omega)]; exact h
        · rw [hpow]; simp only [Option.bind_some]
          rw [hv, wrap_small hv0 (by omega), wrap_small hvd0 (by omega), wrap_small (by omega) (by omega), ← h']
          congr 1
          rw [Int.add_mul, e8, ← Int.mul_assoc, Int.mul_comm 8 x]

theorem OctalReads : creellaw_OctalReads.Pure := by
  intro s hs
  by_cases c : 2 ≤ (s.size : Int) ∧ (s.size : Int) ≤ 12
  · obtain ⟨c2, c12⟩ := c
    obtain ⟨m, hm⟩ := most_is s.size c2 c12
    have hd : ((1 : Int)) * 8 ^ (s.size - 1) ≤ 8589934592 := by
      have : s.size = 2 ∨ s.size = 3 ∨ s.size = 4 ∨ s.size = 5 ∨ s.size = 6 ∨ s.size = 7 ∨ s.size = 8 ∨ s.size = 9 ∨ s.size = 10 ∨ s.size = 11 ∨ s.size = 12 := by omega
      rcases this with h | h | h | h | h | h | h | h | h | h | h <;> rw [h] <;> decide
    obtain ⟨r, h, h'⟩ := reads_same s s.size rfl c2 c12 (s.size - 1) 40 0 0 (by omega) (by omega) (by omega) (by omega) (by omega) (by simpa using hd)
    refine ⟨41, ?_⟩
    have e1 : octal_Read.f 41 s = some r := by
      unfold octal_Read.f
      rw [hm]; simp only [Option.bind_some, if_true]
      rw [wrap_small (by omega) (by omega)]
      exact octal_Read.mono_l 40 _ _ _ _ r h
    have e2 : creelref_OctalOf.f 41 s = some r := by
      unfold creelref_OctalOf.f
      rw [if_neg (by omega), show decide ((s.size : Int) > 12) = false from decide_eq_false (by omega)]
      simp only [creelref_OctalOf.j0]
      rw [if_neg (by simp)]; simpa using h'
    unfold creellaw_OctalReads.f
    rw [e1]; simp only [Option.bind_some]; rw [e2]; simp
  · refine ⟨41, ?_⟩
    have e1 : octal_Read.f 41 s = some (0, 4) := by
      unfold octal_Read.f octal_Most.f
      by_cases c2 : (s.size : Int) < 2
      · rw [if_pos c2]; rfl
      · rw [if_neg c2, if_pos (by omega)]; rfl
    have e2 : creelref_OctalOf.f 41 s = some (0, 4) := by
      unfold creelref_OctalOf.f
      by_cases c2 : (s.size : Int) < 2
      · rw [if_pos c2]; rfl
      · rw [if_neg c2, show decide ((s.size : Int) > 12) = true from decide_eq_true (by omega)]; rfl
    unfold creellaw_OctalReads.f
    rw [e1]; simp only [Option.bind_some]; rw [e2]; rfl

end Go.Proofs.Ytpokjdkckdajeaa.Pure
