/- The plain law of OctalWrites: the functions that print.sh wrote for it answer true at every input that the row admits; no condition of its own. -/
import Derived.Test.YtpokjdkckdajeaaPOctalWritesx1
namespace Go.Proofs.Ytpokjdkckdajeaa.Pure
open Go.RowKit Go.Proofs.Ytpokjdkckdajeaa.POctalWrites Go.Proofs.YtpokjdkckdajeaaW.PrintWords Go.Proofs.YtpokjdkckdajeaaW.PrintLast

-- BODY
theorem wrap_small {x : Int} (h0 : 0 ≤ x) (h : x ≤ 1000000000000) : wrap64 x = x := by unfold wrap64; omega

theorem wid (w : Int) (h2 : 2 ≤ w) (h12 : w ≤ 12) : w = 2 ∨ w = 3 ∨ w = 4 ∨ w = 5 ∨ w = 6 ∨ w = 7 ∨ w = 8 ∨ w = 9 ∨ w = 10 ∨ w = 11 ∨ w = 12 := by omega

theorem most_same (w : Int) (h2 : 2 ≤ w) (h12 : w ≤ 12) : ∃ m, octal_Most.f w = some (m, 0) ∧ creelref_OctalMost.f 30 w = some (m, 0) ∧ 0 ≤ m ∧ m ≤ 8589934592 := by
  rcases wid w h2 h12 with rfl | rfl | rfl | rfl | rfl | rfl | rfl | rfl | rfl | rfl | rfl 
  · exact ⟨7, by decide +kernel, by decide +kernel, by decide, by decide⟩
  · exact ⟨63, by decide +kernel, by decide +kernel, by decide, by decide⟩
  · exact ⟨511, by decide +kernel, by decide +kernel, by decide, by decide⟩
  · exact ⟨4095, by decide +kernel, by decide +kernel, by decide, by decide⟩
  · exact ⟨32767, by decide +kernel, by decide +kernel, by decide, by decide⟩
  · exact ⟨262143, by decide +kernel, by decide +kernel, by decide, by decide⟩
  · exact ⟨2097151, by decide +kernel, by decide +kernel, by decide, by decide⟩
  · exact ⟨16777215, by decide +kernel, by decide +kernel, by decide, by decide⟩
  · exact ⟨134217727, by decide +kernel, by decide +kernel, by decide, by decide⟩
  · exact ⟨1073741823, by decide +kernel, by decide +kernel, by decide, by decide⟩
  · exact ⟨8589934591, by decide +kernel, by decide +kernel, by decide, by decide⟩

theorem digit_is (d : Int) (h0 : 0 ≤ d) (h7 : d ≤ 7) : (⟨#[48, 49, 50, 51, 52, 53, 54, 55]⟩ : ByteArray).extract d.toNat (d + 1).toNat = strOfNums [48 + d] := by
  have : d = 0 ∨ d = 1 ∨ d = 2 ∨ d = 3 ∨ d = 4 ∨ d = 5 ∨ d = 6 ∨ d = 7 := by omega
  rcases this with rfl | rfl | rfl | rfl | rfl | rfl | rfl | rfl <;> decide +kernel

theorem size_strOf (D : List Int) : (strOfNums D).size = D.length := by simp [strOfNums, ByteArray.size]

theorem app_strOf (D E : List Int) : strOfNums D ++ strOfNums E = strOfNums (D ++ E) := by
  apply ByteArray.ext
  simp [strOfNums]

theorem set_last (m : Nat) (D : List Int) (v : Int) : (List.replicate (m + 1) (0 : Int) ++ D).set m v = List.replicate m 0 ++ v :: D := by
  rw [List.replicate_succ', List.append_assoc, List.set_append_right _ _ (by simp)]
  simp

theorem writes_same (w : Int) (h2 : 2 ≤ w) (h12 : w ≤ 12) (m : Nat) : ∀ (k : Nat) (n : Int) (D : List Int), 0 ≤ n → n ≤ 8589934592 → (m : Int) + D.length = w - 1 → m < k →
    ∃ r, octal_Write.l0 k n (List.replicate m 0 ++ (D ++ [0])) ((m : Int) - 1) = some (r, 0) ∧ creelref_OctalText.l0 k n w (strOfNums D) = some (r, 0) := by
  have hw1 : wrap64 (w - 1) = w - 1 := wrap_small (by omega) (by omega)
  induction m with
  | zero =>
    intro k n D h0 hn hm hk
    obtain ⟨k, rfl⟩ : ∃ m, k = m + 1 := ⟨k - 1, by omega⟩
    refine ⟨strOfNums (D ++ [0]), ?_, ?_⟩
    · simp only [octal_Write.l0]; rw [if_neg (by omega)]; simp
    · simp only [creelref_OctalText.l0]; rw [size_strOf, hw1, if_neg (by omega), if_pos (by omega)]
      rw [show (⟨#[0]⟩ : ByteArray) = strOfNums [0] from rfl, app_strOf]
  | succ m ih =>
    intro k n D h0 hn hm hk
    obtain ⟨k, rfl⟩ : ∃ m, k = m + 1 := ⟨k - 1, by omega⟩
    have hd0 : 0 ≤ n % 8 := by omega
    have hd7 : n % 8 ≤ 7 := by omega
    have ht : Int.tmod n 8 = n % 8 := Int.tmod_eq_emod_of_nonneg h0
    have hq : Int.tdiv n 8 = n / 8 := Int.tdiv_eq_ediv_of_nonneg h0
    obtain ⟨r, h, h'⟩ := ih k (n / 8) ((48 + n % 8) :: D) (by omega) (by omega) (by simp only [List.length_cons]; omega) (by omega)
    refine ⟨r, ?_, ?_⟩
    · simp only [octal_Write.l0]
      rw [if_pos (by omega), if_pos (by omega), if_pos (by simp only [List.length_append, List.length_replicate]; omega), ht, hq, wrap_small (by omega) (by omega)]
      rw [show (((m + 1 : Nat) : Int) - 1).toNat = m from by omega, set_last, show (48 + n % 8 % 256) % 256 = 48 + n % 8 from by omega]
      have e : wrap64 (((m + 1 : Nat) : Int) - 1 - 1) = (m : Int) - 1 := by unfold wrap64; omega
      rw [e]; exact h
    · simp only [creelref_OctalText.l0]
      rw [ht, hq, size_strOf, hw1, wrap_small (x := n % 8 + 1) (by omega) (by omega), wrap_small (x := n / 8) (by omega) (by omega), digit_is _ hd0 hd7, if_pos (by omega), if_pos hd0, if_pos (by omega), if_pos (by omega), if_pos (by rw [size_strOf]; simp only [List.length_cons, List.length_nil]; omega), app_strOf]
      exact h'

theorem OctalWrites : creellaw_OctalWrites.Pure := by
  intro n w _ _
  by_cases c : 2 ≤ w ∧ w ≤ 12
  · obtain ⟨c2, c12⟩ := c
    obtain ⟨m, hm, hm', hm0, hm1⟩ := most_same w c2 c12
    by_cases cn : 0 ≤ n ∧ n ≤ m
    · obtain ⟨r, h, h'⟩ := writes_same w c2 c12 (w - 1).toNat 29 n [] (by omega) (by omega) (by simp only [List.length_nil]; omega) (by omega)
      have e1 : octal_Write.f 30 n w = some (r, 0) := by
        unfold octal_Write.f
        rw [hm]; simp only [Option.bind_some, if_true]
        rw [if_neg (by omega), decide_eq_false (show ¬ n > m by omega)]
        simp only [octal_Write.j0]
        rw [if_neg (by simp), if_pos (by omega), if_pos (by omega), wrap_small (by omega) (by omega)]
        have e : List.replicate w.toNat (0 : Int) = List.replicate (w - 1).toNat 0 ++ ([] ++ [0]) := by
          rw [show w.toNat = (w - 1).toNat + 1 from by omega, List.replicate_succ']; rfl
        rw [e, show w - 2 = ((w - 1).toNat : Int) - 1 from by omega]; exact h
      have e2 : creelref_OctalText.f 30 n w = some (r, 0) := by
        unfold creelref_OctalText.f
        rw [hm']; simp only [Option.bind_some, if_true]
        rw [if_neg (by omega), decide_eq_false (show ¬ n > m by omega)]
        simp only [creelref_OctalText.j0]
        rw [if_neg (by simp)]; exact h'
      refine ⟨30, ?_⟩
      unfold creellaw_OctalWrites.f
      rw [hm, e1, hm', e2]; simp
    · have e1 : octal_Write.f 30 n w = some ((⟨#[]⟩ : ByteArray), 4) := by
        unfold octal_Write.f
        rw [hm]; simp only [Option.bind_some, if_true]
        by_cases cz : n < 0
        · rw [if_pos cz]; rfl
        · rw [if_neg cz, decide_eq_true (show n > m by omega)]; rfl
      have e2 : creelref_OctalText.f 30 n w = some ((⟨#[]⟩ : ByteArray), 4) := by
        unfold creelref_OctalText.f
        rw [hm']; simp only [Option.bind_some, if_true]
        by_cases cz : n < 0
        · rw [if_pos cz]; rfl
        · rw [if_neg cz, decide_eq_true (show n > m by omega)]; rfl
      refine ⟨30, ?_⟩
      unfold creellaw_OctalWrites.f
      rw [hm, e1, hm', e2]; simp
  · have hm : octal_Most.f w = some (0, 4) := by
      unfold octal_Most.f
      by_cases c2 : w < 2
      · rw [if_pos c2]
      · rw [if_neg c2, if_pos (by omega)]
    have hm' : creelref_OctalMost.f 30 w = some (0, 4) := by
      unfold creelref_OctalMost.f
      by_cases c2 : w < 2
      · rw [if_pos c2]
      · rw [if_neg c2, if_pos (by omega)]
    have e1 : octal_Write.f 30 n w = some ((⟨#[]⟩ : ByteArray), 4) := by unfold octal_Write.f; rw [hm]; rfl
    have e2 : creelref_OctalText.f 30 n w = some ((⟨#[]⟩ : ByteArray), 4) := by unfold creelref_OctalText.f; rw [hm']; rfl
    refine ⟨30, ?_⟩
    unfold creellaw_OctalWrites.f
    rw [hm, e1, hm', e2]; simp

end Go.Proofs.Ytpokjdkckdajeaa.Pure
