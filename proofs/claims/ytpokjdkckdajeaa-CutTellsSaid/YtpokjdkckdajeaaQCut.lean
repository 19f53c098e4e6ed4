/- cut.Two and cut.One, and the reference's CutTwo and CutOne, tell the same of every string that a row admits. -/
import Derived.Test.YtpokjdkckdajeaaWPureBase
import Derived.Test.YtpokjdkckdajeaaFStringsIndexByte
import Derived.Test.YtpokjdkckdajeaaFCutTwo
import Derived.Test.YtpokjdkckdajeaaFCreelrefCutTwo
import Derived.Test.YtpokjdkckdajeaaFCutOne
import Derived.Test.YtpokjdkckdajeaaFCreelrefCutOne
import Derived.Test.YtpokjdkckdajeaaQHas
namespace Go.Proofs.Ytpokjdkckdajeaa.Q
set_option linter.unusedVariables false
set_option linter.unusedSimpArgs false
open Go.RowKit Go.Proofs.Ytpokjdkckdajeaa.All Go.Proofs.YtpokjdkckdajeaaW.PrintWords Go.Proofs.YtpokjdkckdajeaaW.PrintLast Go.Proofs.YtpokjdkckdajeaaW.PrintMore Go.Proofs.YtpokjdkckdajeaaW.PureBase

-- USES Has
-- FN strings_IndexByte cut_Two creelref_CutTwo cut_One creelref_CutOne
theorem get_bt (s : ByteArray) (i : Nat) (h : i < s.size) : ((s.get! i).toNat : Int) = bt s i := by
  unfold bt
  rw [dif_pos (by simpa using h)]
  show ((s.get! i).toNat : Int) = _
  simp [ByteArray.get!, getElem!_pos, h]
  rfl
/-- A rune's further bytes are no ASCII, and lie in the string. -/
theorem cont_byte (s : ByteArray) (p j : Nat) (h1 : 1 ≤ j) (h2 : j < (Utf8.decode s p).2) : 128 ≤ (s.get! (p + j)).toNat ∧ p + j < s.size := by
  have key : ∀ k, (decide (p + k < s.size) && (s.get! (p + k)).toNat / 64 == 2) = true → 128 ≤ (s.get! (p + k)).toNat ∧ p + k < s.size := by
    intro k hk
    simp only [Bool.and_eq_true, decide_eq_true_eq, beq_iff_eq] at hk
    exact ⟨by omega, hk.1⟩
  simp only [Utf8.decode] at h2
  split at h2
  · simp only at h2; omega
  · split at h2
    · rename_i hc
      simp only [Bool.and_eq_true] at hc
      split at h2
      · simp only at h2
        obtain rfl : j = 1 := by omega
        exact key 1 (by simpa using hc.2)
      · simp only at h2; omega
    · split at h2
      · rename_i hc
        simp only [Bool.and_eq_true] at hc
        split at h2
        · simp only at h2
          have : j = 1 ∨ j = 2 := by omega
          rcases this with rfl | rfl
          · exact key 1 (by simpa using hc.1.2)
          · exact key 2 (by simpa using hc.2)
        · simp only at h2; omega
      · split at h2
        · rename_i hc
          simp only [Bool.and_eq_true] at hc
          split at h2
          · simp only at h2
            have : j = 1 ∨ j = 2 ∨ j = 3 := by omega
            rcases this with rfl | rfl | rfl
            · exact key 1 (by simpa using hc.1.1.2)
            · exact key 2 (by simpa using hc.1.2)
            · exact key 3 (by simpa using hc.2)
          · simp only at h2; omega
        · simp only at h2; omega

abbrev TwoR := ByteArray × ByteArray × Int
def noTwo : TwoR := ((⟨#[]⟩ : ByteArray), (⟨#[]⟩ : ByteArray), 1)
/-- The first place that may be one, byte by byte. -/
def ff (s : ByteArray) : Nat → Nat → TwoR
  | 0, _ => noTwo
  | d + 1, i => if cut_Two.here s i = true then (s.extract 0 i, s.extract (i + 1) s.size, 0) else ff s d (i + 1)
theorem ff_skip (s : ByteArray) : ∀ (m d i : Nat), (∀ j, j < m → cut_Two.here s (i + j) = false) → m ≤ d → ff s d i = ff s (d - m) (i + m)
  | 0, d, i, _, _ => rfl
  | m + 1, 0, i, _, h => by omega
  | m + 1, d + 1, i, h, hd => by
    have h0 := h 0 (by omega)
    rw [Nat.add_zero] at h0
    have ih := ff_skip s m d (i + 1) (fun j hj => by have := h (j + 1) (by omega); rwa [show i + 1 + j = i + (j + 1) from by omega]) (by omega)
    rw [show d + 1 - (m + 1) = d - m from by omega, show i + (m + 1) = i + 1 + m from by omega, ← ih]
    simp only [ff]
    rw [if_neg (by rw [h0]; simp)]
theorem ff_none (s : ByteArray) (d i : Nat) (h : ∀ j, j < d → cut_Two.here s (i + j) = false) : ff s d i = noTwo := by
  rw [ff_skip s d d i h (Nat.le_refl _), Nat.sub_self]; rfl

theorem two_loop (s : ByteArray) (n : Nat) : ∀ (i k : Nat), i ≤ s.size → s.size - i ≤ n → s.size - i < k → cut_Two.l0 k s i = some (ff s (s.size - i) i) := by
  induction n with
  | zero =>
    intro i k hi hn hk
    obtain ⟨k, rfl⟩ : ∃ m, k = m + 1 := ⟨k - 1, by omega⟩
    simp only [cut_Two.l0]
    rw [if_neg (by omega), show s.size - i = 0 from by omega]; rfl
  | succ n ih =>
    intro i k hi hn hk
    obtain ⟨k, rfl⟩ : ∃ m, k = m + 1 := ⟨k - 1, by omega⟩
    simp only [cut_Two.l0]
    by_cases hlt : i < s.size
    · rw [if_pos hlt]
      obtain ⟨d, hd⟩ : ∃ d, s.size - i = d + 1 := ⟨s.size - i - 1, by omega⟩
      rw [hd]
      by_cases hh : cut_Two.here s i = true
      · rw [if_pos hh]; simp only [ff]; rw [if_pos hh]
      · rw [if_neg hh]
        have hw := Lib.width_pos s i
        obtain ⟨K, hK⟩ : ∃ K, (Utf8.decode s i).2 = K := ⟨_, rfl⟩
        have hc : ∀ j, 1 ≤ j → j < K → 128 ≤ (s.get! (i + j)).toNat ∧ i + j < s.size := fun j h1 h2 => cont_byte s i j h1 (by rw [hK]; exact h2)
        rw [hK] at hw ⊢
        have hle : i + K ≤ s.size := by
          by_cases h1 : K = 1
          · omega
          · have := (hc (K - 1) (by omega) (by omega)).2
            omega
        rw [ih (i + K) k hle (by omega) (by omega), ← hd, ff_skip s K (s.size - i) i ?_ (by omega), show s.size - i - K = s.size - (i + K) from by omega]
        intro j hj
        by_cases h0 : j = 0
        · subst h0; simpa using hh
        · obtain ⟨h1, h2⟩ := hc j (by omega) hj
          have e := get_bt s (i + j) h2
          unfold cut_Two.here
          rw [show (bt s ((i + j : Nat) : Int) == 47) = false from beq_eq_false_iff_ne.2 (by omega)]
          simp
    · rw [if_neg hlt, show s.size - i = 0 from by omega]; rfl

theorem here_not (s : ByteArray) (i : Nat) (h : i = 0 ∨ 155 < i ∨ s.size ≤ i + 1) : cut_Two.here s i = false := by
  unfold cut_Two.here
  rcases h with h | h | h
  · rw [decide_eq_false (show ¬ 0 < i by omega)]; simp
  · rw [decide_eq_false (show ¬ i ≤ 155 by omega)]; simp
  · rw [decide_eq_false (show ¬ i + 1 < s.size by omega)]; simp

theorem ref_loop (s : ByteArray) (hs : s.size ≤ 140737488351232) (n : Nat) : ∀ (i k : Nat), 1 ≤ i → i ≤ 156 → 156 - i = n → 2 * n + 3 ≤ k → creelref_CutTwo.l0 k s i = some (ff s (s.size - i) i) := by
  induction n with
  | zero =>
    intro i k h1 h2 hn hk
    obtain ⟨k, rfl⟩ : ∃ m, k = m + 2 := ⟨k - 2, by omega⟩
    have hi : i = 156 := by omega
    subst hi
    simp only [creelref_CutTwo.l0]
    rw [ff_none s _ _ (fun j _ => here_not s _ (by omega))]
    by_cases c : ((156 : Nat) : Int) < wrap64 ((s.size : Int) - 1)
    · rw [if_pos c, decide_eq_false (by omega)]; simp [creelref_CutTwo.j2]; rfl
    · rw [if_neg c]; simp [creelref_CutTwo.j2]; rfl
  | succ n ih =>
    intro i k h1 h2 hn hk
    obtain ⟨k, rfl⟩ : ∃ m, k = m + 2 := ⟨k - 2, by omega⟩
    have hw1 : wrap64 ((s.size : Int) - 1) = (s.size : Int) - 1 := wrap_is (by omega) (by omega)
    simp only [creelref_CutTwo.l0]
    rw [hw1]
    by_cases c : (i : Int) < (s.size : Int) - 1
    · rw [if_pos c, decide_eq_true (by omega)]
      simp only [creelref_CutTwo.j2, if_true]
      rw [if_pos (show (0 : Int) ≤ i by omega), if_pos (show (i : Int) < s.size by omega)]
      have w1 : wrap64 ((i : Int) + 1) = ((i + 1 : Nat) : Int) := by rw [wrap_is (by omega) (by omega)]; omega
      have w2 : wrap64 ((s.size : Int) - (i : Int)) = (s.size : Int) - i := wrap_is (by omega) (by omega)
      have w3 : wrap64 ((s.size : Int) - (i : Int) - 1) = (s.size : Int) - i - 1 := wrap_is (by omega) (by omega)
      rw [w1, w2, w3]
      obtain ⟨d, hd⟩ : ∃ d, s.size - i = d + 1 := ⟨s.size - i - 1, by omega⟩
      have next : ff s (s.size - (i + 1)) (i + 1) = ff s d (i + 1) := by rw [show s.size - (i + 1) = d from by omega]
      by_cases c2 : bt s (i : Int) = 47
      · rw [if_pos c2]
        by_cases c3 : (s.size : Int) - (i : Int) - 1 ≤ 100
        · rw [if_pos c3, if_pos (by omega), if_pos (by omega), if_pos (by omega), hd]
          simp only [ff]
          rw [if_pos]
          · simp
          · unfold cut_Two.here
            rw [c2, decide_eq_true (show 0 < i by omega), decide_eq_true (show i ≤ 155 by omega), decide_eq_true (show i + 1 < s.size by omega), decide_eq_true (show s.size ≤ i + 101 by omega)]; rfl
        · rw [if_neg c3, ih (i + 1) k (by omega) (by omega) (by omega) (by omega), next, hd]
          simp only [ff]
          rw [if_neg]
          unfold cut_Two.here
          rw [decide_eq_false (show ¬ s.size ≤ i + 101 by omega)]; simp
      · rw [if_neg c2, ih (i + 1) k (by omega) (by omega) (by omega) (by omega), next, hd]
        simp only [ff]
        rw [if_neg]
        unfold cut_Two.here
        rw [show (bt s (i : Int) == 47) = false from beq_eq_false_iff_ne.2 c2]; simp
    · rw [if_neg c]
      simp only [creelref_CutTwo.j2, Bool.false_eq_true, if_false]
      rw [ff_none s _ _ (fun j _ => here_not s _ (by omega))]; rfl

theorem two_same (s : ByteArray) (hs : s.size ≤ 140737488351232) : ∃ r, Ev (fun k => cut_Two.f k s) r ∧ Ev (fun k => creelref_CutTwo.f k s) r := by
  obtain ⟨K, hK⟩ := has_ev s 0 (by omega) (by omega) hs
  replace hK : ∀ k, K ≤ k → creelref_has.f k s 0 = some (s.data.toList.contains 0) := hK
  have hi : (Lib.indexByte s.data.toList ((0 : Int).toNat.toUInt8) ≥ 0) ↔ s.data.toList.contains 0 = true := by
    have := index_ge s.data.toList ((0 : Int).toNat.toUInt8)
    rw [← decide_eq_true_iff (p := Lib.indexByte s.data.toList ((0 : Int).toNat.toUInt8) ≥ 0), this]; rfl
  by_cases h0 : s.toList = ([] : List UInt8)
  · refine ⟨((⟨#[]⟩ : ByteArray), (⟨#[]⟩ : ByteArray), 3), ⟨0, fun k _ => ?_⟩, ⟨1, fun k hk => ?_⟩⟩
    · show cut_Two.f k s = _
      unfold cut_Two.f
      rw [if_pos (by omega), if_pos h0]
    · obtain ⟨k, rfl⟩ : ∃ m, k = m + 1 := ⟨k - 1, by omega⟩
      show creelref_CutTwo.f (k + 1) s = _
      unfold creelref_CutTwo.f
      rw [if_pos h0]; simp [creelref_CutTwo.j0]
  · by_cases hz : s.data.toList.contains 0 = true
    · refine ⟨((⟨#[]⟩ : ByteArray), (⟨#[]⟩ : ByteArray), 3), ⟨0, fun k _ => ?_⟩, ⟨K + 1, fun k hk => ?_⟩⟩
      · show cut_Two.f k s = _
        unfold cut_Two.f strings_IndexByte.f
        rw [if_pos (by omega), if_neg h0]; simp only [Option.bind_some]; rw [if_pos (hi.2 hz)]
      · obtain ⟨k, rfl⟩ : ∃ m, k = m + 1 := ⟨k - 1, by omega⟩
        show creelref_CutTwo.f (k + 1) s = _
        unfold creelref_CutTwo.f
        rw [if_neg h0, hK _ (by omega)]; simp only [Option.bind_some, hz]; simp [creelref_CutTwo.j0]
    · have hz' : s.data.toList.contains 0 = false := by simpa using hz
      have e1 : ∀ k, s.size < k → cut_Two.f k s = some (if (s.size : Int) ≤ 100 then ((⟨#[]⟩ : ByteArray), s, 0) else ff s s.size 0) := by
        intro k hk
        unfold cut_Two.f strings_IndexByte.f
        rw [if_pos (by omega), if_neg h0]; simp only [Option.bind_some]; rw [if_neg (fun h => hz (hi.1 h))]
        by_cases c : (s.size : Int) ≤ 100
        · rw [if_pos c, if_pos c]
        · rw [if_neg c, if_neg c, two_loop s s.size 0 k (by omega) (by omega) (by omega)]; rfl
      have e2 : ∀ k, K + 400 ≤ k → creelref_CutTwo.f k s = some (if (s.size : Int) ≤ 100 then ((⟨#[]⟩ : ByteArray), s, 0) else ff s s.size 0) := by
        intro k hk
        obtain ⟨k, rfl⟩ : ∃ m, k = m + 1 := ⟨k - 1, by omega⟩
        unfold creelref_CutTwo.f
        rw [if_neg h0, hK _ (by omega)]; simp only [Option.bind_some, hz', creelref_CutTwo.j0, Bool.false_eq_true, if_false]
        by_cases c : (s.size : Int) ≤ 100
        · rw [if_pos c, if_pos c]
        · rw [if_neg c, if_neg c]
          have := ref_loop s hs 155 1 k (by omega) (by omega) (by omega) (by omega)
          rw [show ((1 : Nat) : Int) = 1 from rfl] at this
          rw [this, ff_skip s 1 s.size 0 (fun j hj => here_not s _ (by omega)) (by omega)]
      exact ⟨_, ⟨s.size + 1, fun k hk => e1 k (by omega)⟩, ⟨K + 400, fun k hk => e2 k hk⟩⟩

theorem one_same (p n : ByteArray) : ∃ r, Ev (fun k => cut_One.f k p n) r ∧ Ev (fun k => creelref_CutOne.f k p n) r := by
  by_cases hn : n.toList = ([] : List UInt8)
  · have hn0 : n.size = 0 := by rw [← size_list, ← toList_data, hn]; rfl
    refine ⟨((⟨#[]⟩ : ByteArray), 1), ⟨1, fun k hk => ?_⟩, ⟨1, fun k hk => ?_⟩⟩
    · obtain ⟨k, rfl⟩ : ∃ m, k = m + 1 := ⟨k - 1, by omega⟩
      show cut_One.f (k + 1) p n = _
      unfold cut_One.f
      rw [if_pos (by omega)]; simp [cut_One.j0]
    · obtain ⟨k, rfl⟩ : ∃ m, k = m + 1 := ⟨k - 1, by omega⟩
      show creelref_CutOne.f (k + 1) p n = _
      unfold creelref_CutOne.f
      rw [if_pos hn]; simp [creelref_CutOne.j0]
  · have hn0 : 1 ≤ n.size := by
      rcases Nat.eq_zero_or_pos n.size with h | h
      · rw [← size_list] at h
        exact absurd (by rw [toList_data]; exact List.eq_nil_of_length_eq_zero h) hn
      · exact h
    by_cases h1 : (n.size : Int) > 100
    · refine ⟨((⟨#[]⟩ : ByteArray), 1), ⟨1, fun k hk => ?_⟩, ⟨1, fun k hk => ?_⟩⟩
      · obtain ⟨k, rfl⟩ : ∃ m, k = m + 1 := ⟨k - 1, by omega⟩
        show cut_One.f (k + 1) p n = _
        unfold cut_One.f
        rw [if_neg (by omega), if_pos h1]; simp [cut_One.j0]
      · obtain ⟨k, rfl⟩ : ∃ m, k = m + 1 := ⟨k - 1, by omega⟩
        show creelref_CutOne.f (k + 1) p n = _
        unfold creelref_CutOne.f
        rw [if_neg hn, if_pos h1]; simp [creelref_CutOne.j0]
    · by_cases h2 : (p.size : Int) > 155
      · refine ⟨((⟨#[]⟩ : ByteArray), 1), ⟨1, fun k hk => ?_⟩, ⟨1, fun k hk => ?_⟩⟩
        · obtain ⟨k, rfl⟩ : ∃ m, k = m + 1 := ⟨k - 1, by omega⟩
          show cut_One.f (k + 1) p n = _
          unfold cut_One.f
          rw [if_neg (by omega), if_neg h1, decide_eq_true h2]; simp [cut_One.j0]
        · obtain ⟨k, rfl⟩ : ∃ m, k = m + 1 := ⟨k - 1, by omega⟩
          show creelref_CutOne.f (k + 1) p n = _
          unfold creelref_CutOne.f
          rw [if_neg hn, if_neg h1, decide_eq_true h2]; simp [creelref_CutOne.j0]
      · have hpn : ((p ++ (⟨#[47]⟩ : ByteArray)) ++ n).size = p.size + 1 + n.size := by simp [ByteArray.size_append]; rfl
        have hp1 : (p ++ (⟨#[47]⟩ : ByteArray)).size = p.size + 1 := by simp [ByteArray.size_append]; rfl
        by_cases hp : p.toList = ([] : List UInt8)
        · obtain ⟨t, ⟨K1, a1⟩, ⟨K2, a2⟩⟩ := two_same n (by omega)
          replace a1 : ∀ k, K1 ≤ k → cut_Two.f k n = some t := a1
          replace a2 : ∀ k, K2 ≤ k → creelref_CutTwo.f k n = some t := a2
          refine ⟨if t.2.2 = 0 then (if t.1.toList = p.toList then (if t.2.1.toList = n.toList then (n, 0) else ((⟨#[]⟩ : ByteArray), 3)) else ((⟨#[]⟩ : ByteArray), 3)) else ((⟨#[]⟩ : ByteArray), 3), ⟨K1 + 1, fun k hk => ?_⟩, ⟨K2 + 1, fun k hk => ?_⟩⟩
          · obtain ⟨k, rfl⟩ : ∃ m, k = m + 1 := ⟨k - 1, by omega⟩
            show cut_One.f (k + 1) p n = _
            unfold cut_One.f
            rw [if_neg (by omega), if_neg h1, decide_eq_false h2]
            simp only [cut_One.j0, Bool.false_eq_true, if_false]
            rw [if_pos hp, a1 k (by omega)]; simp only [Option.bind_some]
            repeat' split
            all_goals rfl
          · obtain ⟨k, rfl⟩ : ∃ m, k = m + 1 := ⟨k - 1, by omega⟩
            show creelref_CutOne.f (k + 1) p n = _
            unfold creelref_CutOne.f
            rw [if_neg hn, if_neg h1, decide_eq_false h2]
            simp only [creelref_CutOne.j0, Bool.false_eq_true, if_false]
            rw [if_pos (by omega), if_pos (by omega), if_pos hp, a2 k (by omega)]; simp only [Option.bind_some]
            repeat' split
            all_goals rfl
        · obtain ⟨t, ⟨K1, a1⟩, ⟨K2, a2⟩⟩ := two_same ((p ++ (⟨#[47]⟩ : ByteArray)) ++ n) (by omega)
          replace a1 : ∀ k, K1 ≤ k → cut_Two.f k ((p ++ (⟨#[47]⟩ : ByteArray)) ++ n) = some t := a1
          replace a2 : ∀ k, K2 ≤ k → creelref_CutTwo.f k ((p ++ (⟨#[47]⟩ : ByteArray)) ++ n) = some t := a2
          refine ⟨if t.2.2 = 0 then (if t.1.toList = p.toList then (if t.2.1.toList = n.toList then ((p ++ (⟨#[47]⟩ : ByteArray)) ++ n, 0) else ((⟨#[]⟩ : ByteArray), 3)) else ((⟨#[]⟩ : ByteArray), 3)) else ((⟨#[]⟩ : ByteArray), 3), ⟨K1 + 1, fun k hk => ?_⟩, ⟨K2 + 1, fun k hk => ?_⟩⟩
          · obtain ⟨k, rfl⟩ : ∃ m, k = m + 1 := ⟨k - 1, by omega⟩
            show cut_One.f (k + 1) p n = _
            unfold cut_One.f
            rw [if_neg (by omega), if_neg h1, decide_eq_false h2]
            simp only [cut_One.j0, Bool.false_eq_true, if_false]
            rw [if_neg hp, if_pos (by omega), if_pos (by omega), a1 k (by omega)]; simp only [Option.bind_some]
            repeat' split
            all_goals rfl
          · obtain ⟨k, rfl⟩ : ∃ m, k = m + 1 := ⟨k - 1, by omega⟩
            show creelref_CutOne.f (k + 1) p n = _
            unfold creelref_CutOne.f
            rw [if_neg hn, if_neg h1, decide_eq_false h2]
            simp only [creelref_CutOne.j0, Bool.false_eq_true, if_false]
            rw [if_pos (by omega), if_pos (by omega), if_neg hp, a2 k (by omega)]; simp only [Option.bind_some]
            repeat' split
            all_goals rfl
end Go.Proofs.Ytpokjdkckdajeaa.Q
