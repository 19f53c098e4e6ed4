/- Digits of numbers, and texts as lists of bytes. No conditions. -/
import Derived.Test.YtcipaajdmpkdfaaDoorWPureBase
import Derived.Test.YtcipaajdmpkdfaaDoorK
namespace Go.Proofs.YtcipaajdmpkdfaaDoor.Q
set_option linter.unusedVariables false
set_option linter.unusedSimpArgs false
open Go.RowKit Go.Proofs.YtcipaajdmpkdfaaDoor.All Go.Proofs.YtcipaajdmpkdfaaDoorW.PrintWords Go.Proofs.YtcipaajdmpkdfaaDoorW.PrintLast Go.Proofs.YtcipaajdmpkdfaaDoorW.PrintMore Go.Proofs.YtcipaajdmpkdfaaDoorW.PureBase

open Go.Lib in
/-- The m last digits. -/
def P (m u : Nat) : List UInt8 := (List.range m).map fun t => dg u (m - 1 - t)
theorem P_succ (m u : Nat) : P (m + 1) u = Lib.dg u m :: P m u := by
  unfold P
  rw [List.range_succ_eq_map, List.map_cons, List.map_map]
  congr 1
  apply List.map_congr_left
  intro t ht
  have := List.mem_range.1 ht
  show Lib.dg u (m + 1 - 1 - (t + 1)) = Lib.dg u (m - 1 - t)
  rw [show m + 1 - 1 - (t + 1) = m - 1 - t by omega]
theorem dg_mod (u m j : Nat) (h : j < m) : Lib.dg (u % 10 ^ m) j = Lib.dg u j := by
  unfold Lib.dg
  have : u % 10 ^ m / 10 ^ j % 10 = u / 10 ^ j % 10 := by
    obtain ⟨d, rfl⟩ : ∃ d, m = j + (d + 1) := ⟨m - j - 1, by omega⟩
    rw [Nat.pow_add, Nat.mod_mul_right_div_self, Nat.pow_succ, Nat.mul_comm (10 ^ d) 10, Nat.mod_mul_right_mod]
  rw [this]
theorem P_mod (m u : Nat) : P m (u % 10 ^ m) = P m u := by
  unfold P
  apply List.map_congr_left
  intro t ht
  have := List.mem_range.1 ht
  exact dg_mod u m _ (by omega)
theorem dg_val (u j : Nat) : (Lib.dg u j).toNat = 48 + u / 10 ^ j % 10 := by
  unfold Lib.dg
  have : u / 10 ^ j % 10 < 10 := Nat.mod_lt _ (by omega)
  first
    | (rw [UInt8.toNat_ofNat']; omega)
    | (simp; omega)
theorem P_zero (m u : Nat) (hu : u < 10 ^ m) (h : ∀ x ∈ P m u, x = 48) : u = 0 := by
  induction m generalizing u with
  | zero => simpa using hu
  | succ m ih =>
    rw [P_succ] at h
    have h1 : Lib.dg u m = 48 := h _ (List.mem_cons_self ..)
    have h2 := dg_val u m
    rw [h1] at h2
    have h3 : (48 : UInt8).toNat = 48 := rfl
    have hp : 0 < 10 ^ m := Nat.pow_pos (by omega)
    have h4 : u / 10 ^ m < 10 := Nat.div_lt_of_lt_mul (by rw [Nat.pow_succ] at hu; exact hu)
    have h5 : u / 10 ^ m = 0 := by
      rw [Nat.mod_eq_of_lt h4, h3] at h2
      generalize u / 10 ^ m = q at h2 ⊢
      omega
    have h6 : u < 10 ^ m := by
      rcases Nat.lt_or_ge u (10 ^ m) with a | a
      · exact a
      · have := Nat.div_pos a hp; omega
    exact ih u h6 (fun x hx => h x (List.mem_cons_of_mem _ hx))
theorem P_of_zero (m : Nat) : ∀ x ∈ P m 0, x = 48 := by
  intro x hx
  unfold P at hx
  obtain ⟨t, _, rfl⟩ := List.mem_map.1 hx
  apply UInt8.toNat_inj.1
  rw [dg_val]; simp
theorem digit_cut : ∀ d : Fin 10, (⟨#[48, 49, 50, 51, 52, 53, 54, 55, 56, 57]⟩ : ByteArray).extract d.1 (d.1 + 1) = ⟨#[UInt8.ofNat (48 + d.1)]⟩ := by decide
theorem pad_is (m u : Nat) (hm : Lib.nDigits u ≤ m) : List.replicate (m - Lib.nDigits u) (48 : UInt8) ++ Lib.decDigits u = P m u := by
  rw [Lib.decDigits_eq]
  induction m with
  | zero => have := Lib.nDigits_pos u; omega
  | succ m ih =>
    rcases Nat.lt_or_ge m (Lib.nDigits u) with h | h
    · rw [show m + 1 = Lib.nDigits u by omega, Nat.sub_self]; rfl
    · rw [show m + 1 - Lib.nDigits u = (m - Lib.nDigits u) + 1 by omega, List.replicate_succ, List.cons_append, ih h, P_succ]
      congr 1
      apply UInt8.toNat_inj.1
      rw [dg_val]
      have : u / 10 ^ m = 0 := Nat.div_eq_of_lt (Nat.lt_of_lt_of_le (Lib.lt_pow_nDigits u) (Nat.pow_le_pow_right (by omega) h))
      rw [this]; rfl
/-- A text of bytes. -/
def tx (l : List UInt8) : ByteArray := ⟨l.toArray⟩
theorem tx_data (l : List UInt8) : (tx l).data.toList = l := rfl
theorem tx_size (l : List UInt8) : (tx l).size = l.length := by simp [tx, ByteArray.size]
theorem tx_append (a : ByteArray) (l r : List UInt8) : (a ++ tx l) ++ tx r = a ++ tx (l ++ r) := by
  apply ext_list; simp [tx]
theorem dg_ne (n m : Nat) (h : 10 ^ m ≤ n) (hn : n < 10 ^ (m + 1)) : Lib.dg n m ≠ 48 := by
  intro e
  have h2 := dg_val n m
  rw [e] at h2
  have h3 : (48 : UInt8).toNat = 48 := rfl
  have hp : 0 < 10 ^ m := Nat.pow_pos (by omega)
  have h4 : n / 10 ^ m < 10 := Nat.div_lt_of_lt_mul (by rw [Nat.pow_succ] at hn; exact hn)
  have h5 := Nat.div_pos h hp
  rw [Nat.mod_eq_of_lt h4, h3] at h2
  generalize n / 10 ^ m = q at h2 h5
  omega
theorem nd_le : ∀ (m u : Nat), 1 ≤ m → u < 10 ^ m → Lib.nDigits u ≤ m
  | 0, u, h, _ => absurd h (by omega)
  | 1, u, _, h => by rw [Lib.nDigits_small (by simpa using h)]; exact Nat.le_refl _
  | m + 2, u, _, h => by
    by_cases c : u < 10
    · rw [Lib.nDigits_small c]; omega
    · rw [Lib.nDigits_big c]
      have := nd_le (m + 1) (u / 10) (by omega) (by rw [Nat.pow_succ] at h; omega)
      omega
theorem itoa_nat (u : Nat) : Lib.itoa (u : Int) = Lib.decDigits u := by unfold Lib.itoa; rw [if_neg (by omega)]; simp
theorem tx_app (l r : List UInt8) : tx l ++ tx r = tx (l ++ r) := by apply ext_list; simp [tx]
open Go.Lib in
theorem bt_at (s : ByteArray) (pre post : List UInt8) (c : UInt8) (h : s.data.toList = pre ++ c :: post) : bt s (pre.length : Int) = (c.toNat : Int) := by
  have hl : pre.length < s.size := by rw [← size_list, h]; simp
  rw [bt_eq_iff s pre.length hl _ (by omega) (by have := UInt8.toNat_lt c; omega), h]
  simp
theorem tx_extract (l : List UInt8) (a b : Nat) : (tx l).extract a b = tx ((l.take b).drop a) := by
  apply ext_list
  rw [tx_data, Lib.extract_data, tx_data, List.drop_take]
theorem list_tx (s : ByteArray) : s = tx s.data.toList := (of_list s).symm
theorem rd_step (n u m : Nat) : (10 * n + u / 10 ^ m % 10) * 10 ^ m + u % 10 ^ m = n * 10 ^ (m + 1) + u % 10 ^ (m + 1) := by
  have h : u % 10 ^ (m + 1) = u % 10 ^ m + 10 ^ m * (u / 10 ^ m % 10) := by rw [Nat.pow_succ, Nat.mod_mul]
  rw [h, Nat.pow_succ]
  generalize 10 ^ m = X
  generalize u / X % 10 = d
  generalize u % X = r
  have e1 : (10 * n + d) * X = n * (X * 10) + X * d := by
    rw [Nat.add_mul, Nat.mul_comm d X, Nat.mul_comm X 10, ← Nat.mul_assoc n 10 X, Nat.mul_comm n 10]
  omega
theorem of_tx (s : ByteArray) : tx s.data.toList = s := of_list s
theorem dg_byte (u m : Nat) : ∃ q, q < 10 ∧ u / 10 ^ m % 10 = q ∧ ((Lib.dg u m).toNat : Int) = 48 + (q : Int) := by
  refine ⟨_, Nat.mod_lt _ (by omega), rfl, ?_⟩
  rw [dg_val]
  omega
theorem P_drop (m u : Nat) : ∀ j, j ≤ m → (P m u).drop j = P (m - j) u := by
  induction m with
  | zero => intro j hj; obtain rfl : j = 0 := by omega
            rfl
  | succ m ih =>
    intro j hj
    cases j with
    | zero => rfl
    | succ j => rw [P_succ, List.drop_succ_cons, ih j (by omega), Nat.add_sub_add_right]
theorem P_len (m u : Nat) : (P m u).length = m := by simp [P]
theorem idx_at (D T : List UInt8) (c : UInt8) (h : c ∉ D) : Lib.indexByte (D ++ c :: T) c = (D.length : Int) := by
  have hge := Lib.indexByte_ge (D ++ c :: T) c
  have hat : (D ++ c :: T)[D.length]? = some c := by simp
  by_cases hn : Lib.indexByte (D ++ c :: T) c = -1
  · exact absurd hat (Lib.indexByte_none hn _)
  · obtain ⟨o, ho⟩ := Int.eq_ofNat_of_zero_le (show 0 ≤ Lib.indexByte (D ++ c :: T) c by omega)
    obtain ⟨h1, h2⟩ := Lib.indexByte_some ho
    rcases Nat.lt_trichotomy o D.length with hlt | he | hgt
    · rw [List.getElem?_append_left hlt] at h1
      exact absurd (List.mem_of_getElem? h1) h
    · rw [ho, he]
    · exact absurd hat (h2 _ hgt)
theorem idx_no (D : List UInt8) (c : UInt8) (h : c ∉ D) : Lib.indexByte D c = -1 := by
  have hge := Lib.indexByte_ge D c
  by_cases hn : Lib.indexByte D c = -1
  · exact hn
  · obtain ⟨o, ho⟩ := Int.eq_ofNat_of_zero_le (show 0 ≤ Lib.indexByte D c by omega)
    exact absurd (List.mem_of_getElem? (Lib.indexByte_some ho).1) h
theorem P_mem (m u : Nat) (c : UInt8) (hc : c ∈ P m u) : 48 ≤ c.toNat ∧ c.toNat ≤ 57 := by
  unfold P at hc
  obtain ⟨t, _, rfl⟩ := List.mem_map.1 hc
  obtain ⟨q, hq, _, hb⟩ := dg_byte u (m - 1 - t)
  omega
theorem dec_P (v : Nat) : Lib.decDigits v = P (Lib.nDigits v) v := by
  have := pad_is (Lib.nDigits v) v (Nat.le_refl _)
  rw [Nat.sub_self] at this
  simpa using this
end Go.Proofs.YtcipaajdmpkdfaaDoor.Q
