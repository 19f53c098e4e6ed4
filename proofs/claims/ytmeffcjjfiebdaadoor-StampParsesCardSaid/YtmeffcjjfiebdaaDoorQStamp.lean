/- Times as texts: stamp.Text and the reference's TimeText tell the same. No condition. -/
import Derived.Test.YtmeffcjjfiebdaaDoorWPureBase
import Derived.Test.YtmeffcjjfiebdaaDoorFStampCheck
import Derived.Test.YtmeffcjjfiebdaaDoorFStampText
import Derived.Test.YtmeffcjjfiebdaaDoorFCreelrefTimeFault
import Derived.Test.YtmeffcjjfiebdaaDoorFCreelrefTimeText
import Derived.Test.YtmeffcjjfiebdaaDoorFStrconvItoa46
import Derived.Test.YtmeffcjjfiebdaaDoorFStringsRepeat
import Derived.Test.YtmeffcjjfiebdaaDoorFStringsTrimRight
namespace Go.Proofs.YtmeffcjjfiebdaaDoor.Q
set_option linter.unusedVariables false
set_option linter.unusedSimpArgs false
open Go.RowKit Go.Proofs.YtmeffcjjfiebdaaDoor.All Go.Proofs.YtmeffcjjfiebdaaDoorW.PrintWords Go.Proofs.YtmeffcjjfiebdaaDoorW.PrintLast Go.Proofs.YtmeffcjjfiebdaaDoorW.PrintMore Go.Proofs.YtmeffcjjfiebdaaDoorW.PureBase

-- FN stamp_Check stamp_Text creelref_TimeFault creelref_TimeText strconv_Itoa_46 strings_Repeat strings_TrimRight
open Go.Lib in
/-- The m last digits. -/
def P (m u : Nat) : List UInt8 := (List.range m).map fun t => dg u (m - 1 - t)
theorem P_succ (m u : Nat) : P (m + 1) u = Lib.dg u m :: P m u := by
  unfold P
  rw [List.range_succ_eq_map, List.map_cons, List.map_map]
  congr 1
  apply List.map_congr_left
  intro t ht
  have := List.mem_range.1 ht
  show Lib.dg u (m + 1 - 1 - (t + 1)) = Lib.dg u (m - 1 - t)
  rw [show m + 1 - 1 - (t + 1) = m - 1 - t by omega]
theorem dg_mod (u m j : Nat) (h : j < m) : Lib.dg (u % 10 ^ m) j = Lib.dg u j := by
  unfold Lib.dg
  have : u % 10 ^ m / 10 ^ j % 10 = u / 10 ^ j % 10 := by
    obtain ⟨d, rfl⟩ : ∃ d, m = j + (d + 1) := ⟨m - j - 1, by omega⟩
    rw [Nat.pow_add, Nat.mod_mul_right_div_self, Nat.pow_succ, Nat.mul_comm (10 ^ d) 10, Nat.mod_mul_right_mod]
  rw [this]
theorem P_mod (m u : Nat) : P m (u % 10 ^ m) = P m u := by
  unfold P
  apply List.map_congr_left
  intro t ht
  have := List.mem_range.1 ht
  exact dg_mod u m _ (by omega)
theorem dg_val (u j : Nat) : (Lib.dg u j).toNat = 48 + u / 10 ^ j % 10 := by
  unfold Lib.dg
  have : u / 10 ^ j % 10 < 10 := Nat.mod_lt _ (by omega)
  first
    | (rw [UInt8.toNat_ofNat']; omega)
    | (simp; omega)
theorem P_zero (m u : Nat) (hu : u < 10 ^ m) (h : ∀ x ∈ P m u, x = 48) : u = 0 := by
  induction m generalizing u with
  | zero => simpa using hu
  | succ m ih =>
    rw [P_succ] at h
    have h1 : Lib.dg u m = 48 := h _ (List.mem_cons_self ..)
    have h2 := dg_val u m
    rw [h1] at h2
    have h3 : (48 : UInt8).toNat = 48 := rfl
    have hp : 0 < 10 ^ m := Nat.pow_pos (by omega)
    have h4 : u / 10 ^ m < 10 := Nat.div_lt_of_lt_mul (by rw [Nat.pow_succ] at hu; exact hu)
    have h5 : u / 10 ^ m = 0 := by
      rw [Nat.mod_eq_of_lt h4, h3] at h2
      generalize u / 10 ^ m = q at h2 ⊢
      omega
    have h6 : u < 10 ^ m := by
      rcases Nat.lt_or_ge u (10 ^ m) with a | a
      · exact a
      · have := Nat.div_pos a hp; omega
    exact ih u h6 (fun x hx => h x (List.mem_cons_of_mem _ hx))
theorem P_of_zero (m : Nat) : ∀ x ∈ P m 0, x = 48 := by
  intro x hx
  unfold P at hx
  obtain ⟨t, _, rfl⟩ := List.mem_map.1 hx
  apply UInt8.toNat_inj.1
  rw [dg_val]; simp
theorem trimR_cons (x : UInt8) (l : List UInt8) : Lib.trimRightB (x :: l) 48 = if Lib.trimRightB l 48 = [] then (if x = 48 then [] else [x]) else x :: Lib.trimRightB l 48 := by
  unfold Lib.trimRightB
  rw [List.reverse_cons, List.dropWhile_append]
  by_cases h : l.reverse.dropWhile (· == 48) = []
  · rw [h]
    by_cases hx : x = 48
    · subst hx; simp
    · have : (x == 48) = false := by simpa using hx
      simp [this, hx]
  · have h' : (l.reverse.dropWhile (· == 48)).isEmpty = false := by simpa using h
    rw [h']
    have h'' : ¬ (l.reverse.dropWhile (· == 48)).reverse = [] := by simpa using h
    rw [if_neg h'']
    simp
theorem trimR_nil (l : List UInt8) : Lib.trimRightB l 48 = [] ↔ ∀ x ∈ l, x = 48 := by
  induction l with
  | nil => simp [Lib.trimRightB]
  | cons a l ih =>
    rw [trimR_cons]
    by_cases h : Lib.trimRightB l 48 = []
    · rw [if_pos h]
      have := ih.1 h
      by_cases ha : a = 48
      · rw [if_pos ha]; simp [ha]; exact this
      · rw [if_neg ha]; simp [ha]
    · rw [if_neg h]
      have := fun e => h (ih.2 e)
      simp
      intro _
      exact Classical.byContradiction fun ne => this fun x hx => Classical.byContradiction fun h' => ne ⟨x, hx, h'⟩
theorem digit_cut : ∀ d : Fin 10, (⟨#[48, 49, 50, 51, 52, 53, 54, 55, 56, 57]⟩ : ByteArray).extract d.1 (d.1 + 1) = ⟨#[UInt8.ofNat (48 + d.1)]⟩ := by decide
theorem pad_is (m u : Nat) (hm : Lib.nDigits u ≤ m) : List.replicate (m - Lib.nDigits u) (48 : UInt8) ++ Lib.decDigits u = P m u := by
  rw [Lib.decDigits_eq]
  induction m with
  | zero => have := Lib.nDigits_pos u; omega
  | succ m ih =>
    rcases Nat.lt_or_ge m (Lib.nDigits u) with h | h
    · rw [show m + 1 = Lib.nDigits u by omega, Nat.sub_self]; rfl
    · rw [show m + 1 - Lib.nDigits u = (m - Lib.nDigits u) + 1 by omega, List.replicate_succ, List.cons_append, ih h, P_succ]
      congr 1
      apply UInt8.toNat_inj.1
      rw [dg_val]
      have : u / 10 ^ m = 0 := Nat.div_eq_of_lt (Nat.lt_of_lt_of_le (Lib.lt_pow_nDigits u) (Nat.pow_le_pow_right (by omega) h))
      rw [this]; rfl
/-- A text of bytes. -/
def tx (l : List UInt8) : ByteArray := ⟨l.toArray⟩
theorem tx_data (l : List UInt8) : (tx l).data.toList = l := rfl
theorem tx_size (l : List UInt8) : (tx l).size = l.length := by simp [tx, ByteArray.size]
theorem tx_append (a : ByteArray) (l r : List UInt8) : (a ++ tx l) ++ tx r = a ++ tx (l ++ r) := by
  apply ext_list; simp [tx]
theorem trimR_len (l : List UInt8) : (Lib.trimRightB l 48).length ≤ l.length := by
  unfold Lib.trimRightB
  rw [List.length_reverse]
  have := (List.dropWhile_suffix (l := l.reverse) (fun x => x == 48)).length_le
  simpa using this
theorem step (k n m U : Nat) (a : ByteArray) (hU : U = 10 ^ m) (h0 : 0 < n) (hU1 : 1 ≤ U) (hU2 : U ≤ 100000000) (hn : n < 10 * U) (ha : a.size < 100000) :
    creelref_TimeText.l0 (k + 1) (n : Int) a (U : Int) = creelref_TimeText.l0 k ((n % U : Nat) : Int) (a ++ tx [Lib.dg n m]) (wrap64 (Int.tdiv (U : Int) 10)) := by
  have hq : n / U < 10 := Nat.div_lt_of_lt_mul (by rw [Nat.mul_comm]; exact hn)
  obtain ⟨q, hqd⟩ : ∃ q, n / U = q := ⟨_, rfl⟩
  rw [hqd] at hq
  have e0 : Int.tdiv (n : Int) (U : Int) = (q : Int) := by rw [← hqd]; rfl
  have e1 : wrap64 (Int.tdiv (n : Int) (U : Int)) = (q : Int) := by
    rw [e0]
    exact wrap_nat (by omega) (by omega)
  have e2 : wrap64 ((q : Int) + 1) = ((q + 1 : Nat) : Int) := by clear e1 e0; rw [wrap_nat (by omega) (by omega)]; omega
  have e3 : (⟨#[48, 49, 50, 51, 52, 53, 54, 55, 56, 57]⟩ : ByteArray).extract ((q : Int)).toNat (((q + 1 : Nat) : Int)).toNat = tx [Lib.dg n m] := by
    rw [Int.toNat_natCast, Int.toNat_natCast, digit_cut ⟨q, hq⟩]
    unfold Lib.dg
    rw [← hU, hqd, Nat.mod_eq_of_lt hq]; rfl
  clear hqd
  simp only [creelref_TimeText.l0]
  refine (if_pos (show (n : Int) > 0 by clear e1 e2 e0; omega)).trans ?_
  refine (if_neg (show ¬ (U : Int) = 0 by clear e1 e2 e0; omega)).trans ?_
  rw [e1, e2, e3]
  clear e1 e2 e0
  refine (if_pos (show 0 ≤ (q : Int) by omega)).trans ?_
  refine (if_pos (show (q : Int) ≤ ((q + 1 : Nat) : Int) by omega)).trans ?_
  refine (if_pos (show ((q + 1 : Nat) : Int) ≤ 10 by omega)).trans ?_
  refine (if_pos (by rw [tx_size]; show a.size + 1 ≤ 9223372036854775807; omega)).trans ?_
  rfl
theorem time_end (k : Nat) (a : ByteArray) (u : Int) : creelref_TimeText.l0 (k + 1) ((0 : Nat) : Int) a u = some (a, 0) := by
  simp only [creelref_TimeText.l0]
  exact if_neg (by omega)
theorem dg_ne (n m : Nat) (h : 10 ^ m ≤ n) (hn : n < 10 ^ (m + 1)) : Lib.dg n m ≠ 48 := by
  intro e
  have h2 := dg_val n m
  rw [e] at h2
  have h3 : (48 : UInt8).toNat = 48 := rfl
  have hp : 0 < 10 ^ m := Nat.pow_pos (by omega)
  have h4 : n / 10 ^ m < 10 := Nat.div_lt_of_lt_mul (by rw [Nat.pow_succ] at hn; exact hn)
  have h5 := Nat.div_pos h hp
  rw [Nat.mod_eq_of_lt h4, h3] at h2
  generalize n / 10 ^ m = q at h2 h5
  omega
theorem time_loop (m : Nat) : ∀ (n k : Nat) (a : ByteArray), m ≤ 8 → 0 < n → n < 10 ^ (m + 1) → m + 3 < k → a.size + m < 1000 →
    creelref_TimeText.l0 k (n : Int) a ((10 ^ m : Nat) : Int) = some (a ++ tx (Lib.trimRightB (P (m + 1) n) 48), 0) := by
  induction m with
  | zero =>
    intro n k a hm h0 hn hk ha
    obtain ⟨k, rfl⟩ : ∃ q, k = q + 2 := ⟨k - 2, by omega⟩
    rw [step (k + 1) n 0 (10 ^ 0) a rfl h0 (by simp) (by simp) (by simpa using hn) (by omega), show n % 10 ^ 0 = 0 by simp; omega, time_end, P_succ, trimR_cons, if_pos (by simp [P, Lib.trimRightB]), if_neg (dg_ne n 0 (by simp; omega) hn)]
  | succ m ih =>
    intro n k a hm h0 hn hk ha
    obtain ⟨k, rfl⟩ : ∃ q, k = q + 2 := ⟨k - 2, by omega⟩
    have hU2 : 10 ^ (m + 1) ≤ 100000000 := Nat.le_trans (Nat.pow_le_pow_right (by omega) hm) (by decide)
    have hU1 : 1 ≤ 10 ^ (m + 1) := Nat.pow_pos (by omega)
    rw [step (k + 1) n (m + 1) (10 ^ (m + 1)) a rfl h0 hU1 hU2 (by rw [Nat.pow_succ] at hn; omega) (by omega), P_succ, trimR_cons]
    rcases Nat.eq_zero_or_pos (n % 10 ^ (m + 1)) with hz | hz
    · have hle : 10 ^ (m + 1) ≤ n := Nat.le_of_dvd h0 (Nat.dvd_of_mod_eq_zero hz)
      have ht : Lib.trimRightB (P (m + 1) n) 48 = [] := (trimR_nil _).2 (by rw [← P_mod, hz]; exact P_of_zero _)
      rw [hz, time_end, if_pos ht, if_neg (dg_ne n (m + 1) hle hn)]
    · have hlt : n % 10 ^ (m + 1) < 10 ^ (m + 1) := Nat.mod_lt _ hU1
      have ht : ¬ Lib.trimRightB (P (m + 1) n) 48 = [] := fun e => by
        have := P_zero (m + 1) (n % 10 ^ (m + 1)) hlt (by rw [P_mod]; exact (trimR_nil _).1 e)
        omega
      have hd : wrap64 (Int.tdiv ((10 ^ (m + 1) : Nat) : Int) 10) = ((10 ^ m : Nat) : Int) := by
        have e : Int.tdiv ((10 ^ (m + 1) : Nat) : Int) 10 = ((10 ^ (m + 1) / 10 : Nat) : Int) := rfl
        rw [e, Nat.pow_succ, Nat.mul_div_cancel _ (by omega)]
        have : 10 ^ m ≤ 100000000 := Nat.le_trans (Nat.pow_le_pow_right (by omega) (by omega)) hU2
        exact wrap_nat (by omega) (by omega)
      rw [hd, ih (n % 10 ^ (m + 1)) (k + 1) _ (by omega) hz hlt (by omega) (by rw [ByteArray.size_append, tx_size]; show a.size + 1 + m < 1000; omega), P_mod, if_neg ht, tx_append]
      rfl
theorem nd_le : ∀ (m u : Nat), 1 ≤ m → u < 10 ^ m → Lib.nDigits u ≤ m
  | 0, u, h, _ => absurd h (by omega)
  | 1, u, _, h => by rw [Lib.nDigits_small (by simpa using h)]; exact Nat.le_refl _
  | m + 2, u, _, h => by
    by_cases c : u < 10
    · rw [Lib.nDigits_small c]; omega
    · rw [Lib.nDigits_big c]
      have := nd_le (m + 1) (u / 10) (by omega) (by rw [Nat.pow_succ] at h; omega)
      omega
theorem itoa_nat (u : Nat) : Lib.itoa (u : Int) = Lib.decDigits u := by unfold Lib.itoa; rw [if_neg (by omega)]; simp
theorem rep48 (n : Nat) : Lib.repeatL [(48 : UInt8)] n = List.replicate n 48 := by
  induction n with
  | zero => rfl
  | succ n ih => rw [List.replicate_succ, ← ih]; rfl
theorem rep_is (n : Nat) (hn : n ≤ 9) : strings_Repeat.f (⟨#[48]⟩ : ByteArray) (n : Int) = some (tx (List.replicate n 48)) := by
  unfold strings_Repeat.f
  rw [if_pos (by
    refine ⟨by omega, by omega, ?_⟩
    have : ((⟨#[48]⟩ : ByteArray)).size = 1 := rfl
    rw [this]; omega)]
  have : Lib.repeatL (⟨#[48]⟩ : ByteArray).data.toList (n : Int).toNat = List.replicate n 48 := rep48 n
  rw [this]; rfl
theorem tx_app (l r : List UInt8) : tx l ++ tx r = tx (l ++ r) := by apply ext_list; simp [tx]
theorem trimR_f (l : List UInt8) (hs : l.length ≤ 9) : strings_TrimRight.f (tx l) (⟨#[48]⟩ : ByteArray) = some (tx (Lib.trimRightB l 48)) := by
  have e : strings_TrimRight.f (tx l) (⟨#[48]⟩ : ByteArray) = (if (48 : UInt8).toNat < 128 ∧ (tx l).size ≤ 9223372036854775807 then some ⟨(Lib.trimRightB (tx l).data.toList 48).toArray⟩ else none) := rfl
  rw [e, if_pos ⟨by decide, by rw [tx_size]; omega⟩]; rfl
/-- The text of so many seconds, and parts. -/
def txt (g : ByteArray) (v u : Nat) : ByteArray := if u = 0 then g ++ tx (Lib.decDigits v) else ((g ++ tx (Lib.decDigits v)) ++ (⟨#[46]⟩ : ByteArray)) ++ tx (Lib.trimRightB (P 9 u) 48)
theorem j_val (k : Nat) (hk : 30 < k) (v u : Nat) (g : ByteArray) (s1 : v ≤ 2199023255552) (n1 : u < 1000000000) (hg : g.size ≤ 1) : stamp_Text.j0 k (v : Int) (u : Int) g = some (txt g v u, 0) ∧ creelref_TimeText.j0 k (v : Int) (u : Int) g = some (txt g v u, 0) := by
  obtain ⟨k, rfl⟩ : ∃ q, k = q + 1 := ⟨k - 1, by omega⟩
  have hI : strconv_Itoa_46.f (v : Int) = some (tx (Lib.decDigits v)) := by
    have : strconv_Itoa_46.f (v : Int) = some (tx (Lib.itoa (v : Int))) := if_pos (by omega)
    rw [this, itoa_nat]
  have hv := nd_le 13 v (by omega) (by show v < 10000000000000; omega)
  have hl : (Lib.decDigits v).length ≤ 13 := by rw [Lib.decDigits_length]; exact hv
  have hsz : g.size + (tx (Lib.decDigits v)).size ≤ 9223372036854775807 := by rw [tx_size]; omega
  have hsz2 : (g ++ tx (Lib.decDigits v)).size + 1 ≤ 9223372036854775807 := by rw [ByteArray.size_append, tx_size]; omega
  by_cases hn : u = 0
  · subst hn
    have e : txt g v 0 = g ++ tx (Lib.decDigits v) := if_pos rfl
    rw [e]
    constructor
    · simp only [stamp_Text.j0, hI, Option.bind_some]
      rw [if_pos hsz]
      exact if_pos rfl
    · simp only [creelref_TimeText.j0, hI, Option.bind_some]
      rw [if_pos hsz]
      exact if_pos rfl
  · have hn' : ¬ (u : Int) = 0 := by omega
    have hu : u < 10 ^ (8 + 1) := by show u < 1000000000; omega
    have hd9 : Lib.nDigits u ≤ 9 := nd_le 9 u (by omega) hu
    have hJ : strconv_Itoa_46.f (u : Int) = some (tx (Lib.decDigits u)) := by
      have : strconv_Itoa_46.f (u : Int) = some (tx (Lib.itoa (u : Int))) := if_pos (by omega)
      rw [this, itoa_nat]
    have hdl : (Lib.decDigits u).length = Lib.nDigits u := Lib.decDigits_length u
    have hp9 : (P 9 u).length = 9 := by simp [P]
    have htl := trimR_len (P 9 u)
    have e : txt g v u = ((g ++ tx (Lib.decDigits v)) ++ (⟨#[46]⟩ : ByteArray)) ++ tx (Lib.trimRightB (P 9 u) 48) := if_neg hn
    rw [e]
    constructor
    · simp only [stamp_Text.j0, hI, Option.bind_some]
      rw [if_pos hsz, if_neg hn', hJ]
      simp only [Option.bind_some]
      rw [tx_size, hdl, show wrap64 (9 - (Lib.nDigits u : Int)) = ((9 - Lib.nDigits u : Nat) : Int) by rw [wrap_nat (by omega) (by omega)]; omega, rep_is _ (by omega)]
      simp only [Option.bind_some]
      rw [if_pos (by rw [tx_size, List.length_replicate]; omega), if_pos hsz2, tx_app, pad_is 9 u hd9, trimR_f _ (by omega)]
      simp only [Option.bind_some]
      rw [if_pos (by rw [ByteArray.size_append, ByteArray.size_append, tx_size, tx_size]; show g.size + (Lib.decDigits v).length + 1 + _ ≤ _; omega)]
    · simp only [creelref_TimeText.j0, hI, Option.bind_some]
      rw [if_pos hsz, if_neg hn', if_pos hsz2]
      exact time_loop 8 u k _ (by omega) (by omega) hu (by omega) (by rw [ByteArray.size_append, ByteArray.size_append, tx_size]; show g.size + (Lib.decDigits v).length + 1 + 8 < 1000; omega)
/-- May a time be? -/
def okT (a b : Int) : Prop := -1099511627776 ≤ a ∧ a ≤ 1099511627776 ∧ 0 ≤ b ∧ b ≤ 999999999
instance (a b : Int) : Decidable (okT a b) := by unfold okT; infer_instance
def sg (a : Int) : ByteArray := if a < 0 then (⟨#[45]⟩ : ByteArray) else (⟨#[]⟩ : ByteArray)
def vv (a b : Int) : Nat := (if a < 0 then (if b > 0 then -a - 1 else -a) else a).toNat
def uu (a b : Int) : Nat := (if a < 0 then (if b > 0 then 1000000000 - b else b) else b).toNat
/-- What both answer. -/
def tt (a b : Int) : ByteArray × Int := if okT a b then (txt (sg a) (vv a b) (uu a b), 0) else ((⟨#[]⟩ : ByteArray), 4)
theorem text_val (s n : Int) (k : Nat) (hk : 30 < k) : stamp_Text.f k s n = some (tt s n) ∧ creelref_TimeText.f k s n = some (tt s n) := by
  have hc : creelref_TimeFault.f s n = stamp_Check.f s n := by
    unfold creelref_TimeFault.f stamp_Check.f
    by_cases c : n > 999999999
    · rw [if_pos c, if_pos (show n ≥ 1000000000 by omega)]
    · rw [if_neg c, if_neg (show ¬ n ≥ 1000000000 by omega)]
  have ht : stamp_Check.f s n = some (if okT s n then 0 else 4) := by
    unfold stamp_Check.f
    split
    · rw [if_neg (fun h : okT s n => by have := h.1; omega)]
    · split
      · rw [if_neg (fun h : okT s n => by have := h.2.1; omega)]
      · split
        · rw [if_neg (fun h : okT s n => by have := h.2.2.1; omega)]
        · split
          · rw [if_neg (fun h : okT s n => by have := h.2.2.2; omega)]
          · rw [if_pos (show okT s n from ⟨by omega, by omega, by omega, by omega⟩)]
  unfold stamp_Text.f creelref_TimeText.f
  rw [hc, ht]
  simp only [Option.bind_some]
  by_cases h0 : okT s n
  · have e0 : tt s n = (txt (sg s) (vv s n) (uu s n), 0) := if_pos h0
    rw [if_pos h0, e0]
    obtain ⟨a1, a2, a3, a4⟩ := h0
    rw [if_pos (rfl : (0 : Int) = 0), if_pos (rfl : (0 : Int) = 0)]
    by_cases h1 : s < 0
    · have eg : sg s = (⟨#[45]⟩ : ByteArray) := if_pos h1
      rw [if_pos h1, if_pos h1, eg]
      by_cases h2 : n > 0
      · have ev : vv s n = (-s - 1).toNat := by unfold vv; rw [if_pos h1, if_pos h2]
        have eu : uu s n = (1000000000 - n).toNat := by unfold uu; rw [if_pos h1, if_pos h2]
        have e1 : wrap64 (wrap64 (-s) - 1) = ((vv s n : Nat) : Int) := by rw [ev, wrap_is (x := -s) (by omega) (by omega), wrap_is (by omega) (by omega)]; omega
        have e2 : wrap64 (-wrap64 (s + 1)) = ((vv s n : Nat) : Int) := by clear e1; rw [ev, wrap_is (x := s + 1) (by omega) (by omega), wrap_is (by omega) (by omega)]; omega
        have e3 : wrap64 (1000000000 - n) = ((uu s n : Nat) : Int) := by clear e1 e2; rw [eu, wrap_is (by omega) (by omega)]; omega
        rw [if_pos h2, if_pos h2, e1, e2, e3]
        clear e1 e2 e3
        exact j_val k hk _ _ _ (by omega) (by omega) (by decide)
      · have ev : vv s n = (-s).toNat := by unfold vv; rw [if_pos h1, if_neg h2]
        have eu : uu s n = n.toNat := by unfold uu; rw [if_pos h1, if_neg h2]
        have e1 : wrap64 (-s) = ((vv s n : Nat) : Int) := by rw [ev, wrap_is (by omega) (by omega)]; omega
        have e3 : n = ((uu s n : Nat) : Int) := by clear e1; omega
        rw [if_neg h2, if_neg h2, e1]
        clear e1
        have := j_val k hk (vv s n) (uu s n) (⟨#[45]⟩ : ByteArray) (by omega) (by omega) (by decide)
        rwa [← e3] at this
    · have eg : sg s = (⟨#[]⟩ : ByteArray) := if_neg h1
      have ev : vv s n = s.toNat := by unfold vv; rw [if_neg h1]
      have eu : uu s n = n.toNat := by unfold uu; rw [if_neg h1]
      rw [if_neg h1, if_neg h1, eg]
      have := j_val k hk (vv s n) (uu s n) (⟨#[]⟩ : ByteArray) (by omega) (by omega) (by decide)
      rwa [show ((vv s n : Nat) : Int) = s by omega, show ((uu s n : Nat) : Int) = n by omega] at this
  · have e0 : tt s n = ((⟨#[]⟩ : ByteArray), 4) := if_neg h0
    rw [if_neg h0, e0]
    exact ⟨if_neg (by decide), if_neg (by decide)⟩
end Go.Proofs.YtmeffcjjfiebdaaDoor.Q
