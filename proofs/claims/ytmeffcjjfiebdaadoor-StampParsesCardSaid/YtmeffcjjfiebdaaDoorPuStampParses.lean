/- The plain law of StampParses: what the walks compute answers true at every input that the row admits. No condition of its own. -/
import Derived.Test.YtmeffcjjfiebdaaDoorGStampParses
import Derived.Test.YtmeffcjjfiebdaaDoorWPureBase
import Derived.Test.YtmeffcjjfiebdaaDoorQStamp
namespace Go.Proofs.YtmeffcjjfiebdaaDoor.PuStampParses
set_option linter.unusedVariables false
set_option linter.unusedSimpArgs false
open Go.RowKit Go.Proofs.YtmeffcjjfiebdaaDoor.All Go.Proofs.YtmeffcjjfiebdaaDoor.GStampParses Go.Proofs.YtmeffcjjfiebdaaDoorW.PrintWords Go.Proofs.YtmeffcjjfiebdaaDoorW.PrintLast Go.Proofs.YtmeffcjjfiebdaaDoorW.PrintMore Go.Proofs.YtmeffcjjfiebdaaDoorW.PureBase Go.Proofs.YtmeffcjjfiebdaaDoor.Q

/- Texts as times: stamp.Parse and the reference's TimeOf read the same. No condition. -/
-- USES Stamp
-- FN stamp_Parse stamp_digits stamp_Check stamp_Text creelref_TimeOf creelref_TimeFault creelref_TimeText strings_CutPrefix stringslite_CutPrefix stringslite_HasPrefix strings_Cut stringslite_Cut stringslite_Index strings_Repeat strconv_Itoa_46 strings_TrimRight
open Go.Lib in
theorem bt_at (s : ByteArray) (pre post : List UInt8) (c : UInt8) (h : s.data.toList = pre ++ c :: post) : bt s (pre.length : Int) = (c.toNat : Int) := by
  have hl : pre.length < s.size := by rw [← size_list, h]; simp
  rw [bt_eq_iff s pre.length hl _ (by omega) (by have := UInt8.toNat_lt c; omega), h]
  simp
theorem tx_extract (l : List UInt8) (a b : Nat) : (tx l).extract a b = tx ((l.take b).drop a) := by
  apply ext_list
  rw [tx_data, Lib.extract_data, tx_data, List.drop_take]
theorem list_tx (s : ByteArray) : s = tx s.data.toList := (of_list s).symm
theorem rd_step (n u m : Nat) : (10 * n + u / 10 ^ m % 10) * 10 ^ m + u % 10 ^ m = n * 10 ^ (m + 1) + u % 10 ^ (m + 1) := by
  have h : u % 10 ^ (m + 1) = u % 10 ^ m + 10 ^ m * (u / 10 ^ m % 10) := by rw [Nat.pow_succ, Nat.mod_mul]
  rw [h, Nat.pow_succ]
  generalize 10 ^ m = X
  generalize u / X % 10 = d
  generalize u % X = r
  have e1 : (10 * n + d) * X = n * (X * 10) + X * d := by
    rw [Nat.add_mul, Nat.mul_comm d X, Nat.mul_comm X 10, ← Nat.mul_assoc n 10 X, Nat.mul_comm n 10]
  omega
theorem dg_byte (u m : Nat) : ∃ q, q < 10 ∧ u / 10 ^ m % 10 = q ∧ ((Lib.dg u m).toNat : Int) = 48 + (q : Int) := by
  refine ⟨_, Nat.mod_lt _ (by omega), rfl, ?_⟩
  rw [dg_val]
  omega
/-- Digits alone, read from the left. -/
theorem dig_P (m : Nat) : ∀ (k N u : Nat) (s : ByteArray) (pre : List UInt8), s.data.toList = pre ++ P m u → m < k → m ≤ 13 → (N + 1) * 10 ^ m ≤ 10000000000000000 → pre.length + m ≤ 20 →
    stamp_digits.l0 k s (N : Int) (s.size : Int) (pre.length : Int) = some (((N * 10 ^ m + u % 10 ^ m : Nat) : Int), true) := by
  induction m with
  | zero =>
    intro k N u s pre h hk _ _ _
    obtain ⟨k, rfl⟩ : ∃ q, k = q + 1 := ⟨k - 1, by omega⟩
    have hs : s.size = pre.length := by rw [← size_list, h]; simp [P]
    simp only [stamp_digits.l0]
    rw [if_neg (by omega)]
    simp [Nat.mod_one]
  | succ m ih =>
    intro k N u s pre h hk hm hN hp
    obtain ⟨k, rfl⟩ : ∃ q, k = q + 1 := ⟨k - 1, by omega⟩
    rw [P_succ] at h
    have hs : s.size = pre.length + (m + 1) := by rw [← size_list, h]; simp [P]; 
    have hb := bt_at s pre _ _ h
    obtain ⟨q, hq, hqe, hqb⟩ := dg_byte u m
    rw [hqb] at hb
    have hX : 1 ≤ 10 ^ m := Nat.pow_pos (by omega)
    have hN2 : (10 * N + q + 1) * 10 ^ m ≤ 10000000000000000 := by
      refine Nat.le_trans (Nat.mul_le_mul_right _ (show 10 * N + q + 1 ≤ 10 * (N + 1) by omega)) ?_
      rw [Nat.pow_succ] at hN
      rw [Nat.mul_comm 10 (N + 1), Nat.mul_assoc, Nat.mul_comm 10 (10 ^ m)]
      exact hN
    have hN3 : 10 * N + q + 1 ≤ 10000000000000000 := Nat.le_trans (Nat.le_mul_of_pos_right _ hX) hN2
    have e1 : wrap64 (10 * (N : Int)) = 10 * (N : Int) := by rw [wrap_nat (by omega) (by omega)]
    have e2 : wrap64 (10 * (N : Int) + (48 + (q : Int) - 48) % 256) = ((10 * N + q : Nat) : Int) := by clear e1; rw [wrap_nat (by omega) (by omega)]; omega
    have e3 : wrap64 ((pre.length : Int) + 1) = ((pre ++ [Lib.dg u m]).length : Int) := by clear e1 e2; rw [wrap_nat (by omega) (by omega)]; simp
    have H := ih k (10 * N + q) u s (pre ++ [Lib.dg u m]) (by rw [h]; simp) (by omega) (by omega) hN2 (by simp; omega)
    simp only [stamp_digits.l0]
    rw [hb, e1, e2, e3]
    clear e1 e2 e3
    rw [if_pos (by omega), if_pos (by omega), if_pos (by omega), if_neg (by omega), if_neg (by omega), H, ← hqe, rd_step]
theorem dig_f (k m u : Nat) (most : Int) (l : List UInt8) (h : l = P m u) (h1 : 1 ≤ m) (h2 : m ≤ 13) (h3 : (m : Int) ≤ most) (hk : 20 < k) (hu : u < 10 ^ m) : stamp_digits.f k (tx l) most = some ((u : Int), true) := by
  subst h
  obtain ⟨k, rfl⟩ : ∃ q, k = q + 1 := ⟨k - 1, by omega⟩
  have hs : (tx (P m u)).size = m := by rw [tx_size]; simp [P]
  have hp : 10 ^ m ≤ 10 ^ 13 := Nat.pow_le_pow_right (by omega) h2
  have e13 : 10 ^ 13 = 10000000000000 := by decide
  have H := dig_P m k 0 u (tx (P m u)) [] rfl (by omega) h2 (by omega) (by simp; omega)
  rw [Nat.zero_mul, Nat.zero_add, Nat.mod_eq_of_lt hu] at H
  unfold stamp_digits.f
  rw [if_neg (by omega), show decide (((tx (P m u)).size : Int) > most) = false from decide_eq_false (by omega)]
  simp only [stamp_digits.j0]
  exact H
theorem trimR_split (l : List UInt8) : ∃ z, l = Lib.trimRightB l 48 ++ List.replicate z 48 := by
  induction l with
  | nil => exact ⟨0, by simp [Lib.trimRightB]⟩
  | cons a l ih =>
    obtain ⟨z, hz⟩ := ih
    rw [trimR_cons]
    by_cases h : Lib.trimRightB l 48 = []
    · rw [h, List.nil_append] at hz
      rw [if_pos h]
      by_cases ha : a = 48
      · refine ⟨z + 1, ?_⟩
        rw [if_pos ha, ha, List.nil_append, List.replicate_succ]
        congr 1
      · refine ⟨z, ?_⟩
        rw [if_neg ha, List.singleton_append]
        congr 1
    · refine ⟨z, ?_⟩
      rw [if_neg h, List.cons_append, ← hz]
theorem P_drop (m u : Nat) : ∀ j, j ≤ m → (P m u).drop j = P (m - j) u := by
  induction m with
  | zero => intro j hj; obtain rfl : j = 0 := by omega
            rfl
  | succ m ih =>
    intro j hj
    cases j with
    | zero => rfl
    | succ j => rw [P_succ, List.drop_succ_cons, ih j (by omega), Nat.add_sub_add_right]
theorem P_len (m u : Nat) : (P m u).length = m := by simp [P]
theorem trimR_rest (m u : Nat) (L : Nat) (hL : (Lib.trimRightB (P m u) 48).length = L) : L ≤ m ∧ u % 10 ^ (m - L) = 0 ∧ P m u = Lib.trimRightB (P m u) 48 ++ List.replicate (m - L) 48 := by
  obtain ⟨z, hz⟩ := trimR_split (P m u)
  have hl := congrArg List.length hz
  rw [P_len, List.length_append, List.length_replicate, hL] at hl
  obtain rfl : z = m - L := by omega
  refine ⟨by omega, ?_, hz⟩
  have hd := P_drop m u L (by omega)
  rw [hz, ← hL, List.drop_left, hL] at hd
  refine P_zero (m - L) _ (Nat.mod_lt _ (Nat.pow_pos (by omega))) ?_
  rw [P_mod, ← hd]
  intro x hx
  exact (List.mem_replicate.1 hx).2
theorem idx_at (D T : List UInt8) (c : UInt8) (h : c ∉ D) : Lib.indexByte (D ++ c :: T) c = (D.length : Int) := by
  have hge := Lib.indexByte_ge (D ++ c :: T) c
  have hat : (D ++ c :: T)[D.length]? = some c := by simp
  by_cases hn : Lib.indexByte (D ++ c :: T) c = -1
  · exact absurd hat (Lib.indexByte_none hn _)
  · obtain ⟨o, ho⟩ := Int.eq_ofNat_of_zero_le (show 0 ≤ Lib.indexByte (D ++ c :: T) c by omega)
    obtain ⟨h1, h2⟩ := Lib.indexByte_some ho
    rcases Nat.lt_trichotomy o D.length with hlt | he | hgt
    · rw [List.getElem?_append_left hlt] at h1
      exact absurd (List.mem_of_getElem? h1) h
    · rw [ho, he]
    · exact absurd hat (h2 _ hgt)
theorem idx_no (D : List UInt8) (c : UInt8) (h : c ∉ D) : Lib.indexByte D c = -1 := by
  have hge := Lib.indexByte_ge D c
  by_cases hn : Lib.indexByte D c = -1
  · exact hn
  · obtain ⟨o, ho⟩ := Int.eq_ofNat_of_zero_le (show 0 ≤ Lib.indexByte D c by omega)
    exact absurd (List.mem_of_getElem? (Lib.indexByte_some ho).1) h
theorem P_mem (m u : Nat) (c : UInt8) (hc : c ∈ P m u) : 48 ≤ c.toNat ∧ c.toNat ≤ 57 := by
  unfold P at hc
  obtain ⟨t, _, rfl⟩ := List.mem_map.1 hc
  obtain ⟨q, hq, _, hb⟩ := dg_byte u (m - 1 - t)
  omega
theorem dec_P (v : Nat) : Lib.decDigits v = P (Lib.nDigits v) v := by
  have := pad_is (Lib.nDigits v) v (Nat.le_refl _)
  rw [Nat.sub_self] at this
  simpa using this
/-- What is cut at a dot. -/
theorem cut_at (D T : List UInt8) (h : (46 : UInt8) ∉ D) (hs : D.length + T.length < 1000) : strings_Cut.f (tx (D ++ 46 :: T)) (⟨#[46]⟩ : ByteArray) = some (tx D, tx T, true) := by
  have hi : stringslite_Index.f (tx (D ++ 46 :: T)) (⟨#[46]⟩ : ByteArray) = some (D.length : Int) := by
    show some (Lib.indexByte (tx (D ++ 46 :: T)).data.toList 46) = _
    rw [tx_data, idx_at D T 46 h]
  have hz : (tx (D ++ 46 :: T)).size = D.length + 1 + T.length := by rw [tx_size]; simp; omega
  have h1 : ((⟨#[46]⟩ : ByteArray).size : Int) = 1 := rfl
  have e : wrap64 ((D.length : Int) + 1) = ((D.length + 1 : Nat) : Int) := by rw [wrap_nat (by omega) (by omega)]; rfl
  unfold strings_Cut.f stringslite_Cut.f
  rw [hi]
  simp only [Option.bind_some]
  rw [h1, e, if_pos (by omega), if_pos (by omega), if_pos (by omega), if_pos (by omega), if_pos (by omega), Int.toNat_natCast, Int.toNat_natCast, hz, tx_extract, tx_extract]
  simp only [Option.bind_some]
  congr 2
  · rw [List.drop_zero, List.take_left]
  · congr 1
    rw [List.take_of_length_le (by simp; omega), show D ++ 46 :: T = (D ++ [46]) ++ T by simp, show D.length + 1 = (D ++ [(46 : UInt8)]).length by simp, List.drop_left]
theorem cut_no (D : List UInt8) (h : (46 : UInt8) ∉ D) : strings_Cut.f (tx D) (⟨#[46]⟩ : ByteArray) = some (tx D, (⟨#[]⟩ : ByteArray), false) := by
  have hi : stringslite_Index.f (tx D) (⟨#[46]⟩ : ByteArray) = some (-1) := by
    show some (Lib.indexByte (tx D).data.toList 46) = _
    rw [tx_data, idx_no D 46 h]
  unfold strings_Cut.f stringslite_Cut.f
  rw [hi]
  simp only [Option.bind_some]
  rw [if_neg (by omega)]
  rfl
theorem pre_yes (R : List UInt8) : strings_CutPrefix.f (tx (45 :: R)) (⟨#[45]⟩ : ByteArray) = some (tx R, true) := by
  have hz : (tx (45 :: R)).size = R.length + 1 := by rw [tx_size]; simp
  have h1 : ((⟨#[45]⟩ : ByteArray).size : Int) = 1 := rfl
  unfold strings_CutPrefix.f stringslite_CutPrefix.f stringslite_HasPrefix.f
  rw [h1, if_pos (by omega), if_pos (by omega), if_pos (by omega)]
  have e : (((tx (45 :: R)).extract 0 (1 : Int).toNat).toList == (⟨#[45]⟩ : ByteArray).toList) = true := by
    rw [tx_extract, toList_data, toList_data]
    exact beq_self_eq_true _
  simp only [Option.bind_some]
  rw [if_pos e, if_pos (by omega), if_pos (by omega)]
  simp only [Option.bind_some]
  congr 2
  rw [tx_extract, hz]
  congr 1
  show (List.take (R.length + 1) (45 :: R)).drop 1 = R
  rw [List.take_of_length_le (by simp)]
  rfl
theorem pre_no (c : UInt8) (R : List UInt8) (hc : c ≠ 45) : strings_CutPrefix.f (tx (c :: R)) (⟨#[45]⟩ : ByteArray) = some (tx (c :: R), false) := by
  have hz : (tx (c :: R)).size = R.length + 1 := by rw [tx_size]; simp
  have h1 : ((⟨#[45]⟩ : ByteArray).size : Int) = 1 := rfl
  unfold strings_CutPrefix.f stringslite_CutPrefix.f stringslite_HasPrefix.f
  rw [h1, if_pos (by omega), if_pos (by omega), if_pos (by omega)]
  have e : (((tx (c :: R)).extract 0 (1 : Int).toNat).toList == (⟨#[45]⟩ : ByteArray).toList) = false := by
    rw [tx_extract, toList_data, toList_data]
    refine beq_eq_false_iff_ne.2 fun e => hc ?_
    have := congrArg List.head? e
    simpa [tx] using this
  simp only [Option.bind_some]
  rw [e]
  rfl
/-- What follows once both have read two numbers. -/
def cand (b : Bool) (x y : Int) : Int × Int := if b = true then (if y > 0 then (wrap64 ((wrap64 (-x)) - 1), wrap64 (1000000000 - y)) else (wrap64 (-x), y)) else (x, y)
def fin (s : ByteArray) (c : Int × Int) : Int × Int × Int := if (tt c.1 c.2).2 = 0 then (if (tt c.1 c.2).1.toList = s.toList then (c.1, c.2, 0) else (0, 0, 3)) else (0, 0, 3)
def Good (s : ByteArray) (r : Int × Int × Int) : Prop := r = (0, 0, 3) ∨ ∃ a b, r = (a, b, 0) ∧ tt a b = (s, 0)
theorem fin_good (s : ByteArray) (c : Int × Int) : Good s (fin s c) := by
  unfold fin
  split
  · rename_i h0
    split
    · rename_i h1
      refine .inr ⟨c.1, c.2, rfl, Prod.ext (toList_inj h1) h0⟩
    · exact .inl rfl
  · exact .inl rfl
theorem fin_at (s : ByteArray) (a b : Int) (h : tt a b = (s, 0)) : fin s (a, b) = (a, b, 0) := by
  unfold fin
  rw [h]
  simp
theorem if_fin (s : ByteArray) (a b : Int) : (if (tt a b).2 = 0 then (if (tt a b).1.toList = s.toList then (some (a, b, (0 : Int))) else (some (0, 0, 3))) else (some (0, 0, 3))) = some (fin s (a, b)) := by
  unfold fin
  split
  · split <;> rfl
  · rfl
theorem jP (k : Nat) (hk : 31 < k) (s : ByteArray) (b : Bool) (x y : Int) : stamp_Parse.j0 k s b x true y = some (fin s (cand b x y)) := by
  obtain ⟨k, rfl⟩ : ∃ q, k = q + 1 := ⟨k - 1, by omega⟩
  have T := fun a b => (text_val a b k (by omega)).1
  simp only [stamp_Parse.j0, T, Option.bind_some, if_true, if_fin]
  unfold cand
  cases b
  · simp
  · simp only [if_true]
    split <;> rfl
theorem jP_no (k : Nat) (hk : 31 < k) (s : ByteArray) (b : Bool) (x y : Int) : stamp_Parse.j0 k s b x false y = some (0, 0, 3) := by
  obtain ⟨k, rfl⟩ : ∃ q, k = q + 1 := ⟨k - 1, by omega⟩
  simp [stamp_Parse.j0]
theorem jT (k : Nat) (hk : 31 < k) (s : ByteArray) (b : Bool) (x y : Int) : creelref_TimeOf.j6 k s b x y = some (fin s (cand b x y)) := by
  obtain ⟨k, rfl⟩ : ∃ q, k = q + 1 := ⟨k - 1, by omega⟩
  have T := fun a b => (text_val a b k (by omega)).2
  simp only [creelref_TimeOf.j6, T, Option.bind_some, if_fin]
  unfold cand
  cases b
  · simp
  · simp only [if_true]
    split <;> rfl
/-- Both come to an answer, whatever the text. -/
theorem dig_loop_tot (d : Nat) : ∀ (k : Nat) (s : ByteArray) (N i : Int), 0 ≤ i → i ≤ s.size → (s.size : Int) - i = d → s.size < 1000 → d < k → ∃ n b, stamp_digits.l0 k s N (s.size : Int) i = some (n, b) := by
  induction d with
  | zero =>
    intro k s N i h0 h1 hd hs hk
    obtain ⟨k, rfl⟩ : ∃ q, k = q + 1 := ⟨k - 1, by omega⟩
    simp only [stamp_digits.l0]
    rw [if_neg (by omega)]
    exact ⟨_, _, rfl⟩
  | succ d ih =>
    intro k s N i h0 h1 hd hs hk
    obtain ⟨k, rfl⟩ : ∃ q, k = q + 1 := ⟨k - 1, by omega⟩
    have e3 : wrap64 (i + 1) = i + 1 := by rw [wrap_nat (by omega) (by omega)]
    simp only [stamp_digits.l0]
    rw [e3]
    clear e3
    rw [if_pos (by omega), if_pos h0, if_pos (by omega)]
    split
    · exact ⟨_, _, rfl⟩
    · split
      · exact ⟨_, _, rfl⟩
      · exact ih k s _ (i + 1) (by omega) (by omega) (by omega) hs (by omega)
theorem dig_tot (k : Nat) (s : ByteArray) (most : Int) (hm : most ≤ 13) (hk : 20 < k) : ∃ n b, stamp_digits.f k s most = some (n, b) := by
  obtain ⟨k, rfl⟩ : ∃ q, k = q + 1 := ⟨k - 1, by omega⟩
  unfold stamp_digits.f
  by_cases h1 : (s.size : Int) < 1
  · rw [if_pos h1]
    simp only [stamp_digits.j0, if_true]
    exact ⟨_, _, rfl⟩
  · rw [if_neg h1]
    by_cases h2 : (s.size : Int) > most
    · rw [decide_eq_true h2]
      simp only [stamp_digits.j0, if_true]
      exact ⟨_, _, rfl⟩
    · rw [decide_eq_false h2]
      simp only [stamp_digits.j0]
      exact dig_loop_tot s.size k s 0 0 (by omega) (by omega) (by omega) (by omega) (by omega)
theorem cut_tot (s : ByteArray) (hs : s.size ≤ 140737488351232) : ∃ a b c, strings_Cut.f s (⟨#[46]⟩ : ByteArray) = some (a, b, c) ∧ b.size ≤ s.size := by
  by_cases hm : (46 : UInt8) ∈ s.data.toList
  · have hge := Lib.indexByte_ge s.data.toList 46
    have hn : Lib.indexByte s.data.toList 46 ≠ -1 := by
      intro e
      obtain ⟨i, hi⟩ := List.mem_iff_getElem?.1 hm
      exact Lib.indexByte_none e i hi
    obtain ⟨o, ho⟩ := Int.eq_ofNat_of_zero_le (show 0 ≤ Lib.indexByte s.data.toList 46 by omega)
    have h1 := (Lib.indexByte_some ho).1
    have hlt : o < s.size := by
      have := (List.getElem?_eq_some_iff.1 h1).1
      rwa [size_list] at this
    have hi : stringslite_Index.f s (⟨#[46]⟩ : ByteArray) = some (o : Int) := by
      show some (Lib.indexByte s.data.toList 46) = _
      rw [ho]
    have e : wrap64 ((o : Int) + 1) = ((o + 1 : Nat) : Int) := by rw [wrap_nat (by omega) (by omega)]; rfl
    refine ⟨s.extract 0 o, s.extract (o + 1) s.size, true, ?_, by rw [ByteArray.size_extract]; omega⟩
    have h1 : ((⟨#[46]⟩ : ByteArray).size : Int) = 1 := rfl
    unfold strings_Cut.f stringslite_Cut.f
    rw [hi]
    simp only [Option.bind_some]
    rw [h1, e, if_pos (by omega), if_pos (by omega), if_pos (by omega), if_pos (by omega), if_pos (by omega)]
    rfl
  · refine ⟨s, (⟨#[]⟩ : ByteArray), false, ?_, Nat.zero_le _⟩
    rw [list_tx s]
    exact cut_no _ hm
theorem pre_tot (s : ByteArray) : ∃ r b, strings_CutPrefix.f s (⟨#[45]⟩ : ByteArray) = some (r, b) ∧ r.size ≤ s.size := by
  rw [list_tx s]
  cases h : s.data.toList with
  | nil => exact ⟨tx [], false, rfl, Nat.le_refl _⟩
  | cons c R =>
    by_cases hc : c = 45
    · subst hc
      exact ⟨_, _, pre_yes R, by rw [tx_size, tx_size]; simp⟩
    · exact ⟨_, _, pre_no c R hc, Nat.le_refl _⟩
theorem prog_tot (s : ByteArray) (hs : s.size ≤ 140737488351232) : ∃ r, stamp_Parse.f 100 s = some r ∧ Good s r := by
  obtain ⟨rest, b, hp, hr⟩ := pre_tot s
  obtain ⟨w, p, d, hc, hpz⟩ := cut_tot rest (by omega)
  obtain ⟨n, ok, hd⟩ := dig_tot 100 w 13 (by omega) (by omega)
  have J : ∀ (ok : Bool) (y : Int), ∃ r, stamp_Parse.j0 100 s b n ok y = some r ∧ Good s r := by
    intro ok y
    cases ok
    · exact ⟨_, jP_no 100 (by omega) s b n y, .inl rfl⟩
    · exact ⟨_, jP 100 (by omega) s b n y, fin_good _ _⟩
  unfold stamp_Parse.f
  rw [hp]
  simp only [Option.bind_some, hc, hd]
  cases d
  · rw [if_neg (by decide)]
    exact J _ _
  · have e : ∃ q : Nat, q ≤ 9 ∧ mx 0 (wrap64 (9 - (p.size : Int))) = (q : Int) := by
      rw [wrap_is (by omega) (by omega)]
      refine ⟨(9 - (p.size : Int)).toNat, by omega, ?_⟩
      unfold mx
      omega
    obtain ⟨q, hq, e⟩ := e
    obtain ⟨n2, ok2, hd2⟩ := dig_tot 100 (p ++ tx (List.replicate q 48)) 9 (by omega) (by omega)
    rw [if_pos rfl, e, rep_is q hq]
    simp only [Option.bind_some]
    rw [if_pos (by rw [tx_size, List.length_replicate]; omega), hd2]
    simp only [Option.bind_some]
    cases ok
    · rw [if_neg (by decide)]
      exact J _ _
    · rw [if_pos rfl]
      exact J _ _
theorem l1_tot (d : Nat) : ∀ (k : Nat) (s r : ByteArray) (b : Bool) (x i y unit : Int), 0 ≤ i → i + d ≤ 1000 → 0 ≤ unit → unit < 10 ^ d → unit ≤ 100000000 → d + 32 < k → ∃ q, creelref_TimeOf.l1 k s r b x i y unit = some q ∧ Good s q := by
  induction d with
  | zero =>
    intro k s r b x i y unit h0 h1 h2 h3 hU hk
    obtain ⟨k, rfl⟩ : ∃ q, k = q + 1 := ⟨k - 1, by omega⟩
    have J : ∃ q, creelref_TimeOf.j6 k s b x y = some q ∧ Good s q := ⟨_, jT k (by omega) s b x y, fin_good _ _⟩
    have hu : ¬ unit > 0 := by simp at h3; omega
    simp only [creelref_TimeOf.l1]
    split
    · (try rw [if_pos h0])
      split
      · split
        · (try rw [if_neg hu]); exact J
        · exact J
      · exact J
    · exact J
  | succ d ih =>
    intro k s r b x i y unit h0 h1 h2 h3 hU hk
    obtain ⟨k, rfl⟩ : ∃ q, k = q + 1 := ⟨k - 1, by omega⟩
    have J : ∃ q, creelref_TimeOf.j6 k s b x y = some q ∧ Good s q := ⟨_, jT k (by omega) s b x y, fin_good _ _⟩
    have e1 : wrap64 (i + 1) = i + 1 := by rw [wrap_nat (by omega) (by omega)]
    have h4 : Int.tdiv unit 10 < 10 ^ d := by
      rw [Int.pow_succ] at h3
      rw [Int.tdiv_eq_ediv_of_nonneg h2]
      omega
    have h5 : 0 ≤ Int.tdiv unit 10 := by rw [Int.tdiv_eq_ediv_of_nonneg h2]; omega
    have h6 : Int.tdiv unit 10 ≤ unit := by rw [Int.tdiv_eq_ediv_of_nonneg h2]; omega
    simp only [creelref_TimeOf.l1]
    split
    · (try rw [if_pos h0])
      split
      · split
        · by_cases hu : unit > 0
          · have e2 : wrap64 (Int.tdiv unit 10) = Int.tdiv unit 10 := by clear e1; rw [wrap_nat h5 (by omega)]
            rw [if_pos hu, e1, e2]
            exact ih k s r b x (i + 1) _ _ (by omega) (by omega) h5 h4 (by omega) (by omega)
          · rw [if_neg hu]; exact J
        · exact J
      · exact J
    · exact J
theorem j3_tot (k : Nat) (hk : 50 < k) (s r : ByteArray) (b : Bool) (x i : Int) (h0 : 0 ≤ i) (h1 : i ≤ 20) : ∃ q, creelref_TimeOf.j3 k s r b x i = some q ∧ Good s q := by
  obtain ⟨k, rfl⟩ : ∃ q, k = q + 2 := ⟨k - 2, by omega⟩
  have J : ∀ dot, ∃ q, creelref_TimeOf.j4 (k + 1) s r b x i 0 dot = some q ∧ Good s q := by
    intro dot
    simp only [creelref_TimeOf.j4]
    cases dot
    · rw [if_neg (by decide)]
      exact ⟨_, jT k (by omega) s b x 0, fin_good _ _⟩
    · have e1 : wrap64 (i + 1) = i + 1 := by rw [wrap_nat (by omega) (by omega)]
      rw [if_pos rfl, e1]
      exact l1_tot 9 k s r b x (i + 1) 0 100000000 (by omega) (by omega) (by omega) (by decide) (by omega) (by omega)
  simp only [creelref_TimeOf.j3]
  split
  · (try rw [if_pos h0])
    exact J _
  · exact J _
theorem l0_tot (d : Nat) : ∀ (k : Nat) (s r : ByteArray) (b : Bool) (x i : Int), 0 ≤ i → i + d = 14 → d + 60 < k → ∃ q, creelref_TimeOf.l0 k s r b x i = some q ∧ Good s q := by
  induction d with
  | zero =>
    intro k s r b x i h0 h1 hk
    obtain ⟨k, rfl⟩ : ∃ q, k = q + 1 := ⟨k - 1, by omega⟩
    have J := j3_tot k (by omega) s r b x i h0 (by omega)
    simp only [creelref_TimeOf.l0]
    split
    · (try rw [if_pos h0])
      split
      · split
        · (try rw [if_neg (by omega)]); exact J
        · exact J
      · exact J
    · exact J
  | succ d ih =>
    intro k s r b x i h0 h1 hk
    obtain ⟨k, rfl⟩ : ∃ q, k = q + 1 := ⟨k - 1, by omega⟩
    have J := j3_tot k (by omega) s r b x i h0 (by omega)
    have e1 : wrap64 (i + 1) = i + 1 := by rw [wrap_nat (by omega) (by omega)]
    simp only [creelref_TimeOf.l0]
    split
    · (try rw [if_pos h0])
      split
      · split
        · rw [if_pos (by omega), e1]
          exact ih k s r b _ (i + 1) (by omega) (by omega) (by omega)
        · exact J
      · exact J
    · exact J
theorem ref_from (s r : ByteArray) (b : Bool) : ∃ q, creelref_TimeOf.j1 99 s r b = some q ∧ Good s q := by
  show ∃ q, creelref_TimeOf.l0 98 s r b 0 0 = some q ∧ Good s q
  exact l0_tot 14 98 s r b 0 0 (by omega) (by omega) (by omega)
theorem ref_tot (s : ByteArray) : ∃ q, creelref_TimeOf.f 100 s = some q ∧ Good s q := by
  unfold creelref_TimeOf.f
  by_cases h : s.toList = ([] : List UInt8)
  · rw [if_pos h]
    simp only [creelref_TimeOf.j0]
    rw [if_neg (by decide)]
    exact ref_from s s false
  · have hz : 0 < s.size := by
      rcases Nat.eq_zero_or_pos s.size with e | e
      · rw [toList_data] at h
        exact absurd (List.length_eq_zero_iff.1 (by rw [size_list]; exact e)) h
      · exact e
    rw [if_neg h, if_pos (by omega)]
    simp only [creelref_TimeOf.j0]
    split
    · rw [if_pos (by omega)]
      exact ref_from s _ _
    · exact ref_from s s _
/-- The reference reads whole seconds. -/
theorem l0_P (m : Nat) : ∀ (k N u : Nat) (s r : ByteArray) (b : Bool) (pre post : List UInt8), r.data.toList = pre ++ P m u ++ post → pre.length + m ≤ 13 → (N + 1) * 10 ^ m ≤ 10000000000000000 →
    creelref_TimeOf.l0 (k + m) s r b (N : Int) (pre.length : Int) = creelref_TimeOf.l0 k s r b ((N * 10 ^ m + u % 10 ^ m : Nat) : Int) ((pre.length + m : Nat) : Int) := by
  induction m with
  | zero => intro k N u s r b pre post _ _ _; simp [Nat.mod_one]
  | succ m ih =>
    intro k N u s r b pre post h hm hN
    rw [P_succ] at h
    have hs : pre.length < r.size := by rw [← size_list, h]; simp
    have hb := bt_at r pre (P m u ++ post) (Lib.dg u m) (by rw [h]; simp)
    obtain ⟨q, hq, hqe, hqb⟩ := dg_byte u m
    rw [hqb] at hb
    have hX : 1 ≤ 10 ^ m := Nat.pow_pos (by omega)
    have hN2 : (10 * N + q + 1) * 10 ^ m ≤ 10000000000000000 := by
      refine Nat.le_trans (Nat.mul_le_mul_right _ (show 10 * N + q + 1 ≤ 10 * (N + 1) by omega)) ?_
      rw [Nat.pow_succ] at hN
      rw [Nat.mul_comm 10 (N + 1), Nat.mul_assoc, Nat.mul_comm 10 (10 ^ m)]
      exact hN
    have hN3 : 10 * N + q + 1 ≤ 10000000000000000 := Nat.le_trans (Nat.le_mul_of_pos_right _ hX) hN2
    have e1 : wrap64 (10 * (N : Int)) = 10 * (N : Int) := by rw [wrap_nat (by omega) (by omega)]
    have e2 : wrap64 (10 * (N : Int) + (48 + (q : Int) - 48) % 256) = ((10 * N + q : Nat) : Int) := by clear e1; rw [wrap_nat (by omega) (by omega)]; omega
    have e3 : wrap64 ((pre.length : Int) + 1) = ((pre ++ [Lib.dg u m]).length : Int) := by clear e1 e2; rw [wrap_nat (by omega) (by omega)]; simp
    have H := ih k (10 * N + q) u s r b (pre ++ [Lib.dg u m]) post (by rw [h]; simp) (by simp; omega) hN2
    show creelref_TimeOf.l0 (k + m + 1) s r b (N : Int) (pre.length : Int) = _
    simp only [creelref_TimeOf.l0]
    rw [hb, e1, e2, e3]
    clear e1 e2 e3
    rw [if_pos (by omega), if_pos (by omega), if_pos (by omega), if_pos (by omega), if_pos (by omega), H, ← hqe, rd_step]
    congr 2
    simp
    omega
def unit (j : Nat) : Nat := if j ≤ 8 then 10 ^ (8 - j) else 0
theorem unit_step (j : Nat) (h : j ≤ 8) : wrap64 (Int.tdiv (unit j : Int) 10) = (unit (j + 1) : Int) ∧ 0 < unit j ∧ unit j ≤ 100000000 := by
  have h0 : unit j = 10 ^ (8 - j) := if_pos h
  have h1 : 1 ≤ 10 ^ (8 - j) := Nat.pow_pos (by omega)
  have h2 : 10 ^ (8 - j) ≤ 100000000 := Nat.le_trans (Nat.pow_le_pow_right (by omega) (show 8 - j ≤ 8 by omega)) (by decide)
  refine ⟨?_, by omega, by omega⟩
  have e : Int.tdiv (unit j : Int) 10 = ((unit j / 10 : Nat) : Int) := rfl
  rw [e, wrap_nat (by omega) (by omega)]
  congr 1
  rw [h0]
  by_cases h8 : j + 1 ≤ 8
  · have : unit (j + 1) = 10 ^ (8 - (j + 1)) := if_pos h8
    rw [this, show 8 - j = (8 - (j + 1)) + 1 by omega, Nat.pow_succ, Nat.mul_div_cancel _ (by omega)]
  · obtain rfl : j = 8 := by omega
    rfl
theorem l1_P (x i0 : Nat) (u : Nat) (hu : u < 1000000000) (s r : ByteArray) (b : Bool) (pre : List UInt8) (L : Nat) (hL : L ≤ 9) (hr : r.data.toList = pre ++ (P 9 u).take L) (hp : pre.length ≤ 100) (n : Nat) : ∀ (k j : Nat), j + n = L →
    creelref_TimeOf.l1 (k + n) s r b x ((pre.length + j : Nat) : Int) ((u / 10 ^ (9 - j) * 10 ^ (9 - j) : Nat) : Int) (unit j : Int) = creelref_TimeOf.l1 k s r b x ((pre.length + L : Nat) : Int) ((u / 10 ^ (9 - L) * 10 ^ (9 - L) : Nat) : Int) (unit L : Int) := by
  induction n with
  | zero => intro k j hj; obtain rfl : j = L := by omega
            rfl
  | succ n ih =>
    intro k j hj
    have hPj : (P 9 u).drop j = Lib.dg u (8 - j) :: P (8 - j) u := by rw [P_drop 9 u j (by omega), show 9 - j = (8 - j) + 1 by omega, P_succ]
    have hrj : r.data.toList = (pre ++ (P 9 u).take j) ++ Lib.dg u (8 - j) :: (P (8 - j) u).take (n) := by
      rw [hr, List.append_assoc]
      congr 1
      rw [show L = j + (n + 1) by omega, List.take_add, hPj, List.take_succ_cons]
    have hlj : (pre ++ (P 9 u).take j).length = pre.length + j := by rw [List.length_append, List.length_take, P_len]; omega
    have hb := bt_at r _ _ _ hrj
    rw [hlj] at hb
    obtain ⟨q, hq, hqe, hqb⟩ := dg_byte u (8 - j)
    rw [hqb] at hb
    have hs : pre.length + j < r.size := by rw [← size_list, hrj, List.length_append, hlj]; simp
    obtain ⟨eu, hu0, hu1⟩ := unit_step j (by omega)
    have hU : unit j = 10 ^ (8 - j) := if_pos (by omega)
    have hsum : u / 10 ^ (9 - j) * 10 ^ (9 - j) + unit j * q = u / 10 ^ (9 - (j + 1)) * 10 ^ (9 - (j + 1)) := by
      rw [hU, show 9 - j = (8 - j) + 1 by omega, show 9 - (j + 1) = 8 - j by omega, Nat.pow_succ, ← Nat.div_div_eq_div_mul, ← hqe]
      generalize 10 ^ (8 - j) = X
      generalize u / X = y
      have := Nat.div_add_mod y 10
      generalize y / 10 = a at this ⊢
      generalize y % 10 = c at this ⊢
      subst this
      rw [Nat.add_mul, Nat.mul_comm X 10, Nat.mul_comm X c, ← Nat.mul_assoc, Nat.mul_comm a 10]
    have hle := Nat.div_mul_le_self u (10 ^ (9 - (j + 1)))
    have hq2 : unit j * q ≤ 900000000 := Nat.le_trans (Nat.mul_le_mul hu1 (show q ≤ 9 by omega)) (by decide)
    have e0 : (48 + (q : Int) - 48) % 256 = (q : Int) := by omega
    have e1 : wrap64 ((unit j : Int) * (q : Int)) = ((unit j * q : Nat) : Int) := by rw [← Int.natCast_mul, wrap_nat (by omega) (by omega)]
    have e2 : wrap64 (((u / 10 ^ (9 - j) * 10 ^ (9 - j) : Nat) : Int) + ((unit j * q : Nat) : Int)) = ((u / 10 ^ (9 - (j + 1)) * 10 ^ (9 - (j + 1)) : Nat) : Int) := by
      clear e1 eu
      rw [← Int.natCast_add, hsum, wrap_nat (by omega) (by omega)]
    have e3 : wrap64 (((pre.length + j : Nat) : Int) + 1) = ((pre.length + (j + 1) : Nat) : Int) := by clear e1 e2 eu; rw [wrap_nat (by omega) (by omega)]; omega
    show creelref_TimeOf.l1 (k + n + 1) s r b x ((pre.length + j : Nat) : Int) _ _ = _
    simp only [creelref_TimeOf.l1]
    rw [hb, e0, e1, e2, e3, eu]
    clear e1 e2 e3 eu e0
    rw [if_pos (by omega), if_pos (by omega), if_pos (by omega), if_pos (by omega), if_pos (by omega)]
    exact ih k (j + 1) (by omega)
/-- The list that a text is. -/
def body (v u : Nat) : List UInt8 := if u = 0 then Lib.decDigits v else Lib.decDigits v ++ 46 :: Lib.trimRightB (P 9 u) 48
theorem txt_body (g : ByteArray) (v u : Nat) : txt g v u = tx (g.data.toList ++ body v u) := by
  unfold txt body
  by_cases h : u = 0
  · rw [if_pos h, if_pos h]; apply ext_list; simp [tx]
  · rw [if_neg h, if_neg h]; apply ext_list; simp [tx]
theorem dec_ne (v : Nat) : (46 : UInt8) ∉ Lib.decDigits v := by
  rw [dec_P]
  intro h
  have := P_mem _ _ _ h
  exact absurd this.1 (by decide)
theorem prog_body (v u : Nat) (hv : v ≤ 2199023255552) (hu : u < 1000000000) (s : ByteArray) (b : Bool) (hp : strings_CutPrefix.f s (⟨#[45]⟩ : ByteArray) = some (tx (body v u), b)) :
    stamp_Parse.f 100 s = some (fin s (cand b v u)) := by
  have hv13 := nd_le 13 v (by omega) (by show v < 10000000000000; omega)
  have hd : stamp_digits.f 100 (tx (Lib.decDigits v)) 13 = some ((v : Int), true) := dig_f 100 (Lib.nDigits v) v 13 _ (dec_P v) (Lib.nDigits_pos v) hv13 (by omega) (by omega) (Lib.lt_pow_nDigits v)
  have hdl : (Lib.decDigits v).length = Lib.nDigits v := Lib.decDigits_length v
  unfold stamp_Parse.f
  rw [hp]
  simp only [Option.bind_some]
  unfold body
  by_cases h0 : u = 0
  · rw [if_pos h0, cut_no _ (dec_ne v)]
    simp only [Option.bind_some, hd]
    rw [if_neg (by decide), h0]
    exact jP 100 (by omega) s b v 0
  · obtain ⟨hL, _, hrest⟩ := trimR_rest 9 u _ rfl
    rw [if_neg h0, cut_at _ _ (dec_ne v) (by omega)]
    simp only [Option.bind_some, hd]
    have e : mx 0 (wrap64 (9 - ((tx (Lib.trimRightB (P 9 u) 48)).size : Int))) = ((9 - (Lib.trimRightB (P 9 u) 48).length : Nat) : Int) := by
      rw [tx_size, wrap_is (by omega) (by omega)]
      unfold mx
      omega
    rw [if_true, e, rep_is _ (by omega)]
    simp only [Option.bind_some]
    rw [if_pos (by rw [tx_size, tx_size, List.length_replicate]; omega), tx_app, ← hrest, dig_f 100 9 u 9 _ rfl (by omega) (by omega) (by omega) (by omega) hu]
    simp only [Option.bind_some, if_true]
    exact jP 100 (by omega) s b v u
theorem ref_body (v u : Nat) (hv : v ≤ 2199023255552) (hu : u < 1000000000) (s : ByteArray) (b : Bool) : creelref_TimeOf.j1 99 s (tx (body v u)) b = some (fin s (cand b v u)) := by
  have hv13 := nd_le 13 v (by omega) (by show v < 10000000000000; omega)
  have hdl : (Lib.decDigits v).length = Lib.nDigits v := Lib.decDigits_length v
  have hmod : v % 10 ^ Lib.nDigits v = v := Nat.mod_eq_of_lt (Lib.lt_pow_nDigits v)
  have h13 : 10 ^ Lib.nDigits v ≤ 10 ^ 13 := Nat.pow_le_pow_right (by omega) hv13
  have e13 : 10 ^ 13 = 10000000000000 := by decide
  show creelref_TimeOf.l0 98 s (tx (body v u)) b ((0 : Nat) : Int) (([] : List UInt8).length : Int) = _
  obtain ⟨k, hk⟩ : ∃ k, 98 = k + Lib.nDigits v := ⟨98 - Lib.nDigits v, by omega⟩
  rw [hk]
  obtain ⟨post, hpost, hp2⟩ : ∃ post, body v u = Lib.decDigits v ++ post ∧ post = (if u = 0 then [] else 46 :: Lib.trimRightB (P 9 u) 48) := by
    unfold body
    by_cases h0 : u = 0
    · exact ⟨[], by rw [if_pos h0]; simp, by rw [if_pos h0]⟩
    · exact ⟨_, by rw [if_neg h0], by rw [if_neg h0]⟩
  rw [l0_P (Lib.nDigits v) k 0 v s (tx (body v u)) b [] post (by rw [tx_data, hpost, dec_P v]; simp) (by simp; omega) (by omega), hmod, Nat.zero_mul, Nat.zero_add, List.length_nil, Nat.zero_add]
  obtain ⟨k, rfl⟩ : ∃ q, k = q + 3 := ⟨k - 3, by omega⟩
  by_cases h0 : u = 0
  · have hz : (tx (body v u)).size = Lib.nDigits v := by rw [tx_size, hpost, hp2, if_pos h0]; simp [hdl]
    simp only [creelref_TimeOf.l0]
    rw [if_neg (by omega)]
    simp only [creelref_TimeOf.j3]
    rw [if_neg (by omega)]
    simp only [creelref_TimeOf.j4]
    rw [if_neg (by decide), h0]
    exact jT k (by omega) s b v 0
  · rw [if_neg h0] at hp2
    obtain ⟨hL, hr0, hrest⟩ := trimR_rest 9 u _ rfl
    have hz : (tx (body v u)).size = Lib.nDigits v + 1 + (Lib.trimRightB (P 9 u) 48).length := by rw [tx_size, hpost, hp2]; simp [hdl]; omega
    have hb := bt_at (tx (body v u)) (Lib.decDigits v) (Lib.trimRightB (P 9 u) 48) 46 (by rw [tx_data, hpost, hp2])
    rw [hdl] at hb
    have hb : bt (tx (body v u)) (Lib.nDigits v : Int) = 46 := hb
    simp only [creelref_TimeOf.l0]
    rw [if_pos (by omega), if_pos (by omega), hb, if_neg (by omega)]
    simp only [creelref_TimeOf.j3]
    rw [if_pos (by omega), if_pos (by omega), hb]
    simp only [creelref_TimeOf.j4]
    have e1 : wrap64 ((Lib.nDigits v : Int) + 1) = (((Lib.decDigits v ++ [46]).length + 0 : Nat) : Int) := by rw [wrap_nat (by omega) (by omega)]; simp [hdl]
    rw [if_pos (by decide), e1]
    clear e1
    obtain ⟨k, rfl⟩ : ∃ q, k = q + (Lib.trimRightB (P 9 u) 48).length := ⟨k - (Lib.trimRightB (P 9 u) 48).length, by omega⟩
    have ht : (P 9 u).take (Lib.trimRightB (P 9 u) 48).length = Lib.trimRightB (P 9 u) 48 := by
      have h := congrArg (List.take (Lib.trimRightB (P 9 u) 48).length) hrest
      rwa [List.take_left] at h
    have H := l1_P v 0 u hu s (tx (body v u)) b (Lib.decDigits v ++ [46]) (Lib.trimRightB (P 9 u) 48).length hL (by rw [tx_data, hpost, hp2, ht]; simp) (by simp [hdl]; omega) (Lib.trimRightB (P 9 u) 48).length k 0 (by omega)
    have hdiv : u / 10 ^ (9 - (Lib.trimRightB (P 9 u) 48).length) * 10 ^ (9 - (Lib.trimRightB (P 9 u) 48).length) = u := by
      have := Nat.div_add_mod u (10 ^ (9 - (Lib.trimRightB (P 9 u) 48).length))
      rw [hr0, Nat.add_zero, Nat.mul_comm] at this
      exact this
    have hz0 : u / 10 ^ (9 - 0) * 10 ^ (9 - 0) = 0 := by
      rw [Nat.div_eq_of_lt (by show u < 1000000000; exact hu), Nat.zero_mul]
    rw [hdiv, hz0] at H
    refine H.trans ?_
    obtain ⟨k, rfl⟩ : ∃ q, k = q + 1 := ⟨k - 1, by omega⟩
    simp only [creelref_TimeOf.l1]
    rw [if_neg (by rw [hz]; simp [hdl])]
    exact jT k (by omega) s b v u
theorem body_head (v u : Nat) : ∃ c R, body v u = c :: R ∧ c ≠ 45 := by
  have hpos := Lib.nDigits_pos v
  obtain ⟨n, hn⟩ : ∃ n, Lib.nDigits v = n + 1 := ⟨Lib.nDigits v - 1, by omega⟩
  have hd : Lib.decDigits v = Lib.dg v n :: P n v := by rw [dec_P, hn, P_succ]
  have hc : Lib.dg v n ≠ 45 := by
    intro e
    have := dg_val v n
    rw [e] at this
    have h3 : (45 : UInt8).toNat = 45 := rfl
    omega
  unfold body
  rw [hd]
  split
  · exact ⟨_, _, rfl, hc⟩
  · exact ⟨_, _, rfl, hc⟩
theorem cand_at (a b : Int) (h : okT a b) : cand (decide (a < 0)) (vv a b : Int) (uu a b : Int) = (a, b) := by
  obtain ⟨a1, a2, a3, a4⟩ := h
  unfold cand vv uu
  by_cases h1 : a < 0
  · rw [if_pos (decide_eq_true h1), if_pos h1, if_pos h1]
    by_cases h2 : b > 0
    · rw [if_pos h2, if_pos h2, if_pos (by omega)]
      rw [show (((-a - 1).toNat : Nat) : Int) = -a - 1 by omega, show (((1000000000 - b).toNat : Nat) : Int) = 1000000000 - b by omega]
      congr 1
      · rw [wrap_is (x := -(-a - 1)) (by omega) (by omega), wrap_is (by omega) (by omega)]; omega
      · rw [wrap_is (by omega) (by omega)]; omega
    · rw [if_neg h2, if_neg h2, if_neg (by omega)]
      rw [show (((-a).toNat : Nat) : Int) = -a by omega, show ((b.toNat : Nat) : Int) = b by omega]
      congr 1
      rw [wrap_is (by omega) (by omega)]; omega
  · rw [if_neg (by simp [h1]), if_neg h1, if_neg h1]
    rw [show ((a.toNat : Nat) : Int) = a by omega, show ((b.toNat : Nat) : Int) = b by omega]
theorem trip (a b : Int) (s : ByteArray) (h : tt a b = (s, 0)) : stamp_Parse.f 100 s = some (a, b, 0) ∧ creelref_TimeOf.f 100 s = some (a, b, 0) := by
  have hok : okT a b := by
    by_cases hk : okT a b
    · exact hk
    · rw [show tt a b = ((⟨#[]⟩ : ByteArray), 4) from if_neg hk] at h
      exact absurd (congrArg Prod.snd h) (show ¬ (4 : Int) = 0 by decide)
  have hs : s = txt (sg a) (vv a b) (uu a b) := by
    rw [show tt a b = (txt (sg a) (vv a b) (uu a b), 0) from if_pos hok] at h
    exact (congrArg Prod.fst h).symm
  have hfin := fin_at s a b h
  have hcand := cand_at a b hok
  have hvv : vv a b ≤ 2199023255552 := by
    obtain ⟨a1, a2, a3, a4⟩ := hok
    unfold vv
    split
    · split <;> omega
    · omega
  have huu : uu a b < 1000000000 := by
    obtain ⟨a1, a2, a3, a4⟩ := hok
    unfold uu
    split
    · split <;> omega
    · omega
  obtain ⟨c, R, hR, hc⟩ := body_head (vv a b) (uu a b)
  rw [txt_body] at hs
  by_cases h1 : a < 0
  · have eg : (sg a).data.toList = [45] := by rw [show sg a = (⟨#[45]⟩ : ByteArray) from if_pos h1]
    rw [eg, List.singleton_append] at hs
    rw [decide_eq_true h1] at hcand
    constructor
    · rw [prog_body (vv a b) (uu a b) hvv huu s true (by rw [hs]; exact pre_yes _), hcand, hfin]
    · have hz : s.size = (body (vv a b) (uu a b)).length + 1 := by rw [hs, tx_size]; simp
      have hb : bt s ((0 : Nat) : Int) = 45 := bt_at s [] _ 45 (by rw [hs, tx_data]; rfl)
      have hb : bt s 0 = 45 := hb
      unfold creelref_TimeOf.f
      rw [if_neg (by rw [toList_data, hs, tx_data]; simp), if_pos (by omega), hb]
      simp only [creelref_TimeOf.j0]
      rw [if_pos (by decide), if_pos (by omega)]
      have ex : s.extract 1 s.size = tx (body (vv a b) (uu a b)) := by
        rw [hz, hs, tx_extract]
        congr 1
        rw [List.take_of_length_le (by simp)]
        rfl
      rw [ex]
      have := ref_body (vv a b) (uu a b) hvv huu s true
      rw [hcand, hfin] at this
      exact this
  · have eg : (sg a).data.toList = [] := by rw [show sg a = (⟨#[]⟩ : ByteArray) from if_neg h1]
    rw [eg, List.nil_append] at hs
    rw [decide_eq_false h1] at hcand
    constructor
    · rw [prog_body (vv a b) (uu a b) hvv huu s false (by rw [hs, hR]; exact pre_no c R hc), hcand, hfin]
    · have hz : s.size = (body (vv a b) (uu a b)).length := by rw [hs, tx_size]
      have hb : bt s ((0 : Nat) : Int) = (c.toNat : Int) := bt_at s [] R c (by rw [hs, tx_data, hR]; rfl)
      have hb : bt s 0 = (c.toNat : Int) := hb
      have hc2 : (c.toNat : Int) ≠ 45 := fun e => hc (by apply UInt8.toNat_inj.1; have h3 : (45 : UInt8).toNat = 45 := rfl; omega)
      unfold creelref_TimeOf.f
      rw [if_neg (by rw [toList_data, hs, tx_data, hR]; simp), if_pos (by rw [hz, hR]; simp), hb, show ((c.toNat : Int) == 45) = false from beq_eq_false_iff_ne.2 hc2]
      simp only [creelref_TimeOf.j0]
      rw [if_neg (by decide)]
      have := ref_body (vv a b) (uu a b) hvv huu s false
      rw [hcand, hfin] at this
      rw [hs] at this ⊢
      exact this
theorem pure : Pure := by
  intro s hs
  obtain ⟨r, hr, gr⟩ := prog_tot s hs
  obtain ⟨q, hq, gq⟩ := ref_tot s
  have e : r = q := by
    rcases gr with rfl | ⟨a, b, rfl, h⟩
    · rcases gq with rfl | ⟨a, b, rfl, h⟩
      · rfl
      · rw [(trip a b s h).1] at hr
        exact (Option.some.inj hr).symm
    · rw [(trip a b s h).2] at hq
      exact Option.some.inj hq
  subst e
  refine ⟨100, ?_⟩
  unfold creellaw_StampParses.f
  rw [hr, hq]
  simp
end Go.Proofs.YtmeffcjjfiebdaaDoor.PuStampParses
