/- Records: record.Check and record.Write, the reference's RecordFault and RecordText tell the same. Condition: a key and a value that a row admits. -/
import Derived.Test.YtcipaajdmpkdfaaDoorWPureBase
import Derived.Test.YtcipaajdmpkdfaaDoorFRecordCheck
import Derived.Test.YtcipaajdmpkdfaaDoorFRecordWrite
import Derived.Test.YtcipaajdmpkdfaaDoorFCreelrefRecordFault
import Derived.Test.YtcipaajdmpkdfaaDoorFCreelrefRecordText
import Derived.Test.YtcipaajdmpkdfaaDoorFStringsContainsAny
import Derived.Test.YtcipaajdmpkdfaaDoorFStringsIndexByte
import Derived.Test.YtcipaajdmpkdfaaDoorFCreelrefHas
import Derived.Test.YtcipaajdmpkdfaaDoorFStrconvItoa35
import Derived.Test.YtcipaajdmpkdfaaDoorQDigits
import Derived.Test.YtcipaajdmpkdfaaDoorQHas
namespace Go.Proofs.YtcipaajdmpkdfaaDoor.Q
set_option linter.unusedVariables false
set_option linter.unusedSimpArgs false
open Go.RowKit Go.Proofs.YtcipaajdmpkdfaaDoor.All Go.Proofs.YtcipaajdmpkdfaaDoorW.PrintWords Go.Proofs.YtcipaajdmpkdfaaDoorW.PrintLast Go.Proofs.YtcipaajdmpkdfaaDoorW.PrintMore Go.Proofs.YtcipaajdmpkdfaaDoorW.PureBase

-- USES Digits Has
-- FN record_Check record_Write creelref_RecordFault creelref_RecordText strings_ContainsAny strings_IndexByte creelref_has strconv_Itoa_35
theorem has_at (s : ByteArray) (c : Int) (c0 : 0 ≤ c) (c1 : c ≤ 255) (hb : s.size ≤ 140737488351232) (k : Nat) (hk : s.size < k) : creelref_has.f k s c = some (s.data.toList.contains c.toNat.toUInt8) := by
  obtain ⟨b, h1, h2⟩ := has_from s c hb s.size k 0 (by omega) (by omega) (by omega) (by omega)
  show creelref_has.l0 k s c 0 = _
  rw [h1]
  congr 1
  rw [Bool.eq_iff_iff, h2]
  exact mem_bt s c c0 c1
theorem any_two (c d : UInt8) (l : List UInt8) : Lib.containsAny l [c, d] = (l.contains c || l.contains d) := by
  unfold Lib.containsAny
  induction l with
  | nil => rfl
  | cons b l ih =>
    have hge := Lib.indexAny_ge [c, d] l
    rw [Lib.indexAny]
    by_cases h : ([c, d] : List UInt8).contains b = true
    · rw [if_pos h]
      have : b = c ∨ b = d := by simpa using h
      rcases this with rfl | rfl <;> simp
    · rw [if_neg h]
      have h' : b ≠ c ∧ b ≠ d := by simpa using h
      have e1 : (c == b) = false := by simpa using fun e => h'.1 e.symm
      have e2 : (d == b) = false := by simpa using fun e => h'.2 e.symm
      rw [List.contains_cons, List.contains_cons, e1, e2, Bool.false_or, Bool.false_or, ← ih]
      by_cases hm : Lib.indexAny l [c, d] = -1
      · rw [hm]; decide
      · rw [if_neg (by simpa using hm)]
        exact decide_eq_decide.2 (by omega)
/-- What is wrong with a record. -/
def chk (key value : ByteArray) : Int := if key.size < 1 ∨ 60 < key.size ∨ 500 < value.size then 1 else if (key.data.toList.contains 61 || key.data.toList.contains 10 || value.data.toList.contains 0) = true then 3 else 0
theorem chk_val (key value : ByteArray) (k : Nat) (hk : 600 < k) : record_Check.f k key value = some (chk key value) ∧ creelref_RecordFault.f k key value = some (chk key value) := by
  obtain ⟨k, rfl⟩ : ∃ q, k = q + 1 := ⟨k - 1, by omega⟩
  have hnil : key.toList = ([] : List UInt8) ↔ key.size < 1 := by
    rw [toList_data]
    constructor
    · intro h; rw [← size_list, h]; decide
    · intro h; exact List.length_eq_zero_iff.1 (by rw [size_list]; omega)
  unfold record_Check.f creelref_RecordFault.f
  by_cases h1 : key.size < 1
  · have e : chk key value = 1 := if_pos (.inl h1)
    rw [e, if_pos (by omega), if_pos (hnil.2 h1)]
    constructor
    · simp [record_Check.j0]
    · simp [creelref_RecordFault.j0]
  · rw [if_neg (by omega), if_neg (fun h => h1 (hnil.1 h))]
    by_cases h2 : 60 < key.size
    · have e : chk key value = 1 := if_pos (.inr (.inl h2))
      rw [e, if_pos (by omega), if_pos (by omega)]
      constructor
      · simp [record_Check.j0]
      · simp [creelref_RecordFault.j0]
    · rw [if_neg (by omega), if_neg (by omega)]
      by_cases h3 : 500 < value.size
      · have e : chk key value = 1 := if_pos (.inr (.inr h3))
        rw [e, decide_eq_true (show (value.size : Int) > 500 by omega)]
        constructor
        · simp [record_Check.j0]
        · simp [creelref_RecordFault.j0]
      · have e : chk key value = if (key.data.toList.contains 61 || key.data.toList.contains 10 || value.data.toList.contains 0) = true then 3 else 0 := if_neg (by omega)
        have hC : strings_ContainsAny.f key (⟨#[61, 10]⟩ : ByteArray) = some (key.data.toList.contains 61 || key.data.toList.contains 10) := by
          have : strings_ContainsAny.f key (⟨#[61, 10]⟩ : ByteArray) = some (Lib.containsAny key.data.toList [61, 10]) := if_pos ⟨by decide, by decide, by omega⟩
          rw [this, any_two]
        have hI : strings_IndexByte.f value 0 = some (Lib.indexByte value.data.toList 0) := rfl
        have hge := index_ge value.data.toList 0
        have a1 := has_at key 61 (by omega) (by omega) (by omega) k (by omega)
        have a2 := has_at key 10 (by omega) (by omega) (by omega) k (by omega)
        have a3 := has_at value 0 (by omega) (by omega) (by omega) k (by omega)
        have t1 : (61 : Int).toNat.toUInt8 = 61 := rfl
        have t2 : (10 : Int).toNat.toUInt8 = 10 := rfl
        have t3 : (0 : Int).toNat.toUInt8 = 0 := rfl
        rw [t1] at a1
        rw [t2] at a2
        rw [t3] at a3
        rw [decide_eq_false (show ¬ (value.size : Int) > 500 by omega), e]
        simp only [record_Check.j0, creelref_RecordFault.j0, hC, hI, a1, a2, a3, Option.bind_some]
        cases key.data.toList.contains 61 <;> cases key.data.toList.contains 10 <;> cases hv : value.data.toList.contains 0 <;> rw [hv] at hge <;> simp at hge ⊢ <;> omega
/-- What a record reads as, behind its number. -/
def rbody (key value : ByteArray) : List UInt8 := 32 :: (key.data.toList ++ 61 :: (value.data.toList ++ [10]))
theorem rbody_len (key value : ByteArray) : (rbody key value).length = key.size + value.size + 3 := by
  unfold rbody
  simp [size_list]
  omega
/-- The number that a record begins with. -/
def numOf (L : Nat) : Nat := if L ≤ 8 then L + 1 else if L ≤ 97 then L + 2 else L + 3
theorem nd_is (n : Nat) (h : n < 1000) : Lib.nDigits n = if n < 10 then 1 else if n < 100 then 2 else 3 := by
  by_cases h1 : n < 10
  · rw [Lib.nDigits_small h1, if_pos h1]
  · rw [if_neg h1, Lib.nDigits_big (by omega)]
    by_cases h2 : n < 100
    · rw [Lib.nDigits_small (show n / 10 < 10 by omega), if_pos h2]
    · rw [if_neg h2, Lib.nDigits_big (by omega), Lib.nDigits_small (by omega)]
theorem num_fix (L : Nat) (h1 : 1 ≤ L) (h2 : L ≤ 900) : numOf L = L + Lib.nDigits (numOf L) ∧ L + 1 ≤ numOf L ∧ numOf L ≤ 903 ∧ ∀ n, n < numOf L → n ≠ L + Lib.nDigits n := by
  have hle : numOf L ≤ 903 := by unfold numOf; split; omega; split <;> omega
  have hge : L + 1 ≤ numOf L := by unfold numOf; split; omega; split <;> omega
  refine ⟨?_, hge, hle, fun n hn => ?_⟩
  · rw [nd_is _ (by omega)]
    unfold numOf
    split
    · rw [if_pos (by omega)]
    · split
      · rw [if_neg (by omega), if_pos (by omega)]
      · rw [if_neg (by omega), if_neg (by omega)]
  · rw [nd_is n (by omega)]
    unfold numOf at hn
    split at hn
    · split
      · omega
      · split <;> omega
    · split at hn
      · split
        · omega
        · split <;> omega
      · split
        · omega
        · split <;> omega
theorem itoa_f (n : Nat) (h : n ≤ 9000000000000000000) : strconv_Itoa_35.f (n : Int) = some (tx (Lib.decDigits n)) := by
  have : strconv_Itoa_35.f (n : Int) = some (tx (Lib.itoa (n : Int))) := if_pos (by omega)
  rw [this, itoa_nat]
theorem write_step (B : List UInt8) (hB2 : B.length ≤ 900) (k n : Nat) (hn : n ≤ 1000) :
    record_Write.l0 (k + 1) (tx B) (n : Int) = if n = B.length + Lib.nDigits n then some (tx (Lib.decDigits n ++ B), 0) else record_Write.l0 k (tx B) ((n + 1 : Nat) : Int) := by
  have hnd := nd_is n
  have hnd3 : Lib.nDigits n ≤ 4 := nd_le 4 n (by omega) (by omega)
  have e1 : wrap64 ((n : Int) + 1) = ((n + 1 : Nat) : Int) := by rw [wrap_nat (by omega) (by omega)]; rfl
  have e2 : wrap64 (((tx B).size : Int) + ((tx (Lib.decDigits n)).size : Int)) = ((B.length + Lib.nDigits n : Nat) : Int) := by
    clear e1
    rw [tx_size, tx_size, Lib.decDigits_length, wrap_nat (by omega) (by omega)]
    omega
  simp only [record_Write.l0]
  rw [itoa_f n (by omega), Option.bind_some, Option.bind_some, e1, e2]
  clear e1 e2
  by_cases h : n = B.length + Lib.nDigits n
  · rw [if_pos h, if_pos (by omega), if_pos (by rw [tx_size, tx_size, Lib.decDigits_length]; omega), tx_app]
  · rw [if_neg h, if_neg (by omega)]
theorem write_loop (B : List UInt8) (hB1 : 1 ≤ B.length) (hB2 : B.length ≤ 900) (d : Nat) : ∀ (k n : Nat), n + d = numOf B.length → d < k →
    record_Write.l0 k (tx B) (n : Int) = some (tx (Lib.decDigits (numOf B.length) ++ B), 0) := by
  obtain ⟨f1, f2, f3, f4⟩ := num_fix B.length hB1 hB2
  induction d with
  | zero =>
    intro k n hn hk
    obtain ⟨k, rfl⟩ : ∃ q, k = q + 1 := ⟨k - 1, by omega⟩
    obtain rfl : n = numOf B.length := by omega
    rw [write_step B hB2 k _ (by omega), if_pos f1]
  | succ d ih =>
    intro k n hn hk
    obtain ⟨k, rfl⟩ : ∃ q, k = q + 1 := ⟨k - 1, by omega⟩
    rw [write_step B hB2 k _ (by omega), if_neg (f4 n (by omega))]
    exact ih k (n + 1) (by omega) (by omega)
theorem text_at (key value : ByteArray) (n : Nat) : ((((tx (Lib.decDigits n) ++ (⟨#[32]⟩ : ByteArray)) ++ key) ++ (⟨#[61]⟩ : ByteArray)) ++ value) ++ (⟨#[10]⟩ : ByteArray) = tx (Lib.decDigits n ++ rbody key value) := by
  apply ext_list
  simp [tx, rbody]
theorem text_step (key value : ByteArray) (hB2 : (rbody key value).length ≤ 900) (k n : Nat) (hn : n ≤ 1000) :
    creelref_RecordText.l0 (k + 1) (n : Int) key value = if n = (rbody key value).length + Lib.nDigits n then some (tx (Lib.decDigits n ++ rbody key value), 0) else creelref_RecordText.l0 k ((n + 1 : Nat) : Int) key value := by
  have hlen := rbody_len key value
  have hs1 : ((⟨#[32]⟩ : ByteArray)).size = 1 := rfl
  have hs2 : ((⟨#[61]⟩ : ByteArray)).size = 1 := rfl
  have hs3 : ((⟨#[10]⟩ : ByteArray)).size = 1 := rfl
  have hnd3 : Lib.nDigits n ≤ 4 := nd_le 4 n (by omega) (by omega)
  have hd : (tx (Lib.decDigits n)).size = Lib.nDigits n := by rw [tx_size, Lib.decDigits_length]
  have e1 : wrap64 ((n : Int) + 1) = ((n + 1 : Nat) : Int) := by rw [wrap_nat (by omega) (by omega)]; rfl
  have e2 : ((tx (Lib.decDigits n ++ rbody key value)).size : Int) = (((rbody key value).length + Lib.nDigits n : Nat) : Int) := by
    clear e1
    rw [tx_size, List.length_append, Lib.decDigits_length, Nat.add_comm]
  simp only [creelref_RecordText.l0]
  rw [itoa_f n (by omega), Option.bind_some, text_at, e1, e2]
  clear e1 e2
  rw [if_pos (by rw [hd]; omega), if_pos (by rw [ByteArray.size_append, hd, hs1]; omega), if_pos (by rw [ByteArray.size_append, ByteArray.size_append, hd, hs1]; omega), if_pos (by rw [ByteArray.size_append, ByteArray.size_append, ByteArray.size_append, hd, hs1, hs2]; omega), if_pos (by rw [ByteArray.size_append, ByteArray.size_append, ByteArray.size_append, ByteArray.size_append, hd, hs1, hs2]; omega)]
  by_cases h : n = (rbody key value).length + Lib.nDigits n
  · rw [if_pos h, if_pos (by omega)]
  · rw [if_neg h, if_neg (by omega)]
theorem text_loop (key value : ByteArray) (hB2 : (rbody key value).length ≤ 900) (d : Nat) : ∀ (k n : Nat), n + d = numOf (rbody key value).length → d < k →
    creelref_RecordText.l0 k (n : Int) key value = some (tx (Lib.decDigits (numOf (rbody key value).length) ++ rbody key value), 0) := by
  have hlen := rbody_len key value
  obtain ⟨f1, f2, f3, f4⟩ := num_fix (rbody key value).length (by omega) hB2
  induction d with
  | zero =>
    intro k n hn hk
    obtain ⟨k, rfl⟩ : ∃ q, k = q + 1 := ⟨k - 1, by omega⟩
    obtain rfl : n = numOf (rbody key value).length := by omega
    rw [text_step key value hB2 k _ (by omega), if_pos f1]
  | succ d ih =>
    intro k n hn hk
    obtain ⟨k, rfl⟩ : ∃ q, k = q + 1 := ⟨k - 1, by omega⟩
    rw [text_step key value hB2 k _ (by omega), if_neg (f4 n (by omega))]
    exact ih k (n + 1) (by omega) (by omega)
/-- What both write. -/
def rt (key value : ByteArray) : ByteArray × Int := if chk key value = 0 then (tx (Lib.decDigits (numOf (rbody key value).length) ++ rbody key value), 0) else ((⟨#[]⟩ : ByteArray), chk key value)
theorem rt_val (key value : ByteArray) (k : Nat) (hk : 1000 < k) : record_Write.f k key value = some (rt key value) ∧ creelref_RecordText.f k key value = some (rt key value) := by
  obtain ⟨c1, c2⟩ := chk_val key value k (by omega)
  unfold record_Write.f creelref_RecordText.f
  rw [c1, c2]
  simp only [Option.bind_some]
  by_cases h : chk key value = 0
  · have e : rt key value = (tx (Lib.decDigits (numOf (rbody key value).length) ++ rbody key value), 0) := if_pos h
    have hsz : ¬ (key.size < 1 ∨ 60 < key.size ∨ 500 < value.size) := by
      intro h'
      rw [show chk key value = 1 from if_pos h'] at h
      exact absurd h (by decide)
    have hlen := rbody_len key value
    have hs1 : ((⟨#[32]⟩ : ByteArray)).size = 1 := rfl
    have hs2 : ((⟨#[61]⟩ : ByteArray)).size = 1 := rfl
    have hs3 : ((⟨#[10]⟩ : ByteArray)).size = 1 := rfl
    have hB : ((((⟨#[32]⟩ : ByteArray) ++ key) ++ (⟨#[61]⟩ : ByteArray)) ++ value) ++ (⟨#[10]⟩ : ByteArray) = tx (rbody key value) := by
      apply ext_list
      simp [tx, rbody]
    obtain ⟨f1, f2, f3, f4⟩ := num_fix (rbody key value).length (by omega) (by omega)
    rw [if_pos h, if_pos h, e]
    constructor
    · have e0 : wrap64 (((tx (rbody key value)).size : Int) + 1) = (((rbody key value).length + 1 : Nat) : Int) := by rw [tx_size, wrap_nat (by omega) (by omega)]; rfl
      rw [hB, e0]
      clear e0
      rw [if_pos (by omega), if_pos (by rw [ByteArray.size_append, hs1]; omega), if_pos (by rw [ByteArray.size_append, ByteArray.size_append, hs1, hs2]; omega), if_pos (by rw [ByteArray.size_append, ByteArray.size_append, ByteArray.size_append, hs1, hs2]; omega)]
      exact write_loop (rbody key value) (by omega) (by omega) (numOf (rbody key value).length - ((rbody key value).length + 1)) k ((rbody key value).length + 1) (by omega) (by omega)
    · exact text_loop key value (by omega) (numOf (rbody key value).length - 1) k 1 (by omega) (by omega)
  · have e : rt key value = ((⟨#[]⟩ : ByteArray), chk key value) := if_neg h
    rw [if_neg h, if_neg h, e]
    exact ⟨rfl, rfl⟩
end Go.Proofs.YtcipaajdmpkdfaaDoor.Q
