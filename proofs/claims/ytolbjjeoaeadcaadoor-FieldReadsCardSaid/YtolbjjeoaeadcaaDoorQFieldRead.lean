/- field.Read and the reference's FieldOf tell the same of every string. No condition. -/
import Derived.Test.YtolbjjeoaeadcaaDoorWPureBase
import Derived.Test.YtolbjjeoaeadcaaDoorFStringsIndexByte
import Derived.Test.YtolbjjeoaeadcaaDoorFStringsTrim
import Derived.Test.YtolbjjeoaeadcaaDoorFFieldRead
import Derived.Test.YtolbjjeoaeadcaaDoorFCreelrefZeros
import Derived.Test.YtolbjjeoaeadcaaDoorFCreelrefFieldOf
namespace Go.Proofs.YtolbjjeoaeadcaaDoor.Q
set_option linter.unusedVariables false
set_option linter.unusedSimpArgs false
open Go.RowKit Go.Proofs.YtolbjjeoaeadcaaDoor.All Go.Proofs.YtolbjjeoaeadcaaDoorW.PrintWords Go.Proofs.YtolbjjeoaeadcaaDoorW.PrintLast Go.Proofs.YtolbjjeoaeadcaaDoorW.PrintMore Go.Proofs.YtolbjjeoaeadcaaDoorW.PureBase

-- FN strings_IndexByte strings_Trim field_Read creelref_zeros creelref_FieldOf
/-- So many bytes 0. -/
def zs (n : Nat) : ByteArray := ⟨(List.replicate n (0 : UInt8)).toArray⟩
theorem zs_size (n : Nat) : (zs n).size = n := by simp [zs, ByteArray.size]
theorem zs_snoc (n : Nat) : zs n ++ (⟨#[0]⟩ : ByteArray) = zs (n + 1) := by
  apply ext_list
  simp [zs, List.replicate_succ']
theorem zeros_loop (d : Nat) : ∀ (k : Nat) (n i : Nat), n - i = d → i ≤ n → n ≤ 140737488355328 → d < k → creelref_zeros.l0 k (n : Int) (zs i) (i : Int) = some (zs n) := by
  induction d with
  | zero =>
    intro k n i hd hi hn hk
    obtain ⟨k, rfl⟩ : ∃ m, k = m + 1 := ⟨k - 1, by omega⟩
    simp only [creelref_zeros.l0]
    rw [if_neg (by omega), show i = n from by omega]
  | succ d ih =>
    intro k n i hd hi hn hk
    obtain ⟨k, rfl⟩ : ∃ m, k = m + 1 := ⟨k - 1, by omega⟩
    simp only [creelref_zeros.l0]
    have hw : wrap64 ((i : Int) + 1) = ((i + 1 : Nat) : Int) := by rw [wrap_is (by omega) (by omega)]; omega
    rw [if_pos (by omega), if_pos (by rw [zs_size]; omega), zs_snoc, hw]
    exact ih k n (i + 1) (by omega) (by omega) hn (by omega)
theorem zeros_is (n k : Nat) (hn : n ≤ 140737488355328) (hk : n < k) : creelref_zeros.f k (n : Int) = some (zs n) := by
  unfold creelref_zeros.f
  exact zeros_loop n k n 0 (by omega) (by omega) hn hk

theorem dropWhile_nil {l : List UInt8} {p : UInt8 → Bool} : l.dropWhile p = [] ↔ ∀ x ∈ l, p x = true := by
  induction l with
  | nil => simp
  | cons a l ih =>
    by_cases h : p a = true
    · rw [List.dropWhile_cons_of_pos h, ih]; simp [h]
    · rw [List.dropWhile_cons_of_neg h]; simp [h]
theorem dropWhile_head {l t : List UInt8} {p : UInt8 → Bool} {a : UInt8} (h : l.dropWhile p = a :: t) : p a = false := by
  induction l with
  | nil => simp at h
  | cons b l ih =>
    by_cases hb : p b = true
    · rw [List.dropWhile_cons_of_pos hb] at h; exact ih h
    · rw [List.dropWhile_cons_of_neg hb] at h
      injection h with h1 h2
      rw [← h1]; simpa using hb
theorem trim_zero (l : List UInt8) : Lib.trimB l 0 = [] ↔ l = List.replicate l.length 0 := by
  have key : Lib.trimB l 0 = [] ↔ ∀ x ∈ l, x = 0 := by
    unfold Lib.trimB Lib.trimLeftB Lib.trimRightB
    rw [dropWhile_nil]
    constructor
    · intro h
      cases hR : l.reverse.dropWhile (· == 0) with
      | nil =>
        rw [dropWhile_nil] at hR
        intro x hx
        simpa using hR x (by simpa using hx)
      | cons a t =>
        have h1 := dropWhile_head hR
        have h2 := h a (by rw [hR]; simp)
        rw [h2] at h1; cases h1
    · intro h
      have : l.reverse.dropWhile (· == 0) = [] := by
        rw [dropWhile_nil]
        intro x hx
        simpa using h x (by simpa using hx)
      rw [this]; simp
  rw [key, List.eq_replicate_iff]
  simp
theorem rest_zero (r : ByteArray) (n : Nat) (hn : r.size = n) : r.toList = (zs n).toList ↔ Lib.trimB r.data.toList 0 = [] := by
  rw [toList_data, toList_data, trim_zero, size_list, hn]
  simp [zs]

/-- What a field's text is. -/
def fieldR (s : ByteArray) (w : Bool) : ByteArray × Int :=
  if 0 ≤ Lib.indexByte s.data.toList 0 then
    (if Lib.trimB (s.extract (Lib.indexByte s.data.toList 0).toNat s.size).data.toList 0 = [] then (s.extract 0 (Lib.indexByte s.data.toList 0).toNat, 0) else ((⟨#[]⟩ : ByteArray), 3))
  else if w = true then (s, 0) else ((⟨#[]⟩ : ByteArray), 3)

theorem index_at (s : ByteArray) (i : Nat) (hi : i < s.size) (h0 : bt s (i : Int) = 0) (hb : ∀ j : Nat, j < i → bt s (j : Int) ≠ 0) : Lib.indexByte s.data.toList 0 = (i : Int) := by
  have hz := (bt_eq_iff s i hi 0 (by omega) (by omega)).1 h0
  have hz' : s.data.toList[i]? = some (0 : UInt8) := hz
  have hge := Lib.indexByte_ge s.data.toList 0
  by_cases hn : Lib.indexByte s.data.toList 0 = -1
  · exact absurd hz' (Lib.indexByte_none hn i)
  · obtain ⟨o, ho⟩ := Int.eq_ofNat_of_zero_le (show 0 ≤ Lib.indexByte s.data.toList 0 by omega)
    obtain ⟨h1, h2⟩ := Lib.indexByte_some ho
    have h3 : ¬ i < o := fun h => h2 i h hz'
    have h4 : ¬ o < i := by
      intro h
      apply hb o h
      exact (bt_eq_iff s o (by omega) 0 (by omega) (by omega)).2 h1
    rw [ho]; omega
theorem index_no (s : ByteArray) (hb : ∀ j : Nat, j < s.size → bt s (j : Int) ≠ 0) : Lib.indexByte s.data.toList 0 = -1 := by
  have hge := Lib.indexByte_ge s.data.toList 0
  by_cases hn : Lib.indexByte s.data.toList 0 = -1
  · exact hn
  · obtain ⟨o, ho⟩ := Int.eq_ofNat_of_zero_le (show 0 ≤ Lib.indexByte s.data.toList 0 by omega)
    obtain ⟨h1, _⟩ := Lib.indexByte_some ho
    have hlt : o < s.size := by
      have := (List.getElem?_eq_some_iff.1 h1).1
      simpa using this
    exact absurd ((bt_eq_iff s o hlt 0 (by omega) (by omega)).2 h1) (hb o hlt)

theorem of_loop (s : ByteArray) (w : Bool) (hs : s.size ≤ 512) (d : Nat) : ∀ (k i : Nat), s.size - i = d → i ≤ s.size → (∀ j : Nat, j < i → bt s (j : Int) ≠ 0) → d + 600 < k →
    creelref_FieldOf.l0 k s w (i : Int) = some (fieldR s w) := by
  induction d with
  | zero =>
    intro k i hd hi hb hk
    obtain ⟨k, rfl⟩ : ∃ m, k = m + 1 := ⟨k - 1, by omega⟩
    obtain rfl : i = s.size := by omega
    simp only [creelref_FieldOf.l0]
    rw [if_neg (by omega)]
    simp only [if_true]
    unfold fieldR
    rw [index_no s hb, if_neg (show ¬ (0 : Int) ≤ -1 by omega)]
    cases w with
    | false => simp
    | true =>
      simp only [if_true]
      rw [if_pos (show (0 : Int) ≤ s.size by omega), if_pos (show (s.size : Int) ≤ s.size by omega), wrap_is (by omega) (by omega), show (s.size : Int) - s.size = ((0 : Nat) : Int) from by omega, zeros_is 0 k (by omega) (by omega)]
      simp only [Option.bind_some, Int.toNat_natCast]
      rw [if_pos]
      · simp
      · rw [rest_zero _ 0 (by rw [ByteArray.size_extract]; omega)]
        have : (s.extract s.size s.size).data.toList = [] := by
          apply List.eq_nil_of_length_eq_zero
          rw [size_list, ByteArray.size_extract]; omega
        rw [this]; rfl
  | succ d ih =>
    intro k i hd hi hb hk
    obtain ⟨k, rfl⟩ : ∃ m, k = m + 1 := ⟨k - 1, by omega⟩
    have hlt : i < s.size := by omega
    simp only [creelref_FieldOf.l0]
    rw [if_pos (show (i : Int) < s.size by omega), if_pos (show (0 : Int) ≤ i by omega)]
    by_cases h0 : bt s (i : Int) = 0
    · rw [if_pos h0, if_neg (show ¬ (i : Int) = s.size by omega), if_pos (show (i : Int) ≤ s.size by omega), wrap_is (by omega) (by omega), show (s.size : Int) - (i : Int) = ((s.size - i : Nat) : Int) from by omega, zeros_is (s.size - i) k (by omega) (by omega)]
      simp only [Option.bind_some, Int.toNat_natCast]
      unfold fieldR
      rw [index_at s i hlt h0 hb, if_pos (show (0 : Int) ≤ i by omega)]
      simp only [Int.toNat_natCast]
      have hz := rest_zero (s.extract i s.size) (s.size - i) (by rw [ByteArray.size_extract]; omega)
      by_cases c : Lib.trimB (s.extract i s.size).data.toList 0 = []
      · rw [if_pos c, if_pos (hz.2 c)]
      · rw [if_neg c, if_neg (fun h => c (hz.1 h))]
    · rw [if_neg h0, wrap_is (by omega) (by omega), show (i : Int) + 1 = ((i + 1 : Nat) : Int) from by omega]
      refine ih k (i + 1) (by omega) (by omega) (fun j hj => ?_) (by omega)
      by_cases e : j = i
      · rw [e]; exact h0
      · exact hb j (by omega)

theorem field_same (s : ByteArray) (w : Bool) : ∃ r, field_Read.f s w = some r ∧ Ev (fun k => creelref_FieldOf.f k s w) r := by
  by_cases c : s.size < 1 ∨ 512 < s.size
  · refine ⟨((⟨#[]⟩ : ByteArray), 4), ?_, 1, fun k hk => ?_⟩
    · unfold field_Read.f; rw [if_pos c]
    · obtain ⟨k, rfl⟩ : ∃ m, k = m + 1 := ⟨k - 1, by omega⟩
      show creelref_FieldOf.f (k + 1) s w = _
      unfold creelref_FieldOf.f
      by_cases h : s.toList = ([] : List UInt8)
      · rw [if_pos h]; simp [creelref_FieldOf.j0]
      · rw [if_neg h]
        have : 1 ≤ s.size := by
          rcases Nat.eq_zero_or_pos s.size with h1 | h1
          · rw [← size_list] at h1
            exact absurd (by rw [toList_data]; exact List.eq_nil_of_length_eq_zero h1) h
          · exact h1
        rw [decide_eq_true (by omega)]; simp [creelref_FieldOf.j0]
  · refine ⟨fieldR s w, ?_, 1300, fun k hk => ?_⟩
    · unfold field_Read.f fieldR; rw [if_neg c]
    · obtain ⟨k, rfl⟩ : ∃ m, k = m + 1 := ⟨k - 1, by omega⟩
      show creelref_FieldOf.f (k + 1) s w = _
      unfold creelref_FieldOf.f
      have h : ¬ s.toList = ([] : List UInt8) := by
        intro h
        have := congrArg List.length h
        rw [toList_data, size_list] at this
        have : s.size = 0 := this
        omega
      rw [if_neg h, decide_eq_false (show ¬ (s.size : Int) > 512 by omega)]
      simp only [creelref_FieldOf.j0, Bool.false_eq_true, if_false]
      exact of_loop s w (by omega) s.size k 0 (by omega) (by omega) (fun j hj => by omega) (by omega)
end Go.Proofs.YtolbjjeoaeadcaaDoor.Q
