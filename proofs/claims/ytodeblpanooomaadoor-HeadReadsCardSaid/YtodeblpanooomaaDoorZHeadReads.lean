/- Made by programs of the prover: walks of Go functions, the words that they use, and plain laws, each text in a section of its own; no condition of its own. -/
import Derived.Lib.Bytealg
import Derived.Lib.IndexAny
import Derived.Lib.IndexLaws
import Derived.Test.YtodeblpanooomaaDoorRows
import Derived.Test.YtodeblpanooomaaDoorCards
import Derived.Test.YtodeblpanooomaaDoorTie
import Derived.WalkKit
import Derived.ProofKit
import Derived.OpenShut
import Derived.ShutString
import Derived.ChangeOld
import Derived.Below
import Derived.SizedLaws
import Derived.WideShapes
import Derived.Deep.DeepHandedRow
import Derived.Lib.LaidTab
import Derived.Test.YtodeblpanooomaaDoorZHeadReads1
import Derived.Test.YtodeblpanooomaaDoorZHeadReads3
import Derived.Test.YtodeblpanooomaaDoorZHeadReads4
import Derived.Test.YtodeblpanooomaaDoorZHeadReads5
import Derived.Test.YtodeblpanooomaaDoorZHeadReads6
section
namespace Go.Proofs.YtodeblpanooomaaDoor.GHeadReads
open Go.RowKit Go.Proofs.YtodeblpanooomaaDoor.All Go.Proofs.YtodeblpanooomaaDoorW.PrintWords Go.Proofs.YtodeblpanooomaaDoorW.PrintLast Go.Proofs.YtodeblpanooomaaDoorW.Opens
set_option linter.unusedVariables false
/-- What is to be proved of the plain functions. -/
def Pure : Prop := ∀ (a0 : ByteArray), (a0.size ≤ 140737488351232) → ∃ k, creellaw_HeadReads.f k a0 = some true
theorem walk (P : Pure) (a0 : ByteArray) (w : World) (g0 : a0.size ≤ 140737488351232)  :
    Calls Tryd.prog 3 #[.string a0] w fun e w' => e = .returned (.bool true) ∧ Below w.heap.size w w' := by
  obtain ⟨k, h⟩ := P a0 g0
  refine (creellaw_HeadReads.calls k a0 true w h).mono ?_
  rintro e w' ⟨rfl, hd⟩
  exact ⟨rfl, hd⟩
end Go.Proofs.YtodeblpanooomaaDoor.GHeadReads
end
section
namespace Go.Proofs.YtodeblpanooomaaDoorW.PureBase
open Go.RowKit Go.Proofs.YtodeblpanooomaaDoorW.PrintWords

theorem wrap_is {x : Int} (h0 : -9223372036854775808 ≤ x) (h : x ≤ 9223372036854775807) : wrap64 x = x := by unfold wrap64; omega
theorem toList_data (s : ByteArray) : s.toList = s.data.toList := ByteArray.toList_eq s

/-- The byte at a place, as a list's. -/
theorem bt_get (s : ByteArray) (i : Nat) (h : i < s.size) : bt s i = ((s.data.toList[i]'(by simpa using h)).toNat : Int) := by
  unfold bt
  rw [dif_pos (by simpa using h)]
  simp
  rfl
theorem bt_eq_iff (s : ByteArray) (i : Nat) (h : i < s.size) (c : Int) (c0 : 0 ≤ c) (c1 : c ≤ 255) : bt s i = c ↔ s.data.toList[i]? = some c.toNat.toUInt8 := by
  rw [bt_get s i h, List.getElem?_eq_getElem (by simpa using h)]
  simp only [Option.some.injEq]
  constructor
  · intro e
    rw [← e]
    simp
  · intro e
    rw [e]
    simp
    omega
theorem size_list (s : ByteArray) : s.data.toList.length = s.size := by simp
theorem of_list (s : ByteArray) : (⟨s.data.toList.toArray⟩ : ByteArray) = s := by simp
theorem ext_list {s t : ByteArray} (h : s.data.toList = t.data.toList) : s = t := by
  rw [← of_list s, ← of_list t, h]
theorem toList_inj {s t : ByteArray} (h : s.toList = t.toList) : s = t := by
  rw [toList_data, toList_data] at h
  exact ext_list h

/-- Is a byte among a string's bytes? -/
theorem mem_bt (s : ByteArray) (c : Int) (c0 : 0 ≤ c) (c1 : c ≤ 255) : (∃ j : Int, 0 ≤ j ∧ j < s.size ∧ bt s j = c) ↔ s.data.toList.contains c.toNat.toUInt8 = true := by
  rw [List.contains_iff_mem]
  constructor
  · rintro ⟨j, h0, h1, h2⟩
    obtain ⟨i, rfl⟩ := Int.eq_ofNat_of_zero_le h0
    have := (bt_eq_iff s i (by omega) c c0 c1).1 h2
    exact List.mem_of_getElem? this
  · intro h
    obtain ⟨i, hi, he⟩ := List.mem_iff_getElem.1 h
    have hs : i < s.size := by simpa using hi
    refine ⟨i, by omega, by omega, ?_⟩
    rw [bt_eq_iff s i hs c c0 c1, List.getElem?_eq_getElem hi, he]

theorem index_ge (l : List UInt8) (c : UInt8) : decide (Lib.indexByte l c ≥ 0) = l.contains c := by
  rw [Lib.contains_iff_indexByte]

/-- Rounds: what is told at some number of rounds and is kept by more. -/
theorem Ev.at_ {α : Type} {g : Nat → Option α} {r : α} (h : Ev g r) : ∃ K, ∀ k, K ≤ k → g k = some r := h
theorem Ev.const {α : Type} {o : Option α} {r : α} (h : o = some r) : Ev (fun _ => o) r := ⟨0, fun _ _ => h⟩
theorem Ev.ifp {α : Type} {c : Prop} [Decidable c] {g f : Nat → Option α} {r : α} (hc : c) (h : Ev g r) : Ev (fun k => if c then g k else f k) r := by
  obtain ⟨K, hk⟩ := h
  exact ⟨K, fun k h => (if_pos hc).trans (hk k h)⟩
theorem Ev.ifn {α : Type} {c : Prop} [Decidable c] {g f : Nat → Option α} {r : α} (hc : ¬ c) (h : Ev f r) : Ev (fun k => if c then g k else f k) r := by
  obtain ⟨K, hk⟩ := h
  exact ⟨K, fun k h => (if_neg hc).trans (hk k h)⟩
end Go.Proofs.YtodeblpanooomaaDoorW.PureBase
end
section
namespace Go.Proofs.YtodeblpanooomaaDoor.Q
set_option linter.unusedVariables false
set_option linter.unusedSimpArgs false
open Go.RowKit Go.Proofs.YtodeblpanooomaaDoor.All Go.Proofs.YtodeblpanooomaaDoorW.PrintWords Go.Proofs.YtodeblpanooomaaDoorW.PrintLast Go.Proofs.YtodeblpanooomaaDoorW.PrintMore Go.Proofs.YtodeblpanooomaaDoorW.PureBase

-- FN strings_IndexByte strings_Trim field_Read creelref_zeros creelref_FieldOf
/-- So many bytes 0. -/
def zs (n : Nat) : ByteArray := ⟨(List.replicate n (0 : UInt8)).toArray⟩
theorem zs_size (n : Nat) : (zs n).size = n := by simp [zs, ByteArray.size]
theorem zs_snoc (n : Nat) : zs n ++ (⟨#[0]⟩ : ByteArray) = zs (n + 1) := by
  apply ext_list
  simp [zs, List.replicate_succ']
theorem zeros_loop (d : Nat) : ∀ (k : Nat) (n i : Nat), n - i = d → i ≤ n → n ≤ 140737488355328 → d < k → creelref_zeros.l0 k (n : Int) (zs i) (i : Int) = some (zs n) := by
  induction d with
  | zero =>
    intro k n i hd hi hn hk
    obtain ⟨k, rfl⟩ : ∃ m, k = m + 1 := ⟨k - 1, by omega⟩
    simp only [creelref_zeros.l0]
    rw [if_neg (by omega), show i = n from by omega]
  | succ d ih =>
    intro k n i hd hi hn hk
    obtain ⟨k, rfl⟩ : ∃ m, k = m + 1 := ⟨k - 1, by omega⟩
    simp only [creelref_zeros.l0]
    have hw : wrap64 ((i : Int) + 1) = ((i + 1 : Nat) : Int) := by rw [wrap_is (by omega) (by omega)]; omega
    rw [if_pos (by omega), if_pos (by rw [zs_size]; omega), zs_snoc, hw]
    exact ih k n (i + 1) (by omega) (by omega) hn (by omega)
theorem zeros_is (n k : Nat) (hn : n ≤ 140737488355328) (hk : n < k) : creelref_zeros.f k (n : Int) = some (zs n) := by
  unfold creelref_zeros.f
  exact zeros_loop n k n 0 (by omega) (by omega) hn hk

theorem dropWhile_nil {l : List UInt8} {p : UInt8 → Bool} : l.dropWhile p = [] ↔ ∀ x ∈ l, p x = true := by
  induction l with
  | nil => simp
  | cons a l ih =>
    by_cases h : p a = true
    · rw [List.dropWhile_cons_of_pos h, ih]; simp [h]
    · rw [List.dropWhile_cons_of_neg h]; simp [h]
theorem dropWhile_head {l t : List UInt8} {p : UInt8 → Bool} {a : UInt8} (h : l.dropWhile p = a :: t) : p a = false := by
  induction l with
  | nil => simp at h
  | cons b l ih =>
    by_cases hb : p b = true
    · rw [List.dropWhile_cons_of_pos hb] at h; exact ih h
    · rw [List.dropWhile_cons_of_neg hb] at h
      injection h with h1 h2
      rw [← h1]; simpa using hb
theorem trim_zero (l : List UInt8) : Lib.trimB l 0 = [] ↔ l = List.replicate l.length 0 := by
  have key : Lib.trimB l 0 = [] ↔ ∀ x ∈ l, x = 0 := by
    unfold Lib.trimB Lib.trimLeftB Lib.trimRightB
    rw [dropWhile_nil]
    constructor
    · intro h
      cases hR : l.reverse.dropWhile (· == 0) with
      | nil =>
        rw [dropWhile_nil] at hR
        intro x hx
        simpa using hR x (by simpa using hx)
      | cons a t =>
        have h1 := dropWhile_head hR
        have h2 := h a (by rw [hR]; simp)
        rw [h2] at h1; cases h1
    · intro h
      have : l.reverse.dropWhile (· == 0) = [] := by
        rw [dropWhile_nil]
        intro x hx
        simpa using h x (by simpa using hx)
      rw [this]; simp
  rw [key, List.eq_replicate_iff]
  simp
theorem rest_zero (r : ByteArray) (n : Nat) (hn : r.size = n) : r.toList = (zs n).toList ↔ Lib.trimB r.data.toList 0 = [] := by
  rw [toList_data, toList_data, trim_zero, size_list, hn]
  simp [zs]

/-- What a field's text is. -/
def fieldR (s : ByteArray) (w : Bool) : ByteArray × Int :=
  if 0 ≤ Lib.indexByte s.data.toList 0 then
    (if Lib.trimB (s.extract (Lib.indexByte s.data.toList 0).toNat s.size).data.toList 0 = [] then (s.extract 0 (Lib.indexByte s.data.toList 0).toNat, 0) else ((⟨#[]⟩ : ByteArray), 3))
  else if w = true then (s, 0) else ((⟨#[]⟩ : ByteArray), 3)

theorem index_at (s : ByteArray) (i : Nat) (hi : i < s.size) (h0 : bt s (i : Int) = 0) (hb : ∀ j : Nat, j < i → bt s (j : Int) ≠ 0) : Lib.indexByte s.data.toList 0 = (i : Int) := by
  have hz := (bt_eq_iff s i hi 0 (by omega) (by omega)).1 h0
  have hz' : s.data.toList[i]? = some (0 : UInt8) := hz
  have hge := Lib.indexByte_ge s.data.toList 0
  by_cases hn : Lib.indexByte s.data.toList 0 = -1
  · exact absurd hz' (Lib.indexByte_none hn i)
  · obtain ⟨o, ho⟩ := Int.eq_ofNat_of_zero_le (show 0 ≤ Lib.indexByte s.data.toList 0 by omega)
    obtain ⟨h1, h2⟩ := Lib.indexByte_some ho
    have h3 : ¬ i < o := fun h => h2 i h hz'
    have h4 : ¬ o < i := by
      intro h
      apply hb o h
      exact (bt_eq_iff s o (by omega) 0 (by omega) (by omega)).2 h1
    rw [ho]; omega
theorem index_no (s : ByteArray) (hb : ∀ j : Nat, j < s.size → bt s (j : Int) ≠ 0) : Lib.indexByte s.data.toList 0 = -1 := by
  have hge := Lib.indexByte_ge s.data.toList 0
  by_cases hn : Lib.indexByte s.data.toList 0 = -1
  · exact hn
  · obtain ⟨o, ho⟩ := Int.eq_ofNat_of_zero_le (show 0 ≤ Lib.indexByte s.data.toList 0 by omega)
    obtain ⟨h1, _⟩ := Lib.indexByte_some ho
    have hlt : o < s.size := by
      have := (List.getElem?_eq_some_iff.1 h1).1
      simpa using this
    exact absurd ((bt_eq_iff s o hlt 0 (by omega) (by omega)).2 h1) (hb o hlt)

theorem of_loop (s : ByteArray) (w : Bool) (hs : s.size ≤ 512) (d : Nat) : ∀ (k i : Nat), s.size - i = d → i ≤ s.size → (∀ j : Nat, j < i → bt s (j : Int) ≠ 0) → d + 600 < k →
    creelref_FieldOf.l0 k s w (i : Int) = some (fieldR s w) := by
  induction d with
  | zero =>
    intro k i hd hi hb hk
    obtain ⟨k, rfl⟩ : ∃ m, k = m + 1 := ⟨k - 1, by omega⟩
    obtain rfl : i = s.size := by omega
    simp only [creelref_FieldOf.l0]
    rw [if_neg (by omega)]
    simp only [if_true]
    unfold fieldR
    rw [index_no s hb, if_neg (show ¬ (0 : Int) ≤ -1 by omega)]
    cases w with
    | false => simp
    | true =>
      simp only [if_true]
      rw [if_pos (show (0 : Int) ≤ s.size by omega), if_pos (show (s.size : Int) ≤ s.size by omega), wrap_is (by omega) (by omega), show (s.size : Int) - s.size = ((0 : Nat) : Int) from by omega, zeros_is 0 k (by omega) (by omega)]
      simp only [Option.bind_some, Int.toNat_natCast]
      rw [if_pos]
      · simp
      · rw [rest_zero _ 0 (by rw [ByteArray.size_extract]; omega)]
        have : (s.extract s.size s.size).data.toList = [] := by
          apply List.eq_nil_of_length_eq_zero
          rw [size_list, ByteArray.size_extract]; omega
        rw [this]; rfl
  | succ d ih =>
    intro k i hd hi hb hk
    obtain ⟨k, rfl⟩ : ∃ m, k = m + 1 := ⟨k - 1, by omega⟩
    have hlt : i < s.size := by omega
    simp only [creelref_FieldOf.l0]
    rw [if_pos (show (i : Int) < s.size by omega), if_pos (show (0 : Int) ≤ i by omega)]
    by_cases h0 : bt s (i : Int) = 0
    · rw [if_pos h0, if_neg (show ¬ (i : Int) = s.size by omega), if_pos (show (i : Int) ≤ s.size by omega), wrap_is (by omega) (by omega), show (s.size : Int) - (i : Int) = ((s.size - i : Nat) : Int) from by omega, zeros_is (s.size - i) k (by omega) (by omega)]
      simp only [Option.bind_some, Int.toNat_natCast]
      unfold fieldR
      rw [index_at s i hlt h0 hb, if_pos (show (0 : Int) ≤ i by omega)]
      simp only [Int.toNat_natCast]
      have hz := rest_zero (s.extract i s.size) (s.size - i) (by rw [ByteArray.size_extract]; omega)
      by_cases c : Lib.trimB (s.extract i s.size).data.toList 0 = []
      · rw [if_pos c, if_pos (hz.2 c)]
      · rw [if_neg c, if_neg (fun h => c (hz.1 h))]
    · rw [if_neg h0, wrap_is (by omega) (by omega), show (i : Int) + 1 = ((i + 1 : Nat) : Int) from by omega]
      refine ih k (i + 1) (by omega) (by omega) (fun j hj => ?_) (by omega)
      by_cases e : j = i
      · rw [e]; exact h0
      · exact hb j (by omega)

theorem field_same (s : ByteArray) (w : Bool) : ∃ r, field_Read.f s w = some r ∧ Ev (fun k => creelref_FieldOf.f k s w) r := by
  by_cases c : s.size < 1 ∨ 512 < s.size
  · refine ⟨((⟨#[]⟩ : ByteArray), 4), ?_, 1, fun k hk => ?_⟩
    · unfold field_Read.f; rw [if_pos c]
    · obtain ⟨k, rfl⟩ : ∃ m, k = m + 1 := ⟨k - 1, by omega⟩
      show creelref_FieldOf.f (k + 1) s w = _
      unfold creelref_FieldOf.f
      by_cases h : s.toList = ([] : List UInt8)
      · rw [if_pos h]; simp [creelref_FieldOf.j0]
      · rw [if_neg h]
        have : 1 ≤ s.size := by
          rcases Nat.eq_zero_or_pos s.size with h1 | h1
          · rw [← size_list] at h1
            exact absurd (by rw [toList_data]; exact List.eq_nil_of_length_eq_zero h1) h
          · exact h1
        rw [decide_eq_true (by omega)]; simp [creelref_FieldOf.j0]
  · refine ⟨fieldR s w, ?_, 1300, fun k hk => ?_⟩
    · unfold field_Read.f fieldR; rw [if_neg c]
    · obtain ⟨k, rfl⟩ : ∃ m, k = m + 1 := ⟨k - 1, by omega⟩
      show creelref_FieldOf.f (k + 1) s w = _
      unfold creelref_FieldOf.f
      have h : ¬ s.toList = ([] : List UInt8) := by
        intro h
        have := congrArg List.length h
        rw [toList_data, size_list] at this
        have : s.size = 0 := this
        omega
      rw [if_neg h, decide_eq_false (show ¬ (s.size : Int) > 512 by omega)]
      simp only [creelref_FieldOf.j0, Bool.false_eq_true, if_false]
      exact of_loop s w (by omega) s.size k 0 (by omega) (by omega) (fun j hj => by omega) (by omega)
end Go.Proofs.YtodeblpanooomaaDoor.Q
end
section
namespace Go.Proofs.YtodeblpanooomaaDoor.Q
set_option linter.unusedVariables false
set_option linter.unusedSimpArgs false
open Go.RowKit Go.Proofs.YtodeblpanooomaaDoor.All Go.Proofs.YtodeblpanooomaaDoorW.PrintWords Go.Proofs.YtodeblpanooomaaDoorW.PrintLast Go.Proofs.YtodeblpanooomaaDoorW.PrintMore Go.Proofs.YtodeblpanooomaaDoorW.PureBase

-- FN head_Sum creelref_HeadSum
/-- How many bytes of the sum's own field are behind. -/
def past (i : Int) : Int := if i < 148 then 0 else if i < 156 then i - 148 else 8

theorem sum_wrap {x : Int} (h0 : 0 ≤ x) (h : x ≤ 1000000) : wrap64 x = x := by unfold wrap64; omega

theorem heads_same (s : ByteArray) (hs : s.size = 512) (d : Nat) : ∀ (k : Nat) (x i : Int), 0 ≤ i → i ≤ 512 → (512 : Int) - i = d → d < k → 256 ≤ x → x ≤ 256 + 255 * i →
    ∃ r, head_Sum.l0 k s x 512 i = some (r, 0) ∧ creelref_HeadSum.l0 k s (x - 256 + 32 * past i) i = some (r, 0) ∧ 256 ≤ r ∧ r ≤ 130816 := by
  induction d with
  | zero =>
    intro k x i h0 h1 hd hk hx hx'
    obtain ⟨k, rfl⟩ : ∃ m, k = m + 1 := ⟨k - 1, by omega⟩
    obtain rfl : i = 512 := by omega
    refine ⟨x, ?_, ?_, hx, by omega⟩
    · simp only [head_Sum.l0]; rw [if_neg (by omega)]
    · simp only [creelref_HeadSum.l0]; rw [if_neg (by omega)]
      have e : x - 256 + 32 * past 512 = x := by simp [past]
      rw [e]
  | succ d ih =>
    intro k x i h0 h1 hd hk hx hx'
    obtain ⟨k, rfl⟩ : ∃ m, k = m + 1 := ⟨k - 1, by omega⟩
    have hlt : i < 512 := by omega
    have hsz : i < (s.size : Int) := by omega
    have hw : wrap64 (i + 1) = i + 1 := sum_wrap (by omega) (by omega)
    have hb := bt_range s i
    have hbw : wrap64 (bt s i) = bt s i := sum_wrap (by omega) (by omega)
    by_cases c1 : i < 148
    · obtain ⟨r, h, h', q⟩ := ih k (x + bt s i) (i + 1) (by omega) (by omega) (by omega) (by omega) (by omega) (by omega)
      refine ⟨r, ?_, ?_, q⟩
      · simp only [head_Sum.l0]; rw [if_pos hlt, if_pos c1, if_pos h0, if_pos hsz, hw, hbw, sum_wrap (by omega) (by omega)]; exact h
      · simp only [creelref_HeadSum.l0]; rw [if_pos hlt, if_neg (by omega), if_pos h0, if_pos hsz, hw, hbw, sum_wrap (by unfold past; split <;> (try split) <;> omega) (by unfold past; split <;> (try split) <;> omega)]
        rw [← h']; congr 1; unfold past; split <;> split <;> (try split) <;> omega
    · by_cases c2 : i < 156
      · obtain ⟨r, h, h', q⟩ := ih k x (i + 1) (by omega) (by omega) (by omega) (by omega) (by omega) (by omega)
        refine ⟨r, ?_, ?_, q⟩
        · simp only [head_Sum.l0]; rw [if_pos hlt, if_neg c1, if_neg (by omega), hw]; exact h
        · simp only [creelref_HeadSum.l0]; rw [if_pos hlt, if_pos (by omega), if_pos c2, hw, sum_wrap (by unfold past; split <;> (try split) <;> omega) (by unfold past; split <;> (try split) <;> omega)]
          rw [← h']; congr 1; unfold past; split <;> (try split) <;> (try split) <;> (try split) <;> omega
      · obtain ⟨r, h, h', q⟩ := ih k (x + bt s i) (i + 1) (by omega) (by omega) (by omega) (by omega) (by omega) (by omega)
        refine ⟨r, ?_, ?_, q⟩
        · simp only [head_Sum.l0]; rw [if_pos hlt, if_neg c1, if_pos (by omega), if_pos h0, if_pos hsz, hw, hbw, sum_wrap (by omega) (by omega)]; exact h
        · simp only [creelref_HeadSum.l0]; rw [if_pos hlt, if_pos (by omega), if_neg c2, if_pos h0, if_pos hsz, hw, hbw, sum_wrap (by unfold past; split <;> (try split) <;> omega) (by unfold past; split <;> (try split) <;> omega)]
          rw [← h']; congr 1; unfold past; split <;> (try split) <;> (try split) <;> (try split) <;> omega


theorem sum_512 (s : ByteArray) (hs : s.size = 512) : ∃ r : Int, Ev (fun k => head_Sum.f k s) (r, 0) ∧ Ev (fun k => creelref_HeadSum.f k s) (r, 0) ∧ 256 ≤ r ∧ r ≤ 130816 := by
  have u1 : ∀ k, LeO (head_Sum.f k s) (head_Sum.f (k + 1) s) := fun k => head_Sum.mono s k
  have u2 : ∀ k, LeO (creelref_HeadSum.f k s) (creelref_HeadSum.f (k + 1) s) := fun k => creelref_HeadSum.mono s k
  obtain ⟨r, h, h', q1, q2⟩ := heads_same s hs 512 513 256 0 (by omega) (by omega) (by omega) (by omega) (by omega) (by omega)
  have e : (256 : Int) - 256 + 32 * past 0 = 0 := by simp [past]
  rw [e] at h'
  have hi : (s.size : Int) = 512 := by omega
  refine ⟨r, Ev.of u1 (k := 513) ?_, Ev.of u2 (k := 513) ?_, q1, q2⟩
  · unfold head_Sum.f
    rw [if_pos hi, hi]; exact h
  · unfold creelref_HeadSum.f
    rw [if_pos hi]; exact h'
theorem sum_no (s : ByteArray) (hs : s.size ≠ 512) : Ev (fun k => head_Sum.f k s) (0, 1) ∧ Ev (fun k => creelref_HeadSum.f k s) (0, 1) := by
  refine ⟨⟨0, fun k _ => ?_⟩, ⟨0, fun k _ => ?_⟩⟩
  · show head_Sum.f k s = _
    unfold head_Sum.f
    rw [if_neg (by omega)]
  · show creelref_HeadSum.f k s = _
    unfold creelref_HeadSum.f
    rw [if_neg (by omega)]
end Go.Proofs.YtodeblpanooomaaDoor.Q
end
section
namespace Go.Proofs.YtodeblpanooomaaDoor.Q
set_option linter.unusedVariables false
set_option linter.unusedSimpArgs false
open Go.RowKit Go.Proofs.YtodeblpanooomaaDoor.All Go.Proofs.YtodeblpanooomaaDoorW.PrintWords Go.Proofs.YtodeblpanooomaaDoorW.PrintLast Go.Proofs.YtodeblpanooomaaDoorW.PrintMore Go.Proofs.YtodeblpanooomaaDoorW.PureBase

-- FN octal_Most octal_Read creelref_power creelref_OctalOf
theorem wrap_small {x : Int} (h0 : 0 ≤ x) (h : x ≤ 1000000000000) : wrap64 x = x := by unfold wrap64; omega

theorem power_is (d : Nat) : ∀ (k : Nat) (n x i : Int), 0 ≤ i → i ≤ n → n - i = d → d < k → n ≤ 11 → 0 ≤ x → x * 8 ^ d ≤ 8589934592 →
    creelref_power.l0 k n x i = some (x * 8 ^ d) := by
  induction d with
  | zero =>
    intro k n x i h0 h1 hd hk hn hx hb
    obtain ⟨k, rfl⟩ : ∃ m, k = m + 1 := ⟨k - 1, by omega⟩
    simp only [creelref_power.l0]; rw [if_neg (by omega)]; simp
  | succ d ih =>
    intro k n x i h0 h1 hd hk hn hx hb
    obtain ⟨k, rfl⟩ : ∃ m, k = m + 1 := ⟨k - 1, by omega⟩
    have e : x * 8 ^ (d + 1) = (x * 8) * 8 ^ d := by rw [Int.pow_succ]; rw [Int.mul_assoc, Int.mul_comm 8]
    rw [e] at hb ⊢
    have hp : (1 : Int) ≤ 8 ^ d := by have : (0 : Int) < 8 ^ d := Int.pow_pos (by omega); omega
    have hx8 : x * 8 ≤ 8589934592 := Int.le_trans (by have := Int.mul_le_mul_of_nonneg_left hp (show (0 : Int) ≤ x * 8 by omega); simpa using this) hb
    simp only [creelref_power.l0]; rw [if_pos (by omega), wrap_small (by omega) (by omega), wrap_small (by omega) (by omega)]
    exact ih k n (x * 8) (i + 1) (by omega) (by omega) (by omega) (by omega) hn (by omega) hb

theorem most_is (n : Int) (h2 : 2 ≤ n) (h12 : n ≤ 12) : ∃ m, octal_Most.f n = some (m, 0) := by
  unfold octal_Most.f
  rw [if_neg (by omega), if_neg (by omega), wrap_small (x := n - 1) (by omega) (by omega), wrap_small (x := 3 * (n - 1)) (by omega) (by omega), if_pos (by omega)]
  exact ⟨_, rfl⟩

/-- What is read so far, by either: h by Horner's rule, and the same by powers. -/
theorem reads_same (s : ByteArray) (n : Int) (hn : (s.size : Int) = n) (h2 : 2 ≤ n) (h12 : n ≤ 12) (d : Nat) : ∀ (k : Nat) (x i : Int), 0 ≤ i → i ≤ n - 1 → n - 1 - i = d → d + 13 < k →
    0 ≤ x → (x + 1) * 8 ^ d ≤ 8589934592 →
    ∃ r, octal_Read.l0 k s x (n - 1) i = some r ∧ creelref_OctalOf.l0 k s (x * 8 ^ d) i = some r := by
  induction d with
  | zero =>
    intro k x i h0 h1 hd hk hx hb
    obtain ⟨k, rfl⟩ : ∃ m, k = m + 1 := ⟨k - 1, by omega⟩
    have hw : wrap64 (n - 1) = n - 1 := wrap_small (by omega) (by omega)
    simp only [octal_Read.l0, creelref_OctalOf.l0]; rw [hn, hw, if_neg (show ¬ i < n - 1 by omega), if_neg (show ¬ i < n - 1 by omega), if_pos (show 0 ≤ n - 1 by omega), if_pos (show 0 ≤ n - 1 by omega), if_pos (show n - 1 < n by omega), if_pos (show n - 1 < n by omega)]
    by_cases c : bt s (n - 1) = 0
    · rw [if_pos c, if_pos c]; exact ⟨_, rfl, by simp⟩
    · rw [if_neg c, if_neg c]; exact ⟨_, rfl, rfl⟩
  | succ d ih =>
    intro k x i h0 h1 hd hk hx hb
    obtain ⟨k, rfl⟩ : ∃ m, k = m + 1 := ⟨k - 1, by omega⟩
    have hw : wrap64 (n - 1) = n - 1 := wrap_small (by omega) (by omega)
    have hw2 : wrap64 (n - 2) = n - 2 := wrap_small (by omega) (by omega)
    have hwi : wrap64 (n - 2 - i) = (d : Int) := by rw [wrap_small (by omega) (by omega)]; omega
    have hi1 : wrap64 (i + 1) = i + 1 := wrap_small (by omega) (by omega)
    have hbt := bt_range s i
    have hbw : wrap64 (bt s i) = bt s i := wrap_small (by omega) (by omega)
    simp only [octal_Read.l0, creelref_OctalOf.l0]; rw [hn, hw, hw2, hwi, hi1, hbw]; rw [if_pos (show i < n - 1 by omega), if_pos (show i < n - 1 by omega), if_pos h0, if_pos h0, if_pos (show i < n by omega), if_pos (show i < n by omega)]
    by_cases c1 : bt s i < 48
    · rw [if_pos c1, if_pos c1]; exact ⟨_, rfl, rfl⟩
    · rw [if_neg c1, if_neg c1]
      by_cases c2 : bt s i > 55
      · rw [if_pos c2, if_pos c2]; exact ⟨_, rfl, rfl⟩
      · rw [if_neg c2, if_neg c2]
        have hp : (1 : Int) ≤ 8 ^ d := by have : (0 : Int) < 8 ^ d := Int.pow_pos (by omega); omega
        have e8 : (8 : Int) ^ (d + 1) = 8 * 8 ^ d := by rw [Int.pow_succ, Int.mul_comm]
        have hp1 : (8 : Int) ^ (d + 1) ≤ 8589934592 := by
          have : (1 : Int) * 8 ^ (d + 1) ≤ (x + 1) * 8 ^ (d + 1) := Int.mul_le_mul_of_nonneg_right (by omega) (Int.le_of_lt (Int.pow_pos (by omega)))
          omega
        have hpd : (8 : Int) ^ d ≤ 8589934592 := by omega
        have hxb : x + 1 ≤ 8589934592 := by
          have : (x + 1) * 1 ≤ (x + 1) * 8 ^ (d + 1) := Int.mul_le_mul_of_nonneg_left (by omega) (by omega)
          omega
        obtain ⟨v, hv⟩ : ∃ v, bt s i - 48 = v := ⟨_, rfl⟩
        have hv0 : 0 ≤ v := by omega
        have hv7 : v ≤ 7 := by omega
        have hm : (8 * x + v + 1) * 8 ^ d ≤ 8589934592 := by
          have : (8 * x + v + 1) * 8 ^ d ≤ (8 * (x + 1)) * 8 ^ d := Int.mul_le_mul_of_nonneg_right (by omega) (by omega)
          have e : (8 * (x + 1)) * 8 ^ d = (x + 1) * 8 ^ (d + 1) := by rw [e8, Int.mul_comm 8 (x + 1), Int.mul_assoc]
          omega
        obtain ⟨r, h, h'⟩ := ih k (8 * x + v) (i + 1) (by omega) (by omega) (by omega) (by omega) (by omega) hm
        have hpow : creelref_power.f k (d : Int) = some (8 ^ d) := by
          have := power_is d k d 1 0 (by omega) (by omega) (by omega) (by omega) (by omega) (by omega) (by omega)
          unfold creelref_power.f; rw [this]; simp
        have hvd0 : 0 ≤ v * 8 ^ d := Int.mul_nonneg hv0 (by omega)
        have hvd : v * 8 ^ d ≤ 8589934592 := by
          have : v * 8 ^ d ≤ (8 * x + v + 1) * 8 ^ d := Int.mul_le_mul_of_nonneg_right (by omega) (by omega)
          omega
        have hxd0 : 0 ≤ x * 8 ^ (d + 1) := Int.mul_nonneg hx (by omega)
        have hxd : x * 8 ^ (d + 1) ≤ 8589934592 := by
          have : x * 8 ^ (d + 1) ≤ (x + 1) * 8 ^ (d + 1) := Int.mul_le_mul_of_nonneg_right (by omega) (by omega)
          omega
        refine ⟨r, ?_, ?_⟩
        · rw [hv, show v % 256 = v from by omega, wrap_small (x := 8 * x) (by omega) (by omega), wrap_small (by omega) (by omega)]; exact h
        · rw [hpow]; simp only [Option.bind_some]
          rw [hv, wrap_small hv0 (by omega), wrap_small hvd0 (by omega), wrap_small (by omega) (by omega), ← h']
          congr 1
          rw [Int.add_mul, e8, ← Int.mul_assoc, Int.mul_comm 8 x]
theorem octal_ev (s : ByteArray) (c2 : 2 ≤ s.size) (c12 : s.size ≤ 12) : ∃ r : Int × Int, Ev (fun k => octal_Read.f k s) r ∧ Ev (fun k => creelref_OctalOf.f k s) r := by
  obtain ⟨m, hm⟩ := most_is s.size (by omega) (by omega)
  have hd : ((1 : Int)) * 8 ^ (s.size - 1) ≤ 8589934592 := by
    have : s.size = 2 ∨ s.size = 3 ∨ s.size = 4 ∨ s.size = 5 ∨ s.size = 6 ∨ s.size = 7 ∨ s.size = 8 ∨ s.size = 9 ∨ s.size = 10 ∨ s.size = 11 ∨ s.size = 12 := by omega
    rcases this with h | h | h | h | h | h | h | h | h | h | h <;> rw [h] <;> decide
  obtain ⟨r, h, h'⟩ := reads_same s s.size rfl (by omega) (by omega) (s.size - 1) 40 0 0 (by omega) (by omega) (by omega) (by omega) (by omega) (by simpa using hd)
  refine ⟨r, Ev.of (fun k => octal_Read.mono s k) (k := 41) ?_, Ev.of (fun k => creelref_OctalOf.mono s k) (k := 41) ?_⟩
  · unfold octal_Read.f
    rw [hm]; simp only [Option.bind_some, if_true]
    rw [wrap_small (by omega) (by omega)]
    exact octal_Read.mono_l 40 _ _ _ _ r h
  · unfold creelref_OctalOf.f
    rw [if_neg (by omega), show decide ((s.size : Int) > 12) = false from decide_eq_false (by omega)]
    simp only [creelref_OctalOf.j0]
    rw [if_neg (by simp)]; simpa using h'
end Go.Proofs.YtodeblpanooomaaDoor.Q
end
section
namespace Go.Proofs.YtodeblpanooomaaDoor.Q
set_option linter.unusedVariables false
set_option linter.unusedSimpArgs false
open Go.RowKit Go.Proofs.YtodeblpanooomaaDoor.All Go.Proofs.YtodeblpanooomaaDoorW.PrintWords Go.Proofs.YtodeblpanooomaaDoorW.PrintLast Go.Proofs.YtodeblpanooomaaDoorW.PrintMore Go.Proofs.YtodeblpanooomaaDoorW.PureBase

-- FN creelref_has
theorem has_from (s : ByteArray) (c : Int) (hb : s.size ≤ 140737488351232) (d : Nat) : ∀ (k : Nat) (i : Int), 0 ≤ i → i ≤ s.size → (s.size : Int) - i = d → d < k →
    ∃ b, creelref_has.l0 k s c i = some b ∧ (b = true ↔ ∃ j : Int, i ≤ j ∧ j < s.size ∧ bt s j = c) := by
  induction d with
  | zero =>
    intro k i h0 h1 hd hk
    obtain ⟨k, rfl⟩ : ∃ m, k = m + 1 := ⟨k - 1, by omega⟩
    refine ⟨false, ?_, ?_⟩
    · simp only [creelref_has.l0]; rw [if_neg (by omega)]
    · constructor
      · intro h; cases h
      · rintro ⟨j, h1, h2, _⟩; omega
  | succ d ih =>
    intro k i h0 h1 hd hk
    obtain ⟨k, rfl⟩ : ∃ m, k = m + 1 := ⟨k - 1, by omega⟩
    have hlt : i < (s.size : Int) := by omega
    have hw : wrap64 (i + 1) = i + 1 := by unfold wrap64; omega
    by_cases e : bt s i = c
    · refine ⟨true, ?_, ?_⟩
      · simp only [creelref_has.l0]; rw [if_pos hlt, if_pos h0, if_pos e]
      · exact ⟨fun _ => ⟨i, by omega, hlt, e⟩, fun _ => rfl⟩
    · obtain ⟨b, hb1, hb2⟩ := ih k (i + 1) (by omega) (by omega) (by omega) (by omega)
      refine ⟨b, ?_, ?_⟩
      · simp only [creelref_has.l0]; rw [if_pos hlt, if_pos h0, hw, if_neg e]; exact hb1
      · rw [hb2]
        constructor
        · rintro ⟨j, h1, h2, h3⟩; exact ⟨j, by omega, h2, h3⟩
        · rintro ⟨j, h1, h2, h3⟩
          have : j ≠ i := by rintro rfl; exact e h3
          exact ⟨j, by omega, h2, h3⟩
theorem has_ev (s : ByteArray) (c : Int) (c0 : 0 ≤ c) (c1 : c ≤ 255) (hb : s.size ≤ 140737488351232) : Ev (fun k => creelref_has.f k s c) (s.data.toList.contains c.toNat.toUInt8) := by
  refine ⟨s.size + 1, fun k hk => ?_⟩
  obtain ⟨b, h1, h2⟩ := has_from s c hb s.size k 0 (by omega) (by omega) (by omega) (by omega)
  show creelref_has.l0 k s c 0 = _
  rw [h1]
  congr 1
  rw [Bool.eq_iff_iff, h2]
  exact mem_bt s c c0 c1
end Go.Proofs.YtodeblpanooomaaDoor.Q
end
section
namespace Go.Proofs.YtodeblpanooomaaDoor.Q
set_option linter.unusedVariables false
set_option linter.unusedSimpArgs false
open Go.RowKit Go.Proofs.YtodeblpanooomaaDoor.All Go.Proofs.YtodeblpanooomaaDoorW.PrintWords Go.Proofs.YtodeblpanooomaaDoorW.PrintLast Go.Proofs.YtodeblpanooomaaDoorW.PrintMore Go.Proofs.YtodeblpanooomaaDoorW.PureBase

-- USES FieldRead SumR OctalRd Has
-- FN head_Read creelref_HeadOf head_eye_take head_eye_note head_eye_text head_eye_number head_eye_just strings_Repeat strings_IndexByte creelref_has creelref_zeros creelref_OctalText creelref_OctalMost creelref_power
theorem bt_extract (s : ByteArray) (i j n : Nat) (hj : j ≤ s.size) (hn : n < j - i) : bt (s.extract i j) (n : Int) = bt s ((i + n : Nat) : Int) := by
  have hsz : (s.extract i j).size = j - i := by rw [ByteArray.size_extract]; omega
  rw [bt_get _ n (by omega), bt_get s (i + n) (by omega)]
  congr 2
  simp only [Lib.extract_data, List.getElem_take, List.getElem_drop]
theorem eq_bytes (s t : ByteArray) (h : s.size = t.size) (hb : ∀ i : Nat, i < s.size → bt s (i : Int) = bt t (i : Int)) : s = t := by
  apply ext_list
  apply List.ext_getElem
  · simpa using h
  · intro i h1 h2
    have hs : i < s.size := by simpa using h1
    have := hb i hs
    rw [bt_get s i hs, bt_get t i (by omega)] at this
    exact UInt8.toNat_inj.1 (by omega)
theorem cut_all (s : ByteArray) : s.extract 0 s.size = s := by
  apply ext_list
  rw [Lib.extract_to_end]; rfl
theorem cut_front (s : ByteArray) (i n : Nat) : (s.extract i s.size).extract 0 n = s.extract i (i + n) := by
  apply ext_list
  rw [Lib.extract_data, Lib.extract_to_end, Lib.extract_data]
  simp
theorem cut_back (s : ByteArray) (i n : Nat) : (s.extract i s.size).extract n (s.extract i s.size).size = s.extract (i + n) s.size := by
  apply ext_list
  rw [Lib.extract_to_end, Lib.extract_to_end, Lib.extract_to_end, List.drop_drop]
theorem cut_size (s : ByteArray) (i : Nat) (h : i ≤ s.size) : (s.extract i s.size).size = s.size - i := by rw [ByteArray.size_extract]; omega
abbrev ntE := creelref_HeadOf.nt
theorem note_is (s : ByteArray) (e x : Int) : head_eye_note.f s e x = some (s, ntE e x) := by
  unfold head_eye_note.f ntE creelref_HeadOf.nt
  split <;> rfl
section
variable (s : ByteArray) (i n : Nat) (h : i + n ≤ s.size)
include h
theorem take_is (e : Int) : head_eye_take.f (s.extract i s.size) e (n : Int) = some (s.extract i (i + n), s.extract (i + n) s.size, e) := by
  unfold head_eye_take.f
  rw [if_pos (by omega), if_pos (by rw [cut_size s i (by omega)]; omega), Int.toNat_natCast, cut_front, cut_back]
theorem text_is (e : Int) (w : Bool) (r : ByteArray × Int) (hr : field_Read.f (s.extract i (i + n)) w = some r) : head_eye_text.f (s.extract i s.size) e (n : Int) w = some (r.1, s.extract (i + n) s.size, ntE e r.2) := by
  unfold head_eye_text.f
  rw [take_is s i n h]
  simp only [Option.bind_some]
  rw [hr]
  simp only [Option.bind_some]
  rw [note_is]
  rfl
theorem number_ev (e : Int) (r : Int × Int) (hr : Ev (fun k => octal_Read.f k (s.extract i (i + n))) r) : Ev (fun k => head_eye_number.f k (s.extract i s.size) e (n : Int)) (r.1, s.extract (i + n) s.size, ntE e r.2) := by
  unfold head_eye_number.f
  refine Ev.bind (Ev.const (take_is s i n h e)) (Ev.bind hr (Ev.const ?_))
  rw [note_is]
  rfl
theorem just_is (e : Int) (t : ByteArray) (ht : t.size = n) : head_eye_just.f (s.extract i s.size) e t = some (s.extract (i + n) s.size, creelref_HeadOf.js s (i : Int) t e) := by
  unfold head_eye_just.f creelref_HeadOf.js
  rw [show (t.size : Int) = (n : Int) by omega, take_is s i n h]
  simp only [Option.bind_some]
  rw [show ((i : Int) + (n : Int)).toNat = i + n by omega, Int.toNat_natCast]
  by_cases c : (s.extract i (i + n)).toList = t.toList
  · rw [if_pos c, if_pos c]
  · rw [if_neg c, if_neg c, note_is]
    rfl
end
/-! ### six digits and a 0 -/
def digs : Nat → Int → List Int
  | 0, _ => []
  | m + 1, n => digs m (n / 8) ++ [48 + n % 8]
theorem o_wrap {x : Int} (h0 : 0 ≤ x) (h : x ≤ 1000000000000) : wrap64 x = x := by unfold wrap64; omega
theorem o_digit (d : Int) (h0 : 0 ≤ d) (h7 : d ≤ 7) : (⟨#[48, 49, 50, 51, 52, 53, 54, 55]⟩ : ByteArray).extract d.toNat (d + 1).toNat = strOfNums [48 + d] := by
  have : d = 0 ∨ d = 1 ∨ d = 2 ∨ d = 3 ∨ d = 4 ∨ d = 5 ∨ d = 6 ∨ d = 7 := by omega
  rcases this with rfl | rfl | rfl | rfl | rfl | rfl | rfl | rfl <;> decide +kernel
theorem o_size (D : List Int) : (strOfNums D).size = D.length := by simp [strOfNums, ByteArray.size]
theorem o_app (D E : List Int) : strOfNums D ++ strOfNums E = strOfNums (D ++ E) := by
  apply ByteArray.ext
  simp [strOfNums]
theorem o_text (w : Int) (h2 : 2 ≤ w) (h12 : w ≤ 12) (m : Nat) : ∀ (k : Nat) (n : Int) (D : List Int), 0 ≤ n → n ≤ 8589934592 → (m : Int) + D.length = w - 1 → m < k →
    creelref_OctalText.l0 k n w (strOfNums D) = some (strOfNums (digs m n ++ D ++ [0]), 0) := by
  have hw1 : wrap64 (w - 1) = w - 1 := o_wrap (by omega) (by omega)
  induction m with
  | zero =>
    intro k n D h0 hn hm hk
    obtain ⟨k, rfl⟩ : ∃ m, k = m + 1 := ⟨k - 1, by omega⟩
    simp only [creelref_OctalText.l0]; rw [o_size, hw1, if_neg (by omega), if_pos (by omega)]
    rw [show (⟨#[0]⟩ : ByteArray) = strOfNums [0] from rfl, o_app]
    rfl
  | succ m ih =>
    intro k n D h0 hn hm hk
    obtain ⟨k, rfl⟩ : ∃ m, k = m + 1 := ⟨k - 1, by omega⟩
    have hd0 : 0 ≤ n % 8 := by omega
    have hd7 : n % 8 ≤ 7 := by omega
    have ht : Int.tmod n 8 = n % 8 := Int.tmod_eq_emod_of_nonneg h0
    have hq : Int.tdiv n 8 = n / 8 := Int.tdiv_eq_ediv_of_nonneg h0
    have h := ih k (n / 8) ((48 + n % 8) :: D) (by omega) (by omega) (by simp only [List.length_cons]; omega) (by omega)
    simp only [creelref_OctalText.l0]
    rw [ht, hq, o_size, hw1, o_wrap (x := n % 8 + 1) (by omega) (by omega), o_wrap (x := n / 8) (by omega) (by omega), o_digit _ hd0 hd7, if_pos (by omega), if_pos hd0, if_pos (by omega), if_pos (by omega), if_pos (by rw [o_size]; simp only [List.length_cons, List.length_nil]; omega), o_app]
    rw [show digs (m + 1) n ++ D ++ [0] = digs m (n / 8) ++ ((48 + n % 8) :: D) ++ [0] by simp [digs]]
    exact h
def txt (n : Int) : ByteArray := strOfNums [48 + n / 8 / 8 / 8 / 8 / 8 % 8, 48 + n / 8 / 8 / 8 / 8 % 8, 48 + n / 8 / 8 / 8 % 8, 48 + n / 8 / 8 % 8, 48 + n / 8 % 8, 48 + n % 8, 0]
theorem text_ev (n : Int) (h0 : 0 ≤ n) (h1 : n < 262144) : Ev (fun k => creelref_OctalText.f k n 7) (txt n, 0) := by
  refine Ev.of (fun k => creelref_OctalText.mono n 7 k) (k := 30) ?_
  have hm : creelref_OctalMost.f 30 7 = some (262143, 0) := by decide +kernel
  unfold creelref_OctalText.f
  rw [hm]; simp only [Option.bind_some, if_true]
  rw [if_neg (by omega), decide_eq_false (show ¬ n > 262143 by omega)]
  simp only [creelref_OctalText.j0]
  rw [if_neg (by simp)]
  exact o_text 7 (by omega) (by omega) 6 29 n [] h0 (by omega) (by simp) (by omega)
/-- what is read of seven bytes -/
def val7 (b : Nat → Int) : Int := ((((((b 0 - 48) * 8 + (b 1 - 48)) * 8 + (b 2 - 48)) * 8 + (b 3 - 48)) * 8 + (b 4 - 48)) * 8 + (b 5 - 48))
def ok7 (b : Nat → Int) : Prop := (48 ≤ b 0 ∧ b 0 ≤ 55) ∧ (48 ≤ b 1 ∧ b 1 ≤ 55) ∧ (48 ≤ b 2 ∧ b 2 ≤ 55) ∧ (48 ≤ b 3 ∧ b 3 ≤ 55) ∧ (48 ≤ b 4 ∧ b 4 ≤ 55) ∧ (48 ≤ b 5 ∧ b 5 ≤ 55) ∧ b 6 = 0
theorem read_step (s : ByteArray) (hs : s.size = 7) (k : Nat) (x : Int) (i : Nat) (hi : i < 6) (h0 : 0 ≤ x) (h1 : x ≤ 1000000) :
    octal_Read.l0 (k + 1) s x 6 (i : Int) = if 48 ≤ bt s (i : Int) ∧ bt s (i : Int) ≤ 55 then octal_Read.l0 k s (x * 8 + (bt s (i : Int) - 48)) 6 ((i + 1 : Nat) : Int) else some (0, 3) := by
  have hb := bt_range s (i : Int)
  have hw : wrap64 ((i : Int) + 1) = ((i + 1 : Nat) : Int) := by rw [wrap_is (by omega) (by omega)]; omega
  simp only [octal_Read.l0]
  rw [if_pos (by omega), if_pos (by omega), if_pos (by omega), hw]
  by_cases c1 : bt s (i : Int) < 48
  · rw [if_pos c1, if_neg (by omega)]
  · rw [if_neg c1]
    by_cases c2 : bt s (i : Int) > 55
    · rw [if_pos c2, if_neg (by omega)]
    · rw [if_neg c2, if_pos (by omega), show (bt s (i : Int) - 48) % 256 = bt s (i : Int) - 48 by omega, o_wrap (x := 8 * x) (by omega) (by omega), o_wrap (by omega) (by omega), show 8 * x + (bt s (i : Int) - 48) = x * 8 + (bt s (i : Int) - 48) by omega]
theorem read_end (s : ByteArray) (hs : s.size = 7) (k : Nat) (x : Int) : octal_Read.l0 (k + 1) s x 6 ((5 + 1 : Nat) : Int) = if bt s 6 = 0 then some (x, 0) else some (0, 3) := by
  have hw : wrap64 ((s.size : Int) - 1) = 6 := by rw [hs]; unfold wrap64; omega
  simp only [octal_Read.l0]
  rw [if_neg (show ¬ (((5 + 1 : Nat) : Int) < 6) by omega), hw, if_pos (by decide), if_pos (by omega)]
theorem read7 (s : ByteArray) (hs : s.size = 7) : ∃ r : Int × Int, Ev (fun k => octal_Read.f k s) r ∧ ∀ n : Int, (r.2 = 0 ∧ r.1 = n ↔ ok7 (fun i => bt s (i : Int)) ∧ val7 (fun i => bt s (i : Int)) = n) := by
  have hm : octal_Most.f (s.size : Int) = some (262143, 0) := by rw [hs]; decide +kernel
  have start : ∀ r, octal_Read.l0 7 s 0 6 ((0 : Nat) : Int) = some r → Ev (fun k => octal_Read.f k s) r := fun r hr => by
    refine Ev.of (fun k => octal_Read.mono s k) (k := 7) ?_
    unfold octal_Read.f
    rw [hm]; simp only [Option.bind_some, if_true]
    rw [hs, show wrap64 (((7 : Nat) : Int) - 1) = 6 by unfold wrap64; omega]
    exact hr
  have bad : ∀ r : Int × Int, r = (0, 3) → ¬ ok7 (fun i => bt s (i : Int)) → ∀ n : Int, (r.2 = 0 ∧ r.1 = n ↔ ok7 (fun i => bt s (i : Int)) ∧ val7 (fun i => bt s (i : Int)) = n) := fun r hr hno n => by
    subst hr
    constructor
    · rintro ⟨h, _⟩; cases h
    · rintro ⟨h, _⟩; exact absurd h hno
  have e0 := read_step s hs 6 0 0 (by omega) (by omega) (by omega)
  by_cases c0 : 48 ≤ bt s ((0 : Nat) : Int) ∧ bt s ((0 : Nat) : Int) ≤ 55
  rotate_left
  · rw [if_neg c0] at e0
    exact ⟨_, start _ e0, bad _ rfl (fun h => c0 h.1)⟩
  rw [if_pos c0] at e0
  have e1 := read_step s hs 5 (0 * 8 + (bt s ((0 : Nat) : Int) - 48)) 1 (by omega) (by omega) (by omega)
  by_cases c1 : 48 ≤ bt s ((1 : Nat) : Int) ∧ bt s ((1 : Nat) : Int) ≤ 55
  rotate_left
  · rw [if_neg c1] at e1
    exact ⟨_, start _ (e0.trans e1), bad _ rfl (fun h => c1 h.2.1)⟩
  rw [if_pos c1] at e1
  have e2 := read_step s hs 4 ((0 * 8 + (bt s ((0 : Nat) : Int) - 48)) * 8 + (bt s ((1 : Nat) : Int) - 48)) 2 (by omega) (by omega) (by omega)
  by_cases c2 : 48 ≤ bt s ((2 : Nat) : Int) ∧ bt s ((2 : Nat) : Int) ≤ 55
  rotate_left
  · rw [if_neg c2] at e2
    exact ⟨_, start _ (e0.trans (e1.trans e2)), bad _ rfl (fun h => c2 h.2.2.1)⟩
  rw [if_pos c2] at e2
  have e3 := read_step s hs 3 (((0 * 8 + (bt s ((0 : Nat) : Int) - 48)) * 8 + (bt s ((1 : Nat) : Int) - 48)) * 8 + (bt s ((2 : Nat) : Int) - 48)) 3 (by omega) (by omega) (by omega)
  by_cases c3 : 48 ≤ bt s ((3 : Nat) : Int) ∧ bt s ((3 : Nat) : Int) ≤ 55
  rotate_left
  · rw [if_neg c3] at e3
    exact ⟨_, start _ (e0.trans (e1.trans (e2.trans e3))), bad _ rfl (fun h => c3 h.2.2.2.1)⟩
  rw [if_pos c3] at e3
  have e4 := read_step s hs 2 ((((0 * 8 + (bt s ((0 : Nat) : Int) - 48)) * 8 + (bt s ((1 : Nat) : Int) - 48)) * 8 + (bt s ((2 : Nat) : Int) - 48)) * 8 + (bt s ((3 : Nat) : Int) - 48)) 4 (by omega) (by omega) (by omega)
  by_cases c4 : 48 ≤ bt s ((4 : Nat) : Int) ∧ bt s ((4 : Nat) : Int) ≤ 55
  rotate_left
  · rw [if_neg c4] at e4
    exact ⟨_, start _ (e0.trans (e1.trans (e2.trans (e3.trans e4)))), bad _ rfl (fun h => c4 h.2.2.2.2.1)⟩
  rw [if_pos c4] at e4
  have e5 := read_step s hs 1 (((((0 * 8 + (bt s ((0 : Nat) : Int) - 48)) * 8 + (bt s ((1 : Nat) : Int) - 48)) * 8 + (bt s ((2 : Nat) : Int) - 48)) * 8 + (bt s ((3 : Nat) : Int) - 48)) * 8 + (bt s ((4 : Nat) : Int) - 48)) 5 (by omega) (by omega) (by omega)
  by_cases c5 : 48 ≤ bt s ((5 : Nat) : Int) ∧ bt s ((5 : Nat) : Int) ≤ 55
  rotate_left
  · rw [if_neg c5] at e5
    exact ⟨_, start _ (e0.trans (e1.trans (e2.trans (e3.trans (e4.trans e5))))), bad _ rfl (fun h => c5 h.2.2.2.2.2.1)⟩
  rw [if_pos c5] at e5
  have e := e0.trans (e1.trans (e2.trans (e3.trans (e4.trans (e5.trans (read_end s hs 0 _))))))
  by_cases c6 : bt s 6 = 0
  · rw [if_pos c6] at e
    refine ⟨_, start _ e, fun n => ?_⟩
    have hok : ok7 (fun i => bt s (i : Int)) := ⟨c0, c1, c2, c3, c4, c5, c6⟩
    have hv : val7 (fun i => bt s (i : Int)) = (((((0 * 8 + (bt s ((0 : Nat) : Int) - 48)) * 8 + (bt s ((1 : Nat) : Int) - 48)) * 8 + (bt s ((2 : Nat) : Int) - 48)) * 8 + (bt s ((3 : Nat) : Int) - 48)) * 8 + (bt s ((4 : Nat) : Int) - 48)) * 8 + (bt s ((5 : Nat) : Int) - 48) := by unfold val7; dsimp only; omega
    exact ⟨fun h => ⟨hok, by rw [hv]; exact h.2⟩, fun h => ⟨rfl, by rw [hv] at h; exact h.2⟩⟩
  · rw [if_neg c6] at e
    exact ⟨_, start _ e, bad _ rfl (fun h => c6 h.2.2.2.2.2.2)⟩
/-- a byte of a text of numbers -/
theorem bt_nums (L : List Int) (i : Nat) (h : i < L.length) (hL : ∀ x ∈ L, 0 ≤ x ∧ x ≤ 255) : bt (strOfNums L) (i : Int) = L[i] := by
  rw [bt_get _ i (by rw [o_size]; exact h)]
  have hx := hL L[i] (List.getElem_mem h)
  have : (strOfNums L).data.toList[i]'(by simpa [strOfNums] using h) = L[i].toNat.toUInt8 := by simp [strOfNums]
  rw [this]
  simp
  omega
/-- the sum's own field says n just if it is n's text, and a blank -/
theorem field8 (s : ByteArray) (hs : s.size = 512) (n : Int) (h0 : 0 ≤ n) (h1 : n < 262144) : (s.extract 148 156).toList = (txt n ++ (⟨#[32]⟩ : ByteArray)).toList ↔ (ok7 (fun i => bt (s.extract 148 155) (i : Int)) ∧ val7 (fun i => bt (s.extract 148 155) (i : Int)) = n) ∧ bt s 155 = 32 := by
  have hb : ∀ i : Nat, i < 7 → bt (s.extract 148 155) (i : Int) = bt s ((148 + i : Nat) : Int) := fun i hi => bt_extract s 148 155 i (by omega) (by omega)
  have g : ∀ i : Nat, i < 8 → bt (s.extract 148 156) (i : Int) = bt s ((148 + i : Nat) : Int) := fun i hi => bt_extract s 148 156 i (by omega) (by omega)
  obtain ⟨L, hL⟩ : ∃ L : List Int, L = [48 + n / 8 / 8 / 8 / 8 / 8 % 8, 48 + n / 8 / 8 / 8 / 8 % 8, 48 + n / 8 / 8 / 8 % 8, 48 + n / 8 / 8 % 8, 48 + n / 8 % 8, 48 + n % 8, 0, 32] := ⟨_, rfl⟩
  have ht : txt n ++ (⟨#[32]⟩ : ByteArray) = strOfNums L := by
    rw [hL]
    unfold txt
    rw [show (⟨#[32]⟩ : ByteArray) = strOfNums [32] from rfl, o_app]; rfl
  have hlen : L.length = 8 := by rw [hL]; rfl
  have hr : ∀ x ∈ L, 0 ≤ x ∧ x ≤ 255 := by
    rw [hL]
    intro x hx
    simp only [List.mem_cons, List.not_mem_nil, or_false] at hx
    omega
  have hsz : (s.extract 148 156).size = 8 := by rw [ByteArray.size_extract]; omega
  have key : (s.extract 148 156).toList = (txt n ++ (⟨#[32]⟩ : ByteArray)).toList ↔ ∀ i : Nat, (hi : i < 8) → bt s ((148 + i : Nat) : Int) = L[i] := by
    rw [ht]
    constructor
    · intro h i hi
      have e := toList_inj h
      rw [← g i hi, e]
      exact bt_nums L i (by omega) hr
    · intro h
      rw [eq_bytes (s.extract 148 156) (strOfNums L) (by rw [o_size]; omega) (fun i hi => by rw [g i (by omega), h i (by omega), bt_nums L i (by omega) hr])]
  rw [key]
  unfold ok7 val7
  simp only []
  rw [hb 0 (by omega), hb 1 (by omega), hb 2 (by omega), hb 3 (by omega), hb 4 (by omega), hb 5 (by omega), hb 6 (by omega)]
  constructor
  · intro h
    have a0 := h 0 (by omega); have a1 := h 1 (by omega); have a2 := h 2 (by omega); have a3 := h 3 (by omega); have a4 := h 4 (by omega); have a5 := h 5 (by omega); have a6 := h 6 (by omega); have a7 := h 7 (by omega)
    simp only [hL, List.getElem_cons_zero, List.getElem_cons_succ] at a0 a1 a2 a3 a4 a5 a6 a7
    have a7' : bt s 155 = 32 := a7
    have a6' : bt s ((148 + 6 : Nat) : Int) = 0 := a6
    omega
  · rintro ⟨⟨⟨b0, b1, b2, b3, b4, b5, b6⟩, hv⟩, b7⟩ i hi
    have b7' : bt s ((148 + 7 : Nat) : Int) = 32 := b7
    simp only [hL]
    have : i = 0 ∨ i = 1 ∨ i = 2 ∨ i = 3 ∨ i = 4 ∨ i = 5 ∨ i = 6 ∨ i = 7 := by omega
    rcases this with rfl | rfl | rfl | rfl | rfl | rfl | rfl | rfl <;> simp only [List.getElem_cons_zero, List.getElem_cons_succ] <;> omega
end Go.Proofs.YtodeblpanooomaaDoor.Q
end
section
namespace Go.Proofs.YtodeblpanooomaaDoor.PuHeadReads
set_option linter.unusedVariables false
set_option linter.unusedSimpArgs false
open Go.RowKit Go.Proofs.YtodeblpanooomaaDoor.All Go.Proofs.YtodeblpanooomaaDoor.GHeadReads Go.Proofs.YtodeblpanooomaaDoorW.PrintWords Go.Proofs.YtodeblpanooomaaDoorW.PrintLast Go.Proofs.YtodeblpanooomaaDoorW.PrintMore Go.Proofs.YtodeblpanooomaaDoorW.PureBase Go.Proofs.YtodeblpanooomaaDoor.Q

-- USES HeadRd
theorem ev_at {α β : Type} {g : Nat → Option α} {h : Nat → α → Option β} {c : α} {r : β} (a : Ev g c) (b : Ev (fun k => h k c) r) : Ev (fun k => (g k).bind (h k)) r := Ev.bind a b
theorem alph_is (c : Int) (c0 : 0 ≤ c) (c1 : c ≤ 255) : ∃ (b : Int) (q : Bool), strings_IndexByte.f (⟨#[48, 49, 50, 53, 120]⟩ : ByteArray) c = some b ∧ Ev (fun k => creelref_has.f k (⟨#[48, 49, 50, 53, 120]⟩ : ByteArray) c) q ∧ (q = true ↔ ¬ b < 0) := by
  refine ⟨_, _, rfl, has_ev _ c c0 c1 (by decide), ?_⟩
  rw [← index_ge, decide_eq_true_iff]
  omega
theorem zs_12 : strings_Repeat.f (⟨#[0]⟩ : ByteArray) 12 = some (zs 12) := by decide +kernel
def finR (x1 x15 x10 : ByteArray) (x2 x3 x4 x5 x6 x8 : Int) (x12 x13 : ByteArray) (e : Int) : ByteArray × ByteArray × ByteArray × Int × Int × Int × Int × Int × Int × ByteArray × ByteArray × Int := if e = 0 then (x1, x15, x10, x2, x3, x4, x5, x6, x8, x12, x13, 0) else ((⟨#[]⟩ : ByteArray), (⟨#[]⟩ : ByteArray), (⟨#[]⟩ : ByteArray), 0, 0, 0, 0, 0, 0, (⟨#[]⟩ : ByteArray), (⟨#[]⟩ : ByteArray), e)
theorem fin_is (x1 x15 x10 : ByteArray) (x2 x3 x4 x5 x6 x8 : Int) (x12 x13 : ByteArray) (e : Int) : creelref_HeadOf.fin x1 x15 x10 x2 x3 x4 x5 x6 x8 x12 x13 e = some (finR x1 x15 x10 x2 x3 x4 x5 x6 x8 x12 x13 e) := by
  unfold creelref_HeadOf.fin finR
  split <;> rfl
theorem body_both (s : ByteArray) (hs : s.size = 512) : ∃ r, Ev (fun k => head_Read.body k s) r ∧ Ev (fun k => creelref_HeadOf.body k s) r := by
  obtain ⟨r1, p1, q1⟩ := field_same (s.extract 0 100) true
  obtain ⟨r2, p2, q2⟩ := octal_ev (s.extract 100 108) (by rw [ByteArray.size_extract]; omega) (by rw [ByteArray.size_extract]; omega)
  obtain ⟨r3, p3, q3⟩ := octal_ev (s.extract 108 116) (by rw [ByteArray.size_extract]; omega) (by rw [ByteArray.size_extract]; omega)
  obtain ⟨r4, p4, q4⟩ := octal_ev (s.extract 116 124) (by rw [ByteArray.size_extract]; omega) (by rw [ByteArray.size_extract]; omega)
  obtain ⟨r5, p5, q5⟩ := octal_ev (s.extract 124 136) (by rw [ByteArray.size_extract]; omega) (by rw [ByteArray.size_extract]; omega)
  obtain ⟨r6, p6, q6⟩ := octal_ev (s.extract 136 148) (by rw [ByteArray.size_extract]; omega) (by rw [ByteArray.size_extract]; omega)
  obtain ⟨r10, p10, q10⟩ := field_same (s.extract 157 257) true
  obtain ⟨r12, p12, q12⟩ := field_same (s.extract 265 297) false
  obtain ⟨r13, p13, q13⟩ := field_same (s.extract 297 329) false
  obtain ⟨r15, p15, q15⟩ := field_same (s.extract 345 500) true
  obtain ⟨b, q, hb, hq, hbq⟩ := alph_is (bt s 156) (bt_range s 156).1 (bt_range s 156).2
  have hz : Ev (fun k => creelref_zeros.f k 12) (zs 12) := ⟨13, fun k hk => zeros_is 12 k (by omega) (by omega)⟩
  have h0 : s.extract 0 s.size = s := cut_all s
  refine ⟨finR r1.1 r15.1 r10.1 r2.1 r3.1 r4.1 r5.1 r6.1 (bt s 156) r12.1 r13.1 (creelref_HeadOf.js s 500 (zs 12) (ntE (creelref_HeadOf.js s 329 (⟨#[48, 48, 48, 48, 48, 48, 48, 0, 48, 48, 48, 48, 48, 48, 48, 0]⟩ : ByteArray) (ntE (ntE (creelref_HeadOf.js s 257 (⟨#[117, 115, 116, 97, 114, 0, 48, 48]⟩ : ByteArray) (ntE (if q = true then (ntE (ntE (ntE (ntE (ntE (ntE 0 r1.2) r2.2) r3.2) r4.2) r5.2) r6.2) else ntE (ntE (ntE (ntE (ntE (ntE (ntE 0 r1.2) r2.2) r3.2) r4.2) r5.2) r6.2) 3) r10.2)) r12.2) r13.2)) r15.2)), ?_, ?_⟩
  · have hb0 : ∀ k, head_Read.body k s = head_Read.body k s := fun _ => rfl
    unfold head_Read.body
    refine ev_at (Ev.const ((congrArg (fun z => head_eye_text.f z 0 100 true) h0).symm.trans (text_is s 0 100 (by omega) 0 true r1 p1))) ?_
    refine ev_at (number_ev s 100 8 (by omega) (ntE 0 r1.2) r2 p2) ?_
    refine ev_at (number_ev s 108 8 (by omega) (ntE (ntE 0 r1.2) r2.2) r3 p3) ?_
    refine ev_at (number_ev s 116 8 (by omega) (ntE (ntE (ntE 0 r1.2) r2.2) r3.2) r4 p4) ?_
    refine ev_at (number_ev s 124 12 (by omega) (ntE (ntE (ntE (ntE 0 r1.2) r2.2) r3.2) r4.2) r5 p5) ?_
    refine ev_at (number_ev s 136 12 (by omega) (ntE (ntE (ntE (ntE (ntE 0 r1.2) r2.2) r3.2) r4.2) r5.2) r6 p6) ?_
    refine ev_at (Ev.const (take_is s 148 8 (by omega) (ntE (ntE (ntE (ntE (ntE (ntE 0 r1.2) r2.2) r3.2) r4.2) r5.2) r6.2))) ?_
    refine ev_at (Ev.const (take_is s 156 1 (by omega) (ntE (ntE (ntE (ntE (ntE (ntE 0 r1.2) r2.2) r3.2) r4.2) r5.2) r6.2))) ?_
    refine Ev.ifp (show 0 < (s.extract 156 157).size by rw [ByteArray.size_extract]; omega) ?_
    have e8 : bt (s.extract 156 157) 0 = bt s 156 := bt_extract s 156 157 0 (by omega) (by omega)
    refine ev_at (Ev.const (show strings_IndexByte.f (⟨#[48, 49, 50, 53, 120]⟩ : ByteArray) (bt (s.extract 156 157) 0) = some b by rw [e8]; exact hb)) ?_
    have e9 : (if b < 0 then head_eye_note.f (s.extract 157 s.size) (ntE (ntE (ntE (ntE (ntE (ntE 0 r1.2) r2.2) r3.2) r4.2) r5.2) r6.2) 3 else some (s.extract 157 s.size, (ntE (ntE (ntE (ntE (ntE (ntE 0 r1.2) r2.2) r3.2) r4.2) r5.2) r6.2))) = some (s.extract 157 s.size, (if q = true then (ntE (ntE (ntE (ntE (ntE (ntE 0 r1.2) r2.2) r3.2) r4.2) r5.2) r6.2) else ntE (ntE (ntE (ntE (ntE (ntE (ntE 0 r1.2) r2.2) r3.2) r4.2) r5.2) r6.2) 3)) := by
      by_cases c : b < 0
      · rw [if_pos c, if_neg (fun h => hbq.1 h c), note_is]
      · rw [if_neg c, if_pos (hbq.2 c)]
    refine ev_at (Ev.const e9) ?_
    refine ev_at (Ev.const (text_is s 157 100 (by omega) (if q = true then (ntE (ntE (ntE (ntE (ntE (ntE 0 r1.2) r2.2) r3.2) r4.2) r5.2) r6.2) else ntE (ntE (ntE (ntE (ntE (ntE (ntE 0 r1.2) r2.2) r3.2) r4.2) r5.2) r6.2) 3) true r10 p10)) ?_
    refine ev_at (Ev.const (just_is s 257 8 (by omega) (ntE (if q = true then (ntE (ntE (ntE (ntE (ntE (ntE 0 r1.2) r2.2) r3.2) r4.2) r5.2) r6.2) else ntE (ntE (ntE (ntE (ntE (ntE (ntE 0 r1.2) r2.2) r3.2) r4.2) r5.2) r6.2) 3) r10.2) (⟨#[117, 115, 116, 97, 114, 0, 48, 48]⟩ : ByteArray) rfl)) ?_
    refine ev_at (Ev.const (text_is s 265 32 (by omega) (creelref_HeadOf.js s 257 (⟨#[117, 115, 116, 97, 114, 0, 48, 48]⟩ : ByteArray) (ntE (if q = true then (ntE (ntE (ntE (ntE (ntE (ntE 0 r1.2) r2.2) r3.2) r4.2) r5.2) r6.2) else ntE (ntE (ntE (ntE (ntE (ntE (ntE 0 r1.2) r2.2) r3.2) r4.2) r5.2) r6.2) 3) r10.2)) false r12 p12)) ?_
    refine ev_at (Ev.const (text_is s 297 32 (by omega) (ntE (creelref_HeadOf.js s 257 (⟨#[117, 115, 116, 97, 114, 0, 48, 48]⟩ : ByteArray) (ntE (if q = true then (ntE (ntE (ntE (ntE (ntE (ntE 0 r1.2) r2.2) r3.2) r4.2) r5.2) r6.2) else ntE (ntE (ntE (ntE (ntE (ntE (ntE 0 r1.2) r2.2) r3.2) r4.2) r5.2) r6.2) 3) r10.2)) r12.2) false r13 p13)) ?_
    refine ev_at (Ev.const (just_is s 329 16 (by omega) (ntE (ntE (creelref_HeadOf.js s 257 (⟨#[117, 115, 116, 97, 114, 0, 48, 48]⟩ : ByteArray) (ntE (if q = true then (ntE (ntE (ntE (ntE (ntE (ntE 0 r1.2) r2.2) r3.2) r4.2) r5.2) r6.2) else ntE (ntE (ntE (ntE (ntE (ntE (ntE 0 r1.2) r2.2) r3.2) r4.2) r5.2) r6.2) 3) r10.2)) r12.2) r13.2) (⟨#[48, 48, 48, 48, 48, 48, 48, 0, 48, 48, 48, 48, 48, 48, 48, 0]⟩ : ByteArray) rfl)) ?_
    refine ev_at (Ev.const (text_is s 345 155 (by omega) (creelref_HeadOf.js s 329 (⟨#[48, 48, 48, 48, 48, 48, 48, 0, 48, 48, 48, 48, 48, 48, 48, 0]⟩ : ByteArray) (ntE (ntE (creelref_HeadOf.js s 257 (⟨#[117, 115, 116, 97, 114, 0, 48, 48]⟩ : ByteArray) (ntE (if q = true then (ntE (ntE (ntE (ntE (ntE (ntE 0 r1.2) r2.2) r3.2) r4.2) r5.2) r6.2) else ntE (ntE (ntE (ntE (ntE (ntE (ntE 0 r1.2) r2.2) r3.2) r4.2) r5.2) r6.2) 3) r10.2)) r12.2) r13.2)) true r15 p15)) ?_
    refine ev_at (Ev.const zs_12) ?_
    refine ev_at (Ev.const (just_is s 500 12 (by omega) (ntE (creelref_HeadOf.js s 329 (⟨#[48, 48, 48, 48, 48, 48, 48, 0, 48, 48, 48, 48, 48, 48, 48, 0]⟩ : ByteArray) (ntE (ntE (creelref_HeadOf.js s 257 (⟨#[117, 115, 116, 97, 114, 0, 48, 48]⟩ : ByteArray) (ntE (if q = true then (ntE (ntE (ntE (ntE (ntE (ntE 0 r1.2) r2.2) r3.2) r4.2) r5.2) r6.2) else ntE (ntE (ntE (ntE (ntE (ntE (ntE 0 r1.2) r2.2) r3.2) r4.2) r5.2) r6.2) 3) r10.2)) r12.2) r13.2)) r15.2) (zs 12) (zs_size 12))) ?_
    refine Ev.const ?_
    show (if (creelref_HeadOf.js s 500 (zs 12) (ntE (creelref_HeadOf.js s 329 (⟨#[48, 48, 48, 48, 48, 48, 48, 0, 48, 48, 48, 48, 48, 48, 48, 0]⟩ : ByteArray) (ntE (ntE (creelref_HeadOf.js s 257 (⟨#[117, 115, 116, 97, 114, 0, 48, 48]⟩ : ByteArray) (ntE (if q = true then (ntE (ntE (ntE (ntE (ntE (ntE 0 r1.2) r2.2) r3.2) r4.2) r5.2) r6.2) else ntE (ntE (ntE (ntE (ntE (ntE (ntE 0 r1.2) r2.2) r3.2) r4.2) r5.2) r6.2) 3) r10.2)) r12.2) r13.2)) r15.2)) = 0 then some (r1.1, r15.1, r10.1, r2.1, r3.1, r4.1, r5.1, r6.1, bt (s.extract 156 157) 0, r12.1, r13.1, 0) else _) = _
    rw [e8]
    unfold finR
    by_cases c : (creelref_HeadOf.js s 500 (zs 12) (ntE (creelref_HeadOf.js s 329 (⟨#[48, 48, 48, 48, 48, 48, 48, 0, 48, 48, 48, 48, 48, 48, 48, 0]⟩ : ByteArray) (ntE (ntE (creelref_HeadOf.js s 257 (⟨#[117, 115, 116, 97, 114, 0, 48, 48]⟩ : ByteArray) (ntE (if q = true then (ntE (ntE (ntE (ntE (ntE (ntE 0 r1.2) r2.2) r3.2) r4.2) r5.2) r6.2) else ntE (ntE (ntE (ntE (ntE (ntE (ntE 0 r1.2) r2.2) r3.2) r4.2) r5.2) r6.2) 3) r10.2)) r12.2) r13.2)) r15.2)) = 0
    · rw [if_pos c, if_pos c]
    · rw [if_neg c, if_neg c]
      try rfl
  · unfold creelref_HeadOf.body
    refine ev_at q1 ?_
    refine ev_at q2 ?_
    refine ev_at q3 ?_
    refine ev_at q4 ?_
    refine ev_at q5 ?_
    refine ev_at q6 ?_
    refine ev_at hq ?_
    refine ev_at q10 ?_
    refine ev_at q12 ?_
    refine ev_at q13 ?_
    refine ev_at q15 ?_
    refine ev_at hz ?_
    refine Ev.ifp (show (zs 12).size ≤ 12 by rw [zs_size]; omega) (Ev.const ?_)
    exact fin_is _ _ _ _ _ _ _ _ _ _ _ _
theorem read_both (s : ByteArray) : ∃ r, Ev (fun k => head_Read.f k s) r ∧ Ev (fun k => creelref_HeadOf.f k s) r := by
  unfold head_Read.f creelref_HeadOf.f
  by_cases hs : s.size = 512
  · obtain ⟨n, s1, s2, n0, n1⟩ := sum_512 s hs
    obtain ⟨r, b1, b2⟩ := body_both s hs
    obtain ⟨v, v1, v2⟩ := read7 (s.extract 148 155) (by rw [ByteArray.size_extract]; omega)
    have t1 := text_ev n (by omega) (by omega)
    have hf := field8 s hs n (by omega) (by omega)
    have hv := v2 n
    have ht : (txt n).size ≤ 1000 := by unfold txt; rw [o_size]; simp
    by_cases c : (s.extract 148 156).toList = (txt n ++ (⟨#[32]⟩ : ByteArray)).toList
    · obtain ⟨g1, g2⟩ := hf.1 c
      obtain ⟨g3, g4⟩ := hv.2 g1
      exact ⟨r, Ev.bind s1 (Ev.ifp rfl (Ev.ifp (by omega) (Ev.bind v1 (Ev.ifp g3 (Ev.ifp g4 (Ev.ifp g2 b1)))))), Ev.bind s2 (Ev.ifp rfl (Ev.bind t1 (Ev.ifp ⟨by omega, ht⟩ (Ev.ifp c b2))))⟩
    · refine ⟨((⟨#[]⟩ : ByteArray), (⟨#[]⟩ : ByteArray), (⟨#[]⟩ : ByteArray), 0, 0, 0, 0, 0, 0, (⟨#[]⟩ : ByteArray), (⟨#[]⟩ : ByteArray), 8), Ev.bind s1 (Ev.ifp rfl (Ev.ifp (by omega) (Ev.bind v1 ?_))), Ev.bind s2 (Ev.ifp rfl (Ev.bind t1 (Ev.ifp ⟨by omega, ht⟩ (Ev.ifn c (Ev.now _)))))⟩
      by_cases g3 : v.2 = 0
      · refine Ev.ifp g3 ?_
        by_cases g4 : v.1 = n
        · exact Ev.ifp g4 (Ev.ifn (fun g2 => c (hf.2 ⟨hv.1 ⟨g3, g4⟩, g2⟩)) (Ev.now _))
        · exact Ev.ifn g4 (Ev.now _)
      · exact Ev.ifn g3 (Ev.now _)
  · obtain ⟨s1, s2⟩ := sum_no s hs
    exact ⟨_, Ev.bind s1 (Ev.ifn (by decide) (Ev.now _)), Ev.bind s2 (Ev.ifn (by decide) (Ev.now _))⟩
theorem pure : Pure := by
  intro s hs
  obtain ⟨r, ⟨K1, h1⟩, ⟨K2, h2⟩⟩ := read_both s
  have a1 := h1 (K1 + K2) (by omega)
  have a2 := h2 (K1 + K2) (by omega)
  dsimp only at a1 a2
  refine ⟨K1 + K2, ?_⟩
  unfold creellaw_HeadReads.f
  rw [a1, a2]
  simp
end Go.Proofs.YtodeblpanooomaaDoor.PuHeadReads
end
section
namespace Go.Proofs.YtodeblpanooomaaDoor.headReads
open Go.ChangeShapes Go.WideShapes Go.ChangeAt Go.RowKit Go.Proofs.YtodeblpanooomaaDoorW.PrintWords Go.Proofs.YtodeblpanooomaaDoorW.Opens
open Go.ChangeMaps (open_string shut_string)
set_option linter.unusedVariables false
theorem own : ownKnob Tryd.prog.godebug = none := by kernel_rfl
set_option maxRecDepth 100000 in
/-- What the walk gives, for every argument that the row admits. -/
theorem contract (H : Type) (enc : TypeId × Value → H) (W : World) (base : Nat) (args : Array Value) (ds gs : List (DataW H)) (before : List MemPlace)
    (hval0 : ∀ (j : Nat) t v, Tryd.f3.params[j]? = some t → args[j]? = some v → Value.okWide Tryd.prog W .any base t v)
    (hW : DataW.Whole enc Tryd.prog Tryd.f3.params.toList Rows.headReadsSpec.vars false W args.toList ds gs before)
    (hsz0 : (DataW.weightsEach Tryd.prog (Tryd.f3.params.toList ++ Rows.headReadsSpec.plain.varTypes Tryd.prog) (ds ++ gs)).all (· ≤ reachBytes) = true) (hL : laidMetH Tryd.prog Rows.headReadsRow.laid W) (hsh : W.ShapedOpen Tryd.prog) :
    Calls Tryd.prog 3 args W fun e W' => ∃ v, e = .returned v ∧ Rows.headReadsSpec.post enc Tryd.prog Tryd.f3 false true false false W args v W' := by
  have hsz := hsz0
  have hval := hval0
  have hW' := hW
  obtain ⟨p, q, hA0, hV, rfl, hfz, hnd⟩ := hW
  have hA : DataW.TrodAll enc Tryd.prog W 0 (fun _ => true) true Tryd.f3.params.toList args.toList ds p := hA0
  rw [Tryd.params3] at hA hval hsz
  obtain ⟨v0, vs0, d0, ds0, p0, q0, hargs, rfl, rfl, h0, r0⟩ := trodAll_cons hA
  obtain ⟨rfl, rfl, rfl⟩ := trodAll_nil r0
  obtain rfl : args = #[v0] := by cases args; simp_all
  obtain ⟨rfl, rfl⟩ := trodVars_none hV
  obtain ⟨x0, rfl, rfl, rfl, y0⟩ := open_string Tryd.underlying9 (hval 0 9 v0 rfl rfl) h0
  have g0 : x0.size ≤ 140737488351232 := by
    have z := sized_string hsz (j := 0) (t := 9) rfl rfl
    rw [Array.length_toList] at z
    exact z
  clear hA0 hval0 hsz0 hsz
  refine (GHeadReads.walk PuHeadReads.pure x0 W g0 ).mono fun e W' ⟨he, bel⟩ => ?_
  subst he
  exact ⟨_, rfl, _, _, _, [], _, [], hW', trodAll_mk1 (shut_bool Tryd.underlying4 _), (trodAll_cons_mk (shut_string Tryd.underlying9 y0) trodAll_mk0), rfl, bel.frame _, fun h => by cases h⟩
set_option maxRecDepth 100000 in
/-- A world for the witness: the settled one, the listed variables holding what their initialisers lay. -/
noncomputable def laidWorld (os : Os) : World :=
  { World.holding Tryd.prog os ⟨#[], #[], []⟩ with heap := (((World.holding Tryd.prog os ⟨#[], #[], []⟩).heap.modify 3 fun
      | .cells _ t frozen => .cells #[.int .u8 128, .int .u8 191, .int .u8 160, .int .u8 191, .int .u8 128, .int .u8 159, .int .u8 144, .int .u8 191, .int .u8 128, .int .u8 143, .int .u8 0, .int .u8 0, .int .u8 0, .int .u8 0, .int .u8 0, .int .u8 0, .int .u8 0, .int .u8 0, .int .u8 0, .int .u8 0, .int .u8 0, .int .u8 0, .int .u8 0, .int .u8 0, .int .u8 0, .int .u8 0, .int .u8 0, .int .u8 0, .int .u8 0, .int .u8 0, .int .u8 0, .int .u8 0] t frozen
      | o => o).modify 2 fun
      | .cells _ t frozen => .cells #[.int .u8 240, .int .u8 240, .int .u8 240, .int .u8 240, .int .u8 240, .int .u8 240, .int .u8 240, .int .u8 240, .int .u8 240, .int .u8 240, .int .u8 240, .int .u8 240, .int .u8 240, .int .u8 240, .int .u8 240, .int .u8 240, .int .u8 240, .int .u8 240, .int .u8 240, .int .u8 240, .int .u8 240, .int .u8 240, .int .u8 240, .int .u8 240, .int .u8 240, .int .u8 240, .int .u8 240, .int .u8 240, .int .u8 240, .int .u8 240, .int .u8 240, .int .u8 240, .int .u8 240, .int .u8 240, .int .u8 240, .int .u8 240, .int .u8 240, .int .u8 240, .int .u8 240, .int .u8 240, .int .u8 240, .int .u8 240, .int .u8 240, .int .u8 240, .int .u8 240, .int .u8 240, .int .u8 240, .int .u8 240, .int .u8 240, .int .u8 240, .int .u8 240, .int .u8 240, .int .u8 240, .int .u8 240, .int .u8 240, .int .u8 240, .int .u8 240, .int .u8 240, .int .u8 240, .int .u8 240, .int .u8 240, .int .u8 240, .int .u8 240, .int .u8 240, .int .u8 240, .int .u8 240, .int .u8 240, .int .u8 240, .int .u8 240, .int .u8 240, .int .u8 240, .int .u8 240, .int .u8 240, .int .u8 240, .int .u8 240, .int .u8 240, .int .u8 240, .int .u8 240, .int .u8 240, .int .u8 240, .int .u8 240, .int .u8 240, .int .u8 240, .int .u8 240, .int .u8 240, .int .u8 240, .int .u8 240, .int .u8 240, .int .u8 240, .int .u8 240, .int .u8 240, .int .u8 240, .int .u8 240, .int .u8 240, .int .u8 240, .int .u8 240, .int .u8 240, .int .u8 240, .int .u8 240, .int .u8 240, .int .u8 240, .int .u8 240, .int .u8 240, .int .u8 240, .int .u8 240, .int .u8 240, .int .u8 240, .int .u8 240, .int .u8 240, .int .u8 240, .int .u8 240, .int .u8 240, .int .u8 240, .int .u8 240, .int .u8 240, .int .u8 240, .int .u8 240, .int .u8 240, .int .u8 240, .int .u8 240, .int .u8 240, .int .u8 240, .int .u8 240, .int .u8 240, .int .u8 240, .int .u8 240, .int .u8 240, .int .u8 240, .int .u8 241, .int .u8 241, .int .u8 241, .int .u8 241, .int .u8 241, .int .u8 241, .int .u8 241, .int .u8 241, .int .u8 241, .int .u8 241, .int .u8 241, .int .u8 241, .int .u8 241, .int .u8 241, .int .u8 241, .int .u8 241, .int .u8 241, .int .u8 241, .int .u8 241, .int .u8 241, .int .u8 241, .int .u8 241, .int .u8 241, .int .u8 241, .int .u8 241, .int .u8 241, .int .u8 241, .int .u8 241, .int .u8 241, .int .u8 241, .int .u8 241, .int .u8 241, .int .u8 241, .int .u8 241, .int .u8 241, .int .u8 241, .int .u8 241, .int .u8 241, .int .u8 241, .int .u8 241, .int .u8 241, .int .u8 241, .int .u8 241, .int .u8 241, .int .u8 241, .int .u8 241, .int .u8 241, .int .u8 241, .int .u8 241, .int .u8 241, .int .u8 241, .int .u8 241, .int .u8 241, .int .u8 241, .int .u8 241, .int .u8 241, .int .u8 241, .int .u8 241, .int .u8 241, .int .u8 241, .int .u8 241, .int .u8 241, .int .u8 241, .int .u8 241, .int .u8 241, .int .u8 241, .int .u8 2, .int .u8 2, .int .u8 2, .int .u8 2, .int .u8 2, .int .u8 2, .int .u8 2, .int .u8 2, .int .u8 2, .int .u8 2, .int .u8 2, .int .u8 2, .int .u8 2, .int .u8 2, .int .u8 2, .int .u8 2, .int .u8 2, .int .u8 2, .int .u8 2, .int .u8 2, .int .u8 2, .int .u8 2, .int .u8 2, .int .u8 2, .int .u8 2, .int .u8 2, .int .u8 2, .int .u8 2, .int .u8 2, .int .u8 2, .int .u8 19, .int .u8 3, .int .u8 3, .int .u8 3, .int .u8 3, .int .u8 3, .int .u8 3, .int .u8 3, .int .u8 3, .int .u8 3, .int .u8 3, .int .u8 3, .int .u8 3, .int .u8 35, .int .u8 3, .int .u8 3, .int .u8 52, .int .u8 4, .int .u8 4, .int .u8 4, .int .u8 68, .int .u8 241, .int .u8 241, .int .u8 241, .int .u8 241, .int .u8 241, .int .u8 241, .int .u8 241, .int .u8 241, .int .u8 241, .int .u8 241, .int .u8 241] t frozen
      | o => o) }
theorem laid_met (os : Os) : laidMet Tryd.prog Rows.headReadsRow.laid ((laidWorld os).forCall (fun _ _ => 0) ⟨#[], #[.string ByteArray.empty], []⟩).memory :=
  laidMet_of_run' 8 (by kernel_rfl) (by kernel_rfl)
theorem reads (os : Os) {H : Type} (enc : TypeId × Value → H) : ∃ places, DataW.whole enc Tryd.prog ((laidWorld os).forCall (fun _ _ => 0) ⟨#[], #[.string ByteArray.empty], []⟩).memory Tryd.f3.params.toList Rows.headReadsSpec.vars false (#[.string ByteArray.empty] : Array Value).toList 8 = some ([.lit (.string [])], [], places) :=
  ⟨[], by kernel_rfl⟩
set_option maxRecDepth 100000 in
theorem lifted (os : Os) (started : os.Started) (H : Type) (enc : TypeId × Value → H) (F : Stop.Interp) :
    ReturnsInHanded {} Tryd.checked os 3 .any ((OpenSpec.ofChange Rows.headReadsSpec).preRow enc Tryd.prog Tryd.f3 Rows.headReadsRow.domain false Rows.headReadsRow.laid) (((OpenSpec.ofChange Rows.headReadsSpec).at F).post enc Tryd.prog Tryd.f3 false true false false) := by
  obtain ⟨places, hx⟩ := reads os enc
  refine returnsInHanded_of_row (C := Tryd.checked) (s := OpenSpec.ofChange Rows.headReadsSpec) own started (by kernel_rfl) Tryd.func3
    (witness_row_at (enc := enc) (C := Tryd.checked) false (laidWorld os) #[.string ByteArray.empty] rfl (by kernel_rfl) (by kernel_rfl) (by kernel_rfl)
      (OpenSpec.preRow_of_cond 8 hx (by kernel_rfl) (fun k hk => by cases hk) (by kernel_rfl) (laid_met os))) ?_
  intro W base args ds gs before hval hW _ hcond hsz hL hsh _
  exact contract H enc W base args ds gs before hval hW hsz hL hsh
theorem proved : Rows.HeadReadsSaid :=
  OpenClaim.holds_of_cond 3 Tryd.f3 rfl rfl rfl rfl rfl rfl rfl ⟨rfl, rfl, rfl, rfl, rfl⟩ rfl rfl rfl rfl rfl (by kernel_rfl) Tryd.func3 (by kernel_rfl)
    (of_decide_eq_true (by kernel_rfl)) (by unfold Func.isWrapper; first | (rw [if_pos (by decide +kernel)]; kernel_rfl) | (rw [if_neg (by decide +kernel)]; exact ⟨rfl, rfl⟩))
    (fun os started H enc _ F => by rw [OpenClaim.pre_eq_preRow]; exact lifted os started H enc F)
/-- No parameter wants a stand-in; the program's own looks are off: what the card asks. -/
theorem plain (f : FuncId) (fn : Func) (hf : Tryd.pinned.checked.prog.funcNamed "creel/creellaw.HeadReads" = some f) (hfn : Tryd.pinned.checked.prog.funcs[f]? = some fn) :
    false = Tryd.pinned.checked.prog.looks [] ∧ ∀ (j : Nat) t, fn.params[j]? = some t → Tryd.pinned.checked.prog.wantsStandIn t = false := by
  obtain rfl : f = 3 := Option.some.inj ((show Tryd.prog.funcNamed "creel/creellaw.HeadReads" = some 3 by kernel_rfl).symm.trans hf) |>.symm
  obtain rfl : fn = Tryd.f3 := (Option.some.inj (Tryd.func3.symm.trans hfn)).symm
  refine ⟨by kernel_rfl, fun j t ht => ?_⟩
  rw [Tryd.params3] at ht
  have hm := Array.mem_of_getElem? ht
  simp only [List.mem_toArray, List.mem_cons, List.not_mem_nil, or_false] at hm
  rcases hm with rfl
  · exact (show Tryd.prog.wantsStandIn 9 = false by kernel_rfl)
theorem card : Rows.HeadReadsCardSaid :=
  Claim7.holds_tied_plain_at .later [] _ _ _ _ proved (fun _ h => by cases h) (by kernel_rfl) (fun _ h => by cases h) headReads_row_tie rfl ⟨rfl, rfl⟩ (by kernel_rfl) rfl plain (by kernel_rfl)
#print axioms card
end Go.Proofs.YtodeblpanooomaaDoor.headReads
namespace Go.Proofs.YtodeblpanooomaaDoor
/-- The row, under a short name, for the claim. -/
theorem headReads_holds : Rows.HeadReadsCardSaid := headReads.card
end Go.Proofs.YtodeblpanooomaaDoor
end
