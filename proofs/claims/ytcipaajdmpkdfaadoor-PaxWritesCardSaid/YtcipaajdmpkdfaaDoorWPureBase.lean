/- Small facts on numbers, strings and rounds that the plain laws share: a string's bytes as a list, wraps that do nothing, rounds that suffice. Some have bounds on sizes as premises, as each says. -/
import Derived.Test.YtcipaajdmpkdfaaDoorWMore
import Derived.Test.YtcipaajdmpkdfaaDoorWWords
import Derived.Lib.Bytealg
import Derived.Lib.IndexAny
import Derived.Lib.IndexLaws
namespace Go.Proofs.YtcipaajdmpkdfaaDoorW.PureBase
open Go.RowKit Go.Proofs.YtcipaajdmpkdfaaDoorW.PrintWords

theorem wrap_is {x : Int} (h0 : -9223372036854775808 ≤ x) (h : x ≤ 9223372036854775807) : wrap64 x = x := by unfold wrap64; omega
theorem wrap_nat {x : Int} (h0 : 0 ≤ x) (h : x ≤ 9223372036854775807) : wrap64 x = x := wrap_is (by omega) h

theorem toList_data (s : ByteArray) : s.toList = s.data.toList := ByteArray.toList_eq s

/-- The byte at a place, as a list's. -/
theorem bt_get (s : ByteArray) (i : Nat) (h : i < s.size) : bt s i = ((s.data.toList[i]'(by simpa using h)).toNat : Int) := by
  unfold bt
  rw [dif_pos (by simpa using h)]
  simp
  rfl
theorem bt_eq_iff (s : ByteArray) (i : Nat) (h : i < s.size) (c : Int) (c0 : 0 ≤ c) (c1 : c ≤ 255) : bt s i = c ↔ s.data.toList[i]? = some c.toNat.toUInt8 := by
  rw [bt_get s i h, List.getElem?_eq_getElem (by simpa using h)]
  simp only [Option.some.injEq]
  constructor
  · intro e
    rw [← e]
    simp
  · intro e
    rw [e]
    simp
    omega
theorem size_list (s : ByteArray) : s.data.toList.length = s.size := by simp
theorem of_list (s : ByteArray) : (⟨s.data.toList.toArray⟩ : ByteArray) = s := by simp
theorem ext_list {s t : ByteArray} (h : s.data.toList = t.data.toList) : s = t := by
  rw [← of_list s, ← of_list t, h]
theorem toList_inj {s t : ByteArray} (h : s.toList = t.toList) : s = t := by
  rw [toList_data, toList_data] at h
  exact ext_list h

/-- Is a byte among a string's bytes? -/
theorem mem_bt (s : ByteArray) (c : Int) (c0 : 0 ≤ c) (c1 : c ≤ 255) : (∃ j : Int, 0 ≤ j ∧ j < s.size ∧ bt s j = c) ↔ s.data.toList.contains c.toNat.toUInt8 = true := by
  rw [List.contains_iff_mem]
  constructor
  · rintro ⟨j, h0, h1, h2⟩
    obtain ⟨i, rfl⟩ := Int.eq_ofNat_of_zero_le h0
    have := (bt_eq_iff s i (by omega) c c0 c1).1 h2
    exact List.mem_of_getElem? this
  · intro h
    obtain ⟨i, hi, he⟩ := List.mem_iff_getElem.1 h
    have hs : i < s.size := by simpa using hi
    refine ⟨i, by omega, by omega, ?_⟩
    rw [bt_eq_iff s i hs c c0 c1, List.getElem?_eq_getElem hi, he]

theorem index_ge (l : List UInt8) (c : UInt8) : decide (Lib.indexByte l c ≥ 0) = l.contains c := by
  rw [Lib.contains_iff_indexByte]

/-- Rounds: what is told at some number of rounds and is kept by more. -/
theorem Ev.at_ {α : Type} {g : Nat → Option α} {r : α} (h : Ev g r) : ∃ K, ∀ k, K ≤ k → g k = some r := h
theorem Ev.uniq {α : Type} {g : Nat → Option α} {r q : α} (h : Ev g r) (h' : Ev g q) : r = q := by
  obtain ⟨K, hk⟩ := h
  obtain ⟨L, hl⟩ := h'
  have a := hk (max K L) (Nat.le_max_left _ _)
  have b := hl (max K L) (Nat.le_max_right _ _)
  rw [a] at b
  exact Option.some.inj b
theorem Ev.from_ {α : Type} {g : Nat → Option α} {r : α} (K : Nat) (h : ∀ k, K ≤ k → g k = some r) : Ev g r := ⟨K, h⟩
theorem Ev.const {α : Type} {o : Option α} {r : α} (h : o = some r) : Ev (fun _ => o) r := ⟨0, fun _ _ => h⟩
theorem Ev.ifp {α : Type} {c : Prop} [Decidable c] {g f : Nat → Option α} {r : α} (hc : c) (h : Ev g r) : Ev (fun k => if c then g k else f k) r := by
  obtain ⟨K, hk⟩ := h
  exact ⟨K, fun k h => (if_pos hc).trans (hk k h)⟩
theorem Ev.ifn {α : Type} {c : Prop} [Decidable c] {g f : Nat → Option α} {r : α} (hc : ¬ c) (h : Ev f r) : Ev (fun k => if c then g k else f k) r := by
  obtain ⟨K, hk⟩ := h
  exact ⟨K, fun k h => (if_neg hc).trans (hk k h)⟩
end Go.Proofs.YtcipaajdmpkdfaaDoorW.PureBase
