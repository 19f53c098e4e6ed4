/- Laws that the walks of this seat want beside the kit's: strings compared by '>', '<=', '>=', in the print's spelling. No conditions. -/
import Derived.Laws.Strings
import Derived.Lib.AppendIntMem
import Derived.Lib.LaidTab
import Derived.Test.YtcipaajdmpkdfaaDoorProg
import Derived.Test.YtcipaajdmpkdfaaDoorWWords
namespace Go.Proofs.YtcipaajdmpkdfaaDoorW.Mine
open Go.RowKit
theorem bytesLess_swap : ∀ a b : List UInt8, (!(Op.bytesLess a b || a == b)) = Op.bytesLess b a
  | [], [] => by simp [Op.bytesLess]
  | [], b :: y => by simp [Op.bytesLess]
  | a :: x, [] => by simp [Op.bytesLess]
  | a :: x, b :: y => by
    have ih := bytesLess_swap x y
    simp only [Op.bytesLess]
    by_cases h1 : a < b
    · have h2 : ¬ b < a := by rw [UInt8.lt_iff_toNat_lt] at h1 ⊢; omega
      have h3 : (b == a) = false := by
        rw [beq_eq_false_iff_ne]
        rintro rfl
        rw [UInt8.lt_iff_toNat_lt] at h1
        omega
      simp [h1, h2, h3]
    · by_cases h2 : b < a
      · have h3 : (a == b) = false := by
          rw [beq_eq_false_iff_ne]
          rintro rfl
          rw [UInt8.lt_iff_toNat_lt] at h2
          omega
        simp [h1, h2, h3]
      · have e : a = b := by
          apply UInt8.toNat_inj.1
          rw [UInt8.lt_iff_toNat_lt] at h1 h2
          omega
        subst e
        simp [h1, ← ih]
theorem gtr_string (t : TypeId) (a b : ByteArray) : binOp .gtr t (.string a) (.string b) = pure (.bool (Op.bytesLess b.toList a.toList)) := by
  have : binOp .gtr t (.string a) (.string b) = pure (.bool !(Op.bytesLess a.toList b.toList || a.toList == b.toList)) := by simp [binOp, Op.stringOp]
  rw [this, bytesLess_swap]
theorem leq_string (t : TypeId) (a b : ByteArray) : binOp .leq t (.string a) (.string b) = pure (.bool (!Op.bytesLess b.toList a.toList)) := by
  have : binOp .leq t (.string a) (.string b) = pure (.bool (Op.bytesLess a.toList b.toList || a.toList == b.toList)) := by simp [binOp, Op.stringOp]
  rw [this, ← bytesLess_swap a.toList b.toList, Bool.not_not]
theorem geq_string (t : TypeId) (a b : ByteArray) : binOp .geq t (.string a) (.string b) = pure (.bool (!Op.bytesLess a.toList b.toList)) := by simp [binOp, Op.stringOp]
/-- The table of powers of ten that strconv reads. -/
def Tab (w : World) : Prop := Lib.TabIs Tryd.prog w "internal/strconv.uint64pow10" .u64 Lib.pow10Tab
theorem tab_on {w w' : World} (h : Tab w) (hb : Below w.heap.size w w') : Tab w' := Lib.tabBelow_of_tabIs h w' hb
/-- The rest of the listed variables. -/
theorem laidMet_tail {P : Program} {W : World} {x : String × DataW Unit} {rest : List (String × DataW Unit)} (h : laidMet P (x :: rest) W) : laidMet P rest W := by
  obtain ⟨n, d⟩ := x
  obtain ⟨ps, ⟨g, t, cs, fuel, p, q, _, _, _, _, hq, rfl⟩, hnd, hc⟩ := h
  exact ⟨q, hq, (List.nodup_append.1 hnd).2.1, fun b off hb => hc b off (List.mem_append.2 (Or.inr hb))⟩
theorem and_one (n : Int) : bits .and .i64 n 1 = n % 2 := by
  have h1 : (BitVec.ofInt 64 1).toNat = 2 ^ 1 - 1 := by decide
  have key : (BitVec.ofInt 64 n &&& BitVec.ofInt 64 1).toNat = (n % ((2 ^ 64 : Nat) : Int)).toNat % 2 ^ 1 := by
    rw [BitVec.toNat_and, BitVec.toNat_ofInt, h1, Nat.and_two_pow_sub_one_eq_mod]
  show IntKind.i64.wrap ((BitVec.ofInt 64 n &&& BitVec.ofInt 64 1).toNat : Nat) = n % 2
  rw [key, IntKind.wrap_i64]
  omega
/-! What may be done, as nine signs. -/
def modeBit (m i : Nat) : Nat := m / 2 ^ i % 2
theorem mode_bit (m i : Nat) : bits .and .i64 ((m : Int) / 2 ^ i) 1 = ((modeBit m i : Nat) : Int) := by
  rw [and_one]
  unfold modeBit
  push_cast
  rfl
theorem mode_bit_01 (m i : Nat) : modeBit m i = 0 ∨ modeBit m i = 1 := by unfold modeBit; omega
def modeLit (j : Nat) : Nat := if j % 3 = 0 then 114 else if j % 3 = 1 then 119 else 120
def modeBase (m j : Nat) : Nat := if modeBit m (8 - j) = 1 then modeLit j else 45
def modeSp (m j : Nat) : Nat := if j % 3 = 2 then modeBit m (9 + (8 - j) / 3) else 0
def modeChr (m j : Nat) : Nat := if modeSp m j = 1 then (if modeBase m j = 45 then (if j = 8 then 84 else 83) else (if j = 8 then 116 else 115)) else modeBase m j
def modeText (m : Nat) : ByteArray := ⟨((List.range 9).map fun j => (modeChr m j).toUInt8).toArray⟩
end Go.Proofs.YtcipaajdmpkdfaaDoorW.Mine
