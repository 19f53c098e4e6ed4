/- Made by programs of the prover: walks of Go functions, the words that they use, and plain laws, each text in a section of its own; no condition of its own. -/
import Derived.Test.YtgkofpjeiogafaaDoorRows
import Derived.Test.YtgkofpjeiogafaaDoorCards
import Derived.Test.YtgkofpjeiogafaaDoorTie
import Derived.WalkKit
import Derived.ProofKit
import Derived.OpenShut
import Derived.ShutString
import Derived.ChangeOld
import Derived.Below
import Derived.SizedLaws
import Derived.WideShapes
import Derived.Deep.DeepHandedRow
import Derived.Lib.LaidTab
import Derived.Test.YtgkofpjeiogafaaDoorZFaultFirsts2
import Derived.Test.YtgkofpjeiogafaaDoorZFaultFirsts3
import Derived.Test.YtgkofpjeiogafaaDoorZFaultFirsts4
import Derived.Test.YtgkofpjeiogafaaDoorZFaultFirsts5
import Derived.Test.YtgkofpjeiogafaaDoorZFaultFirsts6
import Derived.Test.YtgkofpjeiogafaaDoorZFaultFirsts8
import Derived.Test.YtgkofpjeiogafaaDoorZFaultFirsts9
import Derived.Test.YtgkofpjeiogafaaDoorZFaultFirsts10
section
namespace Go.Proofs.YtgkofpjeiogafaaDoor.All
open Go.RowKit Go.Proofs.YtgkofpjeiogafaaDoorW.PrintWords Go.Proofs.YtgkofpjeiogafaaDoorW.PrintLast Go.Proofs.YtgkofpjeiogafaaDoorW.PrintMore
open Go.Proofs.YtgkofpjeiogafaaDoorW.Mine
attribute [local go_sem] gtr_string leq_string geq_string
attribute [local go_sem] max2_int min2_int max_two min_two max_three min_three max_four min_four   -- for this text's walks alone
set_option linter.unusedVariables false
set_option linter.unusedSimpArgs false

/-! ### strings_HasPrefix: function 64 -/
def strings_HasPrefix.f (a0 : ByteArray) (a1 : ByteArray) : Option Bool := some (Lib.hasPrefix a0.data.toList a1.data.toList)
theorem strings_HasPrefix.calls (a0 : ByteArray) (a1 : ByteArray) (r : Bool) (w : World) (h : strings_HasPrefix.f a0 a1 = some r) :
  Calls Tryd.prog 64 #[.string a0, .string a1] w fun e w' => e = .returned (.bool r) ∧ Drawn0 w w' := by
 obtain rfl := Option.some.inj h
 exact (Tryd.strings_HasPrefix a0 a1 w).mono fun e w' ⟨he, hw⟩ => ⟨he, by rw [hw]; exact Drawn0.refl _⟩


end Go.Proofs.YtgkofpjeiogafaaDoor.All
end
section
namespace Go.Proofs.YtgkofpjeiogafaaDoor.Q
set_option linter.unusedVariables false
set_option linter.unusedSimpArgs false
open Go.RowKit Go.Proofs.YtgkofpjeiogafaaDoor.All Go.Proofs.YtgkofpjeiogafaaDoorW.PrintWords Go.Proofs.YtgkofpjeiogafaaDoorW.PrintLast Go.Proofs.YtgkofpjeiogafaaDoorW.PrintMore Go.Proofs.YtgkofpjeiogafaaDoorW.PureBase

-- USES Path
-- FN cmp_isNaN_string cmp_Compare_string slices_Compare_string_string strings_HasPrefix path_In path_Compare creelref_PathIn creelref_PathOrder
theorem cmp_is (p q : ByteArray) : cmp_Compare_string.f p q = some (if (Op.bytesLess p.toList q.toList) = true then (-1) else if (Op.bytesLess q.toList p.toList) = true then 1 else 0) := by
  unfold cmp_Compare_string.f cmp_isNaN_string.f
  simp only [bne_self_eq_false, Option.bind_some, Bool.false_eq_true, if_false]
  split
  · rfl
  · split <;> rfl
theorem cmp_loop (x y : List ByteArray) (hx : x.length ≤ 1099511627776) (d : Nat) : ∀ (k q i : Nat), x.length - i = d → i ≤ x.length → i ≤ y.length → d < k → 2 * d + 2 < q →
    ∃ r, slices_Compare_string_string.l0 k x y x (x.length : Int) (i : Int) = some r ∧ creelref_PathOrder.l0 q x y (i : Int) = some r := by
  induction d with
  | zero =>
    intro k q i hd hi hy hk hq
    obtain ⟨k, rfl⟩ : ∃ m, k = m + 1 := ⟨k - 1, by omega⟩
    obtain ⟨q, rfl⟩ : ∃ m, q = m + 2 := ⟨q - 2, by omega⟩
    have e : i = x.length := by omega
    subst e
    simp only [slices_Compare_string_string.l0, creelref_PathOrder.l0, creelref_PathOrder.j1]
    rw [if_neg (show ¬ ((x.length : Int) < (x.length : Int)) by omega), if_neg (show ¬ ((x.length : Int) < (x.length : Int)) by omega), if_neg (show ¬ (false = true) by simp)]
    by_cases h : (x.length : Int) < (y.length : Int)
    · exact ⟨-1, by rw [if_pos h], by rw [if_pos h]⟩
    · exact ⟨0, by rw [if_neg h], by rw [if_neg h, if_neg (show ¬ (x.length : Int) > (y.length : Int) by omega)]⟩
  | succ d ih =>
    intro k q i hd hi hy hk hq
    obtain ⟨k, rfl⟩ : ∃ m, k = m + 1 := ⟨k - 1, by omega⟩
    obtain ⟨q, rfl⟩ : ∃ m, q = m + 2 := ⟨q - 2, by omega⟩
    have hlt : (i : Int) < (x.length : Int) := by omega
    simp only [slices_Compare_string_string.l0, creelref_PathOrder.l0, creelref_PathOrder.j1]
    rw [if_pos hlt, if_pos hlt, if_pos (show (0 : Int) ≤ (i : Int) by omega), if_pos hlt, if_pos (show (0 : Int) ≤ (i : Int) by omega), if_pos hlt]
    by_cases h : (i : Int) < (y.length : Int)
    · rw [if_neg (show ¬ (i : Int) ≥ (y.length : Int) by omega), if_pos h, cmp_is, decide_eq_true h, if_pos h, if_pos rfl]
      simp only [Option.bind_some]
      have hw : wrap64 ((i : Int) + 1) = ((i + 1 : Nat) : Int) := by rw [wrap_is (by omega) (by omega)]; omega
      by_cases l1 : (Op.bytesLess (rdOf ByteArray.empty x (i : Int)).toList (rdOf ByteArray.empty y (i : Int)).toList) = true
      · refine ⟨-1, ?_, ?_⟩
        · rw [if_pos l1, if_neg (by omega)]
        · rw [if_pos l1]
      · by_cases l2 : (Op.bytesLess (rdOf ByteArray.empty y (i : Int)).toList (rdOf ByteArray.empty x (i : Int)).toList) = true
        · refine ⟨1, ?_, ?_⟩
          · rw [if_neg l1, if_pos l2, if_neg (by omega)]
          · rw [if_neg l1, if_pos l2]
        · obtain ⟨r, h1, h2⟩ := ih k q (i + 1) (by omega) (by omega) (by omega) (by omega) (by omega)
          rw [if_neg l1, if_neg l2, if_pos rfl, if_neg l1, if_neg l2, hw]
          exact ⟨r, h1, h2⟩
    · refine ⟨1, ?_, ?_⟩
      · rw [if_pos (show (i : Int) ≥ (y.length : Int) by omega)]
      · rw [decide_eq_false h, if_neg (show ¬ (false = true) by simp), if_neg (show ¬ (x.length : Int) < (y.length : Int) by omega), if_pos (show (x.length : Int) > (y.length : Int) by omega)]
end Go.Proofs.YtgkofpjeiogafaaDoor.Q
end
section
namespace Go.Proofs.YtgkofpjeiogafaaDoor.Q
set_option linter.unusedVariables false
set_option linter.unusedSimpArgs false
open Go.RowKit Go.Proofs.YtgkofpjeiogafaaDoor.All Go.Proofs.YtgkofpjeiogafaaDoorW.PrintWords Go.Proofs.YtgkofpjeiogafaaDoorW.PrintLast Go.Proofs.YtgkofpjeiogafaaDoorW.PrintMore Go.Proofs.YtgkofpjeiogafaaDoorW.PureBase

-- USES Order
-- FN path_Parts creelref_PathParts path_Compare creelref_PathOrder slices_Compare_string_string cmp_Compare_string path_Up creelref_PathSplit
def cmpL : List ByteArray → List ByteArray → Int
  | [], [] => 0
  | [], _ :: _ => -1
  | _ :: _, [] => 1
  | p :: x, q :: y => if (Op.bytesLess p.toList q.toList) = true then -1 else if (Op.bytesLess q.toList p.toList) = true then 1 else cmpL x y
/-- the parts of a path; "" has none -/
def prt (s : ByteArray) : List ByteArray := if s.toList = ([] : List UInt8) then [] else pp s
def cmpP (a b : ByteArray) : Int := cmpL (prt a) (prt b)
theorem drop_getD (x : List ByteArray) (i : Nat) (h : i < x.length) : x.drop i = rdOf ByteArray.empty x (i : Int) :: x.drop (i + 1) := by
  rw [List.drop_eq_getElem_cons h]
  simp [rdOf, List.getD_eq_getElem?_getD, List.getElem?_eq_getElem h]
theorem slices_val (x y : List ByteArray) (hx : x.length ≤ 1099511627776) (d : Nat) : ∀ (k i : Nat), x.length - i = d → i ≤ x.length → i ≤ y.length → d < k →
    slices_Compare_string_string.l0 k x y x (x.length : Int) (i : Int) = some (cmpL (x.drop i) (y.drop i)) := by
  induction d with
  | zero =>
    intro k i hd hi hy hk
    obtain ⟨k, rfl⟩ : ∃ m, k = m + 1 := ⟨k - 1, by omega⟩
    have e : i = x.length := by omega
    subst e
    simp only [slices_Compare_string_string.l0]
    rw [if_neg (show ¬ ((x.length : Int) < (x.length : Int)) by omega), List.drop_length]
    by_cases h : (x.length : Int) < (y.length : Int)
    · rw [if_pos h, drop_getD y _ (by omega)]
      rfl
    · rw [if_neg h, List.drop_of_length_le (by omega)]
      rfl
  | succ d ih =>
    intro k i hd hi hy hk
    obtain ⟨k, rfl⟩ : ∃ m, k = m + 1 := ⟨k - 1, by omega⟩
    have hlt : (i : Int) < (x.length : Int) := by omega
    simp only [slices_Compare_string_string.l0]
    rw [if_pos hlt, if_pos (show (0 : Int) ≤ (i : Int) by omega), if_pos hlt, drop_getD x i (by omega)]
    by_cases h : (i : Int) < (y.length : Int)
    · have hw : wrap64 ((i : Int) + 1) = ((i + 1 : Nat) : Int) := by rw [wrap_is (by omega) (by omega)]; omega
      rw [if_neg (show ¬ (i : Int) ≥ (y.length : Int) by omega), if_pos h, cmp_is, drop_getD y i (by omega)]
      simp only [Option.bind_some, cmpL]
      by_cases l1 : (Op.bytesLess (rdOf ByteArray.empty x (i : Int)).toList (rdOf ByteArray.empty y (i : Int)).toList) = true
      · rw [if_pos l1, if_neg (by omega)]
        rw [if_pos l1]
      · by_cases l2 : (Op.bytesLess (rdOf ByteArray.empty y (i : Int)).toList (rdOf ByteArray.empty x (i : Int)).toList) = true
        · rw [if_neg l1, if_pos l2, if_neg (by omega), if_neg l1, if_pos l2]
        · rw [if_neg l1, if_neg l2, if_pos rfl, if_neg l1, if_neg l2, hw]
          exact ih k (i + 1) (by omega) (by omega) (by omega) (by omega)
    · rw [if_pos (show (i : Int) ≥ (y.length : Int) by omega), List.drop_of_length_le (show y.length ≤ i by omega)]
      rfl
theorem prt_is (s : ByteArray) (hs : s.size ≤ 1048576) (k : Nat) (hk : s.size < k) : (prt s).length ≤ s.size + 1 ∧ path_Parts.f s = some (prt s) ∧ creelref_PathParts.f k s = some (prt s) := by
  unfold path_Parts.f creelref_PathParts.f prt
  by_cases h0 : s.toList = ([] : List UInt8)
  · rw [if_pos h0, if_pos h0, if_pos h0]
    exact ⟨by simp, rfl, rfl⟩
  · rw [if_neg h0, if_neg h0, if_neg h0, split_is s (by omega), parts_is s k (by omega) hk]
    exact ⟨pp_len s, rfl, rfl⟩
theorem cmp_both (a b : ByteArray) (ha : a.size ≤ 1048576) (hb : b.size ≤ 1048576) (k : Nat) (hk : 2 * a.size + b.size + 10 ≤ k) : path_Compare.f k a b = some (cmpP a b) ∧ creelref_PathOrder.f k a b = some (cmpP a b) := by
  obtain ⟨hx, x1, x2⟩ := prt_is a ha k (by omega)
  obtain ⟨hy, y1, y2⟩ := prt_is b hb k (by omega)
  have v := slices_val (prt a) (prt b) (by omega) (prt a).length k 0 (by omega) (by omega) (by omega) (by omega)
  obtain ⟨r, r1, r2⟩ := cmp_loop (prt a) (prt b) (by omega) (prt a).length k k 0 (by omega) (by omega) (by omega) (by omega) (by omega)
  have e : r = cmpP a b := by
    rw [v] at r1
    simp only [List.drop_zero, Option.some.injEq] at r1
    exact r1.symm
  subst e
  constructor
  · unfold path_Compare.f slices_Compare_string_string.f
    rw [x1, y1]
    simp only [Option.bind_some]
    rw [show slices_Compare_string_string.l0 k (prt a) (prt b) (prt a) ((prt a).length : Int) 0 = some (cmpP a b) from r1]
    rfl
  · unfold creelref_PathOrder.f
    rw [x2, y2]
    exact r2
theorem cmp_ev (a b : ByteArray) (ha : a.size ≤ 1048576) (hb : b.size ≤ 1048576) : Ev (fun k => path_Compare.f k a b) (cmpP a b) ∧ Ev (fun k => creelref_PathOrder.f k a b) (cmpP a b) :=
  ⟨⟨_, fun k hk => (cmp_both a b ha hb k hk).1⟩, ⟨_, fun k hk => (cmp_both a b ha hb k hk).2⟩⟩
theorem cmpL_01 : ∀ x y : List ByteArray, cmpL x y = -1 ∨ cmpL x y = 0 ∨ cmpL x y = 1
  | [], [] => Or.inr (Or.inl rfl)
  | [], _ :: _ => Or.inl rfl
  | _ :: _, [] => Or.inr (Or.inr rfl)
  | p :: x, q :: y => by
    unfold cmpL
    split
    · exact Or.inl rfl
    · split
      · exact Or.inr (Or.inr rfl)
      · exact cmpL_01 x y
theorem cmpP_01 (a b : ByteArray) : cmpP a b = -1 ∨ cmpP a b = 0 ∨ cmpP a b = 1 := cmpL_01 _ _
def upOf (s : ByteArray) : ByteArray := (path_Up.f s).getD (⟨#[]⟩ : ByteArray)
theorem up_ev (s : ByteArray) (hs : s.size ≤ 1048576) : path_Up.f s = some (upOf s) ∧ ∃ b, Ev (fun k => creelref_PathSplit.f k s) (upOf s, b) := by
  rcases up_only s (s.size + 3) hs (by omega) with ⟨e, h1, h2⟩ | ⟨i, hi, e, h1, h2⟩
  · have e1 : upOf s = (⟨#[]⟩ : ByteArray) := by unfold upOf; rw [h1]; rfl
    refine ⟨by rw [e1, h1], s, s.size + 3, fun k hk => ?_⟩
    rcases up_only s k hs (by omega) with ⟨_, _, g2⟩ | ⟨j, hj, e', _, _⟩
    · rw [e1]; exact g2
    · omega
  · have e1 : upOf s = s.extract 0 i := by unfold upOf; rw [h1]; rfl
    refine ⟨by rw [e1, h1], s.extract (i + 1) s.size, s.size + 3, fun k hk => ?_⟩
    rcases up_only s k hs (by omega) with ⟨e', _, _⟩ | ⟨j, hj, e', _, g2⟩
    · omega
    · obtain rfl : i = j := by omega
      rw [e1]; exact g2
/-! ### the order is strict and whole -/
theorem less_irrefl (a : List UInt8) : Op.bytesLess a a = false := by
  have := Go.Proofs.YtgkofpjeiogafaaDoorW.Mine.bytesLess_swap a a
  cases h : Op.bytesLess a a with
  | false => rfl
  | true => rw [h] at this; simp at this
theorem less_total {a b : List UInt8} (h1 : ¬ Op.bytesLess a b = true) (h2 : ¬ Op.bytesLess b a = true) : a = b := by
  have := Go.Proofs.YtgkofpjeiogafaaDoorW.Mine.bytesLess_swap a b
  rw [Bool.eq_false_iff.mpr h1, Bool.eq_false_iff.mpr h2] at this
  simpa using this
theorem less_trans : ∀ a b c : List UInt8, Op.bytesLess a b = true → Op.bytesLess b c = true → Op.bytesLess a c = true
  | [], [], _, h, _ => by simp [Op.bytesLess] at h
  | [], _ :: _, [], _, h => by simp [Op.bytesLess] at h
  | [], _ :: _, _ :: _, _, _ => by simp [Op.bytesLess]
  | _ :: _, [], _, h, _ => by simp [Op.bytesLess] at h
  | _ :: _, _ :: _, [], _, h => by simp [Op.bytesLess] at h
  | x :: a, y :: b, z :: c, h1, h2 => by
    simp only [Op.bytesLess, Bool.or_eq_true, Bool.and_eq_true, decide_eq_true_eq, beq_iff_eq] at h1 h2 ⊢
    rcases h1 with p | ⟨rfl, p⟩
    · rcases h2 with q | ⟨rfl, q⟩
      · exact Or.inl (by rw [UInt8.lt_iff_toNat_lt] at p q ⊢; omega)
      · exact Or.inl p
    · rcases h2 with q | ⟨rfl, q⟩
      · exact Or.inl q
      · exact Or.inr ⟨rfl, less_trans a b c p q⟩
theorem cmpL_self : ∀ x : List ByteArray, cmpL x x = 0
  | [] => rfl
  | p :: x => by
    unfold cmpL
    rw [less_irrefl, if_neg (by decide), if_neg (by decide)]
    exact cmpL_self x
theorem cmpL_trans : ∀ x y z : List ByteArray, cmpL x y = -1 → cmpL y z = -1 → cmpL x z = -1
  | [], [], _, h, _ => by simp [cmpL] at h
  | [], _ :: _, [], _, h => by simp [cmpL] at h
  | [], _ :: _, _ :: _, _, _ => rfl
  | _ :: _, [], _, h, _ => by simp [cmpL] at h
  | _ :: _, _ :: _, [], _, h => by simp [cmpL] at h
  | p :: x, q :: y, r :: z, h1, h2 => by
    unfold cmpL at h1 h2 ⊢
    by_cases a : Op.bytesLess p.toList q.toList = true
    · by_cases b : Op.bytesLess q.toList r.toList = true
      · rw [if_pos (less_trans _ _ _ a b)]
      · rw [if_neg b] at h2
        split at h2
        · cases h2
        · rename_i c
          have e := less_total b c
          rw [← e, if_pos a]
    · rw [if_neg a] at h1
      split at h1
      · cases h1
      · rename_i c
        have e := less_total a c
        rw [e]
        by_cases b : Op.bytesLess q.toList r.toList = true
        · rw [if_pos b]
        · rw [if_neg b] at h2 ⊢
          split at h2
          · cases h2
          · rename_i d
            rw [if_neg d]
            exact cmpL_trans x y z h1 h2
theorem cmpP_self (a : ByteArray) : cmpP a a = 0 := cmpL_self _
theorem cmpP_trans {a b c : ByteArray} (h1 : cmpP a b = -1) (h2 : cmpP b c = -1) : cmpP a c = -1 := cmpL_trans _ _ _ h1 h2
theorem cmpP_ne {a b : ByteArray} (h : cmpP a b = -1) : a ≠ b := fun e => by rw [e, cmpP_self] at h; cases h
/-- rising one by one is rising in all -/
theorem rising {α : Type} (p : α → ByteArray) (g : Nat → α) (n : Nat) (h : ∀ i, 0 < i → i < n → cmpP (p (g (i - 1))) (p (g i)) = -1) : ∀ d i j, j = i + d + 1 → j < n → cmpP (p (g i)) (p (g j)) = -1
  | 0, i, j, e, hj => by
    subst e
    exact h (i + 0 + 1) (by omega) hj
  | d + 1, i, j, e, hj => by
    have h1 := rising p g n h d i (j - 1) (by omega) (by omega)
    have h2 := h j (by omega) hj
    exact cmpP_trans h1 h2
end Go.Proofs.YtgkofpjeiogafaaDoor.Q
end
section
namespace Go.Proofs.YtgkofpjeiogafaaDoor.Q
set_option linter.unusedVariables false
set_option linter.unusedSimpArgs false
open Go.RowKit Go.Proofs.YtgkofpjeiogafaaDoor.All Go.Proofs.YtgkofpjeiogafaaDoorW.PrintWords Go.Proofs.YtgkofpjeiogafaaDoorW.PrintLast Go.Proofs.YtgkofpjeiogafaaDoorW.PrintMore Go.Proofs.YtgkofpjeiogafaaDoorW.PureBase

-- USES EntryR OrderL
-- FN plan_Check plan_Right creelref_EntriesFault creelref_EntryFault creelref_EntryAt
abbrev Entry := S80
def ne (l : List Entry) (i : Nat) : Entry := l.getD i z80
theorem rd_ne (l : List Entry) (i : Nat) : rd_T80 l (i : Int) = ne l i := by unfold rd_T80 ne; rw [Int.toNat_natCast]
theorem ne_get (l : List Entry) (i : Nat) (h : i < l.length) : l[i] = ne l i := by
  unfold ne
  rw [List.getD_eq_getElem?_getD, List.getElem?_eq_getElem h]
  rfl
theorem ne_mem (l : List Entry) (i : Nat) (h : i < l.length) : ne l i ∈ l := by rw [← ne_get l i h]; exact List.getElem_mem h
theorem take_ne (l : List Entry) (n : Nat) (h : n < l.length) : l.take (n + 1) = l.take n ++ [ne l n] := by
  rw [List.take_succ_eq_append_getElem h, ne_get l n h]
/-- what a row admits -/
def okE (x : Entry) : Prop := x.f0.size ≤ 140737488351232 ∧ x.f2.size ≤ 140737488351232 ∧ x.f3.f3.size ≤ 140737488351232 ∧ x.f3.f4.size ≤ 140737488351232
def entX (x : Entry) : Int := entryR x.f0 x.f1 x.f2 x.f3.f0 x.f3.f1 x.f3.f2 x.f3.f3 x.f3.f4 x.f3.f5 x.f3.f6 x.f4.length
theorem eright_at (x : Entry) (h : okE x) : Ev (fun k => plan_Check.right k x) (entX x) := plan_ev x.f0 x.f1 x.f2 x.f3.f0 x.f3.f1 x.f3.f2 x.f3.f3 x.f3.f4 x.f3.f5 x.f3.f6 x.f4 h.1 h.2.1
theorem refent_at (x : Entry) (h : okE x) : Ev (fun k => creelref_EntriesFault.right k x) (entX x) := refentry_ev x.f0 x.f1 x.f2 x.f3.f0 x.f3.f1 x.f3.f2 x.f3.f3 x.f3.f4 x.f3.f5 x.f3.f6 x.f4 h.1 h.2.1 h.2.2.1 h.2.2.2
theorem entX_path (x : Entry) (h : entX x = 0) : 1 ≤ x.f0.size ∧ x.f0.size ≤ 400 := by
  unfold entX entryR at h
  split at h
  · rename_i h0
    unfold pathR at h0
    split at h0
    · cases h0
    · omega
  · contradiction
def metaE (y x : Entry) : Bool := creelref_EntriesFault.meta y x
/-! ### the place of a path -/
def isE (s : List UInt8) (y : Entry) : Bool := decide (y.f0.toList = s)
def findE (l : List Entry) (s : List UInt8) : Nat := l.findIdx (isE s)
theorem findE_le (l : List Entry) (s : List UInt8) : findE l s ≤ l.length := List.findIdx_le_length
theorem findE_at (l : List Entry) (s : List UInt8) (i : Nat) (hi : i < l.length) (h : (ne l i).f0.toList = s) (hb : ∀ j, j < i → (ne l j).f0.toList ≠ s) : findE l s = i := by
  unfold findE
  rw [List.findIdx_eq hi]
  refine ⟨by rw [ne_get l i hi]; exact decide_eq_true h, fun j hj => ?_⟩
  rw [ne_get l j (by omega)]
  exact decide_eq_false (hb j hj)
theorem findE_no (l : List Entry) (s : List UInt8) (hb : ∀ j, j < l.length → (ne l j).f0.toList ≠ s) : findE l s = l.length := by
  unfold findE
  rw [List.findIdx_eq_length]
  intro y hy
  obtain ⟨j, hj, rfl⟩ := List.getElem_of_mem hy
  rw [ne_get l j hj]
  exact decide_eq_false (hb j hj)
theorem at_loop (l : List Entry) (s : ByteArray) (hl : l.length ≤ 1099511627776) (d : Nat) : ∀ (k i : Nat), l.length - i = d → i ≤ l.length → d < k → (∀ j, j < i → (ne l j).f0.toList ≠ s.toList) →
    creelref_EntryAt.l0 k l s (i : Int) = some (findE l s.toList : Int) := by
  induction d with
  | zero =>
    intro k i hd hi hk hb
    obtain ⟨k, rfl⟩ : ∃ m, k = m + 1 := ⟨k - 1, by omega⟩
    have e : i = l.length := by omega
    subst e
    have hf := findE_no l s.toList hb
    simp only [creelref_EntryAt.l0]
    rw [if_neg (by omega), hf]
  | succ d ih =>
    intro k i hd hi hk hb
    obtain ⟨k, rfl⟩ : ∃ m, k = m + 1 := ⟨k - 1, by omega⟩
    have hlt : (i : Int) < (l.length : Int) := by omega
    have hw : wrap64 ((i : Int) + 1) = ((i + 1 : Nat) : Int) := by rw [wrap_is (by omega) (by omega)]; omega
    simp only [creelref_EntryAt.l0]
    rw [if_pos hlt, if_pos (show (0 : Int) ≤ (i : Int) by omega), rd_ne]
    by_cases h : (ne l i).f0.toList = s.toList
    · have hf := findE_at l s.toList i (by omega) h hb
      rw [if_pos h, hf]
    · rw [if_neg h, hw]
      refine ih k (i + 1) (by omega) (by omega) (by omega) (fun j hj => ?_)
      by_cases e : j = i
      · subst e; exact h
      · exact hb j (by omega)
theorem at_is (l : List Entry) (s : ByteArray) (hl : l.length ≤ 1099511627776) (k : Nat) (hk : l.length < k) : creelref_EntryAt.f k l s = some (findE l s.toList : Int) :=
  at_loop l s hl l.length k 0 (by omega) (by omega) hk (fun j hj => absurd hj (Nat.not_lt_zero j))
/-! ### what is wrong with a list -/
def twoE (l : List Entry) (n : Nat) (x : Entry) : Bool := if 0 < n then decide (0 ≤ cmpP (ne l (n - 1)).f0 x.f0) else false
def upE (l : List Entry) (n : Nat) (x : Entry) : Bool := if (upOf x.f0).toList = ([] : List UInt8) then false else if findE (l.take n) (upOf x.f0).toList < n then ((ne l (findE (l.take n) (upOf x.f0).toList)).f1 != 2) else true
def linkE (l : List Entry) (n : Nat) (x : Entry) : Bool := if x.f1 = 4 then (if findE (l.take n) x.f2.toList < n then (if (ne l (findE (l.take n) x.f2.toList)).f1 = 1 then !metaE (ne l (findE (l.take n) x.f2.toList)) x else true) else true) else false
def stepE (l : List Entry) (n : Nat) (x : Entry) : Int := if entX x = 0 then (if twoE l n x = true then 6 else if upE l n x = true then 10 else if linkE l n x = true then 11 else 0) else entX x
def entFrom (l : List Entry) : Nat → Nat → Int
  | 0, _ => 0
  | d + 1, n => if stepE l n (ne l n) = 0 then entFrom l d (n + 1) else stepE l n (ne l n)
def entriesR (l : List Entry) : Int := if 40 < l.length then 1 else entFrom l l.length 0
theorem stepE_zero (l : List Entry) (n : Nat) (x : Entry) (h : stepE l n x = 0) : entX x = 0 ∧ twoE l n x = false ∧ upE l n x = false ∧ linkE l n x = false := by
  unfold stepE at h
  split at h
  · rename_i h0
    split at h
    · cases h
    · rename_i h1
      split at h
      · cases h
      · rename_i h2
        split at h
        · cases h
        · rename_i h3
          exact ⟨h0, Bool.eq_false_iff.mpr h1, Bool.eq_false_iff.mpr h2, Bool.eq_false_iff.mpr h3⟩
  · contradiction
theorem esize_le (l : List Entry) {n : Nat} (hn : ∀ j, j < n → stepE l j (ne l j) = 0) (i : Nat) (hi : i < n) : (ne l i).f0.size ≤ 1048576 := by
  have := entX_path _ (stepE_zero l i _ (hn i hi)).1
  omega
theorem two_ent (l : List Entry) (x : Entry) (n : Nat) (hx : x.f0.size ≤ 1048576) (hb : ∀ j, j < n → stepE l j (ne l j) = 0) : Ev (fun k => creelref_EntriesFault.two k l x n) (twoE l n x) ∧ Ev (fun k => plan_Check.two k l x n) (twoE l n x) := by
  unfold twoE creelref_EntriesFault.two plan_Check.two
  by_cases h : 0 < n
  · simp only [if_pos h, rd_ne]
    obtain ⟨h1, h2⟩ := cmp_ev (ne l (n - 1)).f0 x.f0 (esize_le l hb (n - 1) (by omega)) hx
    exact ⟨Ev.bind h2 (Ev.const rfl), Ev.bind h1 (Ev.const rfl)⟩
  · simp only [if_neg h]
    exact ⟨Ev.now _, Ev.now _⟩
theorem at_ev (l : List Entry) (s : ByteArray) (n : Nat) (hl : l.length ≤ 40) : Ev (fun k => creelref_EntryAt.f k (l.take n) s) (findE (l.take n) s.toList : Int) := ⟨50, fun k hk => at_is (l.take n) s (by simp; omega) k (by simp; omega)⟩
theorem up_ent (l : List Entry) (x : Entry) (n : Nat) (hx : x.f0.size ≤ 1048576) (hn : n ≤ l.length) (hl : l.length ≤ 40) : Ev (fun k => creelref_EntriesFault.up k l x n) (upE l n x) := by
  obtain ⟨h1, b, h2⟩ := up_ev x.f0 hx
  have hle := findE_le (l.take n) (upOf x.f0).toList
  rw [show (l.take n).length = n by simp; omega] at hle
  unfold creelref_EntriesFault.up
  refine Ev.bind h2 (Ev.bind (at_ev l (upOf x.f0) n hl) ?_)
  by_cases e : (upOf x.f0).toList = ([] : List UInt8)
  · rw [show upE l n x = false by unfold upE; rw [if_pos e]]
    exact Ev.ifp e (Ev.now _)
  · refine Ev.ifn e ?_
    by_cases g : findE (l.take n) (upOf x.f0).toList < n
    · rw [show upE l n x = ((ne l (findE (l.take n) (upOf x.f0).toList)).f1 != 2) by unfold upE; rw [if_neg e, if_pos g]]
      refine Ev.ifn (by omega) (Ev.ifp (by omega) (Ev.const ?_))
      rw [rd_ne]
    · rw [show upE l n x = true by unfold upE; rw [if_neg e, if_neg g]]
      exact Ev.ifp (by omega) (Ev.now _)
theorem link_ent (l : List Entry) (x : Entry) (n : Nat) (hn : n ≤ l.length) (hl : l.length ≤ 40) : Ev (fun k => creelref_EntriesFault.link k l x n) (linkE l n x) := by
  have hle := findE_le (l.take n) x.f2.toList
  rw [show (l.take n).length = n by simp; omega] at hle
  unfold creelref_EntriesFault.link
  refine Ev.bind (at_ev l _ n hl) ?_
  by_cases e : x.f1 = 4
  · refine Ev.ifp e ?_
    by_cases g : findE (l.take n) x.f2.toList < n
    · refine Ev.ifn (by omega) (Ev.ifp (by omega) ?_)
      by_cases c : (ne l (findE (l.take n) x.f2.toList)).f1 = 1
      · rw [show linkE l n x = !metaE (ne l (findE (l.take n) x.f2.toList)) x by unfold linkE; rw [if_pos e, if_pos g, if_pos c]]
        refine Ev.const ?_
        rw [rd_ne, if_pos c]
        rfl
      · rw [show linkE l n x = true by unfold linkE; rw [if_pos e, if_pos g, if_neg c]]
        refine Ev.const ?_
        rw [rd_ne, if_neg c]
    · rw [show linkE l n x = true by unfold linkE; rw [if_pos e, if_neg g]]
      exact Ev.ifp (by omega) (Ev.now _)
  · rw [show linkE l n x = false by unfold linkE; rw [if_neg e]]
    exact Ev.ifn e (Ev.now _)
theorem ref_estep (l : List Entry) (n : Nat) (hl : l.length ≤ 40) (hn : n < l.length) (hg : ∀ y ∈ l, okE y) (hb : ∀ j, j < n → stepE l j (ne l j) = 0) : Ev (fun k => creelref_EntriesFault.step k l (ne l n) n) (stepE l n (ne l n)) := by
  unfold creelref_EntriesFault.step
  refine Ev.bind (refent_at _ (hg _ (ne_mem l n hn))) ?_
  unfold stepE
  by_cases h : entX (ne l n) = 0
  · have hx : (ne l n).f0.size ≤ 1048576 := by have := entX_path _ h; omega
    refine Ev.ifp h ?_
    rw [if_pos h]
    refine Ev.bind (two_ent l _ n hx hb).1 ?_
    by_cases h1 : twoE l n (ne l n) = true
    · refine Ev.ifp h1 ?_
      rw [if_pos h1]; exact Ev.now _
    · refine Ev.ifn h1 ?_
      rw [if_neg h1]
      refine Ev.bind (up_ent l _ n hx (by omega) hl) ?_
      by_cases h2 : upE l n (ne l n) = true
      · refine Ev.ifp h2 ?_
        rw [if_pos h2]; exact Ev.now _
      · refine Ev.ifn h2 ?_
        rw [if_neg h2]
        refine Ev.bind (link_ent l _ n (by omega) hl) ?_
        by_cases h3 : linkE l n (ne l n) = true
        · refine Ev.ifp h3 ?_
          rw [if_pos h3]; exact Ev.now _
        · refine Ev.ifn h3 ?_
          rw [if_neg h3]; exact Ev.now _
  · refine Ev.ifn h ?_
    rw [if_neg h]; exact Ev.now _
theorem ref_efrom (l : List Entry) (hl : l.length ≤ 40) (hg : ∀ y ∈ l, okE y) (d : Nat) : ∀ n, n + d = l.length → (∀ j, j < n → stepE l j (ne l j) = 0) → Ev (fun k => creelref_EntriesFault.l0 k l n) (entFrom l d n) := by
  induction d with
  | zero =>
    intro n hd hb
    exact Ev.step (f := fun _ => some 0) (fun k => by simp only [creelref_EntriesFault.l0]; rw [if_neg (by omega)]) (Ev.now 0)
  | succ d ih =>
    intro n hd hb
    refine Ev.step (f := fun k => (creelref_EntriesFault.step k l (ne l n) n).bind fun e => if e = 0 then creelref_EntriesFault.l0 k l (n + 1) else some e) (fun k => by simp only [creelref_EntriesFault.l0]; rw [if_pos (by omega), rd_ne]) ?_
    refine Ev.bind (ref_estep l n hl (by omega) hg hb) ?_
    unfold entFrom
    by_cases h : stepE l n (ne l n) = 0
    · rw [if_pos h]
      refine Ev.ifp h (ih (n + 1) (by omega) (fun j hj => ?_))
      by_cases e : j = n
      · subst e; exact h
      · exact hb j (by omega)
    · rw [if_neg h]
      exact Ev.ifn h (Ev.now _)
theorem ref_entries (l : List Entry) (hg : ∀ y ∈ l, okE y) : Ev (fun k => creelref_EntriesFault.f k l) (entriesR l) := by
  unfold creelref_EntriesFault.f entriesR
  by_cases h : 40 < l.length
  · rw [if_pos h]; exact Ev.ifp h (Ev.now _)
  · rw [if_neg h]
    exact Ev.ifn h (ref_efrom l (by omega) hg l.length 0 (by omega) (fun j hj => absurd hj (Nat.not_lt_zero j)))
/-! #### the program: the entries met so far -/
def MapRelE (l : List Entry) (n : Nat) (m : List (List UInt8 × Entry)) : Prop := ∀ s, Go.Proofs.YtgkofpjeiogafaaDoorW.MapOwn.get m s = if findE (l.take n) s < n then some (ne l (findE (l.take n) s)) else none
theorem ne_take (l : List Entry) (n j : Nat) (h : j < n) : ne (l.take n) j = ne l j := by
  unfold ne
  rw [List.getD_eq_getElem?_getD, List.getD_eq_getElem?_getD, List.getElem?_take_of_lt h]
theorem rising_e (l : List Entry) (n : Nat) (hb : ∀ j, j < n → stepE l j (ne l j) = 0) (i j : Nat) (h : i < j) (hj : j < n) : cmpP (ne l i).f0 (ne l j).f0 = -1 := by
  refine rising (fun y : Entry => y.f0) (ne l) n (fun i h0 hi => ?_) (j - i - 1) i j (by omega) hj
  have := (stepE_zero l i _ (hb i hi)).2.1
  unfold twoE at this
  rw [if_pos h0] at this
  have h2 := of_decide_eq_false this
  rcases cmpP_01 (ne l (i - 1)).f0 (ne l i).f0 with e | e | e
  · exact e
  · omega
  · omega
theorem find_new (l : List Entry) (n : Nat) (hn : n < l.length) (hb : ∀ j, j < n + 1 → stepE l j (ne l j) = 0) : findE (l.take (n + 1)) (ne l n).f0.toList = n := by
  refine findE_at _ _ n (by simp; omega) (by rw [ne_take l (n + 1) n (by omega)]) (fun j hj e => ?_)
  rw [ne_take l (n + 1) j (by omega)] at e
  exact cmpP_ne (rising_e l (n + 1) hb j n hj (by omega)) (toList_inj e)
theorem find_old (l : List Entry) (n : Nat) (hn : n < l.length) (s : List UInt8) (hs : (ne l n).f0.toList ≠ s) : (findE (l.take (n + 1)) s < n + 1 ↔ findE (l.take n) s < n) ∧ (findE (l.take n) s < n → findE (l.take (n + 1)) s = findE (l.take n) s) := by
  have hlen : (l.take n).length = n := by simp; omega
  have hp : isE s (ne l n) = false := decide_eq_false hs
  have key : findE (l.take (n + 1)) s = if findE (l.take n) s < n then findE (l.take n) s else n + 1 := by
    unfold findE
    rw [take_ne l n hn, List.findIdx_append, hlen]
    split
    · rfl
    · simp [List.findIdx_cons, hp]; omega
  rw [key]
  split
  · rename_i h; exact ⟨⟨fun _ => h, fun _ => by omega⟩, fun _ => rfl⟩
  · rename_i h; exact ⟨⟨fun h' => absurd h' (by omega), fun h' => absurd h' h⟩, fun h' => absurd h' h⟩
theorem map_next (l : List Entry) (n : Nat) (hn : n < l.length) (m : List (List UInt8 × Entry)) (hm : MapRelE l n m) (hb : ∀ j, j < n + 1 → stepE l j (ne l j) = 0) : MapRelE l (n + 1) (((ne l n).f0.data.toList, ne l n) :: m) := by
  intro s
  by_cases e : (ne l n).f0.toList = s
  · subst e
    rw [← toList_data, Go.Proofs.YtgkofpjeiogafaaDoorW.MapOwn.get_same, find_new l n hn hb, if_pos (by omega)]
  · rw [← toList_data, Go.Proofs.YtgkofpjeiogafaaDoorW.MapOwn.get_other _ _ e, hm s]
    obtain ⟨h1, h2⟩ := find_old l n hn s e
    by_cases h : findE (l.take n) s < n
    · rw [if_pos h, if_pos (h1.2 h), h2 h]
    · rw [if_neg h, if_neg (fun h' => h (h1.1 h'))]
theorem prog_estep (l : List Entry) (n : Nat) (m : List (List UInt8 × Entry)) (hl : l.length ≤ 40) (hn : n < l.length) (hg : ∀ y ∈ l, okE y) (hb : ∀ j, j < n → stepE l j (ne l j) = 0) (hm : MapRelE l n m) : Ev (fun k => plan_Check.step k l m (ne l n) n) (stepE l n (ne l n)) := by
  unfold plan_Check.step
  obtain ⟨g1, g2, _, _⟩ := hg _ (ne_mem l n hn)
  refine Ev.bind (eright_at _ (hg _ (ne_mem l n hn))) ?_
  unfold stepE
  by_cases h : entX (ne l n) = 0
  · have hx : (ne l n).f0.size ≤ 1048576 := by have := entX_path _ h; omega
    obtain ⟨hu, b, hub⟩ := up_ev (ne l n).f0 hx
    refine Ev.ifp h ?_
    rw [if_pos h]
    refine Ev.bind (two_ent l _ n hx hb).2 ?_
    by_cases h1 : twoE l n (ne l n) = true
    · refine Ev.ifp h1 ?_
      rw [if_pos h1]; exact Ev.now _
    · have hupsz : (upOf (ne l n).f0).size ≤ maxLen := by
        rcases up_only (ne l n).f0 ((ne l n).f0.size + 3) hx (by omega) with ⟨_, e, _⟩ | ⟨i, hi, _, e, _⟩
        · rw [hu] at e
          rw [Option.some.inj e]
          exact Nat.zero_le _
        · rw [hu] at e
          rw [Option.some.inj e, ByteArray.size_extract]
          unfold maxLen; omega
      have hup : plan_Check.up m (ne l n) = some (upE l n (ne l n)) := by
        unfold plan_Check.up upE
        rw [hu]
        simp only [Option.bind_some]
        by_cases e : (upOf (ne l n).f0).toList = ([] : List UInt8)
        · rw [if_pos e, if_pos e]
        · rw [if_neg e, if_neg e, if_pos hupsz, hm, ← toList_data]
          by_cases g : findE (l.take n) (upOf (ne l n).f0).toList < n
          · rw [if_pos g, if_pos g]
          · rw [if_neg g, if_neg g]
      refine Ev.ifn h1 ?_
      rw [if_neg h1]
      refine Ev.bind (Ev.const hup) ?_
      by_cases h2 : upE l n (ne l n) = true
      · refine Ev.ifp h2 ?_
        rw [if_pos h2]; exact Ev.now _
      · have hlk : plan_Check.link m (ne l n) = some (linkE l n (ne l n)) := by
          unfold plan_Check.link linkE
          rw [if_pos (by unfold maxLen; omega), hm, ← toList_data]
          by_cases g : findE (l.take n) (ne l n).f2.toList < n
          · rw [if_pos g]
            by_cases e : (ne l n).f1 = 4
            · rw [if_pos g, if_pos e]
              simp only [if_pos e]
              rfl
            · simp only [if_neg e]
          · rw [if_neg g]
            by_cases e : (ne l n).f1 = 4
            · simp [e, g]
            · simp [e]
        refine Ev.ifn h2 ?_
        rw [if_neg h2]
        refine Ev.bind (Ev.const hlk) ?_
        by_cases h3 : linkE l n (ne l n) = true
        · refine Ev.ifp h3 ?_
          rw [if_pos h3]; exact Ev.now _
        · refine Ev.ifn h3 (Ev.ifp (by unfold maxLen; omega) ?_)
          rw [if_neg h3]; exact Ev.now _
  · refine Ev.ifn h ?_
    rw [if_neg h]; exact Ev.now _
theorem prog_efrom (l : List Entry) (hl : l.length ≤ 40) (hg : ∀ y ∈ l, okE y) (d : Nat) : ∀ n m, n + d = l.length → (∀ j, j < n → stepE l j (ne l j) = 0) → MapRelE l n m → Ev (fun k => plan_Check.l0 k l m n) (entFrom l d n) := by
  induction d with
  | zero =>
    intro n m hd hb hm
    exact Ev.step (f := fun _ => some 0) (fun k => by simp only [plan_Check.l0]; rw [if_neg (by omega)]) (Ev.now 0)
  | succ d ih =>
    intro n m hd hb hm
    refine Ev.step (f := fun k => (plan_Check.step k l m (ne l n) n).bind fun e => if e = 0 then plan_Check.l0 k l (((ne l n).f0.data.toList, ne l n) :: m) (n + 1) else some e) (fun k => by simp only [plan_Check.l0]; rw [if_pos (by omega), rd_ne]) ?_
    refine Ev.bind (prog_estep l n m hl (by omega) hg hb hm) ?_
    unfold entFrom
    by_cases h : stepE l n (ne l n) = 0
    · rw [if_pos h]
      have hb' : ∀ j, j < n + 1 → stepE l j (ne l j) = 0 := fun j hj => by
        by_cases e : j = n
        · subst e; exact h
        · exact hb j (by omega)
      exact Ev.ifp h (ih (n + 1) _ (by omega) hb' (map_next l n (by omega) m hm hb'))
    · rw [if_neg h]
      exact Ev.ifn h (Ev.now _)
theorem prog_entries (l : List Entry) (hg : ∀ y ∈ l, okE y) : Ev (fun k => plan_Check.f k l) (entriesR l) := by
  unfold plan_Check.f entriesR
  by_cases h : 40 < l.length
  · rw [if_pos h]; exact Ev.ifp h (Ev.now _)
  · rw [if_neg h]
    refine Ev.ifn h (prog_efrom l (by omega) hg l.length 0 [] (by omega) (fun j hj => absurd hj (Nat.not_lt_zero j)) (fun s => ?_))
    rw [if_neg (Nat.not_lt_zero _)]
    rfl
end Go.Proofs.YtgkofpjeiogafaaDoor.Q
end
section
namespace Go.Proofs.YtgkofpjeiogafaaDoor.Q
set_option linter.unusedVariables false
set_option linter.unusedSimpArgs false
open Go.RowKit Go.Proofs.YtgkofpjeiogafaaDoor.All Go.Proofs.YtgkofpjeiogafaaDoorW.PrintWords Go.Proofs.YtgkofpjeiogafaaDoorW.PrintLast Go.Proofs.YtgkofpjeiogafaaDoorW.PrintMore Go.Proofs.YtgkofpjeiogafaaDoorW.PureBase

-- USES OrderL
-- FN fault_Check fault_index creelref_FaultsFault path_Check creelref_PathFault
abbrev Fault := S40
def nf (l : List Fault) (i : Nat) : Fault := l.getD i z40
theorem rd_nf (l : List Fault) (i : Nat) : rd_T40 l (i : Int) = nf l i := by unfold rd_T40 nf; rw [Int.toNat_natCast]
theorem nf_get (l : List Fault) (i : Nat) (h : i < l.length) : l[i] = nf l i := by
  unfold nf
  rw [List.getD_eq_getElem?_getD, List.getElem?_eq_getElem h]
  rfl
theorem nf_mem (l : List Fault) (i : Nat) (h : i < l.length) : nf l i ∈ l := by rw [← nf_get l i h]; exact List.getElem_mem h
theorem nf_take (l : List Fault) (n j : Nat) (h : j < n) : nf (l.take n) j = nf l j := by
  unfold nf
  rw [List.getD_eq_getElem?_getD, List.getD_eq_getElem?_getD, List.getElem?_take_of_lt h]
def okF (x : Fault) : Prop := x.f0.size ≤ 140737488351232
def isF (s : List UInt8) (y : Fault) : Bool := decide (y.f0.toList = s)
def idxF (l : List Fault) (s : List UInt8) : Nat := l.findIdx (isF s)
theorem idxF_le (l : List Fault) (s : List UInt8) : idxF l s ≤ l.length := List.findIdx_le_length
theorem idxF_at (l : List Fault) (s : List UInt8) (i : Nat) (hi : i < l.length) (h : (nf l i).f0.toList = s) (hb : ∀ j, j < i → (nf l j).f0.toList ≠ s) : idxF l s = i := by
  unfold idxF
  rw [List.findIdx_eq hi]
  refine ⟨by rw [nf_get l i hi]; exact decide_eq_true h, fun j hj => ?_⟩
  rw [nf_get l j (by omega)]
  exact decide_eq_false (hb j hj)
theorem idxF_no (l : List Fault) (s : List UInt8) (hb : ∀ j, j < l.length → (nf l j).f0.toList ≠ s) : idxF l s = l.length := by
  unfold idxF
  rw [List.findIdx_eq_length]
  intro y hy
  obtain ⟨j, hj, rfl⟩ := List.getElem_of_mem hy
  rw [nf_get l j hj]
  exact decide_eq_false (hb j hj)
theorem idxF_path (l : List Fault) (s : List UInt8) (h : idxF l s < l.length) : (nf l (idxF l s)).f0.toList = s := by
  have := List.findIdx_getElem (xs := l) (p := isF s) (w := h)
  have h2 : isF s (nf l (idxF l s)) = true := by rw [← nf_get l _ h]; exact this
  exact of_decide_eq_true h2
theorem idxF_before (l : List Fault) (s : List UInt8) (j : Nat) (h : j < idxF l s) : (nf l j).f0.toList ≠ s := by
  have hj : j < l.length := Nat.lt_of_lt_of_le h (idxF_le l s)
  have := List.not_of_lt_findIdx h
  rw [nf_get l j hj] at this
  intro e
  have h2 : isF s (nf l j) = true := decide_eq_true e
  rw [h2] at this
  exact absurd this (by simp)
theorem index_loop (l : List Fault) (s : ByteArray) (hl : l.length ≤ 1099511627776) (d : Nat) : ∀ (k i : Nat), l.length - i = d → i ≤ l.length → d < k → (∀ j, j < i → (nf l j).f0.toList ≠ s.toList) →
    fault_index.l0 k l s (i : Int) = some (if idxF l s.toList < l.length then (idxF l s.toList : Int) else -1) := by
  induction d with
  | zero =>
    intro k i hd hi hk hb
    obtain ⟨k, rfl⟩ : ∃ m, k = m + 1 := ⟨k - 1, by omega⟩
    have e : i = l.length := by omega
    subst e
    have hf := idxF_no l s.toList hb
    simp only [fault_index.l0]
    rw [if_neg (by omega), if_neg (by omega)]
  | succ d ih =>
    intro k i hd hi hk hb
    obtain ⟨k, rfl⟩ : ∃ m, k = m + 1 := ⟨k - 1, by omega⟩
    have hlt : (i : Int) < (l.length : Int) := by omega
    have hw : wrap64 ((i : Int) + 1) = ((i + 1 : Nat) : Int) := by rw [wrap_is (by omega) (by omega)]; omega
    simp only [fault_index.l0]
    rw [if_pos hlt, if_pos (show (0 : Int) ≤ (i : Int) by omega), rd_nf]
    by_cases h : (nf l i).f0.toList = s.toList
    · have hf := idxF_at l s.toList i (by omega) h hb
      rw [if_pos h, hf, if_pos (by omega)]
    · rw [if_neg h, hw]
      refine ih k (i + 1) (by omega) (by omega) (by omega) (fun j hj => ?_)
      by_cases e : j = i
      · subst e; exact h
      · exact hb j (by omega)
theorem index_is (l : List Fault) (s : ByteArray) (hl : l.length ≤ 1099511627776) (k : Nat) (hk : l.length < k) : fault_index.f k l s = some (if idxF l s.toList < l.length then (idxF l s.toList : Int) else -1) :=
  index_loop l s hl l.length k 0 (by omega) (by omega) hk (fun j hj => absurd hj (Nat.not_lt_zero j))
/-! ### what is wrong with faults -/
def stepF (l : List Fault) (n : Nat) : Int := if pathR (nf l n).f0 = 0 then (if (nf l n).f1 < 1 then 4 else if idxF (l.take n) (nf l n).f0.toList < n then 6 else 0) else pathR (nf l n).f0
def faultFrom (l : List Fault) : Nat → Nat → Int
  | 0, _ => 0
  | d + 1, n => if stepF l n = 0 then faultFrom l d (n + 1) else stepF l n
def faultsR (l : List Fault) : Int := if 12 < l.length then 1 else faultFrom l l.length 0
theorem fprog_from (l : List Fault) (hl : l.length ≤ 12) (hg : ∀ y ∈ l, okF y) (d : Nat) : ∀ n, n + d = l.length → Ev (fun k => fault_Check.l0 k l l (l.length : Int) (n : Int)) (faultFrom l d n) := by
  induction d with
  | zero =>
    intro n hd
    exact Ev.step (f := fun _ => some 0) (fun k => by simp only [fault_Check.l0]; rw [if_neg (by omega)]) (Ev.now 0)
  | succ d ih =>
    intro n hd
    have hw : wrap64 ((n : Int) + 1) = ((n + 1 : Nat) : Int) := by rw [wrap_is (by omega) (by omega)]; omega
    have hlen : (l.take n).length = n := by simp; omega
    refine Ev.step (f := fun k => (path_Check.f k (nf l n).f0).bind fun t => if t = 0 then (if (nf l n).f1 < 1 then some 4 else (fault_index.f k (l.take n) (nf l n).f0).bind fun t108 => if t108 ≥ 0 then some 6 else fault_Check.l0 k l l (l.length : Int) ((n + 1 : Nat) : Int)) else some t) (fun k => ?_) ?_
    · simp only [fault_Check.l0]
      rw [if_pos (by omega), if_pos (by omega), if_pos (by omega), rd_nf, hw, Int.toNat_natCast]
      congr 1
      funext t
      rw [if_pos (show (n : Int) ≤ (l.length : Int) by omega)]
    · refine Ev.bind (path_same _ (hg _ (nf_mem l n (by omega)))).1 ?_
      unfold faultFrom
      have hs : stepF l n = if pathR (nf l n).f0 = 0 then (if (nf l n).f1 < 1 then 4 else if idxF (l.take n) (nf l n).f0.toList < n then 6 else 0) else pathR (nf l n).f0 := rfl
      by_cases h0 : pathR (nf l n).f0 = 0
      · refine Ev.ifp h0 ?_
        rw [if_pos h0] at hs
        by_cases h1 : (nf l n).f1 < 1
        · rw [if_pos h1] at hs
          refine Ev.ifp h1 ?_
          rw [hs, if_neg (by decide)]
          exact Ev.now _
        · rw [if_neg h1] at hs
          refine Ev.ifn h1 ?_
          have hi : Ev (fun k => fault_index.f k (l.take n) (nf l n).f0) (if idxF (l.take n) (nf l n).f0.toList < n then (idxF (l.take n) (nf l n).f0.toList : Int) else -1) := ⟨20, fun k hk => by have := index_is (l.take n) (nf l n).f0 (by omega) k (by omega); rw [hlen] at this; exact this⟩
          refine Ev.bind hi ?_
          by_cases h2 : idxF (l.take n) (nf l n).f0.toList < n
          · rw [if_pos h2] at hs
            refine Ev.ifp (by rw [if_pos h2]; omega) ?_
            rw [hs, if_neg (by decide)]
            exact Ev.now _
          · rw [if_neg h2] at hs
            refine Ev.ifn (by rw [if_neg h2]; decide) ?_
            rw [hs, if_pos rfl]
            exact ih (n + 1) (by omega)
      · refine Ev.ifn h0 ?_
        rw [if_neg h0] at hs
        rw [hs, if_neg h0]
        exact Ev.now _
theorem fref_l1 (l : List Fault) (hl : l.length ≤ 12) (n : Nat) (hn : n < l.length) (r : Int) (hr : Ev (fun k => creelref_FaultsFault.l0 k l l (l.length : Int) (wrap64 ((n : Int) + 1))) r) (d : Nat) : ∀ j, n - j = d → j ≤ n → (∀ i, i < j → (nf l i).f0.toList ≠ (nf l n).f0.toList) →
    Ev (fun k => creelref_FaultsFault.l1 k l (n : Int) (j : Int) l (l.length : Int) (n : Int) (nf l n).f0 (nf l n).f1) (if idxF (l.take n) (nf l n).f0.toList < n then 6 else r) := by
  have hlen : (l.take n).length = n := by simp; omega
  induction d with
  | zero =>
    intro j hd hj hb
    have e : j = n := by omega
    subst e
    have hf := idxF_no (l.take j) (nf l j).f0.toList (fun i hi => by rw [hlen] at hi; rw [nf_take l j i hi]; exact hb i hi)
    rw [hlen] at hf
    rw [hf, if_neg (by omega)]
    exact Ev.step (f := fun k => creelref_FaultsFault.l0 k l l (l.length : Int) (wrap64 ((j : Int) + 1))) (fun k => by simp only [creelref_FaultsFault.l1]; rw [if_neg (by omega)]) hr
  | succ d ih =>
    intro j hd hj hb
    have hw : wrap64 ((j : Int) + 1) = ((j + 1 : Nat) : Int) := by rw [wrap_is (by omega) (by omega)]; omega
    by_cases h : (nf l j).f0.toList = (nf l n).f0.toList
    · have hf := idxF_at (l.take n) (nf l n).f0.toList j (by omega) (by rw [nf_take l n j (by omega)]; exact h) (fun i hi => by rw [nf_take l n i (by omega)]; exact hb i hi)
      rw [hf, if_pos (by omega)]
      exact Ev.step (f := fun _ => some 6) (fun k => by simp only [creelref_FaultsFault.l1]; rw [if_pos (by omega), if_pos (by omega), if_pos (by omega), rd_nf, if_pos h]) (Ev.now 6)
    · refine Ev.step (f := fun k => creelref_FaultsFault.l1 k l (n : Int) ((j + 1 : Nat) : Int) l (l.length : Int) (n : Int) (nf l n).f0 (nf l n).f1) (fun k => ?_) (ih (j + 1) (by omega) (by omega) (fun i hi => ?_))
      · rw [show creelref_FaultsFault.l1 (k + 1) l (n : Int) (j : Int) l (l.length : Int) (n : Int) (nf l n).f0 (nf l n).f1 = creelref_FaultsFault.l1 k l (n : Int) (wrap64 ((j : Int) + 1)) l (l.length : Int) (n : Int) (nf l n).f0 (nf l n).f1 by simp only [creelref_FaultsFault.l1]; rw [if_pos (by omega), if_pos (by omega), if_pos (by omega), rd_nf, if_neg h], hw]
      · by_cases e : i = j
        · subst e; exact h
        · exact hb i (by omega)
theorem fref_from (l : List Fault) (hl : l.length ≤ 12) (hg : ∀ y ∈ l, okF y) (d : Nat) : ∀ n, n + d = l.length → Ev (fun k => creelref_FaultsFault.l0 k l l (l.length : Int) (n : Int)) (faultFrom l d n) := by
  induction d with
  | zero =>
    intro n hd
    exact Ev.step (f := fun _ => some 0) (fun k => by simp only [creelref_FaultsFault.l0]; rw [if_neg (by omega)]) (Ev.now 0)
  | succ d ih =>
    intro n hd
    have hw : wrap64 ((n : Int) + 1) = ((n + 1 : Nat) : Int) := by rw [wrap_is (by omega) (by omega)]; omega
    refine Ev.step (f := fun k => (creelref_PathFault.f k (nf l n).f0).bind fun t => if t = 0 then (if (nf l n).f1 ≤ 0 then some 4 else creelref_FaultsFault.l1 k l (n : Int) ((0 : Nat) : Int) l (l.length : Int) (n : Int) (nf l n).f0 (nf l n).f1) else some t) (fun k => ?_) ?_
    · simp only [creelref_FaultsFault.l0]
      rw [if_pos (by omega), if_pos (by omega), if_pos (by omega), rd_nf]
      rfl
    · refine Ev.bind (path_same _ (hg _ (nf_mem l n (by omega)))).2 ?_
      unfold faultFrom
      have hs : stepF l n = if pathR (nf l n).f0 = 0 then (if (nf l n).f1 < 1 then 4 else if idxF (l.take n) (nf l n).f0.toList < n then 6 else 0) else pathR (nf l n).f0 := rfl
      by_cases h0 : pathR (nf l n).f0 = 0
      · refine Ev.ifp h0 ?_
        rw [if_pos h0] at hs
        by_cases h1 : (nf l n).f1 < 1
        · rw [if_pos h1] at hs
          refine Ev.ifp (by omega) ?_
          rw [hs, if_neg (by decide)]
          exact Ev.now _
        · rw [if_neg h1] at hs
          refine Ev.ifn (by omega) ?_
          have := fref_l1 l hl n (by omega) (faultFrom l d (n + 1)) (by rw [hw]; exact ih (n + 1) (by omega)) n 0 (by omega) (by omega) (fun i hi => absurd hi (Nat.not_lt_zero i))
          by_cases h2 : idxF (l.take n) (nf l n).f0.toList < n
          · rw [if_pos h2] at hs this
            rw [hs, if_neg (by decide)]
            exact this
          · rw [if_neg h2] at hs this
            rw [hs, if_pos rfl]
            exact this
      · refine Ev.ifn h0 ?_
        rw [if_neg h0] at hs
        rw [hs, if_neg h0]
        exact Ev.now _
theorem faults_both (l : List Fault) (hg : ∀ y ∈ l, okF y) : Ev (fun k => fault_Check.f k l) (faultsR l) ∧ Ev (fun k => creelref_FaultsFault.f k l) (faultsR l) := by
  unfold fault_Check.f creelref_FaultsFault.f faultsR
  by_cases h : 12 < l.length
  · rw [if_pos h]; exact ⟨Ev.ifp (by omega) (Ev.now _), Ev.ifp (by omega) (Ev.now _)⟩
  · rw [if_neg h]
    exact ⟨Ev.ifn (by omega) (fprog_from l (by omega) hg l.length 0 (by omega)), Ev.ifn (by omega) (fref_from l (by omega) hg l.length 0 (by omega))⟩
theorem faultFrom_zero (l : List Fault) : ∀ d n, faultFrom l d n = 0 → ∀ j, n ≤ j → j < n + d → stepF l j = 0
  | 0, n, _, j, h1, h2 => by omega
  | d + 1, n, h, j, h1, h2 => by
    unfold faultFrom at h
    split at h
    · rename_i h0
      by_cases e : j = n
      · subst e; exact h0
      · exact faultFrom_zero l d (n + 1) h j (by omega) (by omega)
    · contradiction
/-- faults that may be have paths of their own -/
theorem faults_apart (l : List Fault) (h : faultsR l = 0) : l.length ≤ 12 ∧ ∀ i j, i < j → j < l.length → (nf l i).f0.toList ≠ (nf l j).f0.toList := by
  unfold faultsR at h
  split at h
  · cases h
  · refine ⟨by omega, fun i j hi hj e => ?_⟩
    have h0 := faultFrom_zero l l.length 0 h j (by omega) (by omega)
    unfold stepF at h0
    split at h0
    · split at h0
      · cases h0
      · split at h0
        · cases h0
        · rename_i h3
          apply h3
          have hlen : (l.take j).length = j := by simp; omega
          refine Nat.lt_of_le_of_lt (Nat.le_of_not_lt fun hlt => ?_) hi
          exact idxF_before (l.take j) _ i hlt (by rw [nf_take l j i hi]; exact e)
    · contradiction
end Go.Proofs.YtgkofpjeiogafaaDoor.Q
end
section
namespace Go.Proofs.YtgkofpjeiogafaaDoor.PuFaultFirsts
set_option linter.unusedVariables false
set_option linter.unusedSimpArgs false
open Go.RowKit Go.Proofs.YtgkofpjeiogafaaDoor.All Go.Proofs.YtgkofpjeiogafaaDoor.GFaultFirsts Go.Proofs.YtgkofpjeiogafaaDoorW.PrintWords Go.Proofs.YtgkofpjeiogafaaDoorW.PrintLast Go.Proofs.YtgkofpjeiogafaaDoorW.PrintMore Go.Proofs.YtgkofpjeiogafaaDoorW.PureBase Go.Proofs.YtgkofpjeiogafaaDoor.Q

-- USES PlanR FaultR
theorem entFrom_zero (l : List Entry) : ∀ d n, entFrom l d n = 0 → ∀ j, n ≤ j → j < n + d → stepE l j (ne l j) = 0
  | 0, n, _, j, h1, h2 => by omega
  | d + 1, n, h, j, h1, h2 => by
    unfold entFrom at h
    split at h
    · rename_i h0
      by_cases e : j = n
      · subst e; exact h0
      · exact entFrom_zero l d (n + 1) h j (by omega) (by omega)
    · contradiction
theorem entries_apart (l : List Entry) (h : entriesR l = 0) : l.length ≤ 40 ∧ ∀ i j, i < j → j < l.length → (ne l i).f0.toList ≠ (ne l j).f0.toList := by
  unfold entriesR at h
  split at h
  · cases h
  · refine ⟨by omega, fun i j hi hj e => ?_⟩
    exact cmpP_ne (rising_e l l.length (fun j hj => entFrom_zero l l.length 0 h j (by omega) (by omega)) i j hi hj) (toList_inj e)
/-- the place of the first fault of an entry, or as many as there are entries -/
def hit (l : List Entry) (fl : List Fault) (i : Nat) : Bool := decide (idxF fl (ne l i).f0.toList < fl.length) && decide ((ne l i).f1 = 1)
def out (l : List Entry) (fl : List Fault) (i : Nat) : ByteArray × Int × Int × Int := ((nf fl (idxF fl (ne l i).f0.toList)).f0, (nf fl (idxF fl (ne l i).f0.toList)).f1, (i : Int), 0)
theorem first_prog (l : List Entry) (fl : List Fault) (hl : l.length ≤ 40) (hf : fl.length ≤ 12) (d : Nat) : ∀ i, i + d = l.length →
    ∃ r, Ev (fun k => fault_First.l0 k fl l (l.length : Int) (i : Int)) r ∧ ((r = ((⟨#[]⟩ : ByteArray), 0, 0, 5) ∧ ∀ j, i ≤ j → j < l.length → hit l fl j = false) ∨ ∃ j, i ≤ j ∧ j < l.length ∧ hit l fl j = true ∧ (∀ m, i ≤ m → m < j → hit l fl m = false) ∧ r = out l fl j) := by
  induction d with
  | zero =>
    intro i hd
    exact ⟨_, Ev.step (f := fun _ => some ((⟨#[]⟩ : ByteArray), 0, 0, 5)) (fun k => by simp only [fault_First.l0]; rw [if_neg (by omega)]) (Ev.now _), Or.inl ⟨rfl, fun j h1 h2 => by omega⟩⟩
  | succ d ih =>
    intro i hd
    have hw : wrap64 ((i : Int) + 1) = ((i + 1 : Nat) : Int) := by rw [wrap_is (by omega) (by omega)]; omega
    obtain ⟨r, hr, hc⟩ := ih (i + 1) (by omega)
    have hi : Ev (fun k => fault_index.f k fl (ne l i).f0) (if idxF fl (ne l i).f0.toList < fl.length then (idxF fl (ne l i).f0.toList : Int) else -1) := ⟨20, fun k hk => index_is fl (ne l i).f0 (by omega) k (by omega)⟩
    have hstep : ∀ k, fault_First.l0 (k + 1) fl l (l.length : Int) (i : Int) = (fault_index.f k fl (ne l i).f0).bind fun t106 => (if t106 ≥ 0 then (if (ne l i).f1 = 1 then (if 0 ≤ t106 then (if t106 < (fl.length : Int) then (some ((rd_T40 fl t106).f0, (rd_T40 fl t106).f1, (i : Int), 0)) else none) else none) else fault_First.l0 k fl l (l.length : Int) ((i + 1 : Nat) : Int)) else fault_First.l0 k fl l (l.length : Int) ((i + 1 : Nat) : Int)) := fun k => by
      simp only [fault_First.l0]
      rw [if_pos (by omega), if_pos (by omega), if_pos (by omega), rd_ne, hw]
    by_cases h : hit l fl i = true
    · have h' := h
      unfold hit at h'
      rw [Bool.and_eq_true] at h'
      have g1 := of_decide_eq_true h'.1
      have g2 := of_decide_eq_true h'.2
      rw [if_pos g1] at hi
      refine ⟨out l fl i, Ev.step hstep (Ev.bind hi (Ev.ifp (by omega) (Ev.ifp g2 (Ev.ifp (by omega) (Ev.ifp (by omega) (Ev.const ?_)))))), Or.inr ⟨i, by omega, by omega, h, fun m h1 h2 => by omega, rfl⟩⟩
      rw [rd_nf]
      rfl
    · have hno := Bool.eq_false_iff.mpr h
      refine ⟨r, Ev.step hstep (Ev.bind hi ?_), ?_⟩
      · by_cases g1 : idxF fl (ne l i).f0.toList < fl.length
        · rw [if_pos g1]
          have g2 : ¬ (ne l i).f1 = 1 := fun g2 => h (by unfold hit; rw [decide_eq_true g1, decide_eq_true g2]; rfl)
          exact Ev.ifp (by omega) (Ev.ifn g2 hr)
        · rw [if_neg g1]
          exact Ev.ifn (by decide) hr
      · rcases hc with ⟨e, hc⟩ | ⟨j, h1, h2, h3, h4, h5⟩
        · refine Or.inl ⟨e, fun j h1 h2 => ?_⟩
          by_cases e : j = i
          · subst e; exact hno
          · exact hc j (by omega) h2
        · refine Or.inr ⟨j, by omega, h2, h3, fun m m1 m2 => ?_, h5⟩
          by_cases e : m = i
          · subst e; exact hno
          · exact h4 m (by omega) m2
/-- what the reference has found so far -/
def Found (l : List Entry) (fl : List Fault) (n : Nat) (at_ : Nat) (p : ByteArray) (c : Int) : Prop :=
  at_ ≤ l.length ∧ (∀ j, j < n → findE l (nf fl j).f0.toList < at_ → (ne l (findE l (nf fl j).f0.toList)).f1 ≠ 1) ∧ ((at_ = l.length ∧ p = (⟨#[]⟩ : ByteArray) ∧ c = 0) ∨ ∃ j, j < n ∧ findE l (nf fl j).f0.toList = at_ ∧ at_ < l.length ∧ (ne l at_).f1 = 1 ∧ p = (nf fl j).f0 ∧ c = (nf fl j).f1)
theorem first_ref (l : List Entry) (fl : List Fault) (hl : l.length ≤ 40) (hf : fl.length ≤ 12) (d : Nat) : ∀ n at_ p c, n + d = fl.length → Found l fl n at_ p c →
    ∃ r at' p' c', Ev (fun k => creelref_FaultFirst.l0 k l (at_ : Int) fl (fl.length : Int) (n : Int) p c) r ∧ Found l fl fl.length at' p' c' ∧ r = if at' = l.length then ((⟨#[]⟩ : ByteArray), 0, 0, 5) else (p', c', (at' : Int), 0) := by
  induction d with
  | zero =>
    intro n at_ p c hd hF
    have e : n = fl.length := by omega
    subst e
    refine ⟨_, at_, p, c, Ev.step (f := fun _ => if at_ = l.length then some ((⟨#[]⟩ : ByteArray), 0, 0, 5) else some (p, c, (at_ : Int), 0)) (fun k => ?_) (Ev.const (r := if at_ = l.length then ((⟨#[]⟩ : ByteArray), 0, 0, 5) else (p, c, (at_ : Int), 0)) (by split <;> rfl)), hF, rfl⟩
    simp only [creelref_FaultFirst.l0]
    rw [if_neg (by omega)]
    by_cases h : at_ = l.length
    · rw [if_pos h, if_pos (by omega)]
    · rw [if_neg h, if_neg (by omega)]
  | succ d ih =>
    intro n at_ p c hd hF
    have hw : wrap64 ((n : Int) + 1) = ((n + 1 : Nat) : Int) := by rw [wrap_is (by omega) (by omega)]; omega
    have hi : Ev (fun k => creelref_EntryAt.f k l (nf fl n).f0) (findE l (nf fl n).f0.toList : Int) := ⟨50, fun k hk => at_is l (nf fl n).f0 (by omega) k (by omega)⟩
    have hstep : ∀ k, creelref_FaultFirst.l0 (k + 1) l (at_ : Int) fl (fl.length : Int) (n : Int) p c = (creelref_EntryAt.f k l (nf fl n).f0).bind fun t107 => (if t107 < (at_ : Int) then (if 0 ≤ t107 then (if t107 < (l.length : Int) then (if ((rd_T80 l t107).f1) = 1 then creelref_FaultFirst.l0 k l t107 fl (fl.length : Int) ((n + 1 : Nat) : Int) (nf fl n).f0 (nf fl n).f1 else creelref_FaultFirst.l0 k l (at_ : Int) fl (fl.length : Int) ((n + 1 : Nat) : Int) p c) else none) else none) else creelref_FaultFirst.l0 k l (at_ : Int) fl (fl.length : Int) ((n + 1 : Nat) : Int) p c) := fun k => by
      simp only [creelref_FaultFirst.l0]
      rw [if_pos (by omega), if_pos (by omega), if_pos (by omega), rd_nf, hw]
    obtain ⟨f1, f2, f3⟩ := hF
    by_cases h1 : findE l (nf fl n).f0.toList < at_
    · by_cases h2 : (ne l (findE l (nf fl n).f0.toList)).f1 = 1
      · have hF : Found l fl (n + 1) (findE l (nf fl n).f0.toList) (nf fl n).f0 (nf fl n).f1 := by
          refine ⟨by omega, fun j hj hlt => ?_, Or.inr ⟨n, by omega, rfl, by omega, h2, rfl, rfl⟩⟩
          by_cases e : j = n
          · subst e; omega
          · exact f2 j (by omega) (by omega)
        obtain ⟨r, a', p', c', hr, hc⟩ := ih (n + 1) (findE l (nf fl n).f0.toList) (nf fl n).f0 (nf fl n).f1 (by omega) hF
        exact ⟨r, a', p', c', Ev.step hstep (Ev.bind hi (Ev.ifp (by omega) (Ev.ifp (by omega) (Ev.ifp (by omega) (Ev.ifp (by rw [rd_ne]; exact h2) hr))))), hc⟩
      · have hF : Found l fl (n + 1) at_ p c := by
          refine ⟨f1, fun j hj hlt => ?_, ?_⟩
          · by_cases e : j = n
            · subst e; exact h2
            · exact f2 j (by omega) hlt
          · rcases f3 with h | ⟨j, hj, g⟩
            · exact Or.inl h
            · exact Or.inr ⟨j, by omega, g⟩
        obtain ⟨r, a', p', c', hr, hc⟩ := ih (n + 1) at_ p c (by omega) hF
        exact ⟨r, a', p', c', Ev.step hstep (Ev.bind hi (Ev.ifp (by omega) (Ev.ifp (by omega) (Ev.ifp (by omega) (Ev.ifn (by rw [rd_ne]; exact h2) hr))))), hc⟩
    · have hF : Found l fl (n + 1) at_ p c := by
        refine ⟨f1, fun j hj hlt => ?_, ?_⟩
        · by_cases e : j = n
          · subst e; exact absurd hlt h1
          · exact f2 j (by omega) hlt
        · rcases f3 with h | ⟨j, hj, g⟩
          · exact Or.inl h
          · exact Or.inr ⟨j, by omega, g⟩
      obtain ⟨r, a', p', c', hr, hc⟩ := ih (n + 1) at_ p c (by omega) hF
      exact ⟨r, a', p', c', Ev.step hstep (Ev.bind hi (Ev.ifn (by omega) hr)), hc⟩
theorem findE_path (l : List Entry) (s : List UInt8) (h : findE l s < l.length) : (ne l (findE l s)).f0.toList = s := by
  have := List.findIdx_getElem (xs := l) (p := isE s) (w := h)
  have h2 : isE s (ne l (findE l s)) = true := by rw [← ne_get l _ h]; exact this
  exact of_decide_eq_true h2
theorem first_same (l : List Entry) (fl : List Fault) (hg : ∀ y ∈ l, okE y) (hf : ∀ y ∈ fl, okF y) : ∃ r, Ev (fun k => fault_First.f k l fl) r ∧ Ev (fun k => creelref_FaultFirst.f k l fl) r := by
  unfold fault_First.f creelref_FaultFirst.f
  have e1 := prog_entries l hg
  have e2 := ref_entries l hg
  obtain ⟨e3, e4⟩ := faults_both fl hf
  by_cases h1 : entriesR l = 0
  · by_cases h2 : faultsR fl = 0
    · obtain ⟨hl, da⟩ := entries_apart l h1
      obtain ⟨hm, db⟩ := faults_apart fl h2
      obtain ⟨r, hr, hc⟩ := first_prog l fl hl hm l.length 0 (by omega)
      obtain ⟨q, a', p', c', hq, ⟨g1, g2, g3⟩, g4⟩ := first_ref l fl hl hm fl.length 0 l.length (⟨#[]⟩ : ByteArray) 0 (by omega) ⟨Nat.le_refl _, fun j hj => absurd hj (Nat.not_lt_zero j), Or.inl ⟨rfl, rfl, rfl⟩⟩
      have key : r = q := by
        rcases g3 with ⟨g, gp, gc⟩ | ⟨j, hj, gj, glt, gk, gp, gc⟩
        · rw [if_pos g] at g4
          rcases hc with ⟨hr', _⟩ | ⟨i, _, hi, hh, _, _⟩
          · rw [hr', g4]
          · exfalso
            unfold hit at hh
            rw [Bool.and_eq_true] at hh
            have k1 := of_decide_eq_true hh.1
            have k2 := of_decide_eq_true hh.2
            have hp := idxF_path fl _ k1
            have hfi : findE l (nf fl (idxF fl (ne l i).f0.toList)).f0.toList = i := by
              rw [hp]
              exact findE_at l _ i hi rfl (fun m hm' e => da m i hm' hi e)
            have := g2 (idxF fl (ne l i).f0.toList) k1 (by rw [hfi]; omega)
            rw [hfi] at this
            exact this k2
        · rw [if_neg (by omega)] at g4
          have hpath : (ne l a').f0.toList = (nf fl j).f0.toList := by rw [← gj]; exact findE_path l _ (by omega)
          have hix : idxF fl (ne l a').f0.toList = j := by
            rw [hpath]
            exact idxF_at fl _ j hj rfl (fun m hm' e => db m j hm' hj e)
          have hhit : hit l fl a' = true := by unfold hit; rw [hix, decide_eq_true hj, decide_eq_true gk]; rfl
          rcases hc with ⟨_, hno⟩ | ⟨i, _, hi, hh, hb, hr'⟩
          · exact absurd hhit (by rw [hno a' (by omega) glt]; decide)
          · have hia : i = a' := by
              rcases Nat.lt_trichotomy i a' with h | h | h
              · exfalso
                unfold hit at hh
                rw [Bool.and_eq_true] at hh
                have k1 := of_decide_eq_true hh.1
                have k2 := of_decide_eq_true hh.2
                have hp := idxF_path fl _ k1
                have hfi : findE l (nf fl (idxF fl (ne l i).f0.toList)).f0.toList = i := by
                  rw [hp]
                  exact findE_at l _ i hi rfl (fun m hm' e => da m i hm' hi e)
                have := g2 (idxF fl (ne l i).f0.toList) k1 (by rw [hfi]; omega)
                rw [hfi] at this
                exact this k2
              · exact h
              · exact absurd hhit (by rw [hb a' (by omega) h]; decide)
            subst hia
            rw [hr', g4]
            unfold out
            rw [hix, gp, gc]
      subst key
      exact ⟨r, Ev.bind e1 (Ev.ifp h1 (Ev.bind e3 (Ev.ifp h2 hr))), Ev.bind e2 (Ev.ifp h1 (Ev.bind e4 (Ev.ifp h2 hq)))⟩
    · exact ⟨_, Ev.bind e1 (Ev.ifp h1 (Ev.bind e3 (Ev.ifn h2 (Ev.now _)))), Ev.bind e2 (Ev.ifp h1 (Ev.bind e4 (Ev.ifn h2 (Ev.now _))))⟩
  · exact ⟨_, Ev.bind e1 (Ev.ifn h1 (Ev.now _)), Ev.bind e2 (Ev.ifn h1 (Ev.now _))⟩
theorem pure : Pure := by
  intro l fl hl hfl
  have hg : ∀ y ∈ l, okE y := fun y hy => by
    obtain ⟨hp, _, ht, gm, _⟩ := hl.2 y hy
    obtain ⟨_, _, _, hu, hv, _⟩ := gm
    exact ⟨hp, ht, hu, hv⟩
  have hf : ∀ y ∈ fl, okF y := fun y hy => (hfl.2 y hy).1
  obtain ⟨r, ⟨K1, e1⟩, ⟨K2, e2⟩⟩ := first_same l fl hg hf
  obtain ⟨⟨K3, e3⟩, ⟨K4, e4⟩⟩ := faults_both fl hf
  obtain ⟨k, hk⟩ : ∃ k, k = K1 + K2 + K3 + K4 := ⟨_, rfl⟩
  have a1 := e1 k (by omega)
  have a2 := e2 k (by omega)
  have a3 := e3 k (by omega)
  have a4 := e4 k (by omega)
  dsimp only at a1 a2 a3 a4
  refine ⟨k, ?_⟩
  unfold creellaw_FaultFirsts.f
  rw [a1, a2, a3, a4]
  simp
end Go.Proofs.YtgkofpjeiogafaaDoor.PuFaultFirsts
end
section
namespace Go.Proofs.YtgkofpjeiogafaaDoor.faultFirsts
open Go.ChangeShapes Go.WideShapes Go.ChangeAt Go.RowKit Go.Proofs.YtgkofpjeiogafaaDoorW.PrintWords Go.Proofs.YtgkofpjeiogafaaDoorW.Opens
open Go.ChangeMaps (open_string shut_string)
set_option linter.unusedVariables false
theorem own : ownKnob Tryd.prog.godebug = none := by kernel_rfl
theorem laidOut : laidOutB Tryd.prog = true := by kernel_rfl
set_option maxRecDepth 100000 in
/-- What the walk gives, for every argument that the row admits. -/
theorem contract (H : Type) (enc : TypeId × Value → H) (W : World) (base : Nat) (args : Array Value) (ds gs : List (DataW H)) (before : List MemPlace)
    (hval0 : ∀ (j : Nat) t v, Tryd.f6.params[j]? = some t → args[j]? = some v → Value.okWide Tryd.prog W .any base t v)
    (hW : DataW.Whole enc Tryd.prog Tryd.f6.params.toList Rows.faultFirstsSpec.vars false W args.toList ds gs before)
    (hsz0 : (DataW.weightsEach Tryd.prog (Tryd.f6.params.toList ++ Rows.faultFirstsSpec.plain.varTypes Tryd.prog) (ds ++ gs)).all (· ≤ reachBytes) = true) (hL : laidMetH Tryd.prog Rows.faultFirstsRow.laid W) (hsh : W.ShapedOpen Tryd.prog) :
    Calls Tryd.prog 6 args W fun e W' => ∃ v, e = .returned v ∧ Rows.faultFirstsSpec.post enc Tryd.prog Tryd.f6 false true false false W args v W' := by
  have hsz := hsz0
  have hval := hval0
  have hW' := hW
  obtain ⟨p, q, hA0, hV, rfl, hfz, hnd⟩ := hW
  have hA : DataW.TrodAll enc Tryd.prog W 0 (fun _ => true) true Tryd.f6.params.toList args.toList ds p := hA0
  rw [Tryd.params6] at hA hval hsz
  obtain ⟨v0, vs0, d0, ds0, p0, q0, hargs, rfl, rfl, h0, r0⟩ := trodAll_cons hA
  obtain ⟨v1, vs1, d1, ds1, p1, q1, rfl, rfl, rfl, h1, r1⟩ := trodAll_cons r0
  obtain ⟨rfl, rfl, rfl⟩ := trodAll_nil r1
  obtain rfl : args = #[v0, v1] := by cases args; simp_all
  obtain ⟨rfl, rfl⟩ := trodVars_none hV
  obtain ⟨B0, n0, C0, rfl⟩ := okWide_slice Tryd.underlying34 (hval 0 34 v0 rfl rfl)
  have m0 := h0
  have lt0 : ∀ x ∈ p0, x.block < W.heap.size := by obtain ⟨m, hm⟩ := m0; exact DataW.trod_lt m _ _ _ hm
  obtain ⟨x0, ⟨A0, c0, e0, hc0, hr0⟩, g0⟩ := opens_at (opens_slice (B := 136) Tryd.underlying34 (by kernel_rfl) (by kernel_rfl) GFaultFirsts.opens80) hsz (j := 0) rfl rfl h0
  simp only [Value.cells, List.cons.injEq, Value.slice.injEq, and_true] at e0
  obtain ⟨rfl, rfl, rfl⟩ := e0
  obtain ⟨B1, n1, C1, rfl⟩ := okWide_slice Tryd.underlying37 (hval 1 37 v1 rfl rfl)
  have m1 := h1
  have lt1 : ∀ x ∈ p1, x.block < W.heap.size := by obtain ⟨m, hm⟩ := m1; exact DataW.trod_lt m _ _ _ hm
  obtain ⟨x1, ⟨A1, c1, e1, hc1, hr1⟩, g1⟩ := opens_at (opens_slice (B := 24) Tryd.underlying37 (by kernel_rfl) (by kernel_rfl) GFaultFirsts.opens40) hsz (j := 1) rfl rfl h1
  simp only [Value.cells, List.cons.injEq, Value.slice.injEq, and_true] at e1
  obtain ⟨rfl, rfl, rfl⟩ := e1
  clear hA0 hval0 hsz0 hsz
  refine (GFaultFirsts.walk PuFaultFirsts.pure x0 x1 W g0 g1 hr0 hc0 hr1 hc1).mono fun e W' ⟨he, bel⟩ => ?_
  subst he
  exact ⟨_, rfl, _, _, _, [], _, [], hW', trodAll_mk1 (shut_bool Tryd.underlying4 _), (trodAll_cons_mk (Below.trod laidOut (by kernel_rfl) (of_decide_eq_true (by kernel_rfl)) m0 bel lt0) (trodAll_cons_mk (Below.trod laidOut (by kernel_rfl) (of_decide_eq_true (by kernel_rfl)) m1 bel lt1) trodAll_mk0)), rfl, bel.frame _, fun h => by cases h⟩
set_option maxRecDepth 100000 in
/-- A world for the witness: the settled one, the listed variables holding what their initialisers lay. -/
noncomputable def laidWorld (os : Os) : World :=
  { World.holding Tryd.prog os ⟨#[], #[], []⟩ with heap := (((World.holding Tryd.prog os ⟨#[], #[], []⟩).heap.modify 2 fun
      | .cells _ t frozen => .cells #[.int .u8 128, .int .u8 191, .int .u8 160, .int .u8 191, .int .u8 128, .int .u8 159, .int .u8 144, .int .u8 191, .int .u8 128, .int .u8 143, .int .u8 0, .int .u8 0, .int .u8 0, .int .u8 0, .int .u8 0, .int .u8 0, .int .u8 0, .int .u8 0, .int .u8 0, .int .u8 0, .int .u8 0, .int .u8 0, .int .u8 0, .int .u8 0, .int .u8 0, .int .u8 0, .int .u8 0, .int .u8 0, .int .u8 0, .int .u8 0, .int .u8 0, .int .u8 0] t frozen
      | o => o).modify 1 fun
      | .cells _ t frozen => .cells #[.int .u8 240, .int .u8 240, .int .u8 240, .int .u8 240, .int .u8 240, .int .u8 240, .int .u8 240, .int .u8 240, .int .u8 240, .int .u8 240, .int .u8 240, .int .u8 240, .int .u8 240, .int .u8 240, .int .u8 240, .int .u8 240, .int .u8 240, .int .u8 240, .int .u8 240, .int .u8 240, .int .u8 240, .int .u8 240, .int .u8 240, .int .u8 240, .int .u8 240, .int .u8 240, .int .u8 240, .int .u8 240, .int .u8 240, .int .u8 240, .int .u8 240, .int .u8 240, .int .u8 240, .int .u8 240, .int .u8 240, .int .u8 240, .int .u8 240, .int .u8 240, .int .u8 240, .int .u8 240, .int .u8 240, .int .u8 240, .int .u8 240, .int .u8 240, .int .u8 240, .int .u8 240, .int .u8 240, .int .u8 240, .int .u8 240, .int .u8 240, .int .u8 240, .int .u8 240, .int .u8 240, .int .u8 240, .int .u8 240, .int .u8 240, .int .u8 240, .int .u8 240, .int .u8 240, .int .u8 240, .int .u8 240, .int .u8 240, .int .u8 240, .int .u8 240, .int .u8 240, .int .u8 240, .int .u8 240, .int .u8 240, .int .u8 240, .int .u8 240, .int .u8 240, .int .u8 240, .int .u8 240, .int .u8 240, .int .u8 240, .int .u8 240, .int .u8 240, .int .u8 240, .int .u8 240, .int .u8 240, .int .u8 240, .int .u8 240, .int .u8 240, .int .u8 240, .int .u8 240, .int .u8 240, .int .u8 240, .int .u8 240, .int .u8 240, .int .u8 240, .int .u8 240, .int .u8 240, .int .u8 240, .int .u8 240, .int .u8 240, .int .u8 240, .int .u8 240, .int .u8 240, .int .u8 240, .int .u8 240, .int .u8 240, .int .u8 240, .int .u8 240, .int .u8 240, .int .u8 240, .int .u8 240, .int .u8 240, .int .u8 240, .int .u8 240, .int .u8 240, .int .u8 240, .int .u8 240, .int .u8 240, .int .u8 240, .int .u8 240, .int .u8 240, .int .u8 240, .int .u8 240, .int .u8 240, .int .u8 240, .int .u8 240, .int .u8 240, .int .u8 240, .int .u8 240, .int .u8 240, .int .u8 240, .int .u8 240, .int .u8 240, .int .u8 241, .int .u8 241, .int .u8 241, .int .u8 241, .int .u8 241, .int .u8 241, .int .u8 241, .int .u8 241, .int .u8 241, .int .u8 241, .int .u8 241, .int .u8 241, .int .u8 241, .int .u8 241, .int .u8 241, .int .u8 241, .int .u8 241, .int .u8 241, .int .u8 241, .int .u8 241, .int .u8 241, .int .u8 241, .int .u8 241, .int .u8 241, .int .u8 241, .int .u8 241, .int .u8 241, .int .u8 241, .int .u8 241, .int .u8 241, .int .u8 241, .int .u8 241, .int .u8 241, .int .u8 241, .int .u8 241, .int .u8 241, .int .u8 241, .int .u8 241, .int .u8 241, .int .u8 241, .int .u8 241, .int .u8 241, .int .u8 241, .int .u8 241, .int .u8 241, .int .u8 241, .int .u8 241, .int .u8 241, .int .u8 241, .int .u8 241, .int .u8 241, .int .u8 241, .int .u8 241, .int .u8 241, .int .u8 241, .int .u8 241, .int .u8 241, .int .u8 241, .int .u8 241, .int .u8 241, .int .u8 241, .int .u8 241, .int .u8 241, .int .u8 241, .int .u8 241, .int .u8 241, .int .u8 2, .int .u8 2, .int .u8 2, .int .u8 2, .int .u8 2, .int .u8 2, .int .u8 2, .int .u8 2, .int .u8 2, .int .u8 2, .int .u8 2, .int .u8 2, .int .u8 2, .int .u8 2, .int .u8 2, .int .u8 2, .int .u8 2, .int .u8 2, .int .u8 2, .int .u8 2, .int .u8 2, .int .u8 2, .int .u8 2, .int .u8 2, .int .u8 2, .int .u8 2, .int .u8 2, .int .u8 2, .int .u8 2, .int .u8 2, .int .u8 19, .int .u8 3, .int .u8 3, .int .u8 3, .int .u8 3, .int .u8 3, .int .u8 3, .int .u8 3, .int .u8 3, .int .u8 3, .int .u8 3, .int .u8 3, .int .u8 3, .int .u8 35, .int .u8 3, .int .u8 3, .int .u8 52, .int .u8 4, .int .u8 4, .int .u8 4, .int .u8 68, .int .u8 241, .int .u8 241, .int .u8 241, .int .u8 241, .int .u8 241, .int .u8 241, .int .u8 241, .int .u8 241, .int .u8 241, .int .u8 241, .int .u8 241] t frozen
      | o => o) }
theorem laid_met (os : Os) : laidMet Tryd.prog Rows.faultFirstsRow.laid ((laidWorld os).forCall (fun _ _ => 0) ⟨#[], #[.slice none 0 0, .slice none 0 0], []⟩).memory :=
  laidMet_of_run' 8 (by kernel_rfl) (by kernel_rfl)
theorem reads (os : Os) {H : Type} (enc : TypeId × Value → H) : ∃ places, DataW.whole enc Tryd.prog ((laidWorld os).forCall (fun _ _ => 0) ⟨#[], #[.slice none 0 0, .slice none 0 0], []⟩).memory Tryd.f6.params.toList Rows.faultFirstsSpec.vars false (#[.slice none 0 0, .slice none 0 0] : Array Value).toList 8 = some ([.nil, .nil], [], places) :=
  ⟨[], by kernel_rfl⟩
set_option maxRecDepth 100000 in
theorem lifted (os : Os) (started : os.Started) (H : Type) (enc : TypeId × Value → H) (F : Stop.Interp) :
    ReturnsInHanded {} Tryd.checked os 6 .any ((OpenSpec.ofChange Rows.faultFirstsSpec).preRow enc Tryd.prog Tryd.f6 Rows.faultFirstsRow.domain false Rows.faultFirstsRow.laid) (((OpenSpec.ofChange Rows.faultFirstsSpec).at F).post enc Tryd.prog Tryd.f6 false true false false) := by
  obtain ⟨places, hx⟩ := reads os enc
  refine returnsInHanded_of_row (C := Tryd.checked) (s := OpenSpec.ofChange Rows.faultFirstsSpec) own started (by kernel_rfl) Tryd.func6
    (witness_row_at (enc := enc) (C := Tryd.checked) false (laidWorld os) #[.slice none 0 0, .slice none 0 0] rfl (by kernel_rfl) (by kernel_rfl) (by kernel_rfl)
      (OpenSpec.preRow_of_cond 8 hx (by kernel_rfl) (fun k hk => by cases hk) (by kernel_rfl) (laid_met os))) ?_
  intro W base args ds gs before hval hW _ hcond hsz hL hsh _
  exact contract H enc W base args ds gs before hval hW hsz hL hsh
theorem proved : Rows.FaultFirstsSaid :=
  OpenClaim.holds_of_cond 6 Tryd.f6 rfl rfl rfl rfl rfl rfl rfl ⟨rfl, rfl, rfl, rfl, rfl⟩ rfl rfl rfl rfl rfl (by kernel_rfl) Tryd.func6 (by kernel_rfl)
    (of_decide_eq_true (by kernel_rfl)) (by unfold Func.isWrapper; first | (rw [if_pos (by decide +kernel)]; kernel_rfl) | (rw [if_neg (by decide +kernel)]; exact ⟨rfl, rfl⟩))
    (fun os started H enc _ F => by rw [OpenClaim.pre_eq_preRow]; exact lifted os started H enc F)
/-- No parameter wants a stand-in; the program's own looks are off: what the card asks. -/
theorem plain (f : FuncId) (fn : Func) (hf : Tryd.pinned.checked.prog.funcNamed "creel/creellaw.FaultFirsts" = some f) (hfn : Tryd.pinned.checked.prog.funcs[f]? = some fn) :
    false = Tryd.pinned.checked.prog.looks [] ∧ ∀ (j : Nat) t, fn.params[j]? = some t → Tryd.pinned.checked.prog.wantsStandIn t = false := by
  obtain rfl : f = 6 := Option.some.inj ((show Tryd.prog.funcNamed "creel/creellaw.FaultFirsts" = some 6 by kernel_rfl).symm.trans hf) |>.symm
  obtain rfl : fn = Tryd.f6 := (Option.some.inj (Tryd.func6.symm.trans hfn)).symm
  refine ⟨by kernel_rfl, fun j t ht => ?_⟩
  rw [Tryd.params6] at ht
  have hm := Array.mem_of_getElem? ht
  simp only [List.mem_toArray, List.mem_cons, List.not_mem_nil, or_false] at hm
  rcases hm with rfl | rfl
  · exact (show Tryd.prog.wantsStandIn 34 = false by kernel_rfl)
  · exact (show Tryd.prog.wantsStandIn 37 = false by kernel_rfl)
theorem card : Rows.FaultFirstsCardSaid :=
  Claim7.holds_tied_plain_at .later [] _ _ _ _ proved (fun _ h => by cases h) (by kernel_rfl) (fun _ h => by cases h) faultFirsts_row_tie rfl ⟨rfl, rfl⟩ (by kernel_rfl) rfl plain (by kernel_rfl)
#print axioms card
end Go.Proofs.YtgkofpjeiogafaaDoor.faultFirsts
namespace Go.Proofs.YtgkofpjeiogafaaDoor
/-- The row, under a short name, for the claim. -/
theorem faultFirsts_holds : Rows.FaultFirstsCardSaid := faultFirsts.card
end Go.Proofs.YtgkofpjeiogafaaDoor
end
