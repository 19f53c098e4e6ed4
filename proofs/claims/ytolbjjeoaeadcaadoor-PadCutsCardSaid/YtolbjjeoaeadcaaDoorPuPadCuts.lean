/- The plain law of PadCuts: what the walks compute answers true at every input that the row admits. No condition of its own. -/
import Derived.Test.YtolbjjeoaeadcaaDoorGPadCuts
import Derived.Test.YtolbjjeoaeadcaaDoorWPureBase
namespace Go.Proofs.YtolbjjeoaeadcaaDoor.PuPadCuts
set_option linter.unusedVariables false
set_option linter.unusedSimpArgs false
open Go.RowKit Go.Proofs.YtolbjjeoaeadcaaDoor.All Go.Proofs.YtolbjjeoaeadcaaDoor.GPadCuts Go.Proofs.YtolbjjeoaeadcaaDoorW.PrintWords Go.Proofs.YtolbjjeoaeadcaaDoorW.PrintLast Go.Proofs.YtolbjjeoaeadcaaDoorW.PrintMore Go.Proofs.YtolbjjeoaeadcaaDoorW.PureBase

-- FN strings_Trim pad_Blocks pad_Cut pad_End pad_Ends creelref_PadBlocks creelref_PadCut creellaw_sameBytes
theorem dropWhile_nil {l : List UInt8} {p : UInt8 → Bool} : l.dropWhile p = [] ↔ ∀ x ∈ l, p x = true := by
  induction l with
  | nil => simp
  | cons a l ih =>
    by_cases h : p a = true
    · rw [List.dropWhile_cons_of_pos h, ih]; simp [h]
    · rw [List.dropWhile_cons_of_neg h]; simp [h]
theorem dropWhile_head {l t : List UInt8} {p : UInt8 → Bool} {a : UInt8} (h : l.dropWhile p = a :: t) : p a = false := by
  induction l with
  | nil => simp at h
  | cons b l ih =>
    by_cases hb : p b = true
    · rw [List.dropWhile_cons_of_pos hb] at h; exact ih h
    · rw [List.dropWhile_cons_of_neg hb] at h
      injection h with h1 h2
      rw [← h1]; simpa using hb
theorem trim_zero (l : List UInt8) : Lib.trimB l 0 = [] ↔ l = List.replicate l.length 0 := by
  have key : Lib.trimB l 0 = [] ↔ ∀ x ∈ l, x = 0 := by
    unfold Lib.trimB Lib.trimLeftB Lib.trimRightB
    rw [dropWhile_nil]
    constructor
    · intro h
      cases hR : l.reverse.dropWhile (· == 0) with
      | nil =>
        rw [dropWhile_nil] at hR
        intro x hx
        simpa using hR x (by simpa using hx)
      | cons a t =>
        have h1 := dropWhile_head hR
        have h2 := h a (by rw [hR]; simp)
        rw [h2] at h1; cases h1
    · intro h
      have : l.reverse.dropWhile (· == 0) = [] := by
        rw [dropWhile_nil]
        intro x hx
        simpa using h x (by simpa using hx)
      rw [this]; simp
  rw [key, List.eq_replicate_iff]
  simp

/-- The blocks that so many bytes need. -/
def blk (n : Int) : Int × Int := if 0 ≤ n ∧ n ≤ 8589934591 then ((n + 511) / 512, 0) else (0, 4)
theorem blocks_is (n : Int) : pad_Blocks.f n = some (blk n) := by
  unfold blk
  by_cases c : 0 ≤ n ∧ n ≤ 8589934591
  · rw [if_pos c]
    obtain ⟨c0, c1⟩ := c
    unfold pad_Blocks.f
    rw [if_neg (by omega), if_neg (by omega), wrap_nat (x := n + 512) (by omega) (by omega), wrap_nat (x := n + 512 - 1) (by omega) (by omega), Int.tdiv_eq_ediv_of_nonneg (by omega), wrap_nat (by omega) (by omega), show n + 512 - 1 = n + 511 from by omega]
  · rw [if_neg c]
    unfold pad_Blocks.f
    by_cases h : n < 0
    · rw [if_pos h]
    · rw [if_neg h, if_pos (by omega)]
theorem refblocks_is (n : Int) (k : Nat) (hk : 0 < k) : creelref_PadBlocks.f k n = some (blk n) := by
  obtain ⟨k, rfl⟩ : ∃ m, k = m + 1 := ⟨k - 1, by omega⟩
  unfold creelref_PadBlocks.f blk
  by_cases c : 0 ≤ n ∧ n ≤ 8589934591
  · rw [if_pos c]
    obtain ⟨c0, c1⟩ := c
    rw [if_neg (show ¬ n < 0 by omega), decide_eq_false (show ¬ n ≥ 8589934592 by omega)]
    simp only [creelref_PadBlocks.j0, Bool.false_eq_true, if_false]
    rw [Int.tdiv_eq_ediv_of_nonneg c0, wrap_nat (x := n / 512) (by omega) (by omega), wrap_nat (x := n / 512 * 512) (by omega) (by omega), wrap_nat (x := n / 512 + 1) (by omega) (by omega)]
    by_cases h : n / 512 * 512 < n
    · rw [if_pos h, show n / 512 + 1 = (n + 511) / 512 from by omega]
    · rw [if_neg h, show n / 512 = (n + 511) / 512 from by omega]
  · rw [if_neg c]
    by_cases h : n < 0
    · rw [if_pos h]; simp [creelref_PadBlocks.j0]
    · rw [if_neg h, decide_eq_true (show n ≥ 8589934592 by omega)]; simp [creelref_PadBlocks.j0]
theorem byte_zero (x : Int) (h : (Lit.int .u8 x).wf = true) : UInt8.ofNat x.toNat = 0 ↔ x = 0 := by
  have hx : 0 ≤ x ∧ x ≤ 255 := by
    have h' : (decide (IntKind.u8.min ≤ x) && decide (x ≤ IntKind.u8.max)) = true := h
    rw [Bool.and_eq_true, decide_eq_true_iff, decide_eq_true_iff] at h'
    exact h'
  constructor
  · intro e
    have := congrArg UInt8.toNat e
    rw [UInt8.toNat_ofNat'] at this
    have : x.toNat % 256 = 0 := this
    omega
  · rintro rfl; rfl
theorem seg_trim (l : List Int) (hl : ∀ y ∈ l, (Lit.int .u8 y).wf = true) : Lib.trimB (strOfNums l).data.toList 0 = [] ↔ ∀ x ∈ l, x = 0 := by
  rw [trim_zero, List.eq_replicate_iff, strOfNums_data]
  constructor
  · rintro ⟨_, h⟩ x hx
    exact (byte_zero x (hl x hx)).1 (h _ (List.mem_map_of_mem hx))
  · intro h
    refine ⟨rfl, fun b hb => ?_⟩
    obtain ⟨x, hx, rfl⟩ := List.mem_map.1 hb
    exact (byte_zero x (hl x hx)).2 (h x hx)
theorem trim_f (l : List Int) (hs : l.length ≤ 9223372036854775807) : strings_Trim.f (strOfNums l) (⟨#[0]⟩ : ByteArray) = some ⟨(Lib.trimB (strOfNums l).data.toList 0).toArray⟩ := by
  have e : strings_Trim.f (strOfNums l) (⟨#[0]⟩ : ByteArray) = (if (0 : UInt8).toNat < 128 ∧ (strOfNums l).size ≤ 9223372036854775807 then some ⟨(Lib.trimB (strOfNums l).data.toList 0).toArray⟩ else none) := rfl
  rw [e, if_pos ⟨by decide, by rw [strOfNums_size]; exact hs⟩]
theorem nil_iff (l : List UInt8) : (⟨l.toArray⟩ : ByteArray).toList = ([] : List UInt8) ↔ l = [] := by
  rw [toList_data]
/-- What is cut. -/
def cutR (l : List Int) (n : Int) : List Int × List Int × Int :=
  if (blk n).2 = 0 then (if (blk n).1 * 512 > (l.length : Int) then ([], [], 7) else if ∀ x ∈ (l.take ((blk n).1 * 512).toNat).drop n.toNat, x = 0 then (l.take n.toNat, l.drop ((blk n).1 * 512).toNat, 0) else ([], [], 3)) else ([], [], (blk n).2)
theorem blk_ok (n : Int) (h : (blk n).2 = 0) : 0 ≤ n ∧ n ≤ 8589934591 ∧ (blk n).1 = (n + 511) / 512 := by
  unfold blk at h ⊢
  by_cases c : 0 ≤ n ∧ n ≤ 8589934591
  · rw [if_pos c]; exact ⟨c.1, c.2, rfl⟩
  · rw [if_neg c] at h; exact absurd h (by simp)
theorem cut_is (l : List Int) (n : Int) (hl : l.length ≤ 140737488351232) (hb : ∀ y ∈ l, (Lit.int .u8 y).wf = true) : pad_Cut.f l n = some (cutR l n) := by
  unfold pad_Cut.f cutR
  rw [blocks_is n]
  simp only [Option.bind_some]
  by_cases h : (blk n).2 = 0
  · rw [if_pos h, if_pos h]
    obtain ⟨n0, n1, hk⟩ := blk_ok n h
    generalize hK : (blk n).1 * 512 = K
    have hK0 : n ≤ K ∧ K ≤ n + 511 := by omega
    rw [wrap_nat (x := K) (by omega) (by omega)]
    by_cases g : K > (l.length : Int)
    · rw [if_pos g, if_pos g]
    · rw [if_neg g, if_neg g, if_pos n0, if_pos hK0.1, if_pos (show K ≤ (l.length : Int) by omega), trim_f _ (by rw [List.length_drop, List.length_take]; omega)]
      simp only [Option.bind_some, nil_iff]
      have hz := seg_trim ((l.take K.toNat).drop n.toNat) (fun y hy => hb y (List.mem_of_mem_take (List.mem_of_mem_drop hy)))
      by_cases z : ∀ x ∈ (l.take K.toNat).drop n.toNat, x = 0
      · rw [if_pos (hz.2 z), if_pos z, if_pos (show n ≤ (l.length : Int) by omega), if_pos (by rw [List.length_take, List.length_nil]; omega), if_pos (show 0 ≤ K by omega), if_pos (by rw [List.length_drop, List.length_nil]; omega), List.nil_append, List.nil_append]
      · rw [if_neg (fun e => z (hz.1 e)), if_neg z]
  · rw [if_neg h, if_neg h]
theorem wrap1 (i : Nat) (h : i < 9223372036854775807) : wrap64 ((i : Int) + 1) = ((i + 1 : Nat) : Int) := by rw [wrap_is (by omega) (by omega)]; omega
theorem cut_loop (l : List Int) (n k K : Int) (hl : l.length ≤ 140737488351232) (n0 : 0 ≤ n) (hw : wrap64 (512 * k) = K) (nK : n ≤ K) (hK : K ≤ (l.length : Int)) (d : Nat) : ∀ (q i : Nat), K.toNat - i = d → i ≤ K.toNat → d < q →
    creelref_PadCut.l0 q l n k (i : Int) = some (if ∀ x ∈ (l.take K.toNat).drop i, x = 0 then (l.take n.toNat, l.drop K.toNat, 0) else ([], [], 3)) := by
  induction d with
  | zero =>
    intro q i hd hi hq
    obtain ⟨q, rfl⟩ : ∃ m, q = m + 1 := ⟨q - 1, by omega⟩
    simp only [creelref_PadCut.l0]
    have he : (l.take K.toNat).drop i = [] := List.drop_eq_nil_of_le (by rw [List.length_take]; omega)
    rw [hw, if_neg (show ¬ (i : Int) < K by omega), he]
    simp only [Option.bind_some, List.length_nil, List.nil_append]
    rw [if_pos n0, if_pos (show n ≤ (l.length : Int) by omega), if_pos (by rw [List.length_take]; omega), if_pos (show 0 ≤ K by omega), if_pos hK, if_pos (by rw [List.length_drop]; omega), if_pos (by simp)]
  | succ d ih =>
    intro q i hd hi hq
    obtain ⟨q, rfl⟩ : ∃ m, q = m + 1 := ⟨q - 1, by omega⟩
    simp only [creelref_PadCut.l0]
    have hlt : i < l.length := by omega
    have hr : rd l (i : Int) = l[i] := by simp [rd, hlt]
    have hs : (l.take K.toNat).drop i = l[i] :: (l.take K.toNat).drop (i + 1) := by
      rw [List.drop_eq_getElem_cons (by rw [List.length_take]; omega)]; simp
    have hiK : (i : Int) < wrap64 (512 * k) := by omega
    have hih := ih q (i + 1) (by omega) (by omega) (by omega)
    have hi1 : i < 9223372036854775807 := by omega
    clear ih
    refine (if_pos hiK).trans ?_
    refine (if_pos (show (0 : Int) ≤ (i : Int) by omega)).trans ?_
    refine (if_pos (show (i : Int) < (l.length : Int) by omega)).trans ?_
    by_cases z : l[i] = 0
    · refine (if_pos (hr.trans z)).trans ?_
      rw [wrap1 i hi1, hih, hs]
      by_cases a : ∀ x ∈ (l.take K.toNat).drop (i + 1), x = 0
      · rw [if_pos a, if_pos (show ∀ x ∈ l[i] :: (l.take K.toNat).drop (i + 1), x = 0 from (List.forall_mem_cons (p := fun x : Int => x = 0)).2 ⟨z, a⟩)]
      · rw [if_neg a, if_neg (show ¬ (∀ x ∈ l[i] :: (l.take K.toNat).drop (i + 1), x = 0) from fun e => a ((List.forall_mem_cons (p := fun x : Int => x = 0)).1 e).2)]
    · refine (if_neg (fun e => z (hr.symm.trans e))).trans ?_
      rw [hs, if_neg (show ¬ (∀ x ∈ l[i] :: (l.take K.toNat).drop (i + 1), x = 0) from fun e => z ((List.forall_mem_cons (p := fun x : Int => x = 0)).1 e).1)]
theorem refcut_is (l : List Int) (n : Int) (hl : l.length ≤ 140737488351232) (k : Nat) (hk : 600 < k) : creelref_PadCut.f k l n = some (cutR l n) := by
  unfold creelref_PadCut.f cutR
  rw [refblocks_is n k (by omega)]
  simp only [Option.bind_some]
  by_cases h : (blk n).2 = 0
  · rw [if_pos h, if_pos h]
    obtain ⟨n0, n1, hb⟩ := blk_ok n h
    have hd : wrap64 ((l.length : Int) / 512) = (l.length : Int) / 512 := wrap_nat (by omega) (by omega)
    rw [hd]
    clear hd
    by_cases g : (blk n).1 * 512 > (l.length : Int)
    · rw [if_pos g, if_pos (show (blk n).1 > (l.length : Int) / 512 by omega)]
    · rw [if_neg g, if_neg (show ¬ (blk n).1 > (l.length : Int) / 512 by omega)]
      obtain ⟨i, hi⟩ : ∃ i : Nat, n = (i : Int) := ⟨n.toNat, by omega⟩
      have := cut_loop l n (blk n).1 ((blk n).1 * 512) hl n0 (by rw [wrap_nat (by omega) (by omega)]; omega) (by omega) (by omega) (((blk n).1 * 512).toNat - i) k i rfl (by omega) (by omega)
      rw [← hi] at this
      rw [this, show n.toNat = i by omega]
  · rw [if_neg h, if_neg h]
theorem zeros_are (l : List Int) (hb : ∀ y ∈ l, (Lit.int .u8 y).wf = true) (hl : l.length ≤ 140737488351232) : pad_Ends.f l = some ((strOfNums l).toList == (strOfNums (List.replicate 1024 0)).toList) := by
  have hz := seg_trim l hb
  have key : ((strOfNums l).toList = (strOfNums (List.replicate 1024 0)).toList) ↔ (l.length = 1024 ∧ ∀ x ∈ l, x = 0) := by
    rw [toList_data, toList_data, strOfNums_data, strOfNums_data]
    constructor
    · intro e
      have h1 := congrArg List.length e
      rw [List.length_map, List.length_map, List.length_replicate] at h1
      refine ⟨h1, fun x hx => (byte_zero x (hb x hx)).1 ?_⟩
      have : UInt8.ofNat x.toNat ∈ (List.replicate 1024 (0 : Int)).map (fun n => UInt8.ofNat n.toNat) := by rw [← e]; exact List.mem_map_of_mem hx
      rw [List.map_replicate] at this
      exact List.eq_of_mem_replicate this
    · rintro ⟨h1, h2⟩
      rw [show l = List.replicate 1024 0 from List.eq_replicate_iff.2 ⟨h1, h2⟩]
  unfold pad_Ends.f
  by_cases c : l.length = 1024
  · rw [if_pos (show (l.length : Int) = 1024 by omega), trim_f l (by omega)]
    simp only [Option.bind_some]
    congr 1
    rw [Bool.eq_iff_iff, beq_iff_eq, beq_iff_eq, nil_iff, hz, key]
    exact ⟨fun h => ⟨c, h⟩, fun h => h.2⟩
  · rw [if_neg (show ¬ (l.length : Int) = 1024 by omega)]
    congr 1
    exact (beq_eq_false_iff_ne.mpr (fun e => c (key.1 e).1)).symm
theorem pure : Pure := by
  intro l n hl _
  obtain ⟨hl, hb⟩ := hl
  have hl : l.length ≤ 140737488351232 := by omega
  refine ⟨700, ?_⟩
  unfold creellaw_PadCuts.f pad_End.f creellaw_sameBytes.f
  rw [cut_is l n hl hb, refcut_is l n hl 700 (by omega), zeros_are l hb hl, if_pos (show 1024 ≤ 281474976710656 by omega)]
  simp only [Option.bind_some, beq_self_eq_true, if_true]
  rw [if_pos (show 1024 ≤ 281474976710656 by omega)]
end Go.Proofs.YtolbjjeoaeadcaaDoor.PuPadCuts
