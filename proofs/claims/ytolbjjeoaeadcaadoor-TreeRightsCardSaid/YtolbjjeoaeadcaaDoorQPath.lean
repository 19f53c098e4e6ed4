/- Paths cut into their parts: the program's and the reference's ways tell the same. Conditions: the lengths that each statement names. -/
import Derived.Test.YtolbjjeoaeadcaaDoorWPureBase
import Derived.Test.YtolbjjeoaeadcaaDoorFStringsIndexByte
import Derived.Test.YtolbjjeoaeadcaaDoorFStringsSplit
import Derived.Test.YtolbjjeoaeadcaaDoorFStringsLastIndexByte
import Derived.Test.YtolbjjeoaeadcaaDoorFCreelrefParts
import Derived.Test.YtolbjjeoaeadcaaDoorFCreelrefPathFault
import Derived.Test.YtolbjjeoaeadcaaDoorFCreelrefPathParts
import Derived.Test.YtolbjjeoaeadcaaDoorFCreelrefPathSplit
import Derived.Test.YtolbjjeoaeadcaaDoorFPathCheck
import Derived.Test.YtolbjjeoaeadcaaDoorFPathParts
import Derived.Test.YtolbjjeoaeadcaaDoorFPathUp
import Derived.Test.YtolbjjeoaeadcaaDoorFPathBase
import Derived.Test.YtolbjjeoaeadcaaDoorQHas
namespace Go.Proofs.YtolbjjeoaeadcaaDoor.Q
set_option linter.unusedVariables false
set_option linter.unusedSimpArgs false
open Go.RowKit Go.Proofs.YtolbjjeoaeadcaaDoor.All Go.Proofs.YtolbjjeoaeadcaaDoorW.PrintWords Go.Proofs.YtolbjjeoaeadcaaDoorW.PrintLast Go.Proofs.YtolbjjeoaeadcaaDoorW.PrintMore Go.Proofs.YtolbjjeoaeadcaaDoorW.PureBase

-- USES Has
-- FN strings_IndexByte strings_Split strings_LastIndexByte creelref_parts creelref_PathFault creelref_PathParts creelref_PathSplit path_Check path_Parts path_Up path_Base
/-- The parts of a list of bytes between a byte. -/
def sp (c : UInt8) : List UInt8 → List (List UInt8)
  | [] => [[]]
  | b :: l => if b = c then [] :: sp c l else match sp c l with
    | p :: ps => (b :: p) :: ps
    | [] => [[b]]
theorem sp_ne (c : UInt8) (l : List UInt8) : sp c l ≠ [] := by
  cases l with
  | nil => simp [sp]
  | cons b l =>
    simp only [sp]
    split
    · simp
    · split <;> simp
/-- The same from the front: a first part that is under way. -/
theorem sp_go (c : UInt8) : ∀ (l p : List UInt8), c ∉ p → sp c (p ++ l) = (match sp c l with | q :: qs => (p ++ q) :: qs | [] => [p])
  | l, [], _ => by
    cases h : sp c l with
    | nil => exact absurd h (sp_ne c l)
    | cons q qs => simp [h]
  | l, a :: p, hp => by
    have ha : ¬ a = c := fun e => hp (by simp [e])
    have ih := sp_go c l p (fun h => hp (List.mem_cons_of_mem _ h))
    simp only [List.cons_append, sp]
    rw [if_neg ha, ih]
    cases h : sp c l with
    | nil => exact absurd h (sp_ne c l)
    | cons q qs => simp
theorem sp_cut (c : UInt8) (p l : List UInt8) (hp : c ∉ p) : sp c (p ++ c :: l) = p :: sp c l := by
  rw [sp_go c (c :: l) p hp]
  simp [sp]
theorem sp_whole (c : UInt8) (p : List UInt8) (hp : c ∉ p) : sp c p = [p] := by
  have := sp_go c [] p hp
  simpa [sp] using this
theorem sp_snoc (c : UInt8) (l p : List UInt8) (h : sp c l = [p]) : c ∉ l ∧ p = l := by
  induction l generalizing p with
  | nil => simp [sp] at h; simp [h]
  | cons b l ih =>
    simp only [sp] at h
    by_cases hb : b = c
    · rw [if_pos hb] at h
      exact absurd (List.cons.inj h).2 (sp_ne c l)
    · rw [if_neg hb] at h
      cases hs : sp c l with
      | nil => exact absurd hs (sp_ne c l)
      | cons q qs =>
        rw [hs] at h
        simp only [List.cons.injEq] at h
        obtain ⟨h1, h2⟩ := h
        subst h2
        obtain ⟨i1, i2⟩ := ih q hs
        refine ⟨?_, ?_⟩
        · intro hm
          rcases List.mem_cons.1 hm with e | e
          · exact hb e.symm
          · exact i1 e
        · rw [← h1, i2]
theorem sp_len_le (c : UInt8) (l : List UInt8) : (sp c l).length ≤ l.length + 1 := by
  induction l with
  | nil => simp [sp]
  | cons b l ih =>
    simp only [sp]
    split
    · simp; omega
    · split
      · rename_i h; rw [h] at ih; simp at ih ⊢; omega
      · simp

def mk (l : List UInt8) : ByteArray := ⟨l.toArray⟩
theorem mk_data (l : List UInt8) : (mk l).data.toList = l := rfl
theorem mk_toList (l : List UInt8) : (mk l).toList = l := by rw [toList_data, mk_data]
theorem mk_of (s : ByteArray) : mk s.data.toList = s := of_list s
theorem mk_size (l : List UInt8) : (mk l).size = l.length := rfl
/-- A path's parts. -/
def pp (s : ByteArray) : List ByteArray := (sp 47 s.data.toList).map mk

theorem index_one_none {l : List UInt8} {c : UInt8} (h : Lib.index l [c] = -1) : c ∉ l := by
  rw [Lib.index_one] at h
  intro hm
  obtain ⟨i, hi, he⟩ := List.mem_iff_getElem.1 hm
  exact Lib.indexByte_none h i (by rw [List.getElem?_eq_getElem hi, he])
theorem index_one_some {l : List UInt8} {c : UInt8} {o : Nat} (h : Lib.index l [c] = (o : Int)) : o < l.length ∧ c ∉ l.take o ∧ l = l.take o ++ c :: l.drop (o + 1) := by
  rw [Lib.index_one] at h
  obtain ⟨h1, h2⟩ := Lib.indexByte_some h
  have hlt := (List.getElem?_eq_some_iff.1 h1).1
  have he := (List.getElem?_eq_some_iff.1 h1).2
  refine ⟨hlt, ?_, ?_⟩
  · intro hm
    obtain ⟨i, hi, hie⟩ := List.mem_iff_getElem.1 hm
    rw [List.length_take] at hi
    rw [List.getElem_take] at hie
    exact h2 i (by omega) (by rw [List.getElem?_eq_getElem (by omega), hie])
  · conv => lhs; rw [← List.take_append_drop o l]
    rw [List.drop_eq_getElem_cons hlt, he]
theorem split_sp (c : UInt8) : ∀ (k : Nat) (l : List UInt8), Lib.count l [c] ≤ k → Lib.splitK [c] 0 k l = sp c l
  | 0, l, h => by
    rw [Lib.count_one] at h
    have : c ∉ l := by
      intro hm
      have := List.count_pos_iff.2 hm
      omega
    rw [sp_whole c l this]; rfl
  | k + 1, l, h => by
    unfold Lib.splitK
    by_cases hi : Lib.index l [c] = -1
    · rw [if_pos (by simpa using hi), sp_whole c l (index_one_none hi)]
    · rw [if_neg (by simpa using hi)]
      have hge := Lib.indexByte_ge l c
      rw [← Lib.index_one] at hge
      obtain ⟨o, ho⟩ := Int.eq_ofNat_of_zero_le (show 0 ≤ Lib.index l [c] by omega)
      obtain ⟨h1, h2, h3⟩ := index_one_some ho
      rw [ho]
      simp only [Int.toNat_natCast, Nat.add_zero, List.length_singleton]
      have hc : Lib.count (l.drop (o + 1)) [c] ≤ k := by
        rw [Lib.count_one] at h ⊢
        rw [h3, List.count_append, List.count_cons_self] at h
        omega
      rw [split_sp c k _ hc]
      conv => rhs; rw [h3]
      rw [sp_cut c _ _ h2]
theorem split_is (s : ByteArray) (hs : s.size < 4294967281) : strings_Split.f s ⟨#[47]⟩ = some (pp s) := by
  unfold strings_Split.f
  simp only
  rw [if_pos hs]
  congr 1
  have h := Lib.splitB_data ⟨#[47]⟩ 0 (Lib.countB s ⟨#[47]⟩) s
  rw [show (⟨#[47]⟩ : ByteArray).data.toList = [47] from rfl, split_sp 47 _ _ (Nat.le_refl _)] at h
  unfold pp
  rw [← h, List.map_map]
  conv => lhs; rw [← List.map_id (Lib.splitB ⟨#[47]⟩ 0 (Lib.countB s ⟨#[47]⟩) s)]
  apply List.map_congr_left
  intro x _
  exact (mk_of x).symm

theorem drop_cons (s : ByteArray) (i : Nat) (h : i < s.size) : ∃ b : UInt8, s.data.toList.drop i = b :: s.data.toList.drop (i + 1) ∧ (b.toNat : Int) = bt s (i : Int) ∧ s.extract i (i + 1) = mk [b] := by
  have hl : i < s.data.toList.length := by rw [size_list]; exact h
  refine ⟨s.data.toList[i], List.drop_eq_getElem_cons hl, (bt_get s i h).symm, ?_⟩
  apply ext_list
  rw [Lib.extract_data, List.drop_eq_getElem_cons hl, show i + 1 - i = 1 from by omega]
  rfl
theorem byte_eq (b : UInt8) (c : Int) (h : (b.toNat : Int) = c) (n : UInt8) : c = (n.toNat : Int) ↔ b = n := by
  rw [← h]
  constructor
  · intro e
    apply UInt8.toNat_inj.1
    omega
  · intro e
    rw [e]
theorem parts_loop (s : ByteArray) (d : Nat) : ∀ (k i : Nat) (done : List ByteArray) (cur : List UInt8), s.size - i = d → i ≤ s.size → d < k → done.length + d < 8796093022207 → cur.length + d ≤ 4611686018427387904 → s.size ≤ 4611686018427387904 →
    creelref_parts.l0 k s 47 (done ++ [mk cur]) (i : Int) = some (done ++ (match sp 47 (s.data.toList.drop i) with | q :: qs => mk (cur ++ q) :: qs.map mk | [] => [mk cur])) := by
  induction d with
  | zero =>
    intro k i done cur hd hi hk hn hc hs
    obtain ⟨k, rfl⟩ : ∃ m, k = m + 1 := ⟨k - 1, by omega⟩
    simp only [creelref_parts.l0]
    rw [if_neg (by omega), List.drop_eq_nil_of_le (by rw [size_list]; omega)]
    simp [sp]
  | succ d ih =>
    intro k i done cur hd hi hk hn hc hs
    obtain ⟨k, rfl⟩ : ∃ m, k = m + 1 := ⟨k - 1, by omega⟩
    have hlt : i < s.size := by omega
    obtain ⟨b, h1, h2, h3⟩ := drop_cons s i hlt
    have hw : wrap64 ((i : Int) + 1) = ((i + 1 : Nat) : Int) := by rw [wrap_is (by omega) (by omega)]; omega
    have hlen : (done ++ [mk cur]).length = done.length + 1 := by simp
    simp only [creelref_parts.l0]
    rw [if_pos (by omega), if_pos (show (0 : Int) ≤ i by omega), h1, hw, hlen]
    simp only [sp]
    have h47 : bt s (i : Int) = 47 ↔ b = 47 := byte_eq b _ h2 47
    by_cases e : b = 47
    · rw [if_pos (h47.2 e), if_pos (by omega), if_pos e]
      have := ih k (i + 1) (done ++ [mk cur]) [] (by omega) (by omega) (by omega) (by simp only [List.length_append, List.length_singleton]; omega) (by simp only [List.length_nil]; omega) hs
      rw [show (⟨#[]⟩ : ByteArray) = mk [] from rfl, this]
      cases hsp : sp 47 (s.data.toList.drop (i + 1)) with
      | nil => exact absurd hsp (sp_ne _ _)
      | cons q qs => simp
    · have hne : ¬ bt s (i : Int) = 47 := fun h => e (h47.1 h)
      have hw2 : wrap64 (((done.length + 1 : Nat) : Int) - 1) = (done.length : Int) := by rw [wrap_is (by omega) (by omega)]; omega
      have hrd : rdOf ByteArray.empty (done ++ [mk cur]) (done.length : Int) = mk cur := by
        unfold rdOf
        rw [Int.toNat_natCast, List.getD_eq_getElem?_getD, List.getElem?_append_right (Nat.le_refl _), Nat.sub_self]; rfl
      have hex : s.extract ((i : Int)).toNat (((i + 1 : Nat) : Int)).toNat = mk [b] := by rw [Int.toNat_natCast, Int.toNat_natCast, h3]
      have happ : mk cur ++ mk [b] = mk (cur ++ [b]) := by apply ext_list; simp [mk]
      have hset : (done ++ [mk cur]).set done.length (mk (cur ++ [b])) = done ++ [mk (cur ++ [b])] := by
        rw [List.set_append_right _ _ (Nat.le_refl _), Nat.sub_self]; rfl
      rw [if_neg hne, hw2, hrd, hex, if_pos (by omega), if_pos (by omega), if_pos (by omega), if_pos (by omega), if_pos (by rw [mk_size, mk_size]; simp only [List.length_singleton]; omega), happ, Int.toNat_natCast, hset, if_neg e]
      rw [ih k (i + 1) done (cur ++ [b]) (by omega) (by omega) (by omega) (by omega) (by simp only [List.length_append, List.length_singleton]; omega) hs]
      cases hsp : sp 47 (s.data.toList.drop (i + 1)) with
      | nil => exact absurd hsp (sp_ne _ _)
      | cons q qs => simp
theorem parts_is (s : ByteArray) (k : Nat) (hs : s.size ≤ 4294967296) (hk : s.size < k) : creelref_parts.f k s 47 = some (pp s) := by
  unfold creelref_parts.f
  have := parts_loop s s.size k 0 [] [] (by omega) (by omega) hk (by simp only [List.length_nil]; omega) (by simp only [List.length_nil]; omega) (by omega)
  rw [show ([(⟨#[]⟩ : ByteArray)] : List ByteArray) = [] ++ [mk []] from rfl]
  rw [show ((0 : Nat) : Int) = 0 from rfl] at this
  rw [this]
  unfold pp
  rw [List.drop_zero]
  cases hsp : sp 47 s.data.toList with
  | nil => exact absurd hsp (sp_ne _ _)
  | cons q qs => simp
theorem pp_len (s : ByteArray) : (pp s).length ≤ s.size + 1 := by
  unfold pp
  rw [List.length_map]
  have := sp_len_le 47 s.data.toList
  rw [size_list] at this
  exact this

/-- A part that may not be. -/
def bad (p : ByteArray) : Bool := decide (p.toList = []) || decide (p.toList = [46]) || decide (p.toList = [46, 46])
/-- What is wrong with a path. -/
def pathR (s : ByteArray) : Int := if s.size < 1 ∨ 400 < s.size then 1 else if s.data.toList.contains 0 = true then 3 else if (pp s).any bad = true then 9 else 0

theorem check_loop (l : List ByteArray) (hl : l.length ≤ 4294967297) (d : Nat) : ∀ (k i : Nat), l.length - i = d → i ≤ l.length → d < k →
    path_Check.l0 k l (l.length : Int) (i : Int) = some (if (l.drop i).any bad = true then 9 else 0) ∧ creelref_PathFault.l0 k l (l.length : Int) (i : Int) = some (if (l.drop i).any bad = true then 9 else 0) := by
  induction d with
  | zero =>
    intro k i hd hi hk
    obtain ⟨k, rfl⟩ : ∃ m, k = m + 1 := ⟨k - 1, by omega⟩
    simp only [path_Check.l0, creelref_PathFault.l0]
    have hge : ¬ (i : Int) < l.length := by omega
    rw [if_neg hge, if_neg hge, List.drop_eq_nil_of_le (by omega)]
    simp
  | succ d ih =>
    intro k i hd hi hk
    obtain ⟨k, rfl⟩ : ∃ m, k = m + 1 := ⟨k - 1, by omega⟩
    have hlt : i < l.length := by omega
    have hw : wrap64 ((i : Int) + 1) = ((i + 1 : Nat) : Int) := by rw [wrap_is (by omega) (by omega)]; omega
    have hrd : rdOf ByteArray.empty l (i : Int) = l[i] := by
      unfold rdOf
      rw [Int.toNat_natCast, List.getD_eq_getElem?_getD, List.getElem?_eq_getElem hlt]; rfl
    obtain ⟨h1, h2⟩ := ih k (i + 1) (by omega) (by omega) (by omega)
    simp only [path_Check.l0, creelref_PathFault.l0]
    rw [hw, hrd, h1, h2, List.drop_eq_getElem_cons hlt, List.any_cons]
    generalize l[i] = p
    have c1 : (i : Int) < l.length := by omega
    have c2 : (0 : Int) ≤ i := by omega
    simp only [if_pos c1, if_pos c2]
    unfold bad
    by_cases e1 : p.toList = []
    · simp [e1]
    · by_cases e2 : p.toList = [46]
      · simp [e2]
      · by_cases e3 : p.toList = [46, 46]
        · simp [e3]
        · simp [e1, e2, e3]
theorem empty_size (s : ByteArray) : s.toList = ([] : List UInt8) ↔ s.size = 0 := by
  rw [toList_data, ← size_list]
  exact List.length_eq_zero_iff.symm
theorem path_same (s : ByteArray) (hs : s.size ≤ 140737488351232) : Ev (fun k => path_Check.f k s) (pathR s) ∧ Ev (fun k => creelref_PathFault.f k s) (pathR s) := by
  obtain ⟨K, hK⟩ := has_ev s 0 (by omega) (by omega) hs
  replace hK : ∀ k, K ≤ k → creelref_has.f k s 0 = some (s.data.toList.contains 0) := hK
  have hi : (Lib.indexByte s.data.toList ((0 : Int).toNat.toUInt8) ≥ 0) ↔ s.data.toList.contains 0 = true := by
    have := index_ge s.data.toList ((0 : Int).toNat.toUInt8)
    rw [← decide_eq_true_iff (p := Lib.indexByte s.data.toList ((0 : Int).toNat.toUInt8) ≥ 0), this]; rfl
  by_cases c : s.size < 1 ∨ 400 < s.size
  · have e : pathR s = 1 := by unfold pathR; rw [if_pos c]
    rw [e]
    refine ⟨⟨1, fun k hk => ?_⟩, ⟨1, fun k hk => ?_⟩⟩
    · obtain ⟨k, rfl⟩ : ∃ m, k = m + 1 := ⟨k - 1, by omega⟩
      show path_Check.f (k + 1) s = _
      unfold path_Check.f
      by_cases h : (s.size : Int) < 1
      · rw [if_pos h]; simp [path_Check.j0]
      · rw [if_neg h, decide_eq_true (show (s.size : Int) > 400 by omega)]; simp [path_Check.j0]
    · obtain ⟨k, rfl⟩ : ∃ m, k = m + 1 := ⟨k - 1, by omega⟩
      show creelref_PathFault.f (k + 1) s = _
      unfold creelref_PathFault.f
      by_cases h : s.toList = ([] : List UInt8)
      · rw [if_pos h]; simp [creelref_PathFault.j0]
      · rw [if_neg h]
        rw [empty_size] at h
        rw [decide_eq_true (show (s.size : Int) > 400 by omega)]; simp [creelref_PathFault.j0]
  · have h0 : ¬ s.toList = ([] : List UInt8) := by rw [empty_size]; omega
    have hsp := split_is s (by omega)
    have hpl := pp_len s
    by_cases hz : s.data.toList.contains 0 = true
    · have e : pathR s = 3 := by unfold pathR; rw [if_neg c, if_pos hz]
      rw [e]
      refine ⟨⟨1, fun k hk => ?_⟩, ⟨K + 1, fun k hk => ?_⟩⟩
      · obtain ⟨k, rfl⟩ : ∃ m, k = m + 1 := ⟨k - 1, by omega⟩
        show path_Check.f (k + 1) s = _
        unfold path_Check.f
        rw [if_neg (show ¬ (s.size : Int) < 1 by omega), decide_eq_false (show ¬ (s.size : Int) > 400 by omega)]
        simp only [path_Check.j0, Bool.false_eq_true, if_false, strings_IndexByte.f, Option.bind_some]
        rw [if_pos (hi.2 hz)]
      · obtain ⟨k, rfl⟩ : ∃ m, k = m + 1 := ⟨k - 1, by omega⟩
        show creelref_PathFault.f (k + 1) s = _
        unfold creelref_PathFault.f
        rw [if_neg h0, decide_eq_false (show ¬ (s.size : Int) > 400 by omega)]
        simp only [creelref_PathFault.j0, Bool.false_eq_true, if_false]
        rw [hK k (by omega)]
        simp only [Option.bind_some, hz, if_true]
    · have hz' : s.data.toList.contains 0 = false := by simpa using hz
      have e : pathR s = (if (pp s).any bad = true then 9 else 0) := by unfold pathR; rw [if_neg c, if_neg hz]
      rw [e]
      refine ⟨⟨500, fun k hk => ?_⟩, ⟨K + 500, fun k hk => ?_⟩⟩
      · obtain ⟨k, rfl⟩ : ∃ m, k = m + 1 := ⟨k - 1, by omega⟩
        obtain ⟨h1, _⟩ := check_loop (pp s) (by omega) (pp s).length k 0 (by omega) (by omega) (by omega)
        show path_Check.f (k + 1) s = _
        unfold path_Check.f
        rw [if_neg (show ¬ (s.size : Int) < 1 by omega), decide_eq_false (show ¬ (s.size : Int) > 400 by omega)]
        simp only [path_Check.j0, Bool.false_eq_true, if_false, strings_IndexByte.f, Option.bind_some]
        rw [if_neg (fun h => hz (hi.1 h)), hsp]
        simp only [Option.bind_some]
        rw [List.drop_zero] at h1
        exact h1
      · obtain ⟨k, rfl⟩ : ∃ m, k = m + 1 := ⟨k - 1, by omega⟩
        obtain ⟨_, h2⟩ := check_loop (pp s) (by omega) (pp s).length k 0 (by omega) (by omega) (by omega)
        show creelref_PathFault.f (k + 1) s = _
        unfold creelref_PathFault.f
        rw [if_neg h0, decide_eq_false (show ¬ (s.size : Int) > 400 by omega)]
        simp only [creelref_PathFault.j0, Bool.false_eq_true, if_false]
        rw [hK k (by omega)]
        simp only [Option.bind_some, hz', Bool.false_eq_true, if_false]
        rw [parts_is s k (by omega) (by omega)]
        simp only [Option.bind_some]
        rw [List.drop_zero] at h2
        exact h2

/-! Of two lists of parts, and what a path is in. -/
def joinS : List (List UInt8) → List UInt8
  | [] => []
  | [p] => p
  | p :: q :: r => p ++ 47 :: joinS (q :: r)
theorem joinS_cons (p : List UInt8) {r : List (List UInt8)} (h : r ≠ []) : joinS (p :: r) = p ++ 47 :: joinS r := by
  cases r with
  | nil => exact absurd rfl h
  | cons q r => rfl
theorem joinS_snoc (xs : List (List UInt8)) (x : List UInt8) (h : xs ≠ []) : joinS (xs ++ [x]) = joinS xs ++ 47 :: x := by
  induction xs with
  | nil => exact absurd rfl h
  | cons p xs ih =>
    cases xs with
    | nil => rfl
    | cons q xs =>
      have := ih (by simp)
      rw [List.cons_append, joinS_cons p (by simp), this, joinS_cons p (by simp)]
      simp
theorem join_sp (l : List UInt8) : joinS (sp 47 l) = l := by
  induction l with
  | nil => rfl
  | cons b l ih =>
    simp only [sp]
    by_cases hb : b = 47
    · rw [if_pos hb, joinS_cons _ (sp_ne _ _), ih, hb]; rfl
    · rw [if_neg hb]
      cases hs : sp 47 l with
      | nil => exact absurd hs (sp_ne _ _)
      | cons p ps =>
        rw [hs] at ih
        cases ps with
        | nil => simp [joinS] at ih ⊢; exact ih
        | cons q qs =>
          simp only [joinS_cons _ (show (q :: qs) ≠ [] by simp)] at ih ⊢
          rw [List.cons_append, ih]
theorem join_take_le (xs : List (List UInt8)) : ∀ i, (joinS (xs.take i)).length ≤ (joinS xs).length := by
  induction xs with
  | nil => intro i; simp [joinS]
  | cons p xs ih =>
    intro i
    cases i with
    | zero => simp [joinS]
    | succ i =>
      rw [List.take_succ_cons]
      cases xs with
      | nil => simp [joinS]
      | cons q xs =>
        cases i with
        | zero =>
          rw [List.take_zero, joinS_cons p (show (q :: xs) ≠ [] by simp)]
          simp [joinS]
        | succ i =>
          have := ih (i + 1)
          rw [joinS_cons p (show (q :: xs).take (i + 1) ≠ [] by simp), joinS_cons p (by simp)]
          simp only [List.length_append, List.length_cons]
          omega
theorem sp_last (A B : List UInt8) (hB : (47 : UInt8) ∉ B) : sp 47 (A ++ 47 :: B) = sp 47 A ++ [B] := by
  induction A with
  | nil => simp [sp, sp_whole 47 B hB]
  | cons a A ih =>
    simp only [List.cons_append, sp]
    by_cases ha : a = 47
    · rw [if_pos ha, if_pos ha, ih]; rfl
    · rw [if_neg ha, if_neg ha, ih]
      cases hs : sp 47 A with
      | nil => exact absurd hs (sp_ne _ _)
      | cons p ps => simp

theorem split_loop (xs : List (List UInt8)) (hx : xs ≠ []) (hn : xs.length ≤ 4294967297) (hj : (joinS xs).length ≤ 4294967296) (d : Nat) : ∀ (k i : Nat), xs.length - 1 - i = d → i ≤ xs.length - 1 → d < k →
    creelref_PathSplit.l0 k (xs.map mk) (mk (joinS (xs.take i))) (i : Int) = some (mk (joinS (xs.take (xs.length - 1))), mk (xs.getLast hx)) := by
  have hlen : 0 < xs.length := List.length_pos_iff.2 hx
  have hrd : ∀ j (h : j < xs.length), rdOf ByteArray.empty (xs.map mk) (j : Int) = mk xs[j] := by
    intro j h
    unfold rdOf
    rw [Int.toNat_natCast, List.getD_eq_getElem?_getD, List.getElem?_map, List.getElem?_eq_getElem h]; rfl
  have hw1 : wrap64 ((xs.length : Int) - 1) = ((xs.length - 1 : Nat) : Int) := by rw [wrap_is (by omega) (by omega)]; omega
  induction d with
  | zero =>
    intro k i hd hi hk
    obtain ⟨k, rfl⟩ : ∃ m, k = m + 1 := ⟨k - 1, by omega⟩
    obtain rfl : i = xs.length - 1 := by omega
    simp only [creelref_PathSplit.l0, List.length_map]
    rw [hw1, if_neg (show ¬ ((xs.length - 1 : Nat) : Int) < ((xs.length - 1 : Nat) : Int) by omega), if_pos (show (0 : Int) ≤ ((xs.length - 1 : Nat) : Int) by omega), if_pos (show ((xs.length - 1 : Nat) : Int) < (xs.length : Int) by omega), hrd (xs.length - 1) (by omega), List.getLast_eq_getElem]
  | succ d ih =>
    intro k i hd hi hk
    obtain ⟨k, rfl⟩ : ∃ m, k = m + 1 := ⟨k - 1, by omega⟩
    have hlt : i < xs.length := by omega
    have hw : wrap64 ((i : Int) + 1) = ((i + 1 : Nat) : Int) := by rw [wrap_is (by omega) (by omega)]; omega
    have hnext := ih k (i + 1) (by omega) (by omega) (by omega)
    have ht : xs.take (i + 1) = xs.take i ++ [xs[i]] := (List.take_append_getElem hlt).symm
    have hle := join_take_le xs (i + 1)
    simp only [creelref_PathSplit.l0, List.length_map]
    rw [hw1, if_pos (show (i : Int) < ((xs.length - 1 : Nat) : Int) by omega), hw, hrd i hlt]
    by_cases h0 : i = 0
    · subst h0
      rw [if_neg (by omega), if_pos (by omega), if_pos (by omega)]
      have h1 : xs.take (0 + 1) = [xs[0]] := by rw [ht]; rfl
      rw [h1] at hle
      have e : mk (joinS (xs.take 0)) ++ mk xs[0] = mk (joinS (xs.take (0 + 1))) := by
        rw [h1]; apply ext_list; simp [mk, joinS]
      have hsz : (mk (joinS (xs.take 0))).size + (mk xs[0]).size ≤ 9223372036854775807 := by
        have hle' : xs[0].length ≤ (joinS xs).length := hle
        rw [mk_size, mk_size, List.take_zero]
        show 0 + xs[0].length ≤ _
        omega
      rw [if_pos hsz, e]; exact hnext
    · have hne : xs.take i ≠ [] := by
        intro h
        have h2 := congrArg List.length h
        rw [List.length_take, List.length_nil] at h2
        omega
      have hj2 : joinS (xs.take (i + 1)) = joinS (xs.take i) ++ 47 :: xs[i] := by rw [ht, joinS_snoc _ _ hne]
      have e : (mk (joinS (xs.take i)) ++ (⟨#[47]⟩ : ByteArray)) ++ mk xs[i] = mk (joinS (xs.take (i + 1))) := by
        rw [hj2]; apply ext_list; simp [mk]
      rw [hj2] at hle
      simp only [List.length_append, List.length_cons] at hle
      have hs1 : (mk (joinS (xs.take i)) ++ (⟨#[47]⟩ : ByteArray)).size = (joinS (xs.take i)).length + 1 := by rw [ByteArray.size_append, mk_size]; rfl
      rw [if_pos (by omega), if_pos (by rw [mk_size]; omega), if_pos (by omega), if_pos (by omega), if_pos (by rw [hs1, mk_size]; omega), e]
      exact hnext
theorem split_at (s : ByteArray) (k : Nat) (hs : s.size ≤ 1048576) (hk : s.size + 2 < k) : creelref_PathSplit.f k s = some (mk (joinS ((sp 47 s.data.toList).take ((sp 47 s.data.toList).length - 1))), mk ((sp 47 s.data.toList).getLast (sp_ne _ _))) := by
  unfold creelref_PathSplit.f
  rw [parts_is s k (by omega) (by omega)]
  simp only [Option.bind_some]
  have hl := sp_len_le 47 s.data.toList
  rw [size_list] at hl
  have := split_loop (sp 47 s.data.toList) (sp_ne _ _) (by omega) (by rw [join_sp, size_list]; omega) ((sp 47 s.data.toList).length - 1) k 0 (by omega) (by omega) (by omega)
  exact this
theorem data_get (s : ByteArray) (i : Nat) (h : i < s.size) : ((s.data[i]!).toNat : Int) = bt s (i : Int) := by
  rw [bt_get s i h]
  have h' : i < s.data.size := h
  rw [getElem!_pos s.data i h']
  simp
theorem last_f (s : ByteArray) (hb : s.size < 4611686018427387904) (t : Int) (e : Lib.lastIndexByte s 47 = t) : strings_LastIndexByte.f s 47 = some t := by
  unfold strings_LastIndexByte.f
  rw [if_pos hb, e]
theorem up0 (s : ByteArray) (n : Nat) (e : strings_LastIndexByte.f s 47 = some (n : Int)) (hn : n ≤ s.size) : path_Up.f s = some (s.extract 0 n) := by
  unfold path_Up.f
  rw [e]
  simp only [Option.bind_some]
  rw [if_neg (show ¬ (n : Int) < 0 by omega), if_pos (Int.natCast_nonneg n), if_pos (Int.ofNat_le.2 hn), Int.toNat_natCast]
theorem base0 (s : ByteArray) (t : Int) (n : Nat) (e : strings_LastIndexByte.f s 47 = some t) (hw : wrap64 (t + 1) = (n : Int)) (hn : n ≤ s.size) : path_Base.f s = some (s.extract n s.size) := by
  unfold path_Base.f
  rw [e]
  simp only [Option.bind_some, hw]
  rw [if_pos (Int.natCast_nonneg n), if_pos (Int.ofNat_le.2 hn), Int.toNat_natCast]
theorem wrap_one (i n : Nat) (h : n = i + 1) (hn : n ≤ 9223372036854775807) : wrap64 ((i : Int) + 1) = (n : Int) := by rw [wrap_is (by omega) (by omega)]; omega
theorem up_none (s : ByteArray) (hs : s.size ≤ 1048576) (e : Lib.lastIndexByte s 47 = -1) : path_Up.f s = some (⟨#[]⟩ : ByteArray) ∧ path_Base.f s = some s := by
  have h := last_f s (by omega) _ e
  refine ⟨?_, ?_⟩
  · unfold path_Up.f
    rw [h]; simp
  · have := base0 s (-1) 0 h (by unfold wrap64; omega) (by omega)
    rw [this]; simp
theorem up_some (s : ByteArray) (hs : s.size ≤ 1048576) (i : Nat) (hi : i < s.size) (e : Lib.lastIndexByte s 47 = (i : Int)) : path_Up.f s = some (s.extract 0 i) ∧ path_Base.f s = some (s.extract (i + 1) s.size) := by
  have h := last_f s (by omega) _ e
  exact ⟨up0 s i h (by omega), base0 s i (i + 1) h (wrap_one i (i + 1) rfl (by omega)) (by omega)⟩
theorem last_cut (s : ByteArray) (i : Nat) (hi : i < s.size) (hc : ((s.data[i]!).toNat : Int) = 47) (hn : ∀ j, i < j → j < s.size → ((s.data[j]!).toNat : Int) ≠ 47) :
    (47 : UInt8) ∉ s.data.toList.drop (i + 1) ∧ s.data.toList = s.data.toList.take i ++ 47 :: s.data.toList.drop (i + 1) := by
  have hl : i < s.data.toList.length := by rw [size_list]; exact hi
  have h47 : (47 : Int).toNat.toUInt8 = 47 := rfl
  have hb : s.data.toList[i] = 47 := by
    rw [data_get s i hi, bt_eq_iff s i hi 47 (by omega) (by omega), List.getElem?_eq_getElem hl, h47] at hc
    exact Option.some.inj hc
  refine ⟨?_, ?_⟩
  · intro hm
    obtain ⟨j, hj, hje⟩ := List.mem_iff_getElem.1 hm
    rw [List.length_drop, size_list] at hj
    rw [List.getElem_drop] at hje
    apply hn (i + 1 + j) (by omega) (by omega)
    rw [data_get s _ (by omega), bt_eq_iff s _ (by omega) 47 (by omega) (by omega), List.getElem?_eq_getElem (by rw [size_list]; omega), hje, h47]
  · conv => lhs; rw [← List.take_append_drop i s.data.toList, List.drop_eq_getElem_cons hl, hb]
theorem last_none (s : ByteArray) (hn : ∀ j, j < s.size → ((s.data[j]!).toNat : Int) ≠ 47) : (47 : UInt8) ∉ s.data.toList := by
  have h47 : (47 : Int).toNat.toUInt8 = 47 := rfl
  intro hm
  obtain ⟨j, hj, hje⟩ := List.mem_iff_getElem.1 hm
  have hjs : j < s.size := by simpa using hj
  apply hn j hjs
  rw [data_get s j hjs, bt_eq_iff s j hjs 47 (by omega) (by omega), List.getElem?_eq_getElem hj, hje, h47]
theorem split_last (A B : List UInt8) (hB : (47 : UInt8) ∉ B) (l : List UInt8) (hl : l = A ++ 47 :: B) (hx : sp 47 l ≠ []) : joinS ((sp 47 l).take ((sp 47 l).length - 1)) = A ∧ (sp 47 l).getLast hx = B := by
  have h1 : sp 47 l = sp 47 A ++ [B] := by rw [hl]; exact sp_last A B hB
  refine ⟨?_, ?_⟩
  · rw [h1, List.length_append, List.length_singleton, Nat.add_sub_cancel, List.take_left, join_sp]
  · have h2 : (sp 47 l).getLast? = some B := by rw [h1]; simp
    rw [List.getLast?_eq_some_getLast hx] at h2
    exact Option.some.inj h2
theorem split_only (l : List UInt8) (h : (47 : UInt8) ∉ l) (hx : sp 47 l ≠ []) : joinS ((sp 47 l).take ((sp 47 l).length - 1)) = [] ∧ (sp 47 l).getLast hx = l := by
  have h1 := sp_whole 47 l h
  refine ⟨by rw [h1]; rfl, ?_⟩
  have h2 : (sp 47 l).getLast? = some l := by rw [h1]; simp
  rw [List.getLast?_eq_some_getLast hx] at h2
  exact Option.some.inj h2
theorem up_base (s : ByteArray) (k : Nat) (hs : s.size ≤ 1048576) (hk : s.size + 2 < k) : ∃ u b, path_Up.f s = some u ∧ path_Base.f s = some b ∧ creelref_PathSplit.f k s = some (u, b) := by
  have hsp := split_at s k hs hk
  rcases Lib.lastIndexByte_spec s 47 with ⟨e, hn⟩ | ⟨i, hi, e, hc, hn⟩
  · obtain ⟨h1, h2⟩ := up_none s hs e
    obtain ⟨h3, h4⟩ := split_only _ (last_none s hn) (sp_ne 47 s.data.toList)
    refine ⟨_, _, h1, h2, ?_⟩
    rw [hsp, h3, h4, mk_of]; rfl
  · obtain ⟨h1, h2⟩ := up_some s hs i hi e
    obtain ⟨c1, c2⟩ := last_cut s i hi hc hn
    obtain ⟨h3, h4⟩ := split_last _ _ c1 _ c2 (sp_ne 47 s.data.toList)
    have x1 : mk (s.data.toList.take i) = s.extract 0 i := by apply ext_list; rw [mk_data, Lib.extract_data]; simp
    have x2 : mk (s.data.toList.drop (i + 1)) = s.extract (i + 1) s.size := by apply ext_list; rw [mk_data, Lib.extract_to_end]
    refine ⟨_, _, h1, h2, ?_⟩
    rw [hsp, h3, h4, x1, x2]
end Go.Proofs.YtolbjjeoaeadcaaDoor.Q
