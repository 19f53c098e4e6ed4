/- plan.Right and the reference's EntryFault: the same of whatever a row admits. -/
import Derived.Test.YtolbjjeoaeadcaaDoorWPureBase
import Derived.Test.YtolbjjeoaeadcaaDoorFPlanRight
import Derived.Test.YtolbjjeoaeadcaaDoorFCreelrefEntryFault
import Derived.Test.YtolbjjeoaeadcaaDoorQPath
import Derived.Test.YtolbjjeoaeadcaaDoorQMeta
namespace Go.Proofs.YtolbjjeoaeadcaaDoor.Q
set_option linter.unusedVariables false
set_option linter.unusedSimpArgs false
open Go.RowKit Go.Proofs.YtolbjjeoaeadcaaDoor.All Go.Proofs.YtolbjjeoaeadcaaDoorW.PrintWords Go.Proofs.YtolbjjeoaeadcaaDoorW.PrintLast Go.Proofs.YtolbjjeoaeadcaaDoorW.PrintMore Go.Proofs.YtolbjjeoaeadcaaDoorW.PureBase

-- USES Path Meta
-- FN plan_Right creelref_EntryFault
theorem idx00 (t : ByteArray) : (Lib.indexByte t.data.toList ((0 : Int).toNat.toUInt8) ≥ 0) ↔ t.data.toList.contains 0 = true := by
  have := index_ge t.data.toList ((0 : Int).toNat.toUInt8)
  rw [← decide_eq_true_iff (p := Lib.indexByte t.data.toList ((0 : Int).toNat.toUInt8) ≥ 0), this]; rfl
/-- The end of the tests of a member. -/
def tailE (b : Bool) (kind : Int) (t : ByteArray) : Int := if b = true then 1 else if kind = 4 then pathR t else if t.data.toList.contains 0 = true then 3 else 0
def midE (x : Bool) (kind : Int) (t : ByteArray) (n : Nat) : Int := if x = true then 3 else tailE (decide ((n : Int) > 2000) || decide ((t.size : Int) > 400)) kind t
/-- What is wrong with a member, its path and metadata aside. -/
def restE (kind : Int) (t : ByteArray) (n : Nat) : Int := if kind < 1 ∨ 4 < kind then 2 else midE ((decide (kind ≠ 1) && decide (0 < n)) || ((t.toList != ([] : List UInt8)) != decide (kind ≥ 3))) kind t n
def entryR (p : ByteArray) (kind : Int) (t : ByteArray) (a b c : Int) (u g : ByteArray) (s n : Int) (d : Nat) : Int :=
  if pathR p = 0 then (if wrong a b c u g s n = 0 then restE kind t d else wrong a b c u g s n) else pathR p
theorem pr_j2 (k : Nat) (x : Bool) (p : ByteArray) (kind : Int) (t : ByteArray) (a b c : Int) (u g : ByteArray) (s n : Int) (d : List Int) (h : path_Check.f k t = some (pathR t)) :
    plan_Right.j2 (k + 1) x p kind t a b c u g s n d = some (tailE x kind t) := by
  have hi := idx00 t
  simp only [plan_Right.j2, h, strings_IndexByte.f, Option.bind_some]
  unfold tailE
  by_cases z : t.data.toList.contains 0 = true
  · rw [if_pos (hi.2 z), if_pos z]
    by_cases x0 : x = true <;> by_cases k4 : kind = 4 <;> simp [x0, k4]
  · rw [if_neg (fun h => z (hi.1 h)), if_neg z]
    by_cases x0 : x = true <;> by_cases k4 : kind = 4 <;> simp [x0, k4]
theorem pr_j1 (k : Nat) (x : Bool) (p : ByteArray) (kind : Int) (t : ByteArray) (a b c : Int) (u g : ByteArray) (s n : Int) (d : List Int) (h : path_Check.f k t = some (pathR t)) :
    plan_Right.j1 (k + 2) x p kind t a b c u g s n d = some (midE x kind t d.length) := by
  simp only [plan_Right.j1, pr_j2 k _ p kind t a b c u g s n d h]
  unfold midE
  by_cases x0 : x = true
  · rw [if_pos x0, if_pos x0]
  · rw [if_neg x0, if_neg x0]
    by_cases d0 : (d.length : Int) > 2000
    · rw [if_pos d0, decide_eq_true d0]; rfl
    · rw [if_neg d0, decide_eq_false d0]; rfl
theorem pr_j0 (k : Nat) (x : Bool) (p : ByteArray) (kind : Int) (t : ByteArray) (a b c : Int) (u g : ByteArray) (s n : Int) (d : List Int) (h : path_Check.f k t = some (pathR t)) :
    plan_Right.j0 (k + 3) x p kind t a b c u g s n d = some (if x = true then 2 else midE ((decide (kind ≠ 1) && decide (0 < d.length)) || ((t.toList != ([] : List UInt8)) != decide (kind ≥ 3))) kind t d.length) := by
  simp only [plan_Right.j0, pr_j1 k _ p kind t a b c u g s n d h]
  by_cases x0 : x = true
  · rw [if_pos x0, if_pos x0]
  · rw [if_neg x0, if_neg x0]
    by_cases k1 : kind = 1
    · rw [if_pos k1, decide_eq_false (show ¬ kind ≠ 1 from fun h => h k1)]; rfl
    · rw [if_neg k1, decide_eq_true (show kind ≠ 1 from k1)]
      by_cases d0 : (d.length : Int) > 0
      · rw [if_pos d0, decide_eq_true (show 0 < d.length by omega)]; rfl
      · rw [if_neg d0, decide_eq_false (show ¬ 0 < d.length by omega)]; rfl
theorem ef_j2 (k : Nat) (x : Bool) (p : ByteArray) (kind : Int) (t : ByteArray) (a b c : Int) (u g : ByteArray) (s n : Int) (d : List Int) (h : creelref_PathFault.f k t = some (pathR t)) (h' : creelref_has.f k t 0 = some (t.data.toList.contains 0)) :
    creelref_EntryFault.j2 (k + 1) x p kind t a b c u g s n d = some (tailE x kind t) := by
  simp only [creelref_EntryFault.j2, h, h', Option.bind_some]
  unfold tailE
  generalize t.data.toList.contains 0 = z
  cases z <;> cases x <;> by_cases k4 : kind = 4 <;> simp [k4]
theorem ef_j1 (k : Nat) (x : Bool) (p : ByteArray) (kind : Int) (t : ByteArray) (a b c : Int) (u g : ByteArray) (s n : Int) (d : List Int) (h : creelref_PathFault.f k t = some (pathR t)) (h' : creelref_has.f k t 0 = some (t.data.toList.contains 0)) :
    creelref_EntryFault.j1 (k + 2) x p kind t a b c u g s n d = some (midE x kind t d.length) := by
  simp only [creelref_EntryFault.j1, ef_j2 k _ p kind t a b c u g s n d h h']
  unfold midE
  by_cases x0 : x = true
  · rw [if_pos x0, if_pos x0]
  · rw [if_neg x0, if_neg x0]
    by_cases d0 : (d.length : Int) > 2000
    · rw [if_pos d0, decide_eq_true d0]; rfl
    · rw [if_neg d0, decide_eq_false d0]; rfl
theorem ef_j0 (k : Nat) (x : Bool) (p : ByteArray) (kind : Int) (t : ByteArray) (a b c : Int) (u g : ByteArray) (s n : Int) (d : List Int) (h : creelref_PathFault.f k t = some (pathR t)) (h' : creelref_has.f k t 0 = some (t.data.toList.contains 0)) (hk : 1 ≤ kind) :
    creelref_EntryFault.j0 (k + 3) x p kind t a b c u g s n d = some (if x = true then 2 else midE ((decide (kind ≠ 1) && decide (0 < d.length)) || ((t.toList != ([] : List UInt8)) != decide (kind ≥ 3))) kind t d.length) := by
  simp only [creelref_EntryFault.j0, ef_j1 k _ p kind t a b c u g s n d h h']
  by_cases x0 : x = true
  · rw [if_pos x0, if_pos x0]
  · rw [if_neg x0, if_neg x0]
    have hd : ((d.length : Int) != 0) = decide (0 < d.length) := by
      by_cases d0 : d.length = 0
      · rw [d0]; rfl
      · rw [decide_eq_true (show 0 < d.length by omega)]; simpa using fun h => d0 (by rw [h]; rfl)
    by_cases g2 : kind > 2
    · rw [if_pos g2, if_pos (show kind > 1 by omega), decide_eq_true (show kind ≠ 1 by omega), decide_eq_true (show kind ≥ 3 by omega), hd]
      by_cases t0 : t.toList = ([] : List UInt8)
      · rw [if_pos t0, t0]
        cases decide (0 < d.length) <;> rfl
      · rw [if_neg t0, bne_iff_ne.mpr t0]
        cases decide (0 < d.length) <;> rfl
    · rw [if_neg g2, decide_eq_false (show ¬ kind ≥ 3 by omega), hd]
      by_cases t0 : t.toList = ([] : List UInt8)
      · rw [if_pos t0, t0]
        by_cases g1 : kind > 1
        · rw [if_pos g1, decide_eq_true (show kind ≠ 1 by omega)]
          cases decide (0 < d.length) <;> rfl
        · rw [if_neg g1, decide_eq_false (show ¬ kind ≠ 1 by omega)]
          cases decide (0 < d.length) <;> rfl
      · rw [if_neg t0, bne_iff_ne.mpr t0]
        cases decide (kind ≠ 1) <;> cases decide (0 < d.length) <;> rfl
theorem plan_ev (p : ByteArray) (kind : Int) (t : ByteArray) (a b c : Int) (u g : ByteArray) (s n : Int) (d : List Int) (hp : p.size ≤ 140737488351232) (ht : t.size ≤ 140737488351232) :
    Ev (fun k => plan_Right.f k p kind t a b c u g s n d) (entryR p kind t a b c u g s n d.length) := by
  obtain ⟨K1, a1⟩ := (path_same p hp).1
  replace a1 : ∀ k, K1 ≤ k → path_Check.f k p = some (pathR p) := a1
  obtain ⟨K2, a2⟩ := check_ev a b c u g s n
  replace a2 : ∀ k, K2 ≤ k → meta_Check.f k a b c u g s n = some (wrong a b c u g s n) := a2
  obtain ⟨K3, a3⟩ := (path_same t ht).1
  replace a3 : ∀ k, K3 ≤ k → path_Check.f k t = some (pathR t) := a3
  refine ⟨K1 + K2 + K3 + 10, fun k hk => ?_⟩
  show plan_Right.f k p kind t a b c u g s n d = _
  unfold plan_Right.f entryR
  rw [a1 k (by omega)]
  simp only [Option.bind_some]
  by_cases hP : pathR p = 0
  · rw [if_pos hP, if_pos hP, a2 k (by omega)]
    simp only [Option.bind_some]
    by_cases hM : wrong a b c u g s n = 0
    · rw [if_pos hM, if_pos hM]
      obtain ⟨k, rfl⟩ : ∃ m, k = m + 3 := ⟨k - 3, by omega⟩
      rw [pr_j0 k _ p kind t a b c u g s n d (a3 k (by omega)), pr_j0 k _ p kind t a b c u g s n d (a3 k (by omega))]
      unfold restE
      by_cases l1 : kind < 1
      · rw [if_pos l1, if_pos rfl, if_pos (Or.inl l1)]
      · rw [if_neg l1]
        by_cases g4 : kind > 4
        · rw [decide_eq_true g4, if_pos rfl, if_pos (Or.inr g4)]
        · rw [decide_eq_false g4, if_neg (by simp), if_neg (by omega)]
    · rw [if_neg hM, if_neg hM]
  · rw [if_neg hP, if_neg hP]
theorem refentry_ev (p : ByteArray) (kind : Int) (t : ByteArray) (a b c : Int) (u g : ByteArray) (s n : Int) (d : List Int) (hp : p.size ≤ 140737488351232) (ht : t.size ≤ 140737488351232) (hu : u.size ≤ 140737488351232) (hg : g.size ≤ 140737488351232) :
    Ev (fun k => creelref_EntryFault.f k p kind t a b c u g s n d) (entryR p kind t a b c u g s n d.length) := by
  obtain ⟨K1, a1⟩ := (path_same p hp).2
  replace a1 : ∀ k, K1 ≤ k → creelref_PathFault.f k p = some (pathR p) := a1
  obtain ⟨K2, a2⟩ := fault_ev a b c u g s n hu hg
  replace a2 : ∀ k, K2 ≤ k → creelref_MetaFault.f k a b c u g s n = some (wrong a b c u g s n) := a2
  obtain ⟨K3, a3⟩ := (path_same t ht).2
  replace a3 : ∀ k, K3 ≤ k → creelref_PathFault.f k t = some (pathR t) := a3
  obtain ⟨K4, a4⟩ := has_ev t 0 (by omega) (by omega) ht
  replace a4 : ∀ k, K4 ≤ k → creelref_has.f k t 0 = some (t.data.toList.contains 0) := a4
  refine ⟨K1 + K2 + K3 + K4 + 10, fun k hk => ?_⟩
  show creelref_EntryFault.f k p kind t a b c u g s n d = _
  unfold creelref_EntryFault.f entryR
  rw [a1 k (by omega)]
  simp only [Option.bind_some]
  by_cases hP : pathR p = 0
  · rw [if_pos hP, if_pos hP, a2 k (by omega)]
    simp only [Option.bind_some]
    by_cases hM : wrong a b c u g s n = 0
    · rw [if_pos hM, if_pos hM]
      obtain ⟨k, rfl⟩ : ∃ m, k = m + 3 := ⟨k - 3, by omega⟩
      unfold restE
      by_cases l1 : kind < 1
      · rw [if_pos l1, if_pos (Or.inl l1)]
        simp [creelref_EntryFault.j0]
      · rw [if_neg l1, ef_j0 k _ p kind t a b c u g s n d (a3 k (by omega)) (a4 k (by omega)) (by omega)]
        by_cases g4 : kind > 4
        · rw [decide_eq_true g4, if_pos rfl, if_pos (Or.inr g4)]
        · rw [decide_eq_false g4, if_neg (by simp), if_neg (by omega)]
    · rw [if_neg hM, if_neg hM]
  · rw [if_neg hP, if_neg hP]
end Go.Proofs.YtolbjjeoaeadcaaDoor.Q
