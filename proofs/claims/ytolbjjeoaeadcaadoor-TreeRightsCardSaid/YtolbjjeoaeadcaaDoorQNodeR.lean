/- tree.Right and the reference's NodeFault: the same of whatever a row admits. -/
import Derived.Test.YtolbjjeoaeadcaaDoorWPureBase
import Derived.Test.YtolbjjeoaeadcaaDoorFTreeRight
import Derived.Test.YtolbjjeoaeadcaaDoorFCreelrefNodeFault
import Derived.Test.YtolbjjeoaeadcaaDoorQPath
import Derived.Test.YtolbjjeoaeadcaaDoorQMeta
namespace Go.Proofs.YtolbjjeoaeadcaaDoor.Q
set_option linter.unusedVariables false
set_option linter.unusedSimpArgs false
open Go.RowKit Go.Proofs.YtolbjjeoaeadcaaDoor.All Go.Proofs.YtolbjjeoaeadcaaDoorW.PrintWords Go.Proofs.YtolbjjeoaeadcaaDoorW.PrintLast Go.Proofs.YtolbjjeoaeadcaaDoorW.PrintMore Go.Proofs.YtolbjjeoaeadcaaDoorW.PureBase

-- USES Path Meta
-- FN tree_Right creelref_NodeFault
/-- What is wrong with a node, its path and metadata aside. -/
def restR (kind same : Int) (t : ByteArray) (n : Nat) : Int :=
  if kind = 1 then (if t.toList ≠ [] ∨ same < 0 then 3 else if n > 2000 then 1 else 0)
  else if kind = 2 then (if n > 0 ∨ same ≠ 0 ∨ t.toList ≠ [] then 3 else 0)
  else if kind = 3 then (if n > 0 ∨ same ≠ 0 ∨ t.toList = [] ∨ t.data.toList.contains 0 = true then 3 else if t.size > 400 then 1 else 0)
  else 2
def nodeR (p : ByteArray) (kind same : Int) (t : ByteArray) (a b c : Int) (u g : ByteArray) (s n : Int) (d : Nat) : Int :=
  if pathR p = 0 then (if wrong a b c u g s n = 0 then restR kind same t d else wrong a b c u g s n) else pathR p
theorem idx0 (t : ByteArray) : (Lib.indexByte t.data.toList ((0 : Int).toNat.toUInt8) ≥ 0) ↔ t.data.toList.contains 0 = true := by
  have := index_ge t.data.toList ((0 : Int).toNat.toUInt8)
  rw [← decide_eq_true_iff (p := Lib.indexByte t.data.toList ((0 : Int).toNat.toUInt8) ≥ 0), this]; rfl
theorem right_ev (p : ByteArray) (kind same : Int) (t : ByteArray) (a b c : Int) (u g : ByteArray) (s n : Int) (d : List Int) (hp : p.size ≤ 140737488351232) :
    Ev (fun k => tree_Right.f k p kind same t a b c u g s n d) (nodeR p kind same t a b c u g s n d.length) := by
  obtain ⟨K1, a1⟩ := (path_same p hp).1
  replace a1 : ∀ k, K1 ≤ k → path_Check.f k p = some (pathR p) := a1
  obtain ⟨K2, a2⟩ := check_ev a b c u g s n
  replace a2 : ∀ k, K2 ≤ k → meta_Check.f k a b c u g s n = some (wrong a b c u g s n) := a2
  refine ⟨K1 + K2 + 10, fun k hk => ?_⟩
  show tree_Right.f k p kind same t a b c u g s n d = _
  unfold tree_Right.f nodeR
  rw [a1 k (by omega)]
  simp only [Option.bind_some]
  by_cases hP : pathR p = 0
  · rw [if_pos hP, if_pos hP, a2 k (by omega)]
    simp only [Option.bind_some]
    by_cases hM : wrong a b c u g s n = 0
    · rw [if_pos hM, if_pos hM]
      obtain ⟨k, rfl⟩ : ∃ m, k = m + 4 := ⟨k - 4, by omega⟩
      have hi := idx0 t
      unfold restR
      generalize t.data.toList.contains 0 = z at hi ⊢
      by_cases k1 : kind = 1
      · subst k1
        by_cases t0 : t.toList = []
        · by_cases s0 : same < 0 <;> simp [tree_Right.j0, t0, s0] <;> (split <;> split <;> first | rfl | (exfalso; omega))
        · simp [tree_Right.j0, t0]
      · by_cases k2 : kind = 2
        · subst k2
          by_cases d0 : d.length > 0
          · have d0' : d ≠ [] := by rintro rfl; simp at d0
            simp [tree_Right.j1, tree_Right.j2, d0, d0']
          · have d0' : d = [] := List.eq_nil_of_length_eq_zero (by omega)
            subst d0'
            by_cases s0 : same = 0
            · by_cases t0 : t.toList = []
              · have hz : t.size = 0 := (empty_size t).1 t0
                simp [tree_Right.j1, tree_Right.j2, tree_Right.j3, s0, t0, hz]
              · simp [tree_Right.j1, tree_Right.j2, tree_Right.j3, s0, t0]
            · simp [tree_Right.j1, tree_Right.j2, s0]
        · by_cases k3 : kind = 3
          · subst k3
            by_cases d0 : d.length > 0
            · have d0' : d ≠ [] := by rintro rfl; simp at d0
              simp [tree_Right.j1, tree_Right.j2, d0, d0']
            · have d0' : d = [] := List.eq_nil_of_length_eq_zero (by omega)
              subst d0'
              by_cases s0 : same = 0
              · by_cases t0 : t.toList = []
                · simp [tree_Right.j1, tree_Right.j2, tree_Right.j3, s0, t0]
                · by_cases z0 : z = true
                  · have := hi.2 z0
                    simp only [tree_Right.j1, tree_Right.j2, tree_Right.j3, strings_IndexByte.f, Option.bind_some, decide_eq_true this]
                    simp [s0, t0, z0]
                  · have := fun h => z0 (hi.1 h)
                    simp only [tree_Right.j1, tree_Right.j2, tree_Right.j3, strings_IndexByte.f, Option.bind_some, decide_eq_false this]
                    simp [s0, t0, z0]
                    split <;> split <;> first | rfl | (exfalso; omega)
              · simp [tree_Right.j1, tree_Right.j2, s0]
          · simp [tree_Right.j1, k1, k2, k3]
    · rw [if_neg hM, if_neg hM]
  · rw [if_neg hP, if_neg hP]
theorem refnode_ev (p : ByteArray) (kind same : Int) (t : ByteArray) (a b c : Int) (u g : ByteArray) (s n : Int) (d : List Int) (hp : p.size ≤ 140737488351232) (ht : t.size ≤ 140737488351232) (hu : u.size ≤ 140737488351232) (hg : g.size ≤ 140737488351232) :
    Ev (fun k => creelref_NodeFault.f k p kind same t a b c u g s n d) (nodeR p kind same t a b c u g s n d.length) := by
  obtain ⟨K1, a1⟩ := (path_same p hp).2
  replace a1 : ∀ k, K1 ≤ k → creelref_PathFault.f k p = some (pathR p) := a1
  obtain ⟨K2, a2⟩ := fault_ev a b c u g s n hu hg
  replace a2 : ∀ k, K2 ≤ k → creelref_MetaFault.f k a b c u g s n = some (wrong a b c u g s n) := a2
  obtain ⟨K3, a3⟩ := has_ev t 0 (by omega) (by omega) ht
  replace a3 : ∀ k, K3 ≤ k → creelref_has.f k t 0 = some (t.data.toList.contains 0) := a3
  refine ⟨K1 + K2 + K3 + 10, fun k hk => ?_⟩
  show creelref_NodeFault.f k p kind same t a b c u g s n d = _
  unfold creelref_NodeFault.f nodeR
  rw [a1 k (by omega)]
  simp only [Option.bind_some]
  by_cases hP : pathR p = 0
  · rw [if_pos hP, if_pos hP, a2 k (by omega)]
    simp only [Option.bind_some]
    by_cases hM : wrong a b c u g s n = 0
    · rw [if_pos hM, if_pos hM]
      obtain ⟨k, rfl⟩ : ∃ m, k = m + 4 := ⟨k - 4, by omega⟩
      have a3' : creelref_has.f (k + 3) t 0 = some (t.data.toList.contains 0) := a3 _ (by omega)
      have hc : t.toList = [] → t.data.toList.contains 0 = false := fun t0 => by rw [← toList_data, t0]; rfl
      unfold restR
      generalize t.data.toList.contains 0 = z at a3' hc ⊢
      by_cases k1 : kind = 1
      · subst k1
        by_cases t0 : t.toList = []
        · by_cases s0 : same < 0 <;> simp [creelref_NodeFault.j0, creelref_NodeFault.j1, t0, s0] <;> (split <;> split <;> first | rfl | (exfalso; omega))
        · simp [creelref_NodeFault.j0, creelref_NodeFault.j1, t0]
      · by_cases k2 : kind = 2
        · subst k2
          by_cases d0 : d = []
          · subst d0
            by_cases s0 : same = 0
            · by_cases t0 : t.toList = []
              · have hz : t.size = 0 := (empty_size t).1 t0
                have hc' := hc t0
                subst hc'
                simp [creelref_NodeFault.j0, creelref_NodeFault.j2, s0, t0, hz, a3']
              · simp [creelref_NodeFault.j0, creelref_NodeFault.j2, s0, t0]
            · simp [creelref_NodeFault.j0, creelref_NodeFault.j2, s0]
          · have d1 : d.length ≠ 0 := fun h => d0 (List.eq_nil_of_length_eq_zero h)
            have d2 : 0 < d.length := by omega
            simp [creelref_NodeFault.j0, creelref_NodeFault.j2, d0, d1, d2]
        · by_cases k3 : kind = 3
          · subst k3
            by_cases d0 : d = []
            · subst d0
              by_cases s0 : same = 0
              · by_cases t0 : t.toList = []
                · simp [creelref_NodeFault.j0, creelref_NodeFault.j2, s0, t0]
                · by_cases z0 : z = true
                  · simp [creelref_NodeFault.j0, creelref_NodeFault.j2, s0, t0, a3', z0]
                  · have z1 : z = false := Bool.eq_false_iff.mpr z0
                    simp only [creelref_NodeFault.j0, creelref_NodeFault.j2, a3', z1, Option.bind_some]
                    simp [s0, t0]
                    split <;> split <;> first | rfl | (exfalso; omega)
              · simp [creelref_NodeFault.j0, creelref_NodeFault.j2, s0]
            · have d1 : d.length ≠ 0 := fun h => d0 (List.eq_nil_of_length_eq_zero h)
              have d2 : 0 < d.length := by omega
              simp [creelref_NodeFault.j0, creelref_NodeFault.j2, d0, d1, d2]
          · simp [creelref_NodeFault.j0, k1, k2, k3]
    · rw [if_neg hM, if_neg hM]
  · rw [if_neg hP, if_neg hP]
end Go.Proofs.YtolbjjeoaeadcaaDoor.Q
