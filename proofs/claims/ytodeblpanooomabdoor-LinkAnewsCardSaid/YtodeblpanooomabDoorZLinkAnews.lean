/- Made by programs of the prover: walks of Go functions, the words that they use, and plain laws, each text in a section of its own; no condition of its own. -/
import Derived.Test.YtodeblpanooomabDoorRows
import Derived.Test.YtodeblpanooomabDoorCards
import Derived.Test.YtodeblpanooomabDoorTie
import Derived.WalkKit
import Derived.ProofKit
import Derived.OpenShut
import Derived.ShutString
import Derived.ChangeOld
import Derived.Below
import Derived.SizedLaws
import Derived.WideShapes
import Derived.Deep.DeepHandedRow
import Derived.Lib.LaidTab
import Derived.Test.YtodeblpanooomabDoorZLinkAnews12
section
namespace Go.Proofs.YtodeblpanooomabDoor.PuLinkAnews
set_option linter.unusedVariables false
set_option linter.unusedSimpArgs false
open Go.RowKit Go.Proofs.YtodeblpanooomabDoor.All Go.Proofs.YtodeblpanooomabDoor.GLinkAnews Go.Proofs.YtodeblpanooomabDoorW.PrintWords Go.Proofs.YtodeblpanooomabDoorW.PrintLast Go.Proofs.YtodeblpanooomabDoorW.PrintMore Go.Proofs.YtodeblpanooomabDoorW.PureBase Go.Proofs.YtodeblpanooomabDoor.Q

-- USES LinkL
-- FN link_Anew creelref_LinkAnew tree_Copy creelref_TreeCopy creellaw_sameTree creellaw_sameNode creellaw_sameBytes
theorem anew_same : ∀ (k : Nat) (f n : List Int) (x : List S56) (i : Int), link_Anew.l0 k f n x (x.length : Int) i = creelref_LinkAnew.l0 k f n x i
  | 0, _, _, _, _ => rfl
  | k + 1, f, n, x, i => by
    simp only [link_Anew.l0, creelref_LinkAnew.l0, Option.bind_some]
    by_cases c1 : i < (x.length : Int)
    · rw [if_pos c1, if_pos c1]
      by_cases c2 : 0 ≤ i
      · rw [if_pos c2, if_pos c2, if_pos c1]
        have h1 := fun (a : S56) => anew_same k f n (x.set i.toNat a) (wrap64 (i + 1))
        have h2 := fun (a b : S56) => anew_same k f n ((x.set i.toNat a).set i.toNat b) (wrap64 (i + 1))
        simp only [List.length_set] at h1 h2
        rw [h1, h2]
      · rw [if_neg c2, if_neg c2, if_pos c1]
    · rw [if_neg c1, if_neg c1]
theorem anew_ends (f n : List Int) (N : Nat) (hN : N ≤ 1000000) (hf : f.length = N) (hn : n.length = N) (d : Nat) : ∀ (i : Nat) (x : List S56), N - i = d → i ≤ N → x.length = N → ∃ r, r.length = N ∧ Ev (fun k => creelref_LinkAnew.l0 k f n x (i : Int)) (r, 0) := by
  induction d with
  | zero =>
    intro i x hd hi hx
    refine ⟨x, hx, Ev.step (f := fun _ => some (x, 0)) (fun k => ?_) (Ev.now _)⟩
    simp only [creelref_LinkAnew.l0]
    rw [if_neg (by omega)]
  | succ d ih =>
    intro i x hd hi hx
    have hw : wrap64 ((i : Int) + 1) = ((i + 1 : Nat) : Int) := by rw [wrap_is (by omega) (by omega)]; omega
    by_cases c : (rd n (i : Int)) > 1
    · obtain ⟨r, h1, h2⟩ := ih (i + 1) (((x.set (i : Int).toNat _).set (i : Int).toNat _)) (by omega) (by omega) (by simp only [List.length_set]; exact hx)
      refine ⟨r, h1, Ev.step (fun k => ?_) h2⟩
      simp only [creelref_LinkAnew.l0, Option.bind_some]
      rw [if_pos (by omega), if_pos (by omega), if_pos (by omega), if_pos c, if_pos (by omega), hw]
    · obtain ⟨r, h1, h2⟩ := ih (i + 1) (x.set (i : Int).toNat _) (by omega) (by omega) (by simp only [List.length_set]; exact hx)
      refine ⟨r, h1, Ev.step (fun k => ?_) h2⟩
      simp only [creelref_LinkAnew.l0, Option.bind_some]
      rw [if_pos (by omega), if_pos (by omega), if_pos (by omega), if_neg c, hw]
theorem set_app (a : List S56) (x y : S56) : (a ++ [x]).set a.length y = a ++ [y] := by
  rw [List.set_append_right _ _ (Nat.le_refl _), Nat.sub_self]; rfl
theorem copy_ref (l : List S56) (hl : l.length ≤ 1000000) (hd : ∀ i, i < l.length → (nd l i).f5.length ≤ 140737488351232) (d : Nat) : ∀ (i : Nat), l.length - i = d → i ≤ l.length → Ev (fun k => creelref_TreeCopy.l0 k l (l.take i) (i : Int)) l := by
  induction d with
  | zero =>
    intro i hd' hi
    rw [List.take_of_length_le (by omega)]
    refine Ev.step (f := fun _ => some l) (fun k => ?_) (Ev.now _)
    simp only [creelref_TreeCopy.l0]
    rw [if_neg (by omega)]
  | succ d ih =>
    intro i hd' hi
    have hw : wrap64 ((i : Int) + 1) = ((i + 1 : Nat) : Int) := by rw [wrap_is (by omega) (by omega)]; omega
    have hln : (l.take i).length = i := by rw [List.length_take]; omega
    have hdi := hd i (by omega)
    have hrd : rd_T56 (l.take i ++ [nd l i]) (i : Int) = nd l i := by
      rw [rd_nd]
      unfold nd
      rw [List.getD_eq_getElem?_getD, List.getElem?_append_right (by omega), hln, Nat.sub_self]; rfl
    refine Ev.step (f := fun k => creelref_TreeCopy.l0 k l (l.take (i + 1)) ((i + 1 : Nat) : Int)) (fun k => ?_) (ih (i + 1) (by omega) (by omega))
    simp only [creelref_TreeCopy.l0, Option.bind_some, List.nil_append, List.length_nil]
    rw [if_pos (by omega), if_pos (by omega), if_pos (by omega), rd_nd, if_pos (by omega), if_pos (by simp; omega), hw, hrd]
    rw [show (i : Int).toNat = (l.take i).length by omega, set_app, take_nd l i (by omega)]
theorem node_same (x : S56) (h : x.f5.length ≤ 140737488351232) : creellaw_sameTree.eq x x = some true := by
  unfold creellaw_sameTree.eq creellaw_sameNode.f creellaw_sameBytes.f
  simp
theorem tree_same (l : List S56) (h : ∀ y ∈ l, y.f5.length ≤ 140737488351232) : creellaw_sameTree.l0 l l = some true := by
  induction l with
  | nil => rfl
  | cons x xs ih =>
    show ((creellaw_sameTree.eq x x).bind fun b => if b = true then creellaw_sameTree.l0 xs xs else some false) = _
    rw [node_same x (h x (List.mem_cons_self ..))]
    exact ih (fun y hy => h y (List.mem_cons_of_mem _ hy))
theorem good_data (l : List S56) (n : Nat) (h : ∀ y ∈ l, y.f5.length ≤ n) : (l.all fun x => decide (x.f5.length ≤ 140737488355327)) = true ∨ 140737488355327 < n := by
  by_cases c : 140737488355327 < n
  · exact Or.inr c
  · left
    rw [List.all_eq_true]
    intro x hx
    exact decide_eq_true (by have := h x hx; omega)
theorem anew_data (f n : List Int) (d : Nat) : ∀ (k : Nat) (x r : List S56) (i e : Int), creelref_LinkAnew.l0 k f n x i = some (r, e) → (∀ y ∈ x, y.f5.length ≤ d) → ∀ y ∈ r, y.f5.length ≤ d
  | 0, _, _, _, _, h, _ => by simp [creelref_LinkAnew.l0] at h
  | k + 1, x, r, i, e, h, hx => by
    have st : ∀ (x : List S56) (a b : ByteArray) (p q : Int) (m : S53), (∀ y ∈ x, y.f5.length ≤ d) → i < (x.length : Int) → 0 ≤ i → ∀ y ∈ x.set i.toNat ⟨a, p, q, b, m, (rd_T56 x i).f5⟩, y.f5.length ≤ d := fun x a b p q m hx c1 c2 y hy => by
      rcases List.mem_or_eq_of_mem_set hy with h1 | h1
      · exact hx y h1
      · subst h1
        show (rd_T56 x i).f5.length ≤ d
        have : rd_T56 x i = nd x i.toNat := by rw [← rd_nd, Int.toNat_of_nonneg c2]
        rw [this]
        exact hx _ (nd_mem x _ (by omega))
    simp only [creelref_LinkAnew.l0, Option.bind_some] at h
    by_cases c1 : i < (x.length : Int)
    · rw [if_pos c1] at h
      by_cases c2 : 0 ≤ i
      · rw [if_pos c2] at h
        by_cases c3 : i < (n.length : Int)
        · rw [if_pos c3] at h
          have h1 := st x (rd_T56 x i).f0 (rd_T56 x i).f3 (rd_T56 x i).f1 0 (rd_T56 x i).f4 hx c1 c2
          by_cases c4 : (rd n i) > 1
          · rw [if_pos c4] at h
            by_cases c5 : i < (f.length : Int)
            · rw [if_pos c5] at h
              exact anew_data f n d k _ r _ e h (st _ _ _ _ _ _ h1 (by simp only [List.length_set]; exact c1) c2)
            · rw [if_neg c5] at h
              cases h
          · rw [if_neg c4] at h
            exact anew_data f n d k _ r _ e h h1
        · rw [if_neg c3] at h
          cases h
      · rw [if_neg c2] at h
        cases h
    · rw [if_neg c1] at h
      simp only [Option.some.injEq, Prod.mk.injEq] at h
      obtain ⟨rfl, _⟩ := h
      exact hx
theorem anew_both (l : List S56) (hl : ∀ y ∈ l, okN y) (hd : ∀ y ∈ l, y.f5.length ≤ 140737488351232) : ∃ r, (r.1.length ≤ 40 ∧ ∀ y ∈ r.1, y.f5.length ≤ 140737488351232) ∧ Ev (fun k => link_Anew.f k l) r ∧ Ev (fun k => creelref_LinkAnew.f k l) r := by
  have f1 := firsts_prog l hl
  have f2 := firsts_ref l hl
  have n1 := names_of l hl
  have n2 := namesref l hl
  unfold firstsR at f1 f2
  unfold namesS at n1 n2
  unfold link_Anew.f creelref_LinkAnew.f
  by_cases h : treeR l = 0
  · rw [if_pos h] at f1 f2 n1 n2
    obtain ⟨h40, _⟩ := tree_zero l h
    obtain ⟨r, h1, h2⟩ := anew_ends (firstsL l) (namesM l) l.length (by omega) (firstsL_len l) (namesM_len l) l.length 0 l (by omega) (by omega) rfl
    have hc : tree_Copy.f l = some l := by
      unfold tree_Copy.f
      rw [if_pos ⟨by omega, (good_data l 140737488351232 hd).resolve_right (by omega)⟩]
    have hr : Ev (fun k => creelref_TreeCopy.f k l) l := copy_ref l (by omega) (fun i hi => hd _ (nd_mem l i hi)) l.length 0 (by omega) (by omega)
    refine ⟨(r, 0), ⟨by show r.length ≤ 40; omega, ?_⟩, ?_, ?_⟩
    · obtain ⟨K, hK⟩ := h2
      exact anew_data _ _ 140737488351232 K l r _ 0 (hK K (Nat.le_refl _)) hd
    · refine Ev.bind f1 (Ev.ifp rfl (Ev.bind n1 ?_))
      show Ev (fun k => (tree_Copy.f l).bind fun t109 => link_Anew.l0 k (firstsL l) (namesM l) t109 (t109.length : Int) 0) (r, 0)
      rw [hc]
      simp only [Option.bind_some]
      simp only [anew_same]
      exact h2
    · exact Ev.bind f2 (Ev.ifp rfl (Ev.bind n2 (Ev.bind hr h2)))
  · rw [if_neg h] at f1 f2 n1 n2
    exact ⟨([], treeR l), ⟨by simp, by simp⟩, Ev.bind f1 (Ev.ifn h (Ev.now _)), Ev.bind f2 (Ev.ifn h (Ev.now _))⟩
theorem pure : Pure := by
  intro l hl
  have hg : ∀ y ∈ l, okN y := (fun y hy => by
    obtain ⟨hp, _, hw, ht, gm, _⟩ := hl.2 y hy
    obtain ⟨_, _, _, hu, hv, _⟩ := gm
    exact ⟨by omega, by omega, by omega, by omega, hw⟩)
  have hd : ∀ y ∈ l, y.f5.length ≤ 140737488351232 := fun y hy => by have := (hl.2 y hy).2.2.2.2.2.1; omega
  obtain ⟨r, ⟨h1, h2⟩, h3, h4⟩ := anew_both l hg hd
  have E : Ev (fun k => creellaw_LinkAnews.f k l) true := by
    unfold creellaw_LinkAnews.f
    have hs : creellaw_sameTree.f r.1 r.1 = some true := by
      unfold creellaw_sameTree.f
      rw [if_pos rfl, if_pos (by omega), tree_same _ h2]
    refine Ev.bind h3 (Ev.bind h4 (Ev.const ?_))
    rw [hs]
    simp
  obtain ⟨K, hK⟩ := E
  exact ⟨K, hK K (Nat.le_refl _)⟩
end Go.Proofs.YtodeblpanooomabDoor.PuLinkAnews
end
section
namespace Go.Proofs.YtodeblpanooomabDoor.linkAnews
open Go.ChangeShapes Go.WideShapes Go.ChangeAt Go.RowKit Go.Proofs.YtodeblpanooomabDoorW.PrintWords Go.Proofs.YtodeblpanooomabDoorW.Opens
open Go.ChangeMaps (open_string shut_string)
set_option linter.unusedVariables false
theorem own : ownKnob Tryd.prog.godebug = none := by kernel_rfl
theorem laidOut : laidOutB Tryd.prog = true := by kernel_rfl
set_option maxRecDepth 100000 in
/-- What the walk gives, for every argument that the row admits. -/
theorem contract (H : Type) (enc : TypeId × Value → H) (W : World) (base : Nat) (args : Array Value) (ds gs : List (DataW H)) (before : List MemPlace)
    (hval0 : ∀ (j : Nat) t v, Tryd.f4.params[j]? = some t → args[j]? = some v → Value.okWide Tryd.prog W .any base t v)
    (hW : DataW.Whole enc Tryd.prog Tryd.f4.params.toList Rows.linkAnewsSpec.vars false W args.toList ds gs before)
    (hsz0 : (DataW.weightsEach Tryd.prog (Tryd.f4.params.toList ++ Rows.linkAnewsSpec.plain.varTypes Tryd.prog) (ds ++ gs)).all (· ≤ reachBytes) = true) (hL : laidMetH Tryd.prog Rows.linkAnewsRow.laid W) (hsh : W.ShapedOpen Tryd.prog) :
    Calls Tryd.prog 4 args W fun e W' => ∃ v, e = .returned v ∧ Rows.linkAnewsSpec.post enc Tryd.prog Tryd.f4 false true false false W args v W' := by
  have hsz := hsz0
  have hval := hval0
  have hW' := hW
  obtain ⟨p, q, hA0, hV, rfl, hfz, hnd⟩ := hW
  have hA : DataW.TrodAll enc Tryd.prog W 0 (fun _ => true) true Tryd.f4.params.toList args.toList ds p := hA0
  rw [Tryd.params4] at hA hval hsz
  obtain ⟨v0, vs0, d0, ds0, p0, q0, hargs, rfl, rfl, h0, r0⟩ := trodAll_cons hA
  obtain ⟨rfl, rfl, rfl⟩ := trodAll_nil r0
  obtain rfl : args = #[v0] := by cases args; simp_all
  obtain ⟨rfl, rfl⟩ := trodVars_none hV
  obtain ⟨B0, n0, C0, rfl⟩ := okWide_slice Tryd.underlying22 (hval 0 22 v0 rfl rfl)
  have m0 := h0
  have lt0 : ∀ x ∈ p0, x.block < W.heap.size := by obtain ⟨m, hm⟩ := m0; exact DataW.trod_lt m _ _ _ hm
  obtain ⟨x0, ⟨A0, c0, e0, hc0, hr0⟩, g0⟩ := opens_at (opens_slice (B := 144) Tryd.underlying22 (by kernel_rfl) (by kernel_rfl) GLinkAnews.opens56) hsz (j := 0) rfl rfl h0
  simp only [Value.cells, List.cons.injEq, Value.slice.injEq, and_true] at e0
  obtain ⟨rfl, rfl, rfl⟩ := e0
  clear hA0 hval0 hsz0 hsz
  refine (GLinkAnews.walk PuLinkAnews.pure x0 W g0 hr0 hc0).mono fun e W' ⟨he, bel⟩ => ?_
  subst he
  exact ⟨_, rfl, _, _, _, [], _, [], hW', trodAll_mk1 (shut_bool Tryd.underlying4 _), (trodAll_cons_mk (Below.trod laidOut (by kernel_rfl) (of_decide_eq_true (by kernel_rfl)) m0 bel lt0) trodAll_mk0), rfl, bel.frame _, fun h => by cases h⟩
set_option maxRecDepth 100000 in
/-- A world for the witness: the settled one, the listed variables holding what their initialisers lay. -/
noncomputable def laidWorld (os : Os) : World :=
  { World.holding Tryd.prog os ⟨#[], #[], []⟩ with heap := (((World.holding Tryd.prog os ⟨#[], #[], []⟩).heap.modify 2 fun
      | .cells _ t frozen => .cells #[.int .u8 128, .int .u8 191, .int .u8 160, .int .u8 191, .int .u8 128, .int .u8 159, .int .u8 144, .int .u8 191, .int .u8 128, .int .u8 143, .int .u8 0, .int .u8 0, .int .u8 0, .int .u8 0, .int .u8 0, .int .u8 0, .int .u8 0, .int .u8 0, .int .u8 0, .int .u8 0, .int .u8 0, .int .u8 0, .int .u8 0, .int .u8 0, .int .u8 0, .int .u8 0, .int .u8 0, .int .u8 0, .int .u8 0, .int .u8 0, .int .u8 0, .int .u8 0] t frozen
      | o => o).modify 1 fun
      | .cells _ t frozen => .cells #[.int .u8 240, .int .u8 240, .int .u8 240, .int .u8 240, .int .u8 240, .int .u8 240, .int .u8 240, .int .u8 240, .int .u8 240, .int .u8 240, .int .u8 240, .int .u8 240, .int .u8 240, .int .u8 240, .int .u8 240, .int .u8 240, .int .u8 240, .int .u8 240, .int .u8 240, .int .u8 240, .int .u8 240, .int .u8 240, .int .u8 240, .int .u8 240, .int .u8 240, .int .u8 240, .int .u8 240, .int .u8 240, .int .u8 240, .int .u8 240, .int .u8 240, .int .u8 240, .int .u8 240, .int .u8 240, .int .u8 240, .int .u8 240, .int .u8 240, .int .u8 240, .int .u8 240, .int .u8 240, .int .u8 240, .int .u8 240, .int .u8 240, .int .u8 240, .int .u8 240, .int .u8 240, .int .u8 240, .int .u8 240, .int .u8 240, .int .u8 240, .int .u8 240, .int .u8 240, .int .u8 240, .int .u8 240, .int .u8 240, .int .u8 240, .int .u8 240, .int .u8 240, .int .u8 240, .int .u8 240, .int .u8 240, .int .u8 240, .int .u8 240, .int .u8 240, .int .u8 240, .int .u8 240, .int .u8 240, .int .u8 240, .int .u8 240, .int .u8 240, .int .u8 240, .int .u8 240, .int .u8 240, .int .u8 240, .int .u8 240, .int .u8 240, .int .u8 240, .int .u8 240, .int .u8 240, .int .u8 240, .int .u8 240, .int .u8 240, .int .u8 240, .int .u8 240, .int .u8 240, .int .u8 240, .int .u8 240, .int .u8 240, .int .u8 240, .int .u8 240, .int .u8 240, .int .u8 240, .int .u8 240, .int .u8 240, .int .u8 240, .int .u8 240, .int .u8 240, .int .u8 240, .int .u8 240, .int .u8 240, .int .u8 240, .int .u8 240, .int .u8 240, .int .u8 240, .int .u8 240, .int .u8 240, .int .u8 240, .int .u8 240, .int .u8 240, .int .u8 240, .int .u8 240, .int .u8 240, .int .u8 240, .int .u8 240, .int .u8 240, .int .u8 240, .int .u8 240, .int .u8 240, .int .u8 240, .int .u8 240, .int .u8 240, .int .u8 240, .int .u8 240, .int .u8 240, .int .u8 240, .int .u8 240, .int .u8 240, .int .u8 240, .int .u8 241, .int .u8 241, .int .u8 241, .int .u8 241, .int .u8 241, .int .u8 241, .int .u8 241, .int .u8 241, .int .u8 241, .int .u8 241, .int .u8 241, .int .u8 241, .int .u8 241, .int .u8 241, .int .u8 241, .int .u8 241, .int .u8 241, .int .u8 241, .int .u8 241, .int .u8 241, .int .u8 241, .int .u8 241, .int .u8 241, .int .u8 241, .int .u8 241, .int .u8 241, .int .u8 241, .int .u8 241, .int .u8 241, .int .u8 241, .int .u8 241, .int .u8 241, .int .u8 241, .int .u8 241, .int .u8 241, .int .u8 241, .int .u8 241, .int .u8 241, .int .u8 241, .int .u8 241, .int .u8 241, .int .u8 241, .int .u8 241, .int .u8 241, .int .u8 241, .int .u8 241, .int .u8 241, .int .u8 241, .int .u8 241, .int .u8 241, .int .u8 241, .int .u8 241, .int .u8 241, .int .u8 241, .int .u8 241, .int .u8 241, .int .u8 241, .int .u8 241, .int .u8 241, .int .u8 241, .int .u8 241, .int .u8 241, .int .u8 241, .int .u8 241, .int .u8 241, .int .u8 241, .int .u8 2, .int .u8 2, .int .u8 2, .int .u8 2, .int .u8 2, .int .u8 2, .int .u8 2, .int .u8 2, .int .u8 2, .int .u8 2, .int .u8 2, .int .u8 2, .int .u8 2, .int .u8 2, .int .u8 2, .int .u8 2, .int .u8 2, .int .u8 2, .int .u8 2, .int .u8 2, .int .u8 2, .int .u8 2, .int .u8 2, .int .u8 2, .int .u8 2, .int .u8 2, .int .u8 2, .int .u8 2, .int .u8 2, .int .u8 2, .int .u8 19, .int .u8 3, .int .u8 3, .int .u8 3, .int .u8 3, .int .u8 3, .int .u8 3, .int .u8 3, .int .u8 3, .int .u8 3, .int .u8 3, .int .u8 3, .int .u8 3, .int .u8 35, .int .u8 3, .int .u8 3, .int .u8 52, .int .u8 4, .int .u8 4, .int .u8 4, .int .u8 68, .int .u8 241, .int .u8 241, .int .u8 241, .int .u8 241, .int .u8 241, .int .u8 241, .int .u8 241, .int .u8 241, .int .u8 241, .int .u8 241, .int .u8 241] t frozen
      | o => o) }
theorem laid_met (os : Os) : laidMet Tryd.prog Rows.linkAnewsRow.laid ((laidWorld os).forCall (fun _ _ => 0) ⟨#[], #[.slice none 0 0], []⟩).memory :=
  laidMet_of_run' 8 (by kernel_rfl) (by kernel_rfl)
theorem reads (os : Os) {H : Type} (enc : TypeId × Value → H) : ∃ places, DataW.whole enc Tryd.prog ((laidWorld os).forCall (fun _ _ => 0) ⟨#[], #[.slice none 0 0], []⟩).memory Tryd.f4.params.toList Rows.linkAnewsSpec.vars false (#[.slice none 0 0] : Array Value).toList 8 = some ([.nil], [], places) :=
  ⟨[], by kernel_rfl⟩
set_option maxRecDepth 100000 in
theorem lifted (os : Os) (started : os.Started) (H : Type) (enc : TypeId × Value → H) (F : Stop.Interp) :
    ReturnsInHanded {} Tryd.checked os 4 .any ((OpenSpec.ofChange Rows.linkAnewsSpec).preRow enc Tryd.prog Tryd.f4 Rows.linkAnewsRow.domain false Rows.linkAnewsRow.laid) (((OpenSpec.ofChange Rows.linkAnewsSpec).at F).post enc Tryd.prog Tryd.f4 false true false false) := by
  obtain ⟨places, hx⟩ := reads os enc
  refine returnsInHanded_of_row (C := Tryd.checked) (s := OpenSpec.ofChange Rows.linkAnewsSpec) own started (by kernel_rfl) Tryd.func4
    (witness_row_at (enc := enc) (C := Tryd.checked) false (laidWorld os) #[.slice none 0 0] rfl (by kernel_rfl) (by kernel_rfl) (by kernel_rfl)
      (OpenSpec.preRow_of_cond 8 hx (by kernel_rfl) (fun k hk => by cases hk) (by kernel_rfl) (laid_met os))) ?_
  intro W base args ds gs before hval hW _ hcond hsz hL hsh _
  exact contract H enc W base args ds gs before hval hW hsz hL hsh
theorem proved : Rows.LinkAnewsSaid :=
  OpenClaim.holds_of_cond 4 Tryd.f4 rfl rfl rfl rfl rfl rfl rfl ⟨rfl, rfl, rfl, rfl, rfl⟩ rfl rfl rfl rfl rfl (by kernel_rfl) Tryd.func4 (by kernel_rfl)
    (of_decide_eq_true (by kernel_rfl)) (by unfold Func.isWrapper; first | (rw [if_pos (by decide +kernel)]; kernel_rfl) | (rw [if_neg (by decide +kernel)]; exact ⟨rfl, rfl⟩))
    (fun os started H enc _ F => by rw [OpenClaim.pre_eq_preRow]; exact lifted os started H enc F)
/-- No parameter wants a stand-in; the program's own looks are off: what the card asks. -/
theorem plain (f : FuncId) (fn : Func) (hf : Tryd.pinned.checked.prog.funcNamed "creel/creellaw.LinkAnews" = some f) (hfn : Tryd.pinned.checked.prog.funcs[f]? = some fn) :
    false = Tryd.pinned.checked.prog.looks [] ∧ ∀ (j : Nat) t, fn.params[j]? = some t → Tryd.pinned.checked.prog.wantsStandIn t = false := by
  obtain rfl : f = 4 := Option.some.inj ((show Tryd.prog.funcNamed "creel/creellaw.LinkAnews" = some 4 by kernel_rfl).symm.trans hf) |>.symm
  obtain rfl : fn = Tryd.f4 := (Option.some.inj (Tryd.func4.symm.trans hfn)).symm
  refine ⟨by kernel_rfl, fun j t ht => ?_⟩
  rw [Tryd.params4] at ht
  have hm := Array.mem_of_getElem? ht
  simp only [List.mem_toArray, List.mem_cons, List.not_mem_nil, or_false] at hm
  rcases hm with rfl
  · exact (show Tryd.prog.wantsStandIn 22 = false by kernel_rfl)
theorem card : Rows.LinkAnewsCardSaid :=
  Claim7.holds_tied_plain_at .later [] _ _ _ _ proved (fun _ h => by cases h) (by kernel_rfl) (fun _ h => by cases h) linkAnews_row_tie rfl ⟨rfl, rfl⟩ (by kernel_rfl) rfl plain (by kernel_rfl)
#print axioms card
end Go.Proofs.YtodeblpanooomabDoor.linkAnews
namespace Go.Proofs.YtodeblpanooomabDoor
/-- The row, under a short name, for the claim. -/
theorem linkAnews_holds : Rows.LinkAnewsCardSaid := linkAnews.card
end Go.Proofs.YtodeblpanooomabDoor
end
