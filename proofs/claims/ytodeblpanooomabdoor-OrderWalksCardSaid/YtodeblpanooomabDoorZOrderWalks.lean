/- Made by programs of the prover: walks of Go functions, the words that they use, and plain laws, each text in a section of its own; no condition of its own. -/
import Derived.Test.YtodeblpanooomabDoorRows
import Derived.Test.YtodeblpanooomabDoorCards
import Derived.Test.YtodeblpanooomabDoorTie
import Derived.WalkKit
import Derived.ProofKit
import Derived.OpenShut
import Derived.ShutString
import Derived.ChangeOld
import Derived.Below
import Derived.SizedLaws
import Derived.WideShapes
import Derived.Deep.DeepHandedRow
import Derived.Lib.LaidTab
import Derived.Test.YtodeblpanooomabDoorZOrderWalks11
section
namespace Go.Proofs.YtodeblpanooomabDoor.PuOrderWalks
set_option linter.unusedVariables false
set_option linter.unusedSimpArgs false
open Go.RowKit Go.Proofs.YtodeblpanooomabDoor.All Go.Proofs.YtodeblpanooomabDoor.GOrderWalks Go.Proofs.YtodeblpanooomabDoorW.PrintWords Go.Proofs.YtodeblpanooomabDoorW.PrintLast Go.Proofs.YtodeblpanooomabDoorW.PrintMore Go.Proofs.YtodeblpanooomabDoorW.PureBase Go.Proofs.YtodeblpanooomabDoor.Q

-- USES WalkL Texts
-- FN order_Walk order_Depth creelref_OrderWalk creelref_OrderDepth
theorem prt_nil : prt (⟨#[]⟩ : ByteArray) = [] := by unfold prt; rw [if_pos ((nil_iff _).2 rfl)]
theorem ref_loop (l : List S56) (hl : l.length ≤ 40) (d : Nat) : ∀ (i : Nat) (acc : List ByteArray), l.length - i = d → i ≤ l.length → acc.length ≤ i →
    Ev (fun k => creelref_OrderWalk.l0 k acc l (l.length : Int) (i : Int)) (acc ++ (l.drop i).map (·.f0), 0) := by
  induction d with
  | zero =>
    intro i acc hd hi ha
    have e : l.drop i = [] := List.drop_of_length_le (by omega)
    rw [e, List.map_nil, List.append_nil]
    refine Ev.step (f := fun _ => some (acc, 0)) (fun k => ?_) (Ev.now _)
    simp only [creelref_OrderWalk.l0]
    rw [if_neg (by omega)]
  | succ d ih =>
    intro i acc hd hi ha
    have hw : wrap64 ((i : Int) + 1) = ((i + 1 : Nat) : Int) := by rw [wrap_is (by omega) (by omega)]; omega
    have hdrop : l.drop i = nd l i :: l.drop (i + 1) := by rw [List.drop_eq_getElem_cons (by omega), nd_get l i (by omega)]
    rw [hdrop, List.map_cons, show acc ++ (nd l i).f0 :: (l.drop (i + 1)).map (·.f0) = acc ++ [(nd l i).f0] ++ (l.drop (i + 1)).map (·.f0) by simp]
    refine Ev.step (f := fun k => creelref_OrderWalk.l0 k (acc ++ [(nd l i).f0]) l (l.length : Int) ((i + 1 : Nat) : Int)) (fun k => ?_) (ih (i + 1) _ (by omega) (by omega) (by simp; omega))
    simp only [creelref_OrderWalk.l0]
    rw [if_pos (by omega), if_pos (by omega), if_pos (by omega), if_pos (by omega), rd_nd, hw]
def depthF : List S56 → Int → Int
  | [], m => m
  | x :: r, m => depthF r (if ((pp x.f0).length : Int) > m then ((pp x.f0).length : Int) else m)
theorem depth_loop (l : List S56) (hl : l.length ≤ 40) (hp : ∀ j, j < l.length → 1 ≤ (nd l j).f0.size ∧ (nd l j).f0.size ≤ 400) (d : Nat) : ∀ (i : Nat) (m : Int), l.length - i = d → i ≤ l.length →
    Ev (fun k => order_Depth.l0 k m l (l.length : Int) (i : Int)) (depthF (l.drop i) m, 0) ∧ Ev (fun k => creelref_OrderDepth.l0 k m l (l.length : Int) (i : Int)) (depthF (l.drop i) m, 0) := by
  induction d with
  | zero =>
    intro i m hd hi
    have e : l.drop i = [] := List.drop_of_length_le (by omega)
    rw [e]
    refine ⟨Ev.step (f := fun _ => some (m, 0)) (fun k => ?_) (Ev.now _), Ev.step (f := fun _ => some (m, 0)) (fun k => ?_) (Ev.now _)⟩
    · simp only [order_Depth.l0]
      rw [if_neg (by omega)]
    · simp only [creelref_OrderDepth.l0]
      rw [if_neg (by omega)]
  | succ d ih =>
    intro i m hd hi
    have hw : wrap64 ((i : Int) + 1) = ((i + 1 : Nat) : Int) := by rw [wrap_is (by omega) (by omega)]; omega
    have hdrop : l.drop i = nd l i :: l.drop (i + 1) := by rw [List.drop_eq_getElem_cons (by omega), nd_get l i (by omega)]
    obtain ⟨hs1, hs2⟩ := hp i (by omega)
    have hne : ¬ (nd l i).f0.toList = ([] : List UInt8) := fun e => by
      have := (empty_size _).1 e
      omega
    have p1 : path_Parts.f (nd l i).f0 = some (pp (nd l i).f0) := by
      have := (prt_is (nd l i).f0 (by omega) ((nd l i).f0.size + 1) (by omega)).2.1
      unfold prt at this
      rw [if_neg hne] at this
      exact this
    have p2 : Ev (fun k => creelref_parts.f k (nd l i).f0 47) (pp (nd l i).f0) := ⟨(nd l i).f0.size + 1, fun k hk => parts_is _ k (by omega) (by omega)⟩
    rw [hdrop]
    have hmx : mx m ((pp (nd l i).f0).length : Int) = if ((pp (nd l i).f0).length : Int) > m then ((pp (nd l i).f0).length : Int) else m := by
      unfold mx
      by_cases c : ((pp (nd l i).f0).length : Int) > m
      · rw [if_pos c]; try omega
      · rw [if_neg c]; try omega
    obtain ⟨h1, h2⟩ := ih (i + 1) (if ((pp (nd l i).f0).length : Int) > m then ((pp (nd l i).f0).length : Int) else m) (by omega) (by omega)
    constructor
    · refine Ev.step (f := fun k => order_Depth.l0 k (if ((pp (nd l i).f0).length : Int) > m then ((pp (nd l i).f0).length : Int) else m) l (l.length : Int) ((i + 1 : Nat) : Int)) (fun k => ?_) h1
      simp only [order_Depth.l0]
      rw [if_pos (by omega), if_pos (by omega), if_pos (by omega), rd_nd, p1]
      simp only [Option.bind_some]
      rw [hmx, hw]
    · refine Ev.step (f := fun k => (creelref_parts.f k (nd l i).f0 47).bind fun t104 => (if (t104.length : Int) > m then (creelref_OrderDepth.l0 k (t104.length : Int) l (l.length : Int) ((i + 1 : Nat) : Int)) else (creelref_OrderDepth.l0 k m l (l.length : Int) ((i + 1 : Nat) : Int)))) (fun k => ?_) (Ev.bind p2 ?_)
      · simp only [creelref_OrderDepth.l0]
        rw [if_pos (by omega), if_pos (by omega), if_pos (by omega), rd_nd, hw]
      · by_cases c : ((pp (nd l i).f0).length : Int) > m
        · rw [if_pos c] at h2
          show Ev _ (depthF (l.drop (i + 1)) (if ((pp (nd l i).f0).length : Int) > m then ((pp (nd l i).f0).length : Int) else m), 0)
          rw [if_pos c]
          exact Ev.ifp c h2
        · rw [if_neg c] at h2
          show Ev _ (depthF (l.drop (i + 1)) (if ((pp (nd l i).f0).length : Int) > m then ((pp (nd l i).f0).length : Int) else m), 0)
          rw [if_neg c]
          exact Ev.ifn c h2
theorem all_under (l : List S56) (F : Fine l) : l.filter (under (⟨#[]⟩ : ByteArray)) = l := by
  rw [List.filter_eq_self]
  intro x hx
  refine (under_iff _ _).2 ⟨prt x.f0, ?_, by rw [prt_nil]; rfl⟩
  rw [prt_snoc x.f0 (F.right x hx)]
  simp
theorem pure : Pure := by
  intro l hl
  have hg : ∀ y ∈ l, okN y := fun y hy => by
    obtain ⟨hp, _, hw, ht, gm, _⟩ := hl.2 y hy
    obtain ⟨_, _, _, hu, hv, _⟩ := gm
    exact ⟨hp, ht, hu, hv, hw⟩
  have e1 := prog_tree l hg
  have e2 := ref_tree l hg
  obtain ⟨R, D, hR, r1, r2, d1, d2⟩ : ∃ (R : List ByteArray × Int) (D : Int × Int), R.1.length ≤ 40 ∧ Ev (fun k => order_Walk.f k l) R ∧ Ev (fun k => creelref_OrderWalk.f k l) R ∧ Ev (fun k => order_Depth.f k l) D ∧ Ev (fun k => creelref_OrderDepth.f k l) D := by
    unfold order_Walk.f creelref_OrderWalk.f order_Depth.f creelref_OrderDepth.f
    by_cases h : treeR l = 0
    · have F := fine_of l h
      have h40 := F.len
      have hw := walk_ev F h hg 100000 (⟨#[]⟩ : ByteArray) (fun y hy _ => by
        have hs := (right_parts y.f0 (F.right y hy)).2.1
        have := (prt_is y.f0 (by omega) (y.f0.size + 1) (by omega)).1
        omega) (Or.inl rfl)
      rw [all_under l F] at hw
      have hr := ref_loop l h40 l.length 0 [] (by omega) (by omega) (by simp)
      rw [List.drop_zero, List.nil_append] at hr
      obtain ⟨g1, g2⟩ := depth_loop l h40 (fun j hj => tree_path l h j hj) l.length 0 0 (by omega) (by omega)
      rw [List.drop_zero] at g1 g2
      refine ⟨(l.map (·.f0), 0), (depthF l 0, 0), by simpa using h40, Ev.bind e1 (Ev.ifp h (Ev.bind hw (Ev.now _))), Ev.bind e2 (Ev.ifp h hr), Ev.bind e1 (Ev.ifp h g1), Ev.bind e2 (Ev.ifp h g2)⟩
    · exact ⟨([], treeR l), (0, treeR l), by simp, Ev.bind e1 (Ev.ifn h (Ev.now _)), Ev.bind e2 (Ev.ifn h (Ev.now _)), Ev.bind e1 (Ev.ifn h (Ev.now _)), Ev.bind e2 (Ev.ifn h (Ev.now _))⟩
  obtain ⟨K1, a1⟩ := r1
  obtain ⟨K2, a2⟩ := r2
  obtain ⟨K3, a3⟩ := d1
  obtain ⟨K4, a4⟩ := d2
  obtain ⟨k, hk⟩ : ∃ k, k = K1 + K2 + K3 + K4 + 41 := ⟨_, rfl⟩
  have b1 := a1 k (by omega)
  have b2 := a2 k (by omega)
  have b3 := a3 k (by omega)
  have b4 := a4 k (by omega)
  dsimp only at b1 b2 b3 b4
  refine ⟨k, ?_⟩
  unfold creellaw_OrderWalks.f
  rw [b1, b2, b3, b4]
  simp only [Option.bind_some]
  rw [texts_refl _ (by omega) k (by omega)]
  simp
end Go.Proofs.YtodeblpanooomabDoor.PuOrderWalks
end
section
namespace Go.Proofs.YtodeblpanooomabDoor.orderWalks
open Go.ChangeShapes Go.WideShapes Go.ChangeAt Go.RowKit Go.Proofs.YtodeblpanooomabDoorW.PrintWords Go.Proofs.YtodeblpanooomabDoorW.Opens
open Go.ChangeMaps (open_string shut_string)
set_option linter.unusedVariables false
theorem own : ownKnob Tryd.prog.godebug = none := by kernel_rfl
theorem laidOut : laidOutB Tryd.prog = true := by kernel_rfl
set_option maxRecDepth 100000 in
/-- What the walk gives, for every argument that the row admits. -/
theorem contract (H : Type) (enc : TypeId × Value → H) (W : World) (base : Nat) (args : Array Value) (ds gs : List (DataW H)) (before : List MemPlace)
    (hval0 : ∀ (j : Nat) t v, Tryd.f8.params[j]? = some t → args[j]? = some v → Value.okWide Tryd.prog W .any base t v)
    (hW : DataW.Whole enc Tryd.prog Tryd.f8.params.toList Rows.orderWalksSpec.vars false W args.toList ds gs before)
    (hsz0 : (DataW.weightsEach Tryd.prog (Tryd.f8.params.toList ++ Rows.orderWalksSpec.plain.varTypes Tryd.prog) (ds ++ gs)).all (· ≤ reachBytes) = true) (hL : laidMetH Tryd.prog Rows.orderWalksRow.laid W) (hsh : W.ShapedOpen Tryd.prog) :
    Calls Tryd.prog 8 args W fun e W' => ∃ v, e = .returned v ∧ Rows.orderWalksSpec.post enc Tryd.prog Tryd.f8 false true false false W args v W' := by
  have hsz := hsz0
  have hval := hval0
  have hW' := hW
  obtain ⟨p, q, hA0, hV, rfl, hfz, hnd⟩ := hW
  have hA : DataW.TrodAll enc Tryd.prog W 0 (fun _ => true) true Tryd.f8.params.toList args.toList ds p := hA0
  rw [Tryd.params8] at hA hval hsz
  obtain ⟨v0, vs0, d0, ds0, p0, q0, hargs, rfl, rfl, h0, r0⟩ := trodAll_cons hA
  obtain ⟨rfl, rfl, rfl⟩ := trodAll_nil r0
  obtain rfl : args = #[v0] := by cases args; simp_all
  obtain ⟨rfl, rfl⟩ := trodVars_none hV
  obtain ⟨B0, n0, C0, rfl⟩ := okWide_slice Tryd.underlying22 (hval 0 22 v0 rfl rfl)
  have m0 := h0
  have lt0 : ∀ x ∈ p0, x.block < W.heap.size := by obtain ⟨m, hm⟩ := m0; exact DataW.trod_lt m _ _ _ hm
  obtain ⟨x0, ⟨A0, c0, e0, hc0, hr0⟩, g0⟩ := opens_at (opens_slice (B := 144) Tryd.underlying22 (by kernel_rfl) (by kernel_rfl) GOrderWalks.opens56) hsz (j := 0) rfl rfl h0
  simp only [Value.cells, List.cons.injEq, Value.slice.injEq, and_true] at e0
  obtain ⟨rfl, rfl, rfl⟩ := e0
  clear hA0 hval0 hsz0 hsz
  refine (GOrderWalks.walk PuOrderWalks.pure x0 W g0 hr0 hc0).mono fun e W' ⟨he, bel⟩ => ?_
  subst he
  exact ⟨_, rfl, _, _, _, [], _, [], hW', trodAll_mk1 (shut_bool Tryd.underlying4 _), (trodAll_cons_mk (Below.trod laidOut (by kernel_rfl) (of_decide_eq_true (by kernel_rfl)) m0 bel lt0) trodAll_mk0), rfl, bel.frame _, fun h => by cases h⟩
set_option maxRecDepth 100000 in
/-- A world for the witness: the settled one, the listed variables holding what their initialisers lay. -/
noncomputable def laidWorld (os : Os) : World :=
  { World.holding Tryd.prog os ⟨#[], #[], []⟩ with heap := (((World.holding Tryd.prog os ⟨#[], #[], []⟩).heap.modify 2 fun
      | .cells _ t frozen => .cells #[.int .u8 128, .int .u8 191, .int .u8 160, .int .u8 191, .int .u8 128, .int .u8 159, .int .u8 144, .int .u8 191, .int .u8 128, .int .u8 143, .int .u8 0, .int .u8 0, .int .u8 0, .int .u8 0, .int .u8 0, .int .u8 0, .int .u8 0, .int .u8 0, .int .u8 0, .int .u8 0, .int .u8 0, .int .u8 0, .int .u8 0, .int .u8 0, .int .u8 0, .int .u8 0, .int .u8 0, .int .u8 0, .int .u8 0, .int .u8 0, .int .u8 0, .int .u8 0] t frozen
      | o => o).modify 1 fun
      | .cells _ t frozen => .cells #[.int .u8 240, .int .u8 240, .int .u8 240, .int .u8 240, .int .u8 240, .int .u8 240, .int .u8 240, .int .u8 240, .int .u8 240, .int .u8 240, .int .u8 240, .int .u8 240, .int .u8 240, .int .u8 240, .int .u8 240, .int .u8 240, .int .u8 240, .int .u8 240, .int .u8 240, .int .u8 240, .int .u8 240, .int .u8 240, .int .u8 240, .int .u8 240, .int .u8 240, .int .u8 240, .int .u8 240, .int .u8 240, .int .u8 240, .int .u8 240, .int .u8 240, .int .u8 240, .int .u8 240, .int .u8 240, .int .u8 240, .int .u8 240, .int .u8 240, .int .u8 240, .int .u8 240, .int .u8 240, .int .u8 240, .int .u8 240, .int .u8 240, .int .u8 240, .int .u8 240, .int .u8 240, .int .u8 240, .int .u8 240, .int .u8 240, .int .u8 240, .int .u8 240, .int .u8 240, .int .u8 240, .int .u8 240, .int .u8 240, .int .u8 240, .int .u8 240, .int .u8 240, .int .u8 240, .int .u8 240, .int .u8 240, .int .u8 240, .int .u8 240, .int .u8 240, .int .u8 240, .int .u8 240, .int .u8 240, .int .u8 240, .int .u8 240, .int .u8 240, .int .u8 240, .int .u8 240, .int .u8 240, .int .u8 240, .int .u8 240, .int .u8 240, .int .u8 240, .int .u8 240, .int .u8 240, .int .u8 240, .int .u8 240, .int .u8 240, .int .u8 240, .int .u8 240, .int .u8 240, .int .u8 240, .int .u8 240, .int .u8 240, .int .u8 240, .int .u8 240, .int .u8 240, .int .u8 240, .int .u8 240, .int .u8 240, .int .u8 240, .int .u8 240, .int .u8 240, .int .u8 240, .int .u8 240, .int .u8 240, .int .u8 240, .int .u8 240, .int .u8 240, .int .u8 240, .int .u8 240, .int .u8 240, .int .u8 240, .int .u8 240, .int .u8 240, .int .u8 240, .int .u8 240, .int .u8 240, .int .u8 240, .int .u8 240, .int .u8 240, .int .u8 240, .int .u8 240, .int .u8 240, .int .u8 240, .int .u8 240, .int .u8 240, .int .u8 240, .int .u8 240, .int .u8 240, .int .u8 240, .int .u8 240, .int .u8 240, .int .u8 240, .int .u8 241, .int .u8 241, .int .u8 241, .int .u8 241, .int .u8 241, .int .u8 241, .int .u8 241, .int .u8 241, .int .u8 241, .int .u8 241, .int .u8 241, .int .u8 241, .int .u8 241, .int .u8 241, .int .u8 241, .int .u8 241, .int .u8 241, .int .u8 241, .int .u8 241, .int .u8 241, .int .u8 241, .int .u8 241, .int .u8 241, .int .u8 241, .int .u8 241, .int .u8 241, .int .u8 241, .int .u8 241, .int .u8 241, .int .u8 241, .int .u8 241, .int .u8 241, .int .u8 241, .int .u8 241, .int .u8 241, .int .u8 241, .int .u8 241, .int .u8 241, .int .u8 241, .int .u8 241, .int .u8 241, .int .u8 241, .int .u8 241, .int .u8 241, .int .u8 241, .int .u8 241, .int .u8 241, .int .u8 241, .int .u8 241, .int .u8 241, .int .u8 241, .int .u8 241, .int .u8 241, .int .u8 241, .int .u8 241, .int .u8 241, .int .u8 241, .int .u8 241, .int .u8 241, .int .u8 241, .int .u8 241, .int .u8 241, .int .u8 241, .int .u8 241, .int .u8 241, .int .u8 241, .int .u8 2, .int .u8 2, .int .u8 2, .int .u8 2, .int .u8 2, .int .u8 2, .int .u8 2, .int .u8 2, .int .u8 2, .int .u8 2, .int .u8 2, .int .u8 2, .int .u8 2, .int .u8 2, .int .u8 2, .int .u8 2, .int .u8 2, .int .u8 2, .int .u8 2, .int .u8 2, .int .u8 2, .int .u8 2, .int .u8 2, .int .u8 2, .int .u8 2, .int .u8 2, .int .u8 2, .int .u8 2, .int .u8 2, .int .u8 2, .int .u8 19, .int .u8 3, .int .u8 3, .int .u8 3, .int .u8 3, .int .u8 3, .int .u8 3, .int .u8 3, .int .u8 3, .int .u8 3, .int .u8 3, .int .u8 3, .int .u8 3, .int .u8 35, .int .u8 3, .int .u8 3, .int .u8 52, .int .u8 4, .int .u8 4, .int .u8 4, .int .u8 68, .int .u8 241, .int .u8 241, .int .u8 241, .int .u8 241, .int .u8 241, .int .u8 241, .int .u8 241, .int .u8 241, .int .u8 241, .int .u8 241, .int .u8 241] t frozen
      | o => o) }
theorem laid_met (os : Os) : laidMet Tryd.prog Rows.orderWalksRow.laid ((laidWorld os).forCall (fun _ _ => 0) ⟨#[], #[.slice none 0 0], []⟩).memory :=
  laidMet_of_run' 8 (by kernel_rfl) (by kernel_rfl)
theorem reads (os : Os) {H : Type} (enc : TypeId × Value → H) : ∃ places, DataW.whole enc Tryd.prog ((laidWorld os).forCall (fun _ _ => 0) ⟨#[], #[.slice none 0 0], []⟩).memory Tryd.f8.params.toList Rows.orderWalksSpec.vars false (#[.slice none 0 0] : Array Value).toList 8 = some ([.nil], [], places) :=
  ⟨[], by kernel_rfl⟩
set_option maxRecDepth 100000 in
theorem lifted (os : Os) (started : os.Started) (H : Type) (enc : TypeId × Value → H) (F : Stop.Interp) :
    ReturnsInHanded {} Tryd.checked os 8 .any ((OpenSpec.ofChange Rows.orderWalksSpec).preRow enc Tryd.prog Tryd.f8 Rows.orderWalksRow.domain false Rows.orderWalksRow.laid) (((OpenSpec.ofChange Rows.orderWalksSpec).at F).post enc Tryd.prog Tryd.f8 false true false false) := by
  obtain ⟨places, hx⟩ := reads os enc
  refine returnsInHanded_of_row (C := Tryd.checked) (s := OpenSpec.ofChange Rows.orderWalksSpec) own started (by kernel_rfl) Tryd.func8
    (witness_row_at (enc := enc) (C := Tryd.checked) false (laidWorld os) #[.slice none 0 0] rfl (by kernel_rfl) (by kernel_rfl) (by kernel_rfl)
      (OpenSpec.preRow_of_cond 8 hx (by kernel_rfl) (fun k hk => by cases hk) (by kernel_rfl) (laid_met os))) ?_
  intro W base args ds gs before hval hW _ hcond hsz hL hsh _
  exact contract H enc W base args ds gs before hval hW hsz hL hsh
theorem proved : Rows.OrderWalksSaid :=
  OpenClaim.holds_of_cond 8 Tryd.f8 rfl rfl rfl rfl rfl rfl rfl ⟨rfl, rfl, rfl, rfl, rfl⟩ rfl rfl rfl rfl rfl (by kernel_rfl) Tryd.func8 (by kernel_rfl)
    (of_decide_eq_true (by kernel_rfl)) (by unfold Func.isWrapper; first | (rw [if_pos (by decide +kernel)]; kernel_rfl) | (rw [if_neg (by decide +kernel)]; exact ⟨rfl, rfl⟩))
    (fun os started H enc _ F => by rw [OpenClaim.pre_eq_preRow]; exact lifted os started H enc F)
/-- No parameter wants a stand-in; the program's own looks are off: what the card asks. -/
theorem plain (f : FuncId) (fn : Func) (hf : Tryd.pinned.checked.prog.funcNamed "creel/creellaw.OrderWalks" = some f) (hfn : Tryd.pinned.checked.prog.funcs[f]? = some fn) :
    false = Tryd.pinned.checked.prog.looks [] ∧ ∀ (j : Nat) t, fn.params[j]? = some t → Tryd.pinned.checked.prog.wantsStandIn t = false := by
  obtain rfl : f = 8 := Option.some.inj ((show Tryd.prog.funcNamed "creel/creellaw.OrderWalks" = some 8 by kernel_rfl).symm.trans hf) |>.symm
  obtain rfl : fn = Tryd.f8 := (Option.some.inj (Tryd.func8.symm.trans hfn)).symm
  refine ⟨by kernel_rfl, fun j t ht => ?_⟩
  rw [Tryd.params8] at ht
  have hm := Array.mem_of_getElem? ht
  simp only [List.mem_toArray, List.mem_cons, List.not_mem_nil, or_false] at hm
  rcases hm with rfl
  · exact (show Tryd.prog.wantsStandIn 22 = false by kernel_rfl)
theorem card : Rows.OrderWalksCardSaid :=
  Claim7.holds_tied_plain_at .later [] _ _ _ _ proved (fun _ h => by cases h) (by kernel_rfl) (fun _ h => by cases h) orderWalks_row_tie rfl ⟨rfl, rfl⟩ (by kernel_rfl) rfl plain (by kernel_rfl)
#print axioms card
end Go.Proofs.YtodeblpanooomabDoor.orderWalks
namespace Go.Proofs.YtodeblpanooomabDoor
/-- The row, under a short name, for the claim. -/
theorem orderWalks_holds : Rows.OrderWalksCardSaid := orderWalks.card
end Go.Proofs.YtodeblpanooomabDoor
end
