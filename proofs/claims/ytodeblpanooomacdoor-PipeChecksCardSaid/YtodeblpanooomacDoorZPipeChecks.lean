/- Made by programs of the prover: walks of Go functions, the words that they use, and plain laws, each text in a section of its own; no condition of its own. -/
import Derived.Test.YtodeblpanooomacDoorRows
import Derived.Test.YtodeblpanooomacDoorCards
import Derived.Test.YtodeblpanooomacDoorTie
import Derived.WalkKit
import Derived.ProofKit
import Derived.OpenShut
import Derived.ShutString
import Derived.ChangeOld
import Derived.Below
import Derived.SizedLaws
import Derived.WideShapes
import Derived.Deep.DeepHandedRow
import Derived.Lib.LaidTab
import Derived.Test.YtodeblpanooomacDoorZPipeChecks7
import Derived.Test.YtodeblpanooomacDoorZPipeChecks8
section
namespace Go.Proofs.YtodeblpanooomacDoor.PuPipeChecks
set_option linter.unusedVariables false
set_option linter.unusedSimpArgs false
open Go.RowKit Go.Proofs.YtodeblpanooomacDoor.All Go.Proofs.YtodeblpanooomacDoor.GPipeChecks Go.Proofs.YtodeblpanooomacDoorW.PrintWords Go.Proofs.YtodeblpanooomacDoorW.PrintLast Go.Proofs.YtodeblpanooomacDoorW.PrintMore Go.Proofs.YtodeblpanooomacDoorW.PureBase Go.Proofs.YtodeblpanooomacDoor.Q

-- USES GlobR FaultR
-- FN filter_Check creelref_RulesFault pipe_Check creelref_SettingFault
theorem rule_mem (l : List S58) (n : Nat) (h : n < l.length) : rd_T58 l (n : Int) ∈ l := by
  unfold rd_T58
  rw [Int.toNat_natCast, List.getD_eq_getElem?_getD, List.getElem?_eq_getElem h]
  exact List.getElem_mem h
theorem rules_loop (l : List S58) (hl : l.length ≤ 12) (hg : ∀ y ∈ l, y.f1.size ≤ 140737488351232) (d : Nat) : ∀ n : Nat, l.length - n = d → n ≤ l.length → ∃ v, Ev (fun k => filter_Check.l0 k l (l.length : Int) (n : Int)) v ∧ Ev (fun k => creelref_RulesFault.l0 k l (l.length : Int) (n : Int)) v := by
  induction d with
  | zero =>
    intro n hd hn
    refine ⟨0, Ev.step (f := fun _ => some 0) (fun k => ?_) (Ev.now _), Ev.step (f := fun _ => some 0) (fun k => ?_) (Ev.now _)⟩
    · simp only [filter_Check.l0]
      rw [if_neg (by omega)]
    · simp only [creelref_RulesFault.l0]
      rw [if_neg (by omega)]
  | succ d ih =>
    intro n hd hn
    have w : wrap64 ((n : Int) + 1) = ((n + 1 : Nat) : Int) := by rw [wrap_is (by omega) (by omega)]; omega
    obtain ⟨v, h1, h2⟩ := ih (n + 1) (by omega) (by omega)
    obtain ⟨e, g1, g2⟩ := glob_both (rd_T58 l (n : Int)).f1 (hg _ (rule_mem l n (by omega)))
    have p1 : Ev (fun k => (glob_Check.f k (rd_T58 l (n : Int)).f1).bind fun t103 => (if t103 = 0 then (filter_Check.l0 k l (l.length : Int) ((n + 1 : Nat) : Int)) else (some t103))) (if e = 0 then v else e) := by
      refine Ev.bind g1 ?_
      by_cases c : e = 0
      · rw [if_pos c]; exact Ev.ifp c h1
      · rw [if_neg c]; exact Ev.ifn c (Ev.now _)
    have p2 : Ev (fun k => (creelref_GlobFault.f k (rd_T58 l (n : Int)).f1).bind fun t103 => (if t103 = 0 then (creelref_RulesFault.l0 k l (l.length : Int) ((n + 1 : Nat) : Int)) else (some t103))) (if e = 0 then v else e) := by
      refine Ev.bind g2 ?_
      by_cases c : e = 0
      · rw [if_pos c]; exact Ev.ifp c h2
      · rw [if_neg c]; exact Ev.ifn c (Ev.now _)
    refine ⟨_, Ev.step (fun k => ?_) p1, Ev.step (fun k => ?_) p2⟩
    · simp only [filter_Check.l0]
      rw [if_pos (by omega), if_pos (by omega), if_pos (by omega), w]
    · simp only [creelref_RulesFault.l0]
      rw [if_pos (by omega), if_pos (by omega), if_pos (by omega), w]
theorem rules_both (l : List S58) (hg : ∀ y ∈ l, y.f1.size ≤ 140737488351232) : ∃ v, Ev (fun k => filter_Check.f k l) v ∧ Ev (fun k => creelref_RulesFault.f k l) v := by
  unfold filter_Check.f creelref_RulesFault.f
  by_cases c : (l.length : Int) > 12
  · exact ⟨1, Ev.ifp c (Ev.now _), Ev.ifp c (Ev.now _)⟩
  · obtain ⟨v, h1, h2⟩ := rules_loop l (by omega) hg l.length 0 (by omega) (by omega)
    exact ⟨v, Ev.ifn c h1, Ev.ifn c h2⟩
theorem pure : Pure := by
  intro a hg
  obtain ⟨_, _, g2, g3⟩ := hg
  obtain ⟨v, h1, h2⟩ := rules_both a.f2 (fun y hy => (g2.2 y hy).2)
  obtain ⟨f1, f2⟩ := faults_both a.f3 (fun y hy => (g3.2 y hy).1)
  have jt : Ev (fun k => pipe_Check.j0 k true a.f0 a.f1 a.f2 a.f3) 4 ∧ Ev (fun k => creelref_SettingFault.j0 k true a.f0 a.f1 a.f2 a.f3) 4 := by
    refine ⟨Ev.step (f := fun _ => some 4) (fun k => ?_) (Ev.now _), Ev.step (f := fun _ => some 4) (fun k => ?_) (Ev.now _)⟩
    · simp only [pipe_Check.j0, if_true]
    · simp only [creelref_SettingFault.j0, if_true]
  have jf : ∃ r, Ev (fun k => pipe_Check.j0 k false a.f0 a.f1 a.f2 a.f3) r ∧ Ev (fun k => creelref_SettingFault.j0 k false a.f0 a.f1 a.f2 a.f3) r := by
    refine ⟨if v = 0 then faultsR a.f3 else v, Ev.step (f := fun k => (filter_Check.f k a.f2).bind fun t102 => (if t102 = 0 then ((fault_Check.f k a.f3).bind fun t103 => (some t103)) else (some t102))) (fun k => ?_) (Ev.bind h1 ?_), Ev.step (f := fun k => (creelref_RulesFault.f k a.f2).bind fun t102 => (if t102 = 0 then ((creelref_FaultsFault.f k a.f3).bind fun t103 => (some t103)) else (some t102))) (fun k => ?_) (Ev.bind h2 ?_)⟩
    · simp only [pipe_Check.j0]
      rw [if_neg (by decide)]
    · by_cases c : v = 0
      · rw [if_pos c]; exact Ev.ifp c (Ev.bind f1 (Ev.now _))
      · rw [if_neg c]; exact Ev.ifn c (Ev.now _)
    · simp only [creelref_SettingFault.j0]
      rw [if_neg (by decide)]
    · by_cases c : v = 0
      · rw [if_pos c]; exact Ev.ifp c (Ev.bind f2 (Ev.now _))
      · rw [if_neg c]; exact Ev.ifn c (Ev.now _)
  have key : ∃ r, Ev (fun k => pipe_Check.f k a.f0 a.f1 a.f2 a.f3) r ∧ Ev (fun k => creelref_SettingFault.f k a.f0 a.f1 a.f2 a.f3) r := by
    unfold pipe_Check.f creelref_SettingFault.f
    by_cases c1 : a.f0 < 1
    · exact ⟨4, Ev.ifp c1 jt.1, Ev.ifp (by omega) jt.2⟩
    · by_cases c2 : a.f0 > 8
      · exact ⟨4, Ev.ifn c1 (Ev.ifp c2 jt.1), Ev.ifn (by omega) (Ev.ifp c2 jt.2)⟩
      · by_cases c3 : a.f1 < 1
        · exact ⟨4, Ev.ifn c1 (Ev.ifn c2 (Ev.ifp c3 jt.1)), Ev.ifn (by omega) (Ev.ifn c2 (Ev.ifp (by omega) jt.2))⟩
        · by_cases c4 : a.f1 > 16
          · refine ⟨4, Ev.ifn c1 (Ev.ifn c2 (Ev.ifn c3 ?_)), Ev.ifn (by omega) (Ev.ifn c2 (Ev.ifn (by omega) ?_))⟩
            · rw [decide_eq_true c4]; exact jt.1
            · rw [decide_eq_true c4]; exact jt.2
          · obtain ⟨r, j1, j2⟩ := jf
            refine ⟨r, Ev.ifn c1 (Ev.ifn c2 (Ev.ifn c3 ?_)), Ev.ifn (by omega) (Ev.ifn c2 (Ev.ifn (by omega) ?_))⟩
            · rw [decide_eq_false c4]; exact j1
            · rw [decide_eq_false c4]; exact j2
  obtain ⟨r, k1, k2⟩ := key
  have E : Ev (fun k => creellaw_PipeChecks.f k a.f0 a.f1 a.f2 a.f3) true := by
    unfold creellaw_PipeChecks.f
    refine Ev.bind k1 (Ev.bind k2 (Ev.const ?_))
    simp
  obtain ⟨K, hK⟩ := E
  exact ⟨K, hK K (Nat.le_refl _)⟩
end Go.Proofs.YtodeblpanooomacDoor.PuPipeChecks
end
section
namespace Go.Proofs.YtodeblpanooomacDoor.pipeChecks
open Go.ChangeShapes Go.WideShapes Go.ChangeAt Go.RowKit Go.Proofs.YtodeblpanooomacDoorW.PrintWords Go.Proofs.YtodeblpanooomacDoorW.Opens
open Go.ChangeMaps (open_string shut_string)
set_option linter.unusedVariables false
theorem own : ownKnob Tryd.prog.godebug = none := by kernel_rfl
theorem laidOut : laidOutB Tryd.prog = true := by kernel_rfl
set_option maxRecDepth 100000 in
/-- What the walk gives, for every argument that the row admits. -/
theorem contract (H : Type) (enc : TypeId × Value → H) (W : World) (base : Nat) (args : Array Value) (ds gs : List (DataW H)) (before : List MemPlace)
    (hval0 : ∀ (j : Nat) t v, Tryd.f7.params[j]? = some t → args[j]? = some v → Value.okWide Tryd.prog W .any base t v)
    (hW : DataW.Whole enc Tryd.prog Tryd.f7.params.toList Rows.pipeChecksSpec.vars false W args.toList ds gs before)
    (hsz0 : (DataW.weightsEach Tryd.prog (Tryd.f7.params.toList ++ Rows.pipeChecksSpec.plain.varTypes Tryd.prog) (ds ++ gs)).all (· ≤ reachBytes) = true) (hL : laidMetH Tryd.prog Rows.pipeChecksRow.laid W) (hsh : W.ShapedOpen Tryd.prog) :
    Calls Tryd.prog 7 args W fun e W' => ∃ v, e = .returned v ∧ Rows.pipeChecksSpec.post enc Tryd.prog Tryd.f7 false true false false W args v W' := by
  have hsz := hsz0
  have hval := hval0
  have hW' := hW
  obtain ⟨p, q, hA0, hV, rfl, hfz, hnd⟩ := hW
  have hA : DataW.TrodAll enc Tryd.prog W 0 (fun _ => true) true Tryd.f7.params.toList args.toList ds p := hA0
  rw [Tryd.params7] at hA hval hsz
  obtain ⟨v0, vs0, d0, ds0, p0, q0, hargs, rfl, rfl, h0, r0⟩ := trodAll_cons hA
  obtain ⟨rfl, rfl, rfl⟩ := trodAll_nil r0
  obtain rfl : args = #[v0] := by cases args; simp_all
  obtain ⟨rfl, rfl⟩ := trodVars_none hV
  obtain ⟨cs0, rfl, sz0⟩ := okWide_struct Tryd.underlying39 (hval 0 39 v0 rfl rfl)
  have m0 := h0
  have lt0 : ∀ x ∈ p0, x.block < W.heap.size := by obtain ⟨m, hm⟩ := m0; exact DataW.trod_lt m _ _ _ hm
  obtain ⟨x0, hk0, g0⟩ := opens_at GPipeChecks.opens39 hsz (j := 0) rfl rfl h0
  obtain ⟨A0_2, c0_2, A0_3, c0_3, e0, hc0_2, hr0_2, hc0_3, hr0_3⟩ := GPipeChecks.k39_open hk0
  have f0 : cs0 = #[.int .i64 x0.f0, .int .i64 x0.f1, .slice A0_2 x0.f2.length c0_2, .slice A0_3 x0.f3.length c0_3] := Array.ext' (by simpa [Value.cells] using e0)
  subst f0
  clear hA0 hval0 hsz0 hsz
  refine (GPipeChecks.walk PuPipeChecks.pure x0 W g0 hr0_2 hc0_2 hr0_3 hc0_3).mono fun e W' ⟨he, bel⟩ => ?_
  subst he
  exact ⟨_, rfl, _, _, _, [], _, [], hW', trodAll_mk1 (shut_bool Tryd.underlying4 _), (trodAll_cons_mk (Below.trod laidOut (by kernel_rfl) (of_decide_eq_true (by kernel_rfl)) m0 bel lt0) trodAll_mk0), rfl, bel.frame _, fun h => by cases h⟩
set_option maxRecDepth 100000 in
/-- A world for the witness: the settled one, the listed variables holding what their initialisers lay. -/
noncomputable def laidWorld (os : Os) : World :=
  { World.holding Tryd.prog os ⟨#[], #[], []⟩ with heap := (((World.holding Tryd.prog os ⟨#[], #[], []⟩).heap.modify 2 fun
      | .cells _ t frozen => .cells #[.int .u8 128, .int .u8 191, .int .u8 160, .int .u8 191, .int .u8 128, .int .u8 159, .int .u8 144, .int .u8 191, .int .u8 128, .int .u8 143, .int .u8 0, .int .u8 0, .int .u8 0, .int .u8 0, .int .u8 0, .int .u8 0, .int .u8 0, .int .u8 0, .int .u8 0, .int .u8 0, .int .u8 0, .int .u8 0, .int .u8 0, .int .u8 0, .int .u8 0, .int .u8 0, .int .u8 0, .int .u8 0, .int .u8 0, .int .u8 0, .int .u8 0, .int .u8 0] t frozen
      | o => o).modify 1 fun
      | .cells _ t frozen => .cells #[.int .u8 240, .int .u8 240, .int .u8 240, .int .u8 240, .int .u8 240, .int .u8 240, .int .u8 240, .int .u8 240, .int .u8 240, .int .u8 240, .int .u8 240, .int .u8 240, .int .u8 240, .int .u8 240, .int .u8 240, .int .u8 240, .int .u8 240, .int .u8 240, .int .u8 240, .int .u8 240, .int .u8 240, .int .u8 240, .int .u8 240, .int .u8 240, .int .u8 240, .int .u8 240, .int .u8 240, .int .u8 240, .int .u8 240, .int .u8 240, .int .u8 240, .int .u8 240, .int .u8 240, .int .u8 240, .int .u8 240, .int .u8 240, .int .u8 240, .int .u8 240, .int .u8 240, .int .u8 240, .int .u8 240, .int .u8 240, .int .u8 240, .int .u8 240, .int .u8 240, .int .u8 240, .int .u8 240, .int .u8 240, .int .u8 240, .int .u8 240, .int .u8 240, .int .u8 240, .int .u8 240, .int .u8 240, .int .u8 240, .int .u8 240, .int .u8 240, .int .u8 240, .int .u8 240, .int .u8 240, .int .u8 240, .int .u8 240, .int .u8 240, .int .u8 240, .int .u8 240, .int .u8 240, .int .u8 240, .int .u8 240, .int .u8 240, .int .u8 240, .int .u8 240, .int .u8 240, .int .u8 240, .int .u8 240, .int .u8 240, .int .u8 240, .int .u8 240, .int .u8 240, .int .u8 240, .int .u8 240, .int .u8 240, .int .u8 240, .int .u8 240, .int .u8 240, .int .u8 240, .int .u8 240, .int .u8 240, .int .u8 240, .int .u8 240, .int .u8 240, .int .u8 240, .int .u8 240, .int .u8 240, .int .u8 240, .int .u8 240, .int .u8 240, .int .u8 240, .int .u8 240, .int .u8 240, .int .u8 240, .int .u8 240, .int .u8 240, .int .u8 240, .int .u8 240, .int .u8 240, .int .u8 240, .int .u8 240, .int .u8 240, .int .u8 240, .int .u8 240, .int .u8 240, .int .u8 240, .int .u8 240, .int .u8 240, .int .u8 240, .int .u8 240, .int .u8 240, .int .u8 240, .int .u8 240, .int .u8 240, .int .u8 240, .int .u8 240, .int .u8 240, .int .u8 240, .int .u8 240, .int .u8 240, .int .u8 240, .int .u8 240, .int .u8 241, .int .u8 241, .int .u8 241, .int .u8 241, .int .u8 241, .int .u8 241, .int .u8 241, .int .u8 241, .int .u8 241, .int .u8 241, .int .u8 241, .int .u8 241, .int .u8 241, .int .u8 241, .int .u8 241, .int .u8 241, .int .u8 241, .int .u8 241, .int .u8 241, .int .u8 241, .int .u8 241, .int .u8 241, .int .u8 241, .int .u8 241, .int .u8 241, .int .u8 241, .int .u8 241, .int .u8 241, .int .u8 241, .int .u8 241, .int .u8 241, .int .u8 241, .int .u8 241, .int .u8 241, .int .u8 241, .int .u8 241, .int .u8 241, .int .u8 241, .int .u8 241, .int .u8 241, .int .u8 241, .int .u8 241, .int .u8 241, .int .u8 241, .int .u8 241, .int .u8 241, .int .u8 241, .int .u8 241, .int .u8 241, .int .u8 241, .int .u8 241, .int .u8 241, .int .u8 241, .int .u8 241, .int .u8 241, .int .u8 241, .int .u8 241, .int .u8 241, .int .u8 241, .int .u8 241, .int .u8 241, .int .u8 241, .int .u8 241, .int .u8 241, .int .u8 241, .int .u8 241, .int .u8 2, .int .u8 2, .int .u8 2, .int .u8 2, .int .u8 2, .int .u8 2, .int .u8 2, .int .u8 2, .int .u8 2, .int .u8 2, .int .u8 2, .int .u8 2, .int .u8 2, .int .u8 2, .int .u8 2, .int .u8 2, .int .u8 2, .int .u8 2, .int .u8 2, .int .u8 2, .int .u8 2, .int .u8 2, .int .u8 2, .int .u8 2, .int .u8 2, .int .u8 2, .int .u8 2, .int .u8 2, .int .u8 2, .int .u8 2, .int .u8 19, .int .u8 3, .int .u8 3, .int .u8 3, .int .u8 3, .int .u8 3, .int .u8 3, .int .u8 3, .int .u8 3, .int .u8 3, .int .u8 3, .int .u8 3, .int .u8 3, .int .u8 35, .int .u8 3, .int .u8 3, .int .u8 52, .int .u8 4, .int .u8 4, .int .u8 4, .int .u8 68, .int .u8 241, .int .u8 241, .int .u8 241, .int .u8 241, .int .u8 241, .int .u8 241, .int .u8 241, .int .u8 241, .int .u8 241, .int .u8 241, .int .u8 241] t frozen
      | o => o) }
theorem laid_met (os : Os) : laidMet Tryd.prog Rows.pipeChecksRow.laid ((laidWorld os).forCall (fun _ _ => 0) ⟨#[], #[.agg #[.int .i64 0, .int .i64 0, .slice none 0 0, .slice none 0 0]], []⟩).memory :=
  laidMet_of_run' 8 (by kernel_rfl) (by kernel_rfl)
theorem reads (os : Os) {H : Type} (enc : TypeId × Value → H) : ∃ places, DataW.whole enc Tryd.prog ((laidWorld os).forCall (fun _ _ => 0) ⟨#[], #[.agg #[.int .i64 0, .int .i64 0, .slice none 0 0, .slice none 0 0]], []⟩).memory Tryd.f7.params.toList Rows.pipeChecksSpec.vars false (#[.agg #[.int .i64 0, .int .i64 0, .slice none 0 0, .slice none 0 0]] : Array Value).toList 8 = some ([.agg [.lit (.int .i64 0), .lit (.int .i64 0), .nil, .nil]], [], places) :=
  ⟨[], by kernel_rfl⟩
set_option maxRecDepth 100000 in
theorem lifted (os : Os) (started : os.Started) (H : Type) (enc : TypeId × Value → H) (F : Stop.Interp) :
    ReturnsInHanded {} Tryd.checked os 7 .any ((OpenSpec.ofChange Rows.pipeChecksSpec).preRow enc Tryd.prog Tryd.f7 Rows.pipeChecksRow.domain false Rows.pipeChecksRow.laid) (((OpenSpec.ofChange Rows.pipeChecksSpec).at F).post enc Tryd.prog Tryd.f7 false true false false) := by
  obtain ⟨places, hx⟩ := reads os enc
  refine returnsInHanded_of_row (C := Tryd.checked) (s := OpenSpec.ofChange Rows.pipeChecksSpec) own started (by kernel_rfl) Tryd.func7
    (witness_row_at (enc := enc) (C := Tryd.checked) false (laidWorld os) #[.agg #[.int .i64 0, .int .i64 0, .slice none 0 0, .slice none 0 0]] rfl (by kernel_rfl) (by kernel_rfl) (by kernel_rfl)
      (OpenSpec.preRow_of_cond 8 hx (by kernel_rfl) (fun k hk => by cases hk) (by kernel_rfl) (laid_met os))) ?_
  intro W base args ds gs before hval hW _ hcond hsz hL hsh _
  exact contract H enc W base args ds gs before hval hW hsz hL hsh
theorem proved : Rows.PipeChecksSaid :=
  OpenClaim.holds_of_cond 7 Tryd.f7 rfl rfl rfl rfl rfl rfl rfl ⟨rfl, rfl, rfl, rfl, rfl⟩ rfl rfl rfl rfl rfl (by kernel_rfl) Tryd.func7 (by kernel_rfl)
    (of_decide_eq_true (by kernel_rfl)) (by unfold Func.isWrapper; first | (rw [if_pos (by decide +kernel)]; kernel_rfl) | (rw [if_neg (by decide +kernel)]; exact ⟨rfl, rfl⟩))
    (fun os started H enc _ F => by rw [OpenClaim.pre_eq_preRow]; exact lifted os started H enc F)
/-- No parameter wants a stand-in; the program's own looks are off: what the card asks. -/
theorem plain (f : FuncId) (fn : Func) (hf : Tryd.pinned.checked.prog.funcNamed "creel/creellaw.PipeChecks" = some f) (hfn : Tryd.pinned.checked.prog.funcs[f]? = some fn) :
    false = Tryd.pinned.checked.prog.looks [] ∧ ∀ (j : Nat) t, fn.params[j]? = some t → Tryd.pinned.checked.prog.wantsStandIn t = false := by
  obtain rfl : f = 7 := Option.some.inj ((show Tryd.prog.funcNamed "creel/creellaw.PipeChecks" = some 7 by kernel_rfl).symm.trans hf) |>.symm
  obtain rfl : fn = Tryd.f7 := (Option.some.inj (Tryd.func7.symm.trans hfn)).symm
  refine ⟨by kernel_rfl, fun j t ht => ?_⟩
  rw [Tryd.params7] at ht
  have hm := Array.mem_of_getElem? ht
  simp only [List.mem_toArray, List.mem_cons, List.not_mem_nil, or_false] at hm
  rcases hm with rfl
  · exact (show Tryd.prog.wantsStandIn 39 = false by kernel_rfl)
theorem card : Rows.PipeChecksCardSaid :=
  Claim7.holds_tied_plain_at .later [] _ _ _ _ proved (fun _ h => by cases h) (by kernel_rfl) (fun _ h => by cases h) pipeChecks_row_tie rfl ⟨rfl, rfl⟩ (by kernel_rfl) rfl plain (by kernel_rfl)
#print axioms card
end Go.Proofs.YtodeblpanooomacDoor.pipeChecks
namespace Go.Proofs.YtodeblpanooomacDoor
/-- The row, under a short name, for the claim. -/
theorem pipeChecks_holds : Rows.PipeChecksCardSaid := pipeChecks.card
end Go.Proofs.YtodeblpanooomacDoor
end
