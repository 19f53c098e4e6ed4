/- Made by programs of the prover: walks of Go functions, the words that they use, and plain laws, each text in a section of its own; no condition of its own. -/
import Derived.Test.YtgkofpjeiogafaaRows
import Derived.WalkKit
import Derived.ProofKit
import Derived.OpenShut
import Derived.ShutString
import Derived.ChangeOld
import Derived.Below
import Derived.SizedLaws
import Derived.WideShapes
import Derived.Test.YtgkofpjeiogafaaZHeadWrites4
section
namespace Go.Proofs.Ytgkofpjeiogafaa.PuHeadWrites
set_option linter.unusedVariables false
set_option linter.unusedSimpArgs false
open Go.RowKit Go.Proofs.Ytgkofpjeiogafaa.All Go.Proofs.Ytgkofpjeiogafaa.GHeadWrites Go.Proofs.YtgkofpjeiogafaaW.PrintWords Go.Proofs.YtgkofpjeiogafaaW.PrintLast Go.Proofs.YtgkofpjeiogafaaW.PrintMore Go.Proofs.YtgkofpjeiogafaaW.PureBase Go.Proofs.Ytgkofpjeiogafaa.Q

-- USES Has Zeros Field OctalR SumR
-- FN head_Write head_Check creelref_HeadText
/-- The two writers' states: the same error; without one, the same text. -/
def same (p q : Int × ByteArray) : Prop := p.1 = q.1 ∧ (p.1 = 0 → p.2 = q.2)
theorem same_more {p q : Int × ByteArray} (h : same p q) (r : ByteArray × Int) : same (head_Write.pt p r.1 r.2) (creelref_HeadText.more q r) := by
  obtain ⟨h1, h2⟩ := h
  unfold head_Write.pt creelref_HeadText.more
  by_cases c : p.1 = 0
  · rw [if_pos c, if_pos (h1 ▸ c)]
    exact ⟨rfl, fun _ => by rw [h2 c]⟩
  · rw [if_neg c, if_neg (h1 ▸ c)]
    exact ⟨h1, fun e => absurd e c⟩
theorem same_app {p q : Int × ByteArray} (h : same p q) (s t : ByteArray) (e : s = t) : same (head_Write.pt p s 0) (creelref_HeadText.app q t) := by
  obtain ⟨h1, h2⟩ := h
  subst e
  unfold head_Write.pt creelref_HeadText.app
  by_cases c : p.1 = 0
  · rw [if_pos c]
    exact ⟨by rw [← h1, c], fun _ => by rw [h2 c]⟩
  · rw [if_neg c]
    exact ⟨h1, fun e => absurd e c⟩
theorem same_two {p q : Int × ByteArray} (h : same p q) (s : ByteArray) (r : ByteArray × Int) (h0 : r.2 = 0) (e : s = r.1 ++ r.1) : same (head_Write.pt p s 0) (creelref_HeadText.more (creelref_HeadText.more q r) r) := by
  obtain ⟨h1, h2⟩ := h
  subst e
  unfold head_Write.pt creelref_HeadText.more
  by_cases c : p.1 = 0
  · have cq : q.1 = 0 := h1 ▸ c
    rw [if_pos c]
    simp only [cq, h0, if_true]
    exact ⟨rfl, fun _ => by rw [h2 c, ByteArray.append_assoc]⟩
  · have cq : ¬ q.1 = 0 := h1 ▸ c
    rw [if_neg c]
    simp only [cq, if_false]
    exact ⟨h1, fun e => absurd e c⟩
theorem pt_zero {p : Int × ByteArray} {s : ByteArray} {e : Int} (h : (head_Write.pt p s e).1 = 0) : p.1 = 0 ∧ e = 0 ∧ (head_Write.pt p s e).2.size = p.2.size + s.size := by
  unfold head_Write.pt at h ⊢
  by_cases c : p.1 = 0
  · rw [if_pos c] at h ⊢
    exact ⟨c, h, ByteArray.size_append⟩
  · rw [if_neg c] at h
    exact absurd h c
theorem oct8 : Ev (fun k => creelref_OctalText.f k 0 8) ((⟨#[48, 48, 48, 48, 48, 48, 48, 0]⟩ : ByteArray), 0) := Ev.of (fun k => creelref_OctalText.mono 0 8 k) (k := 40) (by decide +kernel)
theorem sizes_empty : (⟨#[]⟩ : ByteArray).size = 0 := rfl
def wq (t8 : Int) (r1 r2 r3 r4 r5 r6 r7 r8 r9 r10 : ByteArray × Int) : Int × ByteArray := (head_Write.pt (head_Write.pt (head_Write.pt (head_Write.pt (head_Write.pt (head_Write.pt (head_Write.pt (head_Write.pt (head_Write.pt (head_Write.pt (head_Write.pt (head_Write.pt (head_Write.pt (head_Write.pt ((0, (⟨#[]⟩ : ByteArray)) : Int × ByteArray) r1.1 r1.2) r2.1 r2.2) r3.1 r3.2) r4.1 r4.2) r5.1 r5.2) r6.1 r6.2) (head_Write.blank t8) 0) r7.1 r7.2) (⟨#[117, 115, 116, 97, 114, 0, 48, 48]⟩ : ByteArray) 0) r8.1 r8.2) r9.1 r9.2) (⟨#[48, 48, 48, 48, 48, 48, 48, 0, 48, 48, 48, 48, 48, 48, 48, 0]⟩ : ByteArray) 0) r10.1 r10.2) (zs 12) 0)
def tq (t8 : Int) (r1 r2 r3 r4 r5 r6 r7 r8 r9 r10 : ByteArray × Int) : Int × ByteArray := (creelref_HeadText.app (creelref_HeadText.more (creelref_HeadText.more (creelref_HeadText.more (creelref_HeadText.more (creelref_HeadText.more (creelref_HeadText.app (creelref_HeadText.more (creelref_HeadText.app (creelref_HeadText.more (creelref_HeadText.more (creelref_HeadText.more (creelref_HeadText.more (creelref_HeadText.more (creelref_HeadText.more ((0, (⟨#[]⟩ : ByteArray)) : Int × ByteArray) r1) r2) r3) r4) r5) r6) (creelref_HeadText.blank t8)) r7) ((⟨#[117, 115, 116, 97, 114]⟩ : ByteArray) ++ zs 1 ++ (⟨#[48, 48]⟩ : ByteArray))) r8) r9) ((⟨#[48, 48, 48, 48, 48, 48, 48, 0]⟩ : ByteArray), (0 : Int))) ((⟨#[48, 48, 48, 48, 48, 48, 48, 0]⟩ : ByteArray), (0 : Int))) r10) (zs 12))
theorem same_q (t8 : Int) (r1 r2 r3 r4 r5 r6 r7 r8 r9 r10 : ByteArray × Int) : same (wq t8 r1 r2 r3 r4 r5 r6 r7 r8 r9 r10) (tq t8 r1 r2 r3 r4 r5 r6 r7 r8 r9 r10) := by
  unfold wq tq
  refine same_app (same_more (same_two (same_more (same_more (same_app (same_more (same_app (same_more (same_more (same_more (same_more (same_more (same_more ⟨rfl, fun _ => rfl⟩ r1) r2) r3) r4) r5) r6) _ _ rfl) r7) _ _ ?_) r8) r9) _ _ rfl ?_) r10) _ _ rfl
  · apply ext_list; rfl
  · apply ext_list; rfl
theorem size_q (t8 : Int) (r1 r2 r3 r4 r5 r6 r7 r8 r9 r10 : ByteArray × Int) (g1 : r1.2 = 0 → (r1.1.size : Int) = 100) (g2 : r2.2 = 0 → (r2.1.size : Int) = 8) (g3 : r3.2 = 0 → (r3.1.size : Int) = 8) (g4 : r4.2 = 0 → (r4.1.size : Int) = 8) (g5 : r5.2 = 0 → (r5.1.size : Int) = 12) (g6 : r6.2 = 0 → (r6.1.size : Int) = 12) (g7 : r7.2 = 0 → (r7.1.size : Int) = 100) (g8 : r8.2 = 0 → (r8.1.size : Int) = 32) (g9 : r9.2 = 0 → (r9.1.size : Int) = 32) (g10 : r10.2 = 0 → (r10.1.size : Int) = 155) (h : (wq t8 r1 r2 r3 r4 r5 r6 r7 r8 r9 r10).1 = 0) : (wq t8 r1 r2 r3 r4 r5 r6 r7 r8 r9 r10).2.size = 512 := by
  unfold wq at h ⊢
  obtain ⟨h, ez, zz⟩ := pt_zero h
  obtain ⟨h, e10, z10⟩ := pt_zero h
  obtain ⟨h, edev, zdev⟩ := pt_zero h
  obtain ⟨h, e9, z9⟩ := pt_zero h
  obtain ⟨h, e8, z8⟩ := pt_zero h
  obtain ⟨h, eus, zus⟩ := pt_zero h
  obtain ⟨h, e7, z7⟩ := pt_zero h
  obtain ⟨h, ebl, zbl⟩ := pt_zero h
  obtain ⟨h, e6, z6⟩ := pt_zero h
  obtain ⟨h, e5, z5⟩ := pt_zero h
  obtain ⟨h, e4, z4⟩ := pt_zero h
  obtain ⟨h, e3, z3⟩ := pt_zero h
  obtain ⟨h, e2, z2⟩ := pt_zero h
  obtain ⟨h, e1, z1⟩ := pt_zero h
  rw [zz, z10, zdev, z9, z8, zus, z7, zbl, z6, z5, z4, z3, z2, z1]
  have x1 := g1 e1
  have x2 := g2 e2
  have x3 := g3 e3
  have x4 := g4 e4
  have x5 := g5 e5
  have x6 := g6 e6
  have x7 := g7 e7
  have x8 := g8 e8
  have x9 := g9 e9
  have x10 := g10 e10
  have y1 := head_Write.blank_size t8
  have y2 : (⟨#[117, 115, 116, 97, 114, 0, 48, 48]⟩ : ByteArray).size = 8 := rfl
  have y3 : (⟨#[48, 48, 48, 48, 48, 48, 48, 0, 48, 48, 48, 48, 48, 48, 48, 0]⟩ : ByteArray).size = 16 := rfl
  have y4 := zs_size 12
  have y5 := sizes_empty
  show (((0, (⟨#[]⟩ : ByteArray)) : Int × ByteArray)).2.size + _ + _ + _ + _ + _ + _ + _ + _ + _ + _ + _ + _ + _ + _ = 512
  have y6 : (((0, (⟨#[]⟩ : ByteArray)) : Int × ByteArray)).2.size = 0 := rfl
  omega
theorem tails (k : Nat) (q p : Int × ByteArray) (h : same p q) (hz : p.1 = 0 → p.2.size = 512) : ∃ v, Ev (fun k => head_Write.tail k p) v ∧ Ev (fun k => creelref_HeadText.tail k q) v := by
  obtain ⟨h1, h2⟩ := h
  by_cases c : p.1 = 0
  · have e := h2 c
    have cq : q.1 = 0 := h1 ▸ c
    obtain ⟨n, a1, a2⟩ := sum_both p.2
    obtain ⟨u, b1, b2, _, b4⟩ := octal_both n.1 7
    have hs := hz c
    refine ⟨(p.2.extract 0 148 ++ u.1 ++ (⟨#[32]⟩ : ByteArray) ++ p.2.extract 156 p.2.size, 0), ?_, ?_⟩
    · unfold head_Write.tail
      refine Ev.ifp c (Ev.bind a1 (Ev.bind b1 (Ev.ifp (by omega) (Ev.now _))))
    · unfold creelref_HeadText.tail
      rw [← e]
      refine Ev.ifp cq (Ev.bind a2 (Ev.bind b2 (Ev.ifp (by omega) (Ev.now _))))
  · refine ⟨((⟨#[]⟩ : ByteArray), p.1), ?_, ?_⟩
    · unfold head_Write.tail
      exact Ev.ifn c (Ev.now _)
    · unfold creelref_HeadText.tail
      rw [h1]
      exact Ev.ifn (h1 ▸ c) (Ev.now _)
theorem both (s0 s1 s2 : ByteArray) (n3 n4 n5 n6 n7 t8 : Int) (s9 s10 : ByteArray) (g0 : s0.size ≤ 140737488351232) (g1 : s1.size ≤ 140737488351232) (g2 : s2.size ≤ 140737488351232) (g9 : s9.size ≤ 140737488351232) (g10 : s10.size ≤ 140737488351232) (gt : 0 ≤ t8 ∧ t8 ≤ 255) :
    ∃ v, Ev (fun k => head_Write.f k s0 s1 s2 n3 n4 n5 n6 n7 t8 s9 s10) v ∧ Ev (fun k => creelref_HeadText.f k s0 s1 s2 n3 n4 n5 n6 n7 t8 s9 s10) v := by
  have hh := has_ev (⟨#[48, 49, 50, 53, 120]⟩ : ByteArray) t8 gt.1 gt.2 (by show 5 ≤ _; omega)
  have hi : (Lib.indexByte (⟨#[48, 49, 50, 53, 120]⟩ : ByteArray).data.toList t8.toNat.toUInt8 < 0) ↔ ¬ ((⟨#[48, 49, 50, 53, 120]⟩ : ByteArray).data.toList.contains t8.toNat.toUInt8 = true) := by
    rw [← index_ge, decide_eq_true_iff]
    omega
  cases hc : (⟨#[48, 49, 50, 53, 120]⟩ : ByteArray).data.toList.contains t8.toNat.toUInt8 with
  | false =>
    rw [hc] at hh hi
    refine ⟨((⟨#[]⟩ : ByteArray), 2), ?_, ?_⟩
    · unfold head_Write.f
      exact Ev.bind (Ev.now _) (Ev.ifp (hi.2 (by decide)) (Ev.now _))
    · unfold creelref_HeadText.f
      exact Ev.bind hh (Ev.ifn (by decide) (Ev.now _))
  | true =>
    rw [hc] at hh hi
    obtain ⟨r1, W1, T1, y1, l1⟩ : ∃ r, Ev (fun k => field_Write.f k s0 100 true) r ∧ Ev (fun k => creelref_FieldText.f k s0 100 true) r ∧ (r.2 = 0 → (r.1.size : Int) = 100) ∧ r.1.size ≤ 512 := ⟨_, field_ev _ _ _, fieldT_ev _ _ _ g0, fieldR_size _ _ _, fieldR_le _ _ _⟩
    obtain ⟨r2, W2, T2, y2, l2⟩ := octal_both n3 8
    obtain ⟨r3, W3, T3, y3, l3⟩ := octal_both n4 8
    obtain ⟨r4, W4, T4, y4, l4⟩ := octal_both n5 8
    obtain ⟨r5, W5, T5, y5, l5⟩ := octal_both n6 12
    obtain ⟨r6, W6, T6, y6, l6⟩ := octal_both n7 12
    obtain ⟨r7, W7, T7, y7, l7⟩ : ∃ r, Ev (fun k => field_Write.f k s2 100 true) r ∧ Ev (fun k => creelref_FieldText.f k s2 100 true) r ∧ (r.2 = 0 → (r.1.size : Int) = 100) ∧ r.1.size ≤ 512 := ⟨_, field_ev _ _ _, fieldT_ev _ _ _ g2, fieldR_size _ _ _, fieldR_le _ _ _⟩
    obtain ⟨r8, W8, T8, y8, l8⟩ : ∃ r, Ev (fun k => field_Write.f k s9 32 false) r ∧ Ev (fun k => creelref_FieldText.f k s9 32 false) r ∧ (r.2 = 0 → (r.1.size : Int) = 32) ∧ r.1.size ≤ 512 := ⟨_, field_ev _ _ _, fieldT_ev _ _ _ g9, fieldR_size _ _ _, fieldR_le _ _ _⟩
    obtain ⟨r9, W9, T9, y9, l9⟩ : ∃ r, Ev (fun k => field_Write.f k s10 32 false) r ∧ Ev (fun k => creelref_FieldText.f k s10 32 false) r ∧ (r.2 = 0 → (r.1.size : Int) = 32) ∧ r.1.size ≤ 512 := ⟨_, field_ev _ _ _, fieldT_ev _ _ _ g10, fieldR_size _ _ _, fieldR_le _ _ _⟩
    obtain ⟨r10, W10, T10, y10, l10⟩ : ∃ r, Ev (fun k => field_Write.f k s1 155 true) r ∧ Ev (fun k => creelref_FieldText.f k s1 155 true) r ∧ (r.2 = 0 → (r.1.size : Int) = 155) ∧ r.1.size ≤ 512 := ⟨_, field_ev _ _ _, fieldT_ev _ _ _ g1, fieldR_size _ _ _, fieldR_le _ _ _⟩
    have z1 : Ev (fun k => creelref_zeros.f k 1) (zs 1) := ⟨2, fun k hk => zeros_is 1 k (by omega) (by omega)⟩
    have z2 : Ev (fun k => creelref_zeros.f k 12) (zs 12) := ⟨13, fun k hk => zeros_is 12 k (by omega) (by omega)⟩
    have z3 : strings_Repeat.f (⟨#[0]⟩ : ByteArray) 12 = some (zs 12) := rep_is 12 (by omega)
    have zz1 := zs_size 1
    have zz2 := zs_size 12
    have o8 : ((⟨#[48, 48, 48, 48, 48, 48, 48, 0]⟩ : ByteArray)).size = 8 := rfl
    obtain ⟨v, a1, a2⟩ := tails 0 (tq t8 r1 r2 r3 r4 r5 r6 r7 r8 r9 r10) (wq t8 r1 r2 r3 r4 r5 r6 r7 r8 r9 r10) (same_q t8 r1 r2 r3 r4 r5 r6 r7 r8 r9 r10) (size_q t8 r1 r2 r3 r4 r5 r6 r7 r8 r9 r10 y1 y2 y3 y4 y5 y6 y7 y8 y9 y10)
    refine ⟨v, ?_, ?_⟩
    · unfold head_Write.f
      refine Ev.bind (Ev.now _) (Ev.ifn (fun h => hi.1 h rfl) ?_)
      refine Ev.bind W1 (Ev.bind W2 (Ev.bind W3 (Ev.bind W4 (Ev.bind W5 (Ev.bind W6 (Ev.bind W7 (Ev.bind W8 (Ev.bind W9 (Ev.bind W10 (Ev.bind (Ev.const z3) (Ev.ifp ?_ a1)))))))))))
      omega
    · unfold creelref_HeadText.f
      refine Ev.bind hh (Ev.ifp rfl ?_)
      refine Ev.bind T1 (Ev.bind T2 (Ev.bind T3 (Ev.bind T4 (Ev.bind T5 (Ev.bind T6 (Ev.bind T7 (Ev.bind T8 (Ev.bind T9 (Ev.bind oct8 (Ev.bind T10 (Ev.bind z1 (Ev.bind z2 (Ev.ifp ?_ a2)))))))))))))
      show _ + _ + _ + _ + _ + _ + _ + _ + _ + ((⟨#[48, 48, 48, 48, 48, 48, 48, 0]⟩ : ByteArray)).size + _ + ((⟨#[48, 48, 48, 48, 48, 48, 48, 0]⟩ : ByteArray)).size + _ + _ ≤ 100000
      omega
theorem pure : Pure := by
  intro x hx
  obtain ⟨g0, g1, g2, _, _, _, _, _, g8, g9, g10⟩ := hx
  have gt : 0 ≤ x.f8 ∧ x.f8 ≤ 255 := by
    have h := g8
    simp [Lit.wf, IntKind.min, IntKind.max, IntKind.signed, IntKind.bits] at h
    omega
  obtain ⟨v, a1, a2⟩ := both x.f0 x.f1 x.f2 x.f3 x.f4 x.f5 x.f6 x.f7 x.f8 x.f9 x.f10 g0 g1 g2 g9 g10 gt
  obtain ⟨K1, e1⟩ := a1
  obtain ⟨K2, e2⟩ := a2
  have b1 := e1 (K1 + K2) (by omega)
  have b2 := e2 (K1 + K2) (by omega)
  dsimp only at b1 b2
  refine ⟨K1 + K2, ?_⟩
  unfold creellaw_HeadWrites.f head_Check.f
  rw [b1, b2]
  simp
end Go.Proofs.Ytgkofpjeiogafaa.PuHeadWrites
end
section
namespace Go.Proofs.Ytgkofpjeiogafaa.headWrites
open Go.ChangeShapes Go.WideShapes Go.ChangeAt Go.RowKit Go.Proofs.YtgkofpjeiogafaaW.PrintWords Go.Proofs.YtgkofpjeiogafaaW.Opens
open Go.ChangeMaps (open_string shut_string)
set_option linter.unusedVariables false
theorem own : ownKnob Try.prog.godebug = none := by kernel_rfl
theorem laidOut : laidOutB Try.prog = true := by kernel_rfl
set_option maxRecDepth 100000 in
/-- What the walk gives, for every argument that the row admits. -/
theorem contract (H : Type) (enc : TypeId × Value → H) (W : World) (base : Nat) (args : Array Value) (ds gs : List (DataW H)) (before : List MemPlace)
    (hval0 : ∀ (j : Nat) t v, Try.f3.params[j]? = some t → args[j]? = some v → Value.okWide Try.prog W .any base t v)
    (hW : DataW.Whole enc Try.prog Try.f3.params.toList Rows.headWritesSpec.vars false W args.toList ds gs before)
    (hsz0 : (DataW.weightsEach Try.prog (Try.f3.params.toList ++ Rows.headWritesSpec.plain.varTypes Try.prog) (ds ++ gs)).all (· ≤ reachBytes) = true) :
    Calls Try.prog 3 args W fun e W' => ∃ v, e = .returned v ∧ Rows.headWritesSpec.post enc Try.prog Try.f3 false true false false W args v W' := by
  have hsz := hsz0
  have hval := hval0
  have hW' := hW
  obtain ⟨p, q, hA0, hV, rfl, hfz, hnd⟩ := hW
  have hA : DataW.TrodAll enc Try.prog W 0 (fun _ => true) true Try.f3.params.toList args.toList ds p := hA0
  rw [Try.params3] at hA hval hsz
  obtain ⟨v0, vs0, d0, ds0, p0, q0, hargs, rfl, rfl, h0, r0⟩ := trodAll_cons hA
  obtain ⟨rfl, rfl, rfl⟩ := trodAll_nil r0
  obtain rfl : args = #[v0] := by cases args; simp_all
  obtain ⟨rfl, rfl⟩ := trodVars_none hV
  obtain ⟨cs0, rfl, sz0⟩ := okWide_struct Try.underlying23 (hval 0 23 v0 rfl rfl)
  have m0 := h0
  have lt0 : ∀ x ∈ p0, x.block < W.heap.size := by obtain ⟨m, hm⟩ := m0; exact DataW.trod_lt m _ _ _ hm
  obtain ⟨x0, hk0, g0⟩ := opens_at GHeadWrites.opens23 hsz (j := 0) rfl rfl h0
  obtain e0 := All.k23_open hk0
  have f0 : cs0 = #[.string x0.f0, .string x0.f1, .string x0.f2, .int .i64 x0.f3, .int .i64 x0.f4, .int .i64 x0.f5, .int .i64 x0.f6, .int .i64 x0.f7, .int .u8 x0.f8, .string x0.f9, .string x0.f10] := Array.ext' (by simpa [Value.cells] using e0)
  subst f0
  clear hA0 hval0 hsz0 hsz
  refine (GHeadWrites.walk PuHeadWrites.pure x0 W g0 ).mono fun e W' ⟨he, bel⟩ => ?_
  subst he
  exact ⟨_, rfl, _, _, _, [], _, [], hW', trodAll_mk1 (shut_bool Try.underlying4 _), (trodAll_cons_mk (Below.trod laidOut (by kernel_rfl) (of_decide_eq_true (by kernel_rfl)) m0 bel lt0) trodAll_mk0), rfl, bel.frame _, fun h => by cases h⟩
set_option maxRecDepth 100000 in
theorem lifted (os : Os) (started : os.Started) (H : Type) (enc : TypeId × Value → H) :
    ReturnsInHanded {} Try.checked os 3 .any (Rows.headWritesSpec.pre6 enc Try.prog Try.f3 Rows.headWritesRow.domain false) (Rows.headWritesSpec.post enc Try.prog Try.f3 false true false false) := by
  refine returnsInHanded_of_change_sized (C := Try.checked) own started (by kernel_rfl) Try.func3
    (ChangeSpec.witness6 (enc := enc) (C := Try.checked) false ⟨#[], #[.agg #[.string ByteArray.empty, .string ByteArray.empty, .string ByteArray.empty, .int .i64 0, .int .i64 0, .int .i64 0, .int .i64 0, .int .i64 0, .int .u8 0, .string ByteArray.empty, .string ByteArray.empty]], []⟩ 8 (by kernel_rfl) (by kernel_rfl) (by kernel_rfl) (by kernel_rfl)) ?_
  intro W base args ds gs before hval hW _ hsz _
  exact contract H enc W base args ds gs before hval hW hsz
theorem proved : Rows.HeadWritesSaid :=
  OpenClaim.holds_of_wide 3 Try.f3 rfl rfl rfl rfl rfl rfl rfl ⟨rfl, rfl, rfl, rfl, rfl⟩ rfl rfl rfl rfl rfl (by kernel_rfl) Try.func3 (by kernel_rfl)
    (of_decide_eq_true (by kernel_rfl)) (by unfold Func.isWrapper; first | (rw [if_pos (by decide +kernel)]; kernel_rfl) | (rw [if_neg (by decide +kernel)]; exact ⟨rfl, rfl⟩))
    (fun os started H enc _ => lifted os started H enc)
#print axioms proved
end Go.Proofs.Ytgkofpjeiogafaa.headWrites
namespace Go.Proofs.Ytgkofpjeiogafaa
/-- The row, under a short name, for the claim. -/
theorem headWrites_holds : Rows.HeadWritesSaid := headWrites.proved
end Go.Proofs.Ytgkofpjeiogafaa
end
