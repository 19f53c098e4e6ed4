/- Made by programs of the prover: walks of Go functions, the words that they use, and plain laws, each text in a section of its own; no condition of its own. -/
import Derived.Test.YtcbbcnmifohibaaDoorZFilterRuns2
import Derived.Test.YtcbbcnmifohibaaDoorZFilterRuns6
import Derived.Test.YtcbbcnmifohibaaDoorZFilterRuns8
section
namespace Go.Proofs.YtcbbcnmifohibaaDoor.All
open Go.RowKit Go.Proofs.YtcbbcnmifohibaaDoorW.PrintWords Go.Proofs.YtcbbcnmifohibaaDoorW.PrintLast Go.Proofs.YtcbbcnmifohibaaDoorW.PrintMore
open Go.Proofs.YtcbbcnmifohibaaDoorW.Mine
attribute [local go_sem] gtr_string leq_string geq_string
attribute [local go_sem] max2_int min2_int max_two min_two max_three min_three max_four min_four
set_option linter.unusedVariables false
set_option linter.unusedSimpArgs false
def creelref_TreeCopy.l0 : Nat → List (S45) → List (S45) → Int → Option ((List (S45)))
 | 0, _, _, _ => none
 | k + 1, x0, x3, x4 => if x4 < (x0.length : Int) then (if 0 ≤ x4 then (if x3.length < 977343669134 then ((some (x3 ++ [(⟨(rd_T45 x0 x4).f0, (rd_T45 x0 x4).f1, (rd_T45 x0 x4).f2, (rd_T45 x0 x4).f3, (⟨(rd_T45 x0 x4).f4.f0, (rd_T45 x0 x4).f4.f1, (rd_T45 x0 x4).f4.f2, (rd_T45 x0 x4).f4.f3, (rd_T45 x0 x4).f4.f4, (rd_T45 x0 x4).f4.f5, (rd_T45 x0 x4).f4.f6⟩ : S42), (rd_T45 x0 x4).f5⟩ : S45)] : List (S45))).bind fun y102 => ((some (([] : List Int) : List Int)).bind fun y105 => (if y105.length + ((rd_T45 x0 x4).f5).length < 140737488355328 then (if x4 < (y102.length : Int) then (creelref_TreeCopy.l0 k x0 (y102.set (x4 : Int).toNat (⟨(rd_T45 y102 x4).f0, (rd_T45 y102 x4).f1, (rd_T45 y102 x4).f2, (rd_T45 y102 x4).f3, (⟨(rd_T45 y102 x4).f4.f0, (rd_T45 y102 x4).f4.f1, (rd_T45 y102 x4).f4.f2, (rd_T45 y102 x4).f4.f3, (rd_T45 y102 x4).f4.f4, (rd_T45 y102 x4).f4.f5, (rd_T45 y102 x4).f4.f6⟩ : S42), (y105 ++ ((rd_T45 x0 x4).f5))⟩ : S45)) (wrap64 (x4 + 1))) else (none)) else (none)))) else (none)) else (none)) else (some x3)
def creelref_TreeCopy.f (k : Nat) (l0 : List (S45)) : Option ((List (S45))) := creelref_TreeCopy.l0 k l0 ([] : List (S45)) 0
set_option maxHeartbeats 8000000 in
set_option maxRecDepth 100000 in
theorem creelref_TreeCopy.calls (k : Nat) (P0_ : Nat → Prop) (A0 : Option Addr) (c0 : Nat) (l0 : List (S45)) (r : List (S45)) (w : World) (hs0 : Kd.V k45 45 w w.heap.size (fun k_ => P0_ k_) (.slice A0 l0.length c0) l0) (h : creelref_TreeCopy.f k l0 = some r) :
  Calls Tryd.prog 25 #[.slice A0 l0.length c0] w fun e w' => ∃ v0_ : Value, e = .returned (v0_) ∧ Kd.N k45 45 w' w.heap.size (fun k_ => (P0_ k_ ∨ w.heap.size ≤ k_)) v0_ r ∧ Below w.heap.size w w' := by
 have hu45 := Tryd.underlying45
 have HO0 := Aside0.mk (show Kd.V k45 45 w w.heap.size (fun k_ => (P0_ k_ ∨ w.heap.size ≤ k_)) (.slice A0 l0.length c0) l0 from Kd.V_mono hs0 (fun k_ hk => .inl hk))
 have HB := Aside0.mk (Below.refl w.heap.size w)
 have H : (creelref_TreeCopy.l0 k l0 ([] : List (S45)) 0) = some r := h
 clear h
 have H' := Aside0.mk H
 clear H
 go_enter Tryd.func25, Tryd.ntmps25
 go_wp2
 go_loopg [3, 4] k (fun kq v3 v4 w' => ∃ (x0_1 : List (S45)) (x3_1 : List (S45)) (x4_1 : Int), v4 = .int .i64 x4_1 ∧ Aside0 (creelref_TreeCopy.l0 kq x0_1 x3_1 x4_1 = some r) ∧ Aside0 (kq ≤ k) ∧ Aside0 (Kd.V k45 45 w' w.heap.size (fun k_ => (P0_ k_ ∨ w.heap.size ≤ k_) ∧ some k_ ≠ (v3 : Value).ownBlock) (.slice A0 l0.length c0) x0_1) ∧ Aside0 (Kd.N k45 45 w' w.heap.size (fun k_ => (P0_ k_ ∨ w.heap.size ≤ k_)) v3 x3_1) ∧ Aside0 (Below w.heap.size w w'))
 case atStart => exact ⟨(l0), (([] : List (S45))), (0), (by first | rfl | (simp; done) | (simp [*]; done)), H', ⟨Nat.le_refl _⟩, ⟨by (with_reducible repeat (first | apply Kd.V_alloc | apply Kd.V_drewN | apply Kd.V_drew)); exact Kd.V_mono HO0.out (fun _ hk => ⟨hk, (by simp [Value.ownBlock])⟩)⟩, ⟨by first | exact Kd.S_nil _ _ _ _ _ | exact Kd.N_nil _ _ _ _ _ | exact Kd.V_nil _ _ _ _ _ | exact Kd.Q_nil _ _ _ _ _ | exact Kd.R_nil _ _ _ _ _⟩, ⟨by repeat (first | (with_reducible first | exact HB.out | apply bwA | apply pwbN | apply bw1) | exact HB.out)⟩⟩
 case round =>
  clear H'
  obtain ⟨x0_1, x3_1, x4_1, rfl, HA, HK1, HO_0, HO_3, HB⟩ := hrel
  have hl0_1 := (Kd.V_reads' HO_0.out).1
  rw [hl0_1] at HO_0
  (try simp only [hl0_1])
  (try simp only [hl0_1] at HO_3)
  cases gk with
  | zero => exact absurd HA.out (by simp [creelref_TreeCopy.l0])
  | succ k1 =>
   have H := HA.out
   clear HA
   simp only [creelref_TreeCopy.l0] at H
   by_cases c2 : x4_1 < (x0_1.length : Int)
   ·rw [if_pos c2] at H
    have c2b0 : decide (x4_1 < (x0_1.length : Int)) = true := decide_eq_true c2
    clear c2
    by_cases c3 : 0 ≤ x4_1
    ·rw [if_pos c3] at H
     have c3b0 : decide (0 ≤ x4_1) = true := decide_eq_true c3
     clear c3
     by_cases c4 : x3_1.length < 977343669134
     ·rw [if_pos c4] at H
      have LMc4 := Aside0.mk c4
      clear c4
      obtain ⟨y102, hy102⟩ : ∃ y_ : List (S45), y_ = (x3_1 ++ [(⟨(rd_T45 x0_1 x4_1).f0, (rd_T45 x0_1 x4_1).f1, (rd_T45 x0_1 x4_1).f2, (rd_T45 x0_1 x4_1).f3, (⟨(rd_T45 x0_1 x4_1).f4.f0, (rd_T45 x0_1 x4_1).f4.f1, (rd_T45 x0_1 x4_1).f4.f2, (rd_T45 x0_1 x4_1).f4.f3, (rd_T45 x0_1 x4_1).f4.f4, (rd_T45 x0_1 x4_1).f4.f5, (rd_T45 x0_1 x4_1).f4.f6⟩ : S42), (rd_T45 x0_1 x4_1).f5⟩ : S45)]) := ⟨_, rfl⟩
      replace H : ((some (([] : List Int) : List Int)).bind fun y105 => (if y105.length + ((rd_T45 x0_1 x4_1).f5).length < 140737488355328 then (if x4_1 < (y102.length : Int) then (creelref_TreeCopy.l0 k1 x0_1 (y102.set (x4_1 : Int).toNat (⟨(rd_T45 y102 x4_1).f0, (rd_T45 y102 x4_1).f1, (rd_T45 y102 x4_1).f2, (rd_T45 y102 x4_1).f3, (⟨(rd_T45 y102 x4_1).f4.f0, (rd_T45 y102 x4_1).f4.f1, (rd_T45 y102 x4_1).f4.f2, (rd_T45 y102 x4_1).f4.f3, (rd_T45 y102 x4_1).f4.f4, (rd_T45 y102 x4_1).f4.f5, (rd_T45 y102 x4_1).f4.f6⟩ : S42), (y105 ++ ((rd_T45 x0_1 x4_1).f5))⟩ : S45)) (wrap64 (x4_1 + 1))) else (none)) else (none))) = some r := by first | (rw [hy102]; with_reducible exact H) | (have H2_ := (Option.bind_some _ _).symm.trans H; rw [hy102]; with_reducible exact H2_) | (have H2_ := (Option.bind_some _ _).symm.trans H; with_reducible exact H2_) | with_reducible exact H | (rw [hy102]; exact H) | exact H
      have Ny102 := Aside0.mk hy102
      clear hy102
      obtain ⟨y105, hy105⟩ : ∃ y_ : List Int, y_ = (([] : List Int)) := ⟨_, rfl⟩
      replace H : (if y105.length + ((rd_T45 x0_1 x4_1).f5).length < 140737488355328 then (if x4_1 < (y102.length : Int) then (creelref_TreeCopy.l0 k1 x0_1 (y102.set (x4_1 : Int).toNat (⟨(rd_T45 y102 x4_1).f0, (rd_T45 y102 x4_1).f1, (rd_T45 y102 x4_1).f2, (rd_T45 y102 x4_1).f3, (⟨(rd_T45 y102 x4_1).f4.f0, (rd_T45 y102 x4_1).f4.f1, (rd_T45 y102 x4_1).f4.f2, (rd_T45 y102 x4_1).f4.f3, (rd_T45 y102 x4_1).f4.f4, (rd_T45 y102 x4_1).f4.f5, (rd_T45 y102 x4_1).f4.f6⟩ : S42), (y105 ++ ((rd_T45 x0_1 x4_1).f5))⟩ : S45)) (wrap64 (x4_1 + 1))) else (none)) else (none)) = some r := by first | (rw [hy105]; with_reducible exact H) | (have H2_ := (Option.bind_some _ _).symm.trans H; rw [hy105]; with_reducible exact H2_) | (have H2_ := (Option.bind_some _ _).symm.trans H; with_reducible exact H2_) | with_reducible exact H | (rw [hy105]; exact H) | exact H
      have Ny105 := Aside0.mk hy105
      clear hy105
      by_cases c5 : y105.length + ((rd_T45 x0_1 x4_1).f5).length < 140737488355328
      ·rw [if_pos c5] at H
       have LMc5 := Aside0.mk c5
       clear c5
       obtain ⟨y109, hy109⟩ : ∃ y_ : List Int, y_ = (y105 ++ ((rd_T45 x0_1 x4_1).f5)) := ⟨_, rfl⟩
       replace H : (if x4_1 < (y102.length : Int) then (creelref_TreeCopy.l0 k1 x0_1 (y102.set (x4_1 : Int).toNat (⟨(rd_T45 y102 x4_1).f0, (rd_T45 y102 x4_1).f1, (rd_T45 y102 x4_1).f2, (rd_T45 y102 x4_1).f3, (⟨(rd_T45 y102 x4_1).f4.f0, (rd_T45 y102 x4_1).f4.f1, (rd_T45 y102 x4_1).f4.f2, (rd_T45 y102 x4_1).f4.f3, (rd_T45 y102 x4_1).f4.f4, (rd_T45 y102 x4_1).f4.f5, (rd_T45 y102 x4_1).f4.f6⟩ : S42), y109⟩ : S45)) (wrap64 (x4_1 + 1))) else (none)) = some r := by first | (rw [hy109]; with_reducible exact H) | (have H2_ := (Option.bind_some _ _).symm.trans H; rw [hy109]; with_reducible exact H2_) | (have H2_ := (Option.bind_some _ _).symm.trans H; with_reducible exact H2_) | with_reducible exact H | (rw [hy109]; exact H) | exact H
       have Ny109 := Aside0.mk hy109
       clear hy109
       by_cases c6 : x4_1 < (y102.length : Int)
       ·rw [if_pos c6] at H
        have c6b0 : decide (x4_1 < (y102.length : Int)) = true := decide_eq_true c6
        clear c6
        obtain ⟨y112, hy112⟩ : ∃ y_ : List (S45), y_ = (y102.set (x4_1 : Int).toNat (⟨(rd_T45 y102 x4_1).f0, (rd_T45 y102 x4_1).f1, (rd_T45 y102 x4_1).f2, (rd_T45 y102 x4_1).f3, (⟨(rd_T45 y102 x4_1).f4.f0, (rd_T45 y102 x4_1).f4.f1, (rd_T45 y102 x4_1).f4.f2, (rd_T45 y102 x4_1).f4.f3, (rd_T45 y102 x4_1).f4.f4, (rd_T45 y102 x4_1).f4.f5, (rd_T45 y102 x4_1).f4.f6⟩ : S42), y109⟩ : S45)) := ⟨_, rfl⟩
        replace H : (creelref_TreeCopy.l0 k1 x0_1 y112 (wrap64 (x4_1 + 1))) = some r := by first | (rw [hy112]; with_reducible exact H) | (have H2_ := (Option.bind_some _ _).symm.trans H; rw [hy112]; with_reducible exact H2_) | (have H2_ := (Option.bind_some _ _).symm.trans H; with_reducible exact H2_) | with_reducible exact H | (rw [hy112]; exact H) | exact H
        have Ny112 := Aside0.mk hy112
        clear hy112
        have H' := Aside0.mk H
        clear H
        have p101 : 0 ≤ (x4_1 : Int) := of_decide_eq_true (by first | (with_reducible assumption) | assumption)
        have q101 : x4_1 < (x0_1.length : Int) := of_decide_eq_true (by first | (with_reducible assumption) | assumption)
        obtain ⟨ad101, A101_11, c101_11, e101, hx101_0, hx101_1, hx101_2, hx101_3, hx101_4, hx101_5, hx101_6, hx101_7, hx101_8, hx101_9, hx101_10, hx101_11, hl101_11, hi101_11⟩ := at_T45 (Kd.V_reads' HO_0.out).2.2 x4_1 p101 q101
        cases e101
        obtain ⟨ce101, hce101, hMe101, hcc101⟩ := Kd.V_get HO_0.out z45 x4_1 p101 (by first | exact q101 | exact of_decide_eq_true (by first | (with_reducible assumption) | assumption) | (have e_ := (Kd.V_reads' HO_0.out).1; omega))
        obtain ⟨ua101_11, uc101_11, rfl, ul101_11, ge101_11⟩ := k45_openF hMe101
        have hv101_11 := hcc101 11 _ rfl
        rw [add_field _ _ 11 (by omega)] at hv101_11
        replace hv101_11 := Option.some.inj (hv101_11.symm.trans hx101_11)
        injection hv101_11 with hva_ hvn_ hvc_
        rw [hva_] at ge101_11
        rw [hvc_] at ul101_11
        have HL101_11 := Aside0.mk (show Kd.V (Kd.int .u8) 5 _ w.heap.size _ _ ((rd_T45 x0_1 x4_1).f5) from Kd.V_mk ul101_11 ge101_11)
        clear hva_ hvn_ hvc_ ge101_11 ul101_11
        clear hcc101 hce101
        have HR101_11 := Aside0.mk hi101_11
        have HC101_11 := Aside0.mk hl101_11
        clear hi101_11 hl101_11
        replace p101 := eq_true p101
        replace q101 := eq_true q101
        go_wp2_with (first | ((with_reducible refine gate_builtin (b := .append) (xs := #[.tmp 11, .tmp 16]) rfl ?_); at_builtin; refine Kd.N_append k45 (w0 := w) w.heap.size rfl (.tmp 11) (.tmp 16) 30 45 (.agg #[(.string ⟨#[]⟩), (.int .i64 0), (.int .i64 0), (.string ⟨#[]⟩), (.int .i64 0), (.int .i64 0), (.int .i64 0), (.string ⟨#[]⟩), (.string ⟨#[]⟩), (.int .i64 0), (.int .i64 0), (.slice none 0 0)]) 144 rfl Tryd.underlying30 info45 rfl (by decide) (by omega) u3 x3_1 (⟨(rd_T45 x0_1 x4_1).f0, (rd_T45 x0_1 x4_1).f1, (rd_T45 x0_1 x4_1).f2, (rd_T45 x0_1 x4_1).f3, (⟨(rd_T45 x0_1 x4_1).f4.f0, (rd_T45 x0_1 x4_1).f4.f1, (rd_T45 x0_1 x4_1).f4.f2, (rd_T45 x0_1 x4_1).f4.f3, (rd_T45 x0_1 x4_1).f4.f4, (rd_T45 x0_1 x4_1).f4.f5, (rd_T45 x0_1 x4_1).f4.f6⟩ : S42), (rd_T45 x0_1 x4_1).f5⟩ : S45) [.string ((rd_T45 x0_1 x4_1).f0), .int .i64 ((rd_T45 x0_1 x4_1).f1), .int .i64 ((rd_T45 x0_1 x4_1).f2), .string ((rd_T45 x0_1 x4_1).f3), .int .i64 ((rd_T45 x0_1 x4_1).f4.f0), .int .i64 ((rd_T45 x0_1 x4_1).f4.f1), .int .i64 ((rd_T45 x0_1 x4_1).f4.f2), .string ((rd_T45 x0_1 x4_1).f4.f3), .string ((rd_T45 x0_1 x4_1).f4.f4), .int .i64 ((rd_T45 x0_1 x4_1).f4.f5), .int .i64 ((rd_T45 x0_1 x4_1).f4.f6), .slice A101_11 ((rd_T45 x0_1 x4_1).f5).length c101_11] (fun k_ => (P0_ k_ ∨ w.heap.size ≤ k_)) (fun k_ => ((fun k_ => (P0_ k_ ∨ w.heap.size ≤ k_))) k_ ∧ some k_ ≠ (u3 : Value).ownBlock) rfl rfl ?aP (fun _ hk => hk) ?aF ?aO ?aB ?aS ?aL ?_; (case aP => exact (k45_mkF _ _ (⟨(rd_T45 x0_1 x4_1).f0, (rd_T45 x0_1 x4_1).f1, (rd_T45 x0_1 x4_1).f2, (rd_T45 x0_1 x4_1).f3, (⟨(rd_T45 x0_1 x4_1).f4.f0, (rd_T45 x0_1 x4_1).f4.f1, (rd_T45 x0_1 x4_1).f4.f2, (rd_T45 x0_1 x4_1).f4.f3, (rd_T45 x0_1 x4_1).f4.f4, (rd_T45 x0_1 x4_1).f4.f5, (rd_T45 x0_1 x4_1).f4.f6⟩ : S42), (rd_T45 x0_1 x4_1).f5⟩ : S45) (Kd.V_reads' (Kd.V_mono (ok' := (fun k_ => ((fun k_ => (P0_ k_ ∨ w.heap.size ≤ k_))) k_ ∧ some k_ ≠ (u3 : Value).ownBlock)) (HL101_11.out) (fun k_ hk => ⟨hk.1, hk.2⟩))).2.1 (Kd.V_F (Kd.V_mono (ok' := (fun k_ => ((fun k_ => (P0_ k_ ∨ w.heap.size ≤ k_))) k_ ∧ some k_ ≠ (u3 : Value).ownBlock)) (HL101_11.out) (fun k_ hk => ⟨hk.1, hk.2⟩))))); (case aB => exact (by repeat (first | (with_reducible first | exact HB.out | apply bwA | apply pwbN | apply bw1) | exact HB.out))); (case aF => exact (fun k_ hk => (.inr (Nat.le_trans (below_size (by repeat (first | (with_reducible first | exact HB.out | apply bwA | apply pwbN | apply bw1) | exact HB.out))) hk)))); (case aO => exact (by (with_reducible repeat (first | apply Kd.N_alloc | apply Kd.N_drewN | apply Kd.N_drew)); exact HO_3.out)); (case aS => exact (below_size (by repeat (first | (with_reducible first | exact HB.out | apply bwA | apply pwbN | apply bw1) | exact HB.out)))); (case aL => have := LMc4.out; omega); intro v103 w8 ho hb hg hat; rw [← Ny102.out] at ho; have n0_ := Aside0.mk (Kd.V_afterv (ok := (fun k_ => (P0_ k_ ∨ w.heap.size ≤ k_))) (by (with_reducible repeat (first | apply Kd.V_alloc | apply Kd.V_drewN | apply Kd.V_drew)); exact HO_0.out) hg hat); have n1_ := Aside0.mk (Kd.V_afterv (ok := (fun k_ => (P0_ k_ ∨ w.heap.size ≤ k_))) (by (with_reducible repeat (first | apply Kd.V_alloc | apply Kd.V_drewN | apply Kd.V_drew)); exact HL101_11.out) hg hat); have n2_ := Aside0.mk (hb); have n3_ := Aside0.mk (ho); clear HO_0; clear HL101_11; clear HB; clear HO_3; have HO_0 := n0_; have HL101_11 := n1_; have HB := n2_; have HO104 := n3_; clear n0_ n1_ n2_ n3_; clear ho hb hg hat) | ((with_reducible refine gate_dst (N := 20) rfl ?_); refine Kd.R_lit (Kd.int .u8) _ 5 ?hg (N := 20) ?hd (xs := ([] : List Int)) (inner := []) (ok := fun _ => True) (okp := fun _ => True) ?hr ?hp (fun _ hk => hk) trivial (Below.refl _ _) (Nat.le_refl _) (by simp) ?_; (case hd => rfl); (case hg => rfl); (case hr => first | (go_simp; done) | (go_simp; rfl)); (case hp => exact (Reps.none _ _)); intro v106 w9 ho10 hb hg_ hnew_; clear hg_ hnew_; (first | rw [← Ny105.out] at ho10 | (simp only [Int.reduceToNat] at ho10; rw [← Ny105.out] at ho10)); have n0_ := Aside0.mk (Kd.V_elder' (by (with_reducible repeat (first | apply Kd.V_alloc | apply Kd.V_drewN | apply Kd.V_drew)); exact HO_0.out) (Kd.R_base ho10) hb); have n1_ := Aside0.mk (Kd.V_elder' (by (with_reducible repeat (first | apply Kd.V_alloc | apply Kd.V_drewN | apply Kd.V_drew)); exact HL101_11.out) (Kd.R_base ho10) hb); have n2_ := Aside0.mk (Kd.N_elder' (by (with_reducible repeat (first | apply Kd.N_alloc | apply Kd.N_drewN | apply Kd.N_drew)); exact HO104.out) (Kd.R_base ho10) hb); have n3_ := Aside0.mk (Kd.R_lower (Kd.R_newM (M := fun k_ => (w.heap.size ≤ k_)) ho10 (below_size (by repeat (first | (with_reducible first | exact HB.out | apply bwA | apply pwbN | apply bw1) | exact HB.out))) (fun k_ h_ => h_)) (below_size (by repeat (first | (with_reducible first | exact HB.out | apply bwA | apply pwbN | apply bw1) | exact HB.out)))); have n4_ := Aside0.mk (below_step (by repeat (first | (with_reducible first | exact HB.out | apply bwA | apply pwbN | apply bw1) | exact HB.out)) hb); clear HO_0; clear HL101_11; clear HO104; clear HB; have HO_0 := n0_; have HL101_11 := n1_; have HO104 := n2_; have HO107 := n3_; have HB := n4_; clear n0_ n1_ n2_ n3_ n4_; clear hb ho10; have p108 : 0 ≤ (x4_1 : Int) := of_decide_eq_true (by first | (with_reducible assumption) | assumption); have q108 : x4_1 < (x0_1.length : Int) := of_decide_eq_true (by first | (with_reducible assumption) | assumption); obtain ⟨ad108, A108_11, c108_11, e108, hx108_0, hx108_1, hx108_2, hx108_3, hx108_4, hx108_5, hx108_6, hx108_7, hx108_8, hx108_9, hx108_10, hx108_11, hl108_11, hi108_11⟩ := at_T45 (Kd.V_reads' HO_0.out).2.2 x4_1 p108 q108; obtain rfl : ad101 = ad108 := (by injection e108); obtain ⟨ce108, hce108, hMe108, hcc108⟩ := Kd.V_get HO_0.out z45 x4_1 p108 (by first | exact q108 | exact of_decide_eq_true (by first | (with_reducible assumption) | assumption) | (have e_ := (Kd.V_reads' HO_0.out).1; omega)); obtain ⟨ua108_11, uc108_11, rfl, ul108_11, ge108_11⟩ := k45_openF hMe108; have hv108_11 := hcc108 11 _ rfl; rw [add_field _ _ 11 (by omega)] at hv108_11; replace hv108_11 := Option.some.inj (hv108_11.symm.trans hx108_11); injection hv108_11 with hva_ hvn_ hvc_; rw [hva_] at ge108_11; rw [hvc_] at ul108_11; have HL108_11 := Aside0.mk (show Kd.V (Kd.int .u8) 5 _ w.heap.size _ _ ((rd_T45 x0_1 x4_1).f5) from Kd.V_mk ul108_11 ge108_11); clear hva_ hvn_ hvc_ ge108_11 ul108_11; clear hcc108 hce108; have HR108_11 := Aside0.mk hi108_11; have HC108_11 := Aside0.mk hl108_11; clear hi108_11 hl108_11; replace p108 := eq_true p108; replace q108 := eq_true q108) | ((with_reducible refine gate_builtin (b := .append) (xs := #[.tmp 20, .tmp 25]) rfl ?_); at_builtin; refine Kd.R_append_rows (Kd.int .u8) (w0 := w) w.heap.size rfl (.tmp 20) (.tmp 25) 43 5 (.int .u8 0) 1 rfl Tryd.underlying43 info5 rfl (by decide) (by omega) v106 y105 ((rd_T45 x0_1 x4_1).f5) _ _ _ (fun k_ => (w.heap.size ≤ k_)) (fun _ => False) rfl rfl ?aO ?aR (fun _ _ h => h) (fun _ h => h.elim) ?aF ?aB ?aS ?aL ?_; (case aR => repeat (first | exact (by repeat (first | (with_reducible exact HR108_11.out) | (with_reducible refine Kd.C_alloc ?_ _) | (with_reducible refine Kd.C_drewN ?_ _) | (with_reducible refine Kd.C_drew ?_) | exact HR108_11.out)) | (with_reducible refine Kd.C_alloc ?_ _) | (with_reducible refine Kd.C_drewN ?_ _) | (with_reducible refine Kd.C_drew ?_))); (case aB => exact (by repeat (first | (with_reducible first | exact HB.out | apply bwA | apply pwbN | apply bw1) | exact HB.out))); (case aF => exact (fun k_ hk => (Nat.le_trans (below_size (by repeat (first | (with_reducible first | exact HB.out | apply bwA | apply pwbN | apply bw1) | exact HB.out))) hk))); (case aO => exact (by (with_reducible repeat (first | apply Kd.R_alloc | apply Kd.R_drewN | apply Kd.R_drew)); exact Kd.R_mono HO107.out (fun _ hk => hk.1))); (case aS => exact (below_size (by repeat (first | (with_reducible first | exact HB.out | apply bwA | apply pwbN | apply bw1) | exact HB.out)))); (case aL => have := LMc5.out; omega); intro v110 w11 ho hb hg hat; rw [← Ny109.out] at ho; have n0_ := Aside0.mk (Kd.V_afterv (ok := (fun k_ => (P0_ k_ ∨ w.heap.size ≤ k_) ∧ some k_ ≠ (v103 : Value).ownBlock)) (by (with_reducible repeat (first | apply Kd.V_alloc | apply Kd.V_drewN | apply Kd.V_drew)); exact HO_0.out) hg hat); have n1_ := Aside0.mk (Kd.V_afterv (ok := (fun k_ => (P0_ k_ ∨ w.heap.size ≤ k_) ∧ some k_ ≠ (v103 : Value).ownBlock)) (by (with_reducible repeat (first | apply Kd.V_alloc | apply Kd.V_drewN | apply Kd.V_drew)); exact HL101_11.out) hg hat); have n2_ := Aside0.mk (Kd.N_afterv (ok := (fun k_ => (P0_ k_ ∨ w.heap.size ≤ k_))) (by (with_reducible repeat (first | apply Kd.N_alloc | apply Kd.N_drewN | apply Kd.N_drew)); exact HO104.out) hg hat); have n3_ := Aside0.mk (Kd.V_afterv (ok := (fun k_ => (P0_ k_ ∨ w.heap.size ≤ k_) ∧ some k_ ≠ (v103 : Value).ownBlock)) (by (with_reducible repeat (first | apply Kd.V_alloc | apply Kd.V_drewN | apply Kd.V_drew)); exact HL108_11.out) hg hat); have n4_ := Aside0.mk (hb); have n5_ := Aside0.mk (ho); clear HO_0; clear HL101_11; clear HO104; clear HL108_11; clear HB; clear HO107; have HO_0 := n0_; have HL101_11 := n1_; have HO104 := n2_; have HL108_11 := n3_; have HB := n4_; have HO111 := n5_; clear n0_ n1_ n2_ n3_ n4_ n5_; clear ho hb hg hat; obtain ⟨Ao_v110, co_v110, eo_v110⟩ := Kd.R_slice HO111.out; subst eo_v110; have p7 : 0 ≤ (x4_1 : Int) := of_decide_eq_true (by first | (with_reducible assumption) | assumption); have q7 : (x4_1 : Int) < ((y102.length : Int) : Int) := of_decide_eq_true (by first | (with_reducible assumption) | assumption); obtain ⟨go7, co7, eo7, gb7, gl7, cl7, HG7⟩ := Kd.N_form HO104.out (by omega); (first | cases eo7 | (injection eo7 with ea_ en_ ec_; (first | subst ea_ | (injection ea_ with ea_; subst ea_)); subst ec_; clear en_)); have GB7 := Aside0.mk gb7; have GG7 := Aside0.mk HG7; clear gb7 gl7 HG7; obtain ⟨ce7, hcl7, hM7, hcc7, hfr7⟩ := Kd.N_elem HO104.out z45 (x4_1 : Int) p7 q7; obtain ⟨ua7_11, uc7_11, rfl, ul7_11, ge7_11⟩ := k45_openF hM7; have hx7_0 : w11.cell? ⟨go7, (x4_1 : Int).toNat * 12, none⟩ = some (.string ((rd_T45 y102 x4_1).f0)) := hcc7 0 _ rfl; have hx7_1 : w11.cell? ⟨go7, (x4_1 : Int).toNat * 12 + 1, none⟩ = some (.int .i64 ((rd_T45 y102 x4_1).f1)) := hcc7 1 _ rfl; have hx7_2 : w11.cell? ⟨go7, (x4_1 : Int).toNat * 12 + 2, none⟩ = some (.int .i64 ((rd_T45 y102 x4_1).f2)) := hcc7 2 _ rfl; have hx7_3 : w11.cell? ⟨go7, (x4_1 : Int).toNat * 12 + 3, none⟩ = some (.string ((rd_T45 y102 x4_1).f3)) := hcc7 3 _ rfl; have hx7_4 : w11.cell? ⟨go7, (x4_1 : Int).toNat * 12 + 4, none⟩ = some (.int .i64 ((rd_T45 y102 x4_1).f4.f0)) := hcc7 4 _ rfl; have hx7_5 : w11.cell? ⟨go7, (x4_1 : Int).toNat * 12 + 5, none⟩ = some (.int .i64 ((rd_T45 y102 x4_1).f4.f1)) := hcc7 5 _ rfl; have hx7_6 : w11.cell? ⟨go7, (x4_1 : Int).toNat * 12 + 6, none⟩ = some (.int .i64 ((rd_T45 y102 x4_1).f4.f2)) := hcc7 6 _ rfl; have hx7_7 : w11.cell? ⟨go7, (x4_1 : Int).toNat * 12 + 7, none⟩ = some (.string ((rd_T45 y102 x4_1).f4.f3)) := hcc7 7 _ rfl; have hx7_8 : w11.cell? ⟨go7, (x4_1 : Int).toNat * 12 + 8, none⟩ = some (.string ((rd_T45 y102 x4_1).f4.f4)) := hcc7 8 _ rfl; have hx7_9 : w11.cell? ⟨go7, (x4_1 : Int).toNat * 12 + 9, none⟩ = some (.int .i64 ((rd_T45 y102 x4_1).f4.f5)) := hcc7 9 _ rfl; have hx7_10 : w11.cell? ⟨go7, (x4_1 : Int).toNat * 12 + 10, none⟩ = some (.int .i64 ((rd_T45 y102 x4_1).f4.f6)) := hcc7 10 _ rfl; have hx7_11 : w11.cell? ⟨go7, (x4_1 : Int).toNat * 12 + 11, none⟩ = some (.slice ua7_11 ((rd_T45 y102 x4_1).f5).length uc7_11) := hcc7 11 _ rfl; have hf7_0 : w11.frozen? ⟨go7, (x4_1 : Int).toNat * 12, none⟩ = false := hfr7 0; have hf7_1 : w11.frozen? ⟨go7, (x4_1 : Int).toNat * 12 + 1, none⟩ = false := hfr7 1; have hf7_2 : w11.frozen? ⟨go7, (x4_1 : Int).toNat * 12 + 2, none⟩ = false := hfr7 2; have hf7_3 : w11.frozen? ⟨go7, (x4_1 : Int).toNat * 12 + 3, none⟩ = false := hfr7 3; have hf7_4 : w11.frozen? ⟨go7, (x4_1 : Int).toNat * 12 + 4, none⟩ = false := hfr7 4; have hf7_5 : w11.frozen? ⟨go7, (x4_1 : Int).toNat * 12 + 5, none⟩ = false := hfr7 5; have hf7_6 : w11.frozen? ⟨go7, (x4_1 : Int).toNat * 12 + 6, none⟩ = false := hfr7 6; have hf7_7 : w11.frozen? ⟨go7, (x4_1 : Int).toNat * 12 + 7, none⟩ = false := hfr7 7; have hf7_8 : w11.frozen? ⟨go7, (x4_1 : Int).toNat * 12 + 8, none⟩ = false := hfr7 8; have hf7_9 : w11.frozen? ⟨go7, (x4_1 : Int).toNat * 12 + 9, none⟩ = false := hfr7 9; have hf7_10 : w11.frozen? ⟨go7, (x4_1 : Int).toNat * 12 + 10, none⟩ = false := hfr7 10; have hf7_11 : w11.frozen? ⟨go7, (x4_1 : Int).toNat * 12 + 11, none⟩ = false := hfr7 11; clear hcl7 hcc7 hfr7 hM7; replace p7 := eq_true p7; replace q7 := eq_true q7; have HX12 := Aside0.mk (show Kd.N k45 45 w11 w.heap.size (fun k_ => (P0_ k_ ∨ w.heap.size ≤ k_)) (.slice (some ⟨go7, 0, none⟩) y102.length co7) y102 from (by (with_reducible repeat (first | apply Kd.N_alloc | apply Kd.N_drewN | apply Kd.N_drew)); exact Kd.N_mono HO104.out (fun _ hk => hk.1))); obtain ⟨ce12, hcl12, hM12, hcc12, hfr12⟩ := Kd.N_elem HX12.out z45 (x4_1 : Int) (of_decide_eq_true (by first | (with_reducible assumption) | assumption)) (by have h_ : (x4_1 : Int) < ((y102.length : Int) : Int) := of_decide_eq_true (by first | (with_reducible assumption) | assumption); first | exact h_ | (have e_ := (Kd.N_reads' HO104.out).1; omega) | simpa using h_); obtain ⟨ua12_11, uc12_11, rfl, ul12_11, ge12_11⟩ := k45_openF hM12; have HP12 := Kd.N_seg HX12.out (x4_1 : Int) (of_decide_eq_true (by first | (with_reducible assumption) | assumption)) (by have h_ : (x4_1 : Int) < ((y102.length : Int) : Int) := of_decide_eq_true (by first | (with_reducible assumption) | assumption); first | exact h_ | (have e_ := (Kd.N_reads' HO104.out).1; omega) | simpa using h_) (seg := [(.slice Ao_v110 y109.length co_v110)]) (j := 11) hcl12 hcc12 (show 12 ≤ 12 from by decide) (x' := (⟨(rd_T45 y102 x4_1).f0, (rd_T45 y102 x4_1).f1, (rd_T45 y102 x4_1).f2, (rd_T45 y102 x4_1).f3, (⟨(rd_T45 y102 x4_1).f4.f0, (rd_T45 y102 x4_1).f4.f1, (rd_T45 y102 x4_1).f4.f2, (rd_T45 y102 x4_1).f4.f3, (rd_T45 y102 x4_1).f4.f4, (rd_T45 y102 x4_1).f4.f5, (rd_T45 y102 x4_1).f4.f6⟩ : S42), y109⟩ : S45)) (k45_mkF _ _ (⟨(rd_T45 y102 x4_1).f0, (rd_T45 y102 x4_1).f1, (rd_T45 y102 x4_1).f2, (rd_T45 y102 x4_1).f3, (⟨(rd_T45 y102 x4_1).f4.f0, (rd_T45 y102 x4_1).f4.f1, (rd_T45 y102 x4_1).f4.f2, (rd_T45 y102 x4_1).f4.f3, (rd_T45 y102 x4_1).f4.f4, (rd_T45 y102 x4_1).f4.f5, (rd_T45 y102 x4_1).f4.f6⟩ : S42), y109⟩ : S45) (Kd.R_reads' (Kd.R_mono (ok' := (fun k_ => ((fun k_ => (P0_ k_ ∨ w.heap.size ≤ k_))) k_ ∧ k_ ≠ go7)) (Kd.R_apart' (HO111.out) (Kd.N_typed HO104.out) (by decide)) (fun k_ hk => ⟨(.inr (hk.1)), fun e_ => (hk.2) (by rw [e_]; rfl)⟩))).2.1 (Kd.R_F (Kd.R_mono (ok' := (fun k_ => ((fun k_ => (P0_ k_ ∨ w.heap.size ≤ k_))) k_ ∧ k_ ≠ go7)) (Kd.R_apart' (HO111.out) (Kd.N_typed HO104.out) (by decide)) (fun k_ hk => ⟨(.inr (hk.1)), fun e_ => (hk.2) (by rw [e_]; rfl)⟩)))) (fun _ hk => hk); have hx12_11 := hcc12 11 _ rfl; (try simp only [show (k45).sz = 12 from rfl, Nat.mul_one, Nat.add_zero] at hx12_11); have hf12_11 := hfr12 11; (try simp only [show (k45).sz = 12 from rfl, Nat.mul_one, Nat.add_zero] at hf12_11); clear hcl12 hcc12 hfr12 hM12) | ((with_reducible refine gate_store (t := 43) (p := 28) rfl ?_); refine store_event (t := 43) (p := 28) (v := ?vo_w13) (w1 := (w11.setCell ⟨go7, (x4_1 : Int).toNat * 12 + 11, none⟩ ((.slice Ao_v110 y109.length co_v110)))) ?hg ?ho ?hn ?hr ?_; (case ho => rfl); (case hg => rfl); (case hn => rfl); (case hr => first | (go_simp; done) | (go_simp; rfl)); intro w13 hw; have hg : w11.grownBy w13 (some go7) := (by rw [hw]; exact HP12.2); have hp_ : Kd.N k45 45 w13 w.heap.size (fun k_ => (P0_ k_ ∨ w.heap.size ≤ k_)) (.slice (some ⟨go7, 0, none⟩) y102.length co7) y112 := (by rw [hw, Ny112.out]; exact HP12.1); clear HP12; have n0_ := Aside0.mk (Kd.V_afterv (v := (.slice (some ⟨go7, 0, none⟩) y102.length co7)) (v1 := (.slice (some ⟨go7, 0, none⟩) y102.length co7)) (ok := (fun k_ => (P0_ k_ ∨ w.heap.size ≤ k_) ∧ some k_ ≠ ((.slice Ao_v110 y109.length co_v110) : Value).ownBlock)) (by (with_reducible repeat (first | apply Kd.V_alloc | apply Kd.V_drewN | apply Kd.V_drew)); exact Kd.V_mono HO_0.out (fun _ hk => ⟨⟨hk.1.1, hk.2⟩, hk.1.2⟩)) hg (.inl rfl)); have n1_ := Aside0.mk (Kd.V_afterv (v := (.slice (some ⟨go7, 0, none⟩) y102.length co7)) (v1 := (.slice (some ⟨go7, 0, none⟩) y102.length co7)) (ok := (fun k_ => (P0_ k_ ∨ w.heap.size ≤ k_) ∧ some k_ ≠ ((.slice Ao_v110 y109.length co_v110) : Value).ownBlock)) (by (with_reducible repeat (first | apply Kd.V_alloc | apply Kd.V_drewN | apply Kd.V_drew)); exact Kd.V_mono HL101_11.out (fun _ hk => ⟨⟨hk.1.1, hk.2⟩, hk.1.2⟩)) hg (.inl rfl)); have n2_ := Aside0.mk (hp_); have n3_ := Aside0.mk (Kd.V_afterv (v := (.slice (some ⟨go7, 0, none⟩) y102.length co7)) (v1 := (.slice (some ⟨go7, 0, none⟩) y102.length co7)) (ok := (fun k_ => (P0_ k_ ∨ w.heap.size ≤ k_) ∧ some k_ ≠ ((.slice Ao_v110 y109.length co_v110) : Value).ownBlock)) (by (with_reducible repeat (first | apply Kd.V_alloc | apply Kd.V_drewN | apply Kd.V_drew)); exact Kd.V_mono HL108_11.out (fun _ hk => ⟨⟨hk.1.1, hk.2⟩, hk.1.2⟩)) hg (.inl rfl)); have n4_ := Aside0.mk ((by rw [hw]; exact below_set (HB.out) GB7.out : Below w.heap.size w w13)); clear HO_0; clear HL101_11; clear HO104; clear HL108_11; clear HB; clear HO111; have HO_0 := n0_; have HL101_11 := n1_; have HO104 := n2_; have HL108_11 := n3_; have HB := n4_; clear n0_ n1_ n2_ n3_ n4_; clear hg hw hp_))
        (try simp only [← hl0_1])
        go_roundg k1
        case measure => have := HK1.out; omega
        case rel => exact ⟨(x0_1), (y112), (wrap64 (x4_1 + 1)), (by first | rfl | (simp; done) | (simp [*]; done)), H', ⟨by have := HK1.out; omega⟩, ⟨by (try simp only [hl0_1]); (with_reducible repeat (first | apply Kd.V_alloc | apply Kd.V_drewN | apply Kd.V_drew)); exact Kd.V_mono HO_0.out (fun _ hk => ⟨hk.1.1, hk.2⟩)⟩, ⟨by (try simp only [hl0_1]); (with_reducible repeat (first | apply Kd.N_alloc | apply Kd.N_drewN | apply Kd.N_drew)); exact HO104.out⟩, ⟨by repeat (first | (with_reducible first | exact HB.out | apply bwA | apply pwbN | apply bw1) | exact HB.out)⟩⟩
       ·rw [if_neg c6] at H
        exact absurd H (by simp)
      ·rw [if_neg c5] at H
       exact absurd H (by simp)
     ·rw [if_neg c4] at H
      exact absurd H (by simp)
    ·rw [if_neg c3] at H
     exact absurd H (by simp)
   ·rw [if_neg c2] at H
    have c2b0 : decide (x4_1 < (x0_1.length : Int)) = false := decide_eq_false c2
    clear c2
    obtain rfl := Option.some.inj H
    go_wp2
    go_ret
    exact ⟨_, by first | rfl | (simp [errW_none, errW_some] <;> rfl) | (simp [*, errW_none, errW_some] <;> rfl), by (with_reducible repeat (first | apply Kd.N_alloc | apply Kd.N_drewN | apply Kd.N_drew)); exact HO_3.out, by repeat (first | (with_reducible first | exact HB.out | apply bwA | apply pwbN | apply bw1) | exact HB.out)⟩
def creelref_PathSplit.l0 : Nat → List ByteArray → ByteArray → Int → Option (ByteArray × ByteArray)
 | 0, _, _, _ => none
 | k + 1, x4, x5, x6 => if x6 < (wrap64 ((x4.length : Int) - 1)) then (if x6 > 0 then (if x5.size + 1 ≤ 9223372036854775807 then (if 0 ≤ x6 then (if x6 < (x4.length : Int) then (if (x5 ++ (⟨#[47]⟩ : ByteArray)).size + (rdOf ByteArray.empty x4 x6).size ≤ 9223372036854775807 then (creelref_PathSplit.l0 k x4 ((x5 ++ (⟨#[47]⟩ : ByteArray)) ++ (rdOf ByteArray.empty x4 x6)) (wrap64 (x6 + 1))) else (none)) else (none)) else (none)) else (none)) else (if 0 ≤ x6 then (if x6 < (x4.length : Int) then (if x5.size + (rdOf ByteArray.empty x4 x6).size ≤ 9223372036854775807 then (creelref_PathSplit.l0 k x4 (x5 ++ (rdOf ByteArray.empty x4 x6)) (wrap64 (x6 + 1))) else (none)) else (none)) else (none))) else (if 0 ≤ (wrap64 ((x4.length : Int) - 1)) then (if (wrap64 ((x4.length : Int) - 1)) < (x4.length : Int) then (some (x5, rdOf ByteArray.empty x4 (wrap64 ((x4.length : Int) - 1)))) else (none)) else (none))
def creelref_PathSplit.f (k : Nat) (a0 : ByteArray) : Option (ByteArray × ByteArray) := (creelref_parts.f k a0 47).bind fun t101 => (creelref_PathSplit.l0 k t101 (⟨#[]⟩ : ByteArray) 0)
set_option maxHeartbeats 8000000 in
set_option maxRecDepth 100000 in
theorem creelref_PathSplit.calls (k : Nat) (a0 : ByteArray) (r1 : ByteArray) (r2 : ByteArray) (w : World) (h : creelref_PathSplit.f k a0 = some (r1, r2)) :
  Calls Tryd.prog 44 #[.string a0] w fun e w' => e = .returned (.tuple #[.string r1, .string r2]) ∧ Below w.heap.size w w' := by
 have HB := Aside0.mk (Below.refl w.heap.size w)
 have H : ((creelref_parts.f k a0 47).bind fun t101 => (creelref_PathSplit.l0 k t101 (⟨#[]⟩ : ByteArray) 0)) = some (r1, r2) := h
 clear h
 replace H := Option.bind_eq_some_iff.mp H
 obtain ⟨t101, A20, H⟩ := H
 replace H : (creelref_PathSplit.l0 k t101 (⟨#[]⟩ : ByteArray) 0) = some (r1, r2) := H
 have A2 := Aside0.mk A20
 clear A20
 have H' := Aside0.mk H
 clear H
 go_enter Tryd.func44, Tryd.ntmps44
 go_wp2_with (first | (go_at_call 33; (with_reducible refine (creelref_parts.calls k a0 47 t101 _ A2.out).mono ?_); rintro e w3 ⟨v102, rfl, ho0, hb⟩; have n0_ := Aside0.mk (Kd.R_lower ho0 (below_size (by repeat (first | (with_reducible first | exact HB.out | apply bwA | apply pwbN | apply bw1) | exact HB.out)))); have n1_ := Aside0.mk (below_step (by repeat (first | (with_reducible first | exact HB.out | apply bwA | apply pwbN | apply bw1) | exact HB.out)) hb); clear HB; have HO103 := n0_; have HB := n1_; clear n0_ n1_; (try clear hb); (try clear hb2); (try clear hk); (try clear hi); (try clear ho0)))
 repeat (go_quiet (first | (go_at_call 33; (with_reducible refine (creelref_parts.calls k a0 47 t101 _ A2.out).mono ?_); rintro e w3 ⟨v102, rfl, ho0, hb⟩; have n0_ := Aside0.mk (Kd.R_lower ho0 (below_size (by repeat (first | (with_reducible first | exact HB.out | apply bwA | apply pwbN | apply bw1) | exact HB.out)))); have n1_ := Aside0.mk (below_step (by repeat (first | (with_reducible first | exact HB.out | apply bwA | apply pwbN | apply bw1) | exact HB.out)) hb); clear HB; have HO103 := n0_; have HB := n1_; clear n0_ n1_; (try clear hb); (try clear hb2); (try clear hk); (try clear hi); (try clear ho0))); try go_wp2_with (first | (go_at_call 33; (with_reducible refine (creelref_parts.calls k a0 47 t101 _ A2.out).mono ?_); rintro e w3 ⟨v102, rfl, ho0, hb⟩; have n0_ := Aside0.mk (Kd.R_lower ho0 (below_size (by repeat (first | (with_reducible first | exact HB.out | apply bwA | apply pwbN | apply bw1) | exact HB.out)))); have n1_ := Aside0.mk (below_step (by repeat (first | (with_reducible first | exact HB.out | apply bwA | apply pwbN | apply bw1) | exact HB.out)) hb); clear HB; have HO103 := n0_; have HB := n1_; clear n0_ n1_; (try clear hb); (try clear hb2); (try clear hk); (try clear hi); (try clear ho0))))
 go_loopg [5, 6] k (fun kq v5 v6 w' => ∃ (x5_1 : ByteArray) (x6_1 : Int), v5 = .string x5_1 ∧ v6 = .int .i64 x6_1 ∧ Aside0 (creelref_PathSplit.l0 kq t101 x5_1 x6_1 = some (r1, r2)) ∧ Aside0 (kq ≤ k) ∧ Aside0 (Kd.R Kd.string 9 w' w.heap.size (fun _ => True) v102 t101) ∧ Aside0 (Below w.heap.size w w'))
 case atStart => exact ⟨((⟨#[]⟩ : ByteArray)), (0), (by first | rfl | (simp; done) | (simp [*]; done)), (by first | rfl | (simp; done) | (simp [*]; done)), H', ⟨Nat.le_refl _⟩, ⟨by (with_reducible repeat (first | apply Kd.R_alloc | apply Kd.R_drewN | apply Kd.R_drew)); exact HO103.out⟩, ⟨by repeat (first | (with_reducible first | exact HB.out | apply bwA | apply pwbN | apply bw1) | exact HB.out)⟩⟩
 case round =>
  clear H'
  try clear p2
  obtain ⟨x5_1, x6_1, rfl, rfl, HA, HK1, HO_4, HB⟩ := hrel
  cases gk with
  | zero => exact absurd HA.out (by simp [creelref_PathSplit.l0])
  | succ k1 =>
   have H := HA.out
   clear HA
   simp only [creelref_PathSplit.l0] at H
   by_cases c4 : x6_1 < (wrap64 ((t101.length : Int) - 1))
   ·rw [if_pos c4] at H
    have c4b0 : decide (x6_1 < (wrap64 ((t101.length : Int) - 1))) = true := decide_eq_true c4
    clear c4
    by_cases c5 : x6_1 > 0
    ·rw [if_pos c5] at H
     have c5b0 : decide (0 < x6_1) = true := decide_eq_true c5
     clear c5
     by_cases c6 : x5_1.size + 1 ≤ 9223372036854775807
     ·rw [if_pos c6] at H
      have c6b0 := eq_true c6
      have c6b1 : decide (x5_1.size + 1 ≤ 9223372036854775807) = true := decide_eq_true c6
      try have c6b2 : (9223372036854775807 < x5_1.size + 1) = False := eq_false (Nat.not_lt.2 c6)
      by_cases c7 : 0 ≤ x6_1
      ·rw [if_pos c7] at H
       have c7b0 : decide (0 ≤ x6_1) = true := decide_eq_true c7
       clear c7
       by_cases c8 : x6_1 < (t101.length : Int)
       ·rw [if_pos c8] at H
        have c8b0 : decide (x6_1 < (t101.length : Int)) = true := decide_eq_true c8
        clear c8
        by_cases c9 : (x5_1 ++ (⟨#[47]⟩ : ByteArray)).size + (rdOf ByteArray.empty t101 x6_1).size ≤ 9223372036854775807
        ·rw [if_pos c9] at H
         have c9b0 := eq_true c9
         have c9b1 : decide ((x5_1 ++ (⟨#[47]⟩ : ByteArray)).size + (rdOf ByteArray.empty t101 x6_1).size ≤ 9223372036854775807) = true := decide_eq_true c9
         try have c9b2 : (9223372036854775807 < (x5_1 ++ (⟨#[47]⟩ : ByteArray)).size + (rdOf ByteArray.empty t101 x6_1).size) = False := eq_false (Nat.not_lt.2 c9)
         have H' := Aside0.mk H
         clear H
         obtain ⟨Ao10, co10, eo10⟩ := Kd.R_slice HO_4.out
         subst eo10
         have p104 : 0 ≤ (x6_1 : Int) := of_decide_eq_true (by first | (with_reducible assumption) | assumption)
         have q104 : x6_1 < (t101.length : Int) := of_decide_eq_true (by first | (with_reducible assumption) | assumption)
         obtain ⟨ad104, e104, hx104_0⟩ := Kd.at_string (Kd.R_reads' HO_4.out).2.2 x6_1 p104 q104
         cases e104
         replace p104 := eq_true p104
         replace q104 := eq_true q104
         go_wp2
         repeat (go_quiet (fail); try go_wp2)
         go_roundg k1
         case measure => have := HK1.out; omega
         case rel => exact ⟨((x5_1 ++ (⟨#[47]⟩ : ByteArray)) ++ (rdOf ByteArray.empty t101 x6_1)), (wrap64 (x6_1 + 1)), (by first | rfl | (simp; done) | (simp [*]; done)), (by first | rfl | (simp; done) | (simp [*]; done)), H', ⟨by have := HK1.out; omega⟩, ⟨by (with_reducible repeat (first | apply Kd.R_alloc | apply Kd.R_drewN | apply Kd.R_drew)); exact HO_4.out⟩, ⟨by repeat (first | (with_reducible first | exact HB.out | apply bwA | apply pwbN | apply bw1) | exact HB.out)⟩⟩
        ·rw [if_neg c9] at H
         exact absurd H (by simp)
       ·rw [if_neg c8] at H
        exact absurd H (by simp)
      ·rw [if_neg c7] at H
       exact absurd H (by simp)
     ·rw [if_neg c6] at H
      exact absurd H (by simp)
    ·rw [if_neg c5] at H
     have c5b0 : decide (0 < x6_1) = false := decide_eq_false c5
     clear c5
     by_cases c11 : 0 ≤ x6_1
     ·rw [if_pos c11] at H
      have c11b0 : decide (0 ≤ x6_1) = true := decide_eq_true c11
      clear c11
      by_cases c12 : x6_1 < (t101.length : Int)
      ·rw [if_pos c12] at H
       have c12b0 : decide (x6_1 < (t101.length : Int)) = true := decide_eq_true c12
       clear c12
       by_cases c13 : x5_1.size + (rdOf ByteArray.empty t101 x6_1).size ≤ 9223372036854775807
       ·rw [if_pos c13] at H
        have c13b0 := eq_true c13
        have c13b1 : decide (x5_1.size + (rdOf ByteArray.empty t101 x6_1).size ≤ 9223372036854775807) = true := decide_eq_true c13
        try have c13b2 : (9223372036854775807 < x5_1.size + (rdOf ByteArray.empty t101 x6_1).size) = False := eq_false (Nat.not_lt.2 c13)
        have H' := Aside0.mk H
        clear H
        obtain ⟨Ao14, co14, eo14⟩ := Kd.R_slice HO_4.out
        subst eo14
        have p105 : 0 ≤ (x6_1 : Int) := of_decide_eq_true (by first | (with_reducible assumption) | assumption)
        have q105 : x6_1 < (t101.length : Int) := of_decide_eq_true (by first | (with_reducible assumption) | assumption)
        obtain ⟨ad105, e105, hx105_0⟩ := Kd.at_string (Kd.R_reads' HO_4.out).2.2 x6_1 p105 q105
        cases e105
        replace p105 := eq_true p105
        replace q105 := eq_true q105
        go_wp2
        repeat (go_quiet (fail); try go_wp2)
        go_roundg k1
        case measure => have := HK1.out; omega
        case rel => exact ⟨(x5_1 ++ (rdOf ByteArray.empty t101 x6_1)), (wrap64 (x6_1 + 1)), (by first | rfl | (simp; done) | (simp [*]; done)), (by first | rfl | (simp; done) | (simp [*]; done)), H', ⟨by have := HK1.out; omega⟩, ⟨by (with_reducible repeat (first | apply Kd.R_alloc | apply Kd.R_drewN | apply Kd.R_drew)); exact HO_4.out⟩, ⟨by repeat (first | (with_reducible first | exact HB.out | apply bwA | apply pwbN | apply bw1) | exact HB.out)⟩⟩
       ·rw [if_neg c13] at H
        exact absurd H (by simp)
      ·rw [if_neg c12] at H
       exact absurd H (by simp)
     ·rw [if_neg c11] at H
      exact absurd H (by simp)
   ·rw [if_neg c4] at H
    have c4b0 : decide (x6_1 < (wrap64 ((t101.length : Int) - 1))) = false := decide_eq_false c4
    clear c4
    obtain ⟨ji15, hji15⟩ : ∃ j_ : Int, (wrap64 ((t101.length : Int) - 1)) = j_ := ⟨_, rfl⟩
    replace H : (if 0 ≤ (ji15) then (if (ji15) < (t101.length : Int) then (some (x5_1, rdOf ByteArray.empty t101 (ji15))) else (none)) else (none)) = some (r1, r2) := by first | (rw [hji15] at H; exact H) | (simp only [hji15] at H ⊢; exact H)
    (try rw [hji15] at c4b0)
    have hji15w : (IntKind.i64.wrap ((t101.length : Int) - 1)) = ji15 := (i64_w _).trans hji15
    by_cases c16 : 0 ≤ (ji15)
    ·rw [if_pos c16] at H
     have c16b0 : decide (0 ≤ (ji15)) = true := decide_eq_true c16
     clear c16
     by_cases c17 : (ji15) < (t101.length : Int)
     ·rw [if_pos c17] at H
      have c17b0 : decide ((ji15) < (t101.length : Int)) = true := decide_eq_true c17
      clear c17
      simp only [Option.some.injEq, Prod.mk.injEq] at H
      obtain ⟨rfl, rfl⟩ := H
      obtain ⟨Ao18, co18, eo18⟩ := Kd.R_slice HO_4.out
      subst eo18
      have p106 : 0 ≤ ((ji15) : Int) := of_decide_eq_true (by first | (with_reducible assumption) | assumption)
      have q106 : (ji15) < (t101.length : Int) := of_decide_eq_true (by first | (with_reducible assumption) | assumption)
      obtain ⟨ad106, e106, hx106_0⟩ := Kd.at_string (Kd.R_reads' HO_4.out).2.2 (ji15) p106 q106
      cases e106
      replace p106 := eq_true p106
      replace q106 := eq_true q106
      go_wp2
      repeat (go_quiet (fail); try go_wp2)
      go_ret2
      exact ⟨by first | rfl | (simp [errW_none, errW_some] <;> rfl) | (simp only [← hji15]; first | rfl | (simp [errW_none, errW_some] <;> rfl)) | (simp [*, errW_none, errW_some] <;> rfl), by repeat (first | (with_reducible first | exact HB.out | apply bwA | apply pwbN | apply bw1) | exact HB.out)⟩
     ·rw [if_neg c17] at H
      exact absurd H (by simp)
    ·rw [if_neg c16] at H
     exact absurd H (by simp)
def creelref_PathParts.f (k : Nat) (a0 : ByteArray) : Option (List ByteArray) := if a0.toList = ([] : List UInt8) then (some ([] : List ByteArray)) else ((creelref_parts.f k a0 47).bind fun t101 => (some t101))
set_option maxHeartbeats 8000000 in
set_option maxRecDepth 100000 in
theorem creelref_PathParts.calls (k : Nat) (a0 : ByteArray) (r : List ByteArray) (w : World) (h : creelref_PathParts.f k a0 = some r) :
  Calls Tryd.prog 80 #[.string a0] w fun e w' => ∃ v0_ : Value, e = .returned (v0_) ∧ Kd.R Kd.string 9 w' w.heap.size (fun _ => True) v0_ r ∧ Below w.heap.size w w' := by
 have HB := Aside0.mk (Below.refl w.heap.size w)
 have H : (if a0.toList = ([] : List UInt8) then (some ([] : List ByteArray)) else ((creelref_parts.f k a0 47).bind fun t101 => (some t101))) = some r := h
 clear h
 by_cases c2 : a0.toList = ([] : List UInt8)
 ·rw [if_pos c2] at H
  have c2b0 : (a0.toList == ([] : List UInt8)) = true := beq_iff_eq.mpr c2
  have c2b1 : (a0.toList != ([] : List UInt8)) = false := bne_eq_false_iff_eq.mpr c2
  clear c2
  obtain rfl := Option.some.inj H
  go_enter Tryd.func80, Tryd.ntmps80
  go_wp2
  go_ret
  exact ⟨_, by first | rfl | (simp [errW_none, errW_some] <;> rfl) | (simp [*, errW_none, errW_some] <;> rfl), by first | exact Kd.R_nil _ _ _ _ _ | exact Kd.N_nil _ _ _ _ _ | exact Kd.V_nil _ _ _ _ _ | exact Kd.Q_nil _ _ _ _ _ | exact Kd.S_nil _ _ _ _ _, by repeat (first | (with_reducible first | exact HB.out | apply bwA | apply pwbN | apply bw1) | exact HB.out)⟩
 ·rw [if_neg c2] at H
  have c2b0 : (a0.toList == ([] : List UInt8)) = false := beq_eq_false_iff_ne.mpr c2
  have c2b1 : (a0.toList != ([] : List UInt8)) = true := bne_iff_ne.mpr c2
  replace H := Option.bind_eq_some_iff.mp H
  obtain ⟨t101, A30, H⟩ := H
  replace H : (some t101) = some r := H
  have A3 := Aside0.mk A30
  clear A30
  obtain rfl := Option.some.inj H
  go_enter Tryd.func80, Tryd.ntmps80
  go_wp2_with (first | ((with_reducible refine gate_callee (f := 33) rfl ?_); refine goesL_ (some 6) rfl rfl Tryd.func33 (by kernel_rfl) rfl #[.string a0, .int .u8 47] rfl (by (try simp only [List.map_toArray, List.map_cons, List.map_nil]); first | done | rfl | (simp only [List.length_drop, List.length_take]; rfl)) ?_; (with_reducible refine (creelref_parts.calls k a0 47 t101 _ A3.out).mono ?_); rintro e w4 ⟨v102, rfl, ho0, hb⟩; refine ⟨_, rfl, ?_⟩; have n0_ := Aside0.mk (Kd.R_lower ho0 (below_size (by repeat (first | (with_reducible first | exact HB.out | apply bwA | apply pwbN | apply bw1) | exact HB.out)))); have n1_ := Aside0.mk (below_step (by repeat (first | (with_reducible first | exact HB.out | apply bwA | apply pwbN | apply bw1) | exact HB.out)) hb); clear HB; have HO103 := n0_; have HB := n1_; clear n0_ n1_; (try clear hb); (try clear hb2); (try clear hk); (try clear hi); (try clear ho0)))
  go_ret
  exact ⟨_, by first | rfl | (simp [errW_none, errW_some] <;> rfl) | (simp [*, errW_none, errW_some] <;> rfl), by (with_reducible repeat (first | apply Kd.R_alloc | apply Kd.R_drewN | apply Kd.R_drew)); exact HO103.out, by repeat (first | (with_reducible first | exact HB.out | apply bwA | apply pwbN | apply bw1) | exact HB.out)⟩
end Go.Proofs.YtcbbcnmifohibaaDoor.All
end
section
namespace Go.Proofs.YtcbbcnmifohibaaDoor.All
open Go.RowKit Go.Proofs.YtcbbcnmifohibaaDoorW.PrintWords Go.Proofs.YtcbbcnmifohibaaDoorW.PrintLast Go.Proofs.YtcbbcnmifohibaaDoorW.PrintMore
open Go.Proofs.YtcbbcnmifohibaaDoorW.Mine
attribute [local go_sem] gtr_string leq_string geq_string
attribute [local go_sem] max2_int min2_int max_two min_two max_three min_three max_four min_four
set_option linter.unusedVariables false
set_option linter.unusedSimpArgs false
mutual
def creelref_PathOrder.l0 : Nat → List ByteArray → List ByteArray → Int → Option (Int)
 | 0, _, _, _ => none
 | k + 1, x5, x6, x7 => if x7 < (x5.length : Int) then (creelref_PathOrder.j1 k x5 x6 x7 (decide (x7 < (x6.length : Int)))) else (creelref_PathOrder.j1 k x5 x6 x7 false)
def creelref_PathOrder.j1 : Nat → List ByteArray → List ByteArray → Int → Bool → Option (Int)
 | 0, _, _, _, _ => none
 | k + 1, x5, x6, x7, x21 => if x21 = true then (if 0 ≤ x7 then (if x7 < (x5.length : Int) then (if x7 < (x6.length : Int) then (if (Op.bytesLess ((rdOf ByteArray.empty x5 x7).toList) ((rdOf ByteArray.empty x6 x7).toList)) = true then (some (-1)) else (if (Op.bytesLess ((rdOf ByteArray.empty x6 x7).toList) ((rdOf ByteArray.empty x5 x7).toList)) = true then (some 1) else (creelref_PathOrder.l0 k x5 x6 (wrap64 (x7 + 1))))) else (none)) else (none)) else (none)) else (if (x5.length : Int) < (x6.length : Int) then (some (-1)) else (if (x5.length : Int) > (x6.length : Int) then (some 1) else (some 0)))
end
def creelref_PathOrder.f (k : Nat) (a0 : ByteArray) (a1 : ByteArray) : Option (Int) := (creelref_PathParts.f k a0).bind fun t101 => ((creelref_PathParts.f k a1).bind fun t104 => (creelref_PathOrder.l0 k t101 t104 0))
set_option maxHeartbeats 8000000 in
set_option maxRecDepth 100000 in
theorem creelref_PathOrder.calls (k : Nat) (a0 : ByteArray) (a1 : ByteArray) (r : Int) (w : World) (h : creelref_PathOrder.f k a0 a1 = some r) :
  Calls Tryd.prog 56 #[.string a0, .string a1] w fun e w' => e = .returned (.int .i64 r) ∧ Below w.heap.size w w' := by
 have HB := Aside0.mk (Below.refl w.heap.size w)
 have H : ((creelref_PathParts.f k a0).bind fun t101 => ((creelref_PathParts.f k a1).bind fun t104 => (creelref_PathOrder.l0 k t101 t104 0))) = some r := h
 clear h
 replace H := Option.bind_eq_some_iff.mp H
 obtain ⟨t101, A30, H⟩ := H
 replace H : ((creelref_PathParts.f k a1).bind fun t104 => (creelref_PathOrder.l0 k t101 t104 0)) = some r := H
 have A3 := Aside0.mk A30
 clear A30
 replace H := Option.bind_eq_some_iff.mp H
 obtain ⟨t104, A40, H⟩ := H
 replace H : (creelref_PathOrder.l0 k t101 t104 0) = some r := H
 have A4 := Aside0.mk A40
 clear A40
 have H' := Aside0.mk H
 clear H
 go_enter Tryd.func56, Tryd.ntmps56
 go_wp2_with (first | (go_at_call 80; (with_reducible refine (creelref_PathParts.calls k a0 t101 _ A3.out).mono ?_); rintro e w5 ⟨v102, rfl, ho0, hb⟩; have n0_ := Aside0.mk (Kd.R_lower ho0 (below_size (by repeat (first | (with_reducible first | exact HB.out | apply bwA | apply pwbN | apply bw1) | exact HB.out)))); have n1_ := Aside0.mk (below_step (by repeat (first | (with_reducible first | exact HB.out | apply bwA | apply pwbN | apply bw1) | exact HB.out)) hb); clear HB; have HO103 := n0_; have HB := n1_; clear n0_ n1_; (try clear hb); (try clear hb2); (try clear hk); (try clear hi); (try clear ho0)) | (go_at_call 80; (with_reducible refine (creelref_PathParts.calls k a1 t104 _ A4.out).mono ?_); rintro e w6 ⟨v105, rfl, ho0, hb⟩; have n0_ := Aside0.mk (Kd.R_elder' (by (with_reducible repeat (first | apply Kd.R_alloc | apply Kd.R_drewN | apply Kd.R_drew)); exact HO103.out) (Kd.R_base ho0) hb); have n1_ := Aside0.mk (Kd.R_lower (Kd.R_new' ho0 (Kd.R_lt (by (with_reducible repeat (first | apply Kd.R_alloc | apply Kd.R_drewN | apply Kd.R_drew)); exact HO103.out))) (below_size (by repeat (first | (with_reducible first | exact HB.out | apply bwA | apply pwbN | apply bw1) | exact HB.out)))); have n2_ := Aside0.mk (below_step (by repeat (first | (with_reducible first | exact HB.out | apply bwA | apply pwbN | apply bw1) | exact HB.out)) hb); clear HO103; clear HB; have HO103 := n0_; have HO106 := n1_; have HB := n2_; clear n0_ n1_ n2_; (try clear hb); (try clear hb2); (try clear hk); (try clear hi); (try clear ho0)))
 repeat (go_quiet (first | (go_at_call 80; (with_reducible refine (creelref_PathParts.calls k a0 t101 _ A3.out).mono ?_); rintro e w5 ⟨v102, rfl, ho0, hb⟩; have n0_ := Aside0.mk (Kd.R_lower ho0 (below_size (by repeat (first | (with_reducible first | exact HB.out | apply bwA | apply pwbN | apply bw1) | exact HB.out)))); have n1_ := Aside0.mk (below_step (by repeat (first | (with_reducible first | exact HB.out | apply bwA | apply pwbN | apply bw1) | exact HB.out)) hb); clear HB; have HO103 := n0_; have HB := n1_; clear n0_ n1_; (try clear hb); (try clear hb2); (try clear hk); (try clear hi); (try clear ho0)) | (go_at_call 80; (with_reducible refine (creelref_PathParts.calls k a1 t104 _ A4.out).mono ?_); rintro e w6 ⟨v105, rfl, ho0, hb⟩; have n0_ := Aside0.mk (Kd.R_elder' (by (with_reducible repeat (first | apply Kd.R_alloc | apply Kd.R_drewN | apply Kd.R_drew)); exact HO103.out) (Kd.R_base ho0) hb); have n1_ := Aside0.mk (Kd.R_lower (Kd.R_new' ho0 (Kd.R_lt (by (with_reducible repeat (first | apply Kd.R_alloc | apply Kd.R_drewN | apply Kd.R_drew)); exact HO103.out))) (below_size (by repeat (first | (with_reducible first | exact HB.out | apply bwA | apply pwbN | apply bw1) | exact HB.out)))); have n2_ := Aside0.mk (below_step (by repeat (first | (with_reducible first | exact HB.out | apply bwA | apply pwbN | apply bw1) | exact HB.out)) hb); clear HO103; clear HB; have HO103 := n0_; have HO106 := n1_; have HB := n2_; clear n0_ n1_ n2_; (try clear hb); (try clear hb2); (try clear hk); (try clear hi); (try clear ho0))); try go_wp2_with (first | (go_at_call 80; (with_reducible refine (creelref_PathParts.calls k a0 t101 _ A3.out).mono ?_); rintro e w5 ⟨v102, rfl, ho0, hb⟩; have n0_ := Aside0.mk (Kd.R_lower ho0 (below_size (by repeat (first | (with_reducible first | exact HB.out | apply bwA | apply pwbN | apply bw1) | exact HB.out)))); have n1_ := Aside0.mk (below_step (by repeat (first | (with_reducible first | exact HB.out | apply bwA | apply pwbN | apply bw1) | exact HB.out)) hb); clear HB; have HO103 := n0_; have HB := n1_; clear n0_ n1_; (try clear hb); (try clear hb2); (try clear hk); (try clear hi); (try clear ho0)) | (go_at_call 80; (with_reducible refine (creelref_PathParts.calls k a1 t104 _ A4.out).mono ?_); rintro e w6 ⟨v105, rfl, ho0, hb⟩; have n0_ := Aside0.mk (Kd.R_elder' (by (with_reducible repeat (first | apply Kd.R_alloc | apply Kd.R_drewN | apply Kd.R_drew)); exact HO103.out) (Kd.R_base ho0) hb); have n1_ := Aside0.mk (Kd.R_lower (Kd.R_new' ho0 (Kd.R_lt (by (with_reducible repeat (first | apply Kd.R_alloc | apply Kd.R_drewN | apply Kd.R_drew)); exact HO103.out))) (below_size (by repeat (first | (with_reducible first | exact HB.out | apply bwA | apply pwbN | apply bw1) | exact HB.out)))); have n2_ := Aside0.mk (below_step (by repeat (first | (with_reducible first | exact HB.out | apply bwA | apply pwbN | apply bw1) | exact HB.out)) hb); clear HO103; clear HB; have HO103 := n0_; have HO106 := n1_; have HB := n2_; clear n0_ n1_ n2_; (try clear hb); (try clear hb2); (try clear hk); (try clear hi); (try clear ho0))))
 go_loopg [7] k (fun kq v7 w' => ∃ (x7_1 : Int), v7 = .int .i64 x7_1 ∧ Aside0 (creelref_PathOrder.l0 kq t101 t104 x7_1 = some r) ∧ Aside0 (kq ≤ k) ∧ Aside0 (Kd.R Kd.string 9 w' w.heap.size (fun k_ => some k_ ≠ (v105 : Value).ownBlock) v102 t101) ∧ Aside0 (Kd.R Kd.string 9 w' w.heap.size (fun k_ => some k_ ≠ (v102 : Value).ownBlock) v105 t104) ∧ Aside0 (Below w.heap.size w w'))
 case atStart => exact ⟨(0), (by first | rfl | (simp; done) | (simp [*]; done)), H', ⟨Nat.le_refl _⟩, ⟨by (with_reducible repeat (first | apply Kd.R_alloc | apply Kd.R_drewN | apply Kd.R_drew)); exact Kd.R_mono HO103.out (fun _ hk => hk.2)⟩, ⟨by (with_reducible repeat (first | apply Kd.R_alloc | apply Kd.R_drewN | apply Kd.R_drew)); exact Kd.R_mono HO106.out (fun _ hk => hk.2)⟩, ⟨by repeat (first | (with_reducible first | exact HB.out | apply bwA | apply pwbN | apply bw1) | exact HB.out)⟩⟩
 case round =>
  clear H'
  try clear p2
  try clear c5
  obtain ⟨x7_1, rfl, HA, HK1, HO_5, HO_6, HB⟩ := hrel
  cases gk with
  | zero => exact absurd HA.out (by simp [creelref_PathOrder.l0])
  | succ k1 =>
   have H := HA.out
   clear HA
   simp only [creelref_PathOrder.l0] at H
   have HC7 := Aside0.mk H
   clear H
   go_upto_region 4 with (fail)
   repeat (go_quiet (fail); go_upto_region 4 with (fail))
   go_cut [21] (fun v21 wc => ∃ (kq : Nat) (x21_6 : Bool), v21 = .bool x21_6 ∧ Aside0 (creelref_PathOrder.j1 kq t101 t104 x7_1 x21_6 = some r) ∧ Aside0 (kq ≤ k1) ∧ Aside0 (Kd.R Kd.string 9 wc w.heap.size (fun k_ => some k_ ≠ (v105 : Value).ownBlock) v102 t101) ∧ Aside0 (Kd.R Kd.string 9 wc w.heap.size (fun k_ => some k_ ≠ (v102 : Value).ownBlock) v105 t104) ∧ Aside0 (Below w.heap.size w wc))
   case first =>
    have H := HC7.out
    clear HC7
    by_cases c8 : x7_1 < (t101.length : Int)
    ·rw [if_pos c8] at H
     have c8b0 : decide (x7_1 < (t101.length : Int)) = true := decide_eq_true c8
     clear c8
     (first | rw [c8b0] | (simp only [i64_w, i32_w]; rw [c8b0]) | skip)
     have H' := Aside0.mk H
     clear H
     obtain ⟨Ao9, co9, eo9⟩ := Kd.R_slice HO_5.out
     subst eo9
     obtain ⟨Ao10, co10, eo10⟩ := Kd.R_slice HO_6.out
     subst eo10
     go_wp2
     repeat (go_quiet (fail); try go_wp2)
     go_meet
     case rel => exact ⟨_, (decide (x7_1 < (t104.length : Int))), (by first | rfl | (simp; done) | (simp [*]; done)), H', ⟨by have := HK1.out; first | omega | exact Nat.le_refl _⟩, ⟨by (with_reducible repeat (first | apply Kd.R_alloc | apply Kd.R_drewN | apply Kd.R_drew)); exact HO_5.out⟩, ⟨by (with_reducible repeat (first | apply Kd.R_alloc | apply Kd.R_drewN | apply Kd.R_drew)); exact HO_6.out⟩, ⟨by repeat (first | (with_reducible first | exact HB.out | apply bwA | apply pwbN | apply bw1) | exact HB.out)⟩⟩
    ·rw [if_neg c8] at H
     have c8b0 : decide (x7_1 < (t101.length : Int)) = false := decide_eq_false c8
     clear c8
     (first | rw [c8b0] | (simp only [i64_w, i32_w]; rw [c8b0]) | skip)
     have H' := Aside0.mk H
     clear H
     obtain ⟨Ao11, co11, eo11⟩ := Kd.R_slice HO_5.out
     subst eo11
     go_wp2
     repeat (go_quiet (fail); try go_wp2)
     go_meet
     case rel => exact ⟨_, (false), (by first | rfl | (simp; done) | (simp [*]; done)), H', ⟨by have := HK1.out; first | omega | exact Nat.le_refl _⟩, ⟨by (with_reducible repeat (first | apply Kd.R_alloc | apply Kd.R_drewN | apply Kd.R_drew)); exact HO_5.out⟩, ⟨by (with_reducible repeat (first | apply Kd.R_alloc | apply Kd.R_drewN | apply Kd.R_drew)); exact HO_6.out⟩, ⟨by repeat (first | (with_reducible first | exact HB.out | apply bwA | apply pwbN | apply bw1) | exact HB.out)⟩⟩
   case rest =>
    clear HC7
    repeat first|clear p2|clear c5|clear c8|clear c8b0|clear p2
    obtain ⟨kq, x21_6, rfl, HA, HJ6, HO_5, HO_6, HB⟩ := hcut
    cases kq with
    | zero => exact absurd HA.out (by simp [creelref_PathOrder.j1])
    | succ kj6 =>
     have H := HA.out
     clear HA
     simp only [creelref_PathOrder.j1] at H
     by_cases c12 : x21_6 = true
     ·subst c12
      have H1 : (if 0 ≤ x7_1 then (if x7_1 < (t101.length : Int) then (if x7_1 < (t104.length : Int) then (if (Op.bytesLess ((rdOf ByteArray.empty t101 x7_1).toList) ((rdOf ByteArray.empty t104 x7_1).toList)) = true then (some (-1)) else (if (Op.bytesLess ((rdOf ByteArray.empty t104 x7_1).toList) ((rdOf ByteArray.empty t101 x7_1).toList)) = true then (some 1) else (creelref_PathOrder.l0 kj6 t101 t104 (wrap64 (x7_1 + 1))))) else (none)) else (none)) else (none)) = some r := by rw [if_pos rfl] at H; exact H
      clear H
      have H := H1
      clear H1
      by_cases c13 : 0 ≤ x7_1
      ·rw [if_pos c13] at H
       have c13b0 : decide (0 ≤ x7_1) = true := decide_eq_true c13
       clear c13
       by_cases c14 : x7_1 < (t101.length : Int)
       ·rw [if_pos c14] at H
        have c14b0 : decide (x7_1 < (t101.length : Int)) = true := decide_eq_true c14
        clear c14
        by_cases c15 : x7_1 < (t104.length : Int)
        ·rw [if_pos c15] at H
         have c15b0 : decide (x7_1 < (t104.length : Int)) = true := decide_eq_true c15
         clear c15
         by_cases c16 : (Op.bytesLess ((rdOf ByteArray.empty t101 x7_1).toList) ((rdOf ByteArray.empty t104 x7_1).toList)) = true
         ·rw [if_pos c16] at H
          have c16b0 : (Op.bytesLess ((rdOf ByteArray.empty t101 x7_1).toList) ((rdOf ByteArray.empty t104 x7_1).toList)) = true := c16
          clear c16
          obtain rfl := Option.some.inj H
          obtain ⟨Ao17, co17, eo17⟩ := Kd.R_slice HO_5.out
          subst eo17
          have p107 : 0 ≤ (x7_1 : Int) := of_decide_eq_true (by first | (with_reducible assumption) | assumption)
          have q107 : x7_1 < (t101.length : Int) := of_decide_eq_true (by first | (with_reducible assumption) | assumption)
          obtain ⟨ad107, e107, hx107_0⟩ := Kd.at_string (Kd.R_reads' HO_5.out).2.2 x7_1 p107 q107
          cases e107
          replace p107 := eq_true p107
          replace q107 := eq_true q107
          obtain ⟨Ao18, co18, eo18⟩ := Kd.R_slice HO_6.out
          subst eo18
          have p108 : 0 ≤ (x7_1 : Int) := of_decide_eq_true (by first | (with_reducible assumption) | assumption)
          have q108 : x7_1 < (t104.length : Int) := of_decide_eq_true (by first | (with_reducible assumption) | assumption)
          obtain ⟨ad108, e108, hx108_0⟩ := Kd.at_string (Kd.R_reads' HO_6.out).2.2 x7_1 p108 q108
          cases e108
          replace p108 := eq_true p108
          replace q108 := eq_true q108
          go_wp2
          repeat (go_quiet (fail); try go_wp2)
          go_ret
          exact ⟨by first | rfl | (simp [errW_none, errW_some] <;> rfl) | (simp [*, errW_none, errW_some] <;> rfl), by repeat (first | (with_reducible first | exact HB.out | apply bwA | apply pwbN | apply bw1) | exact HB.out)⟩
         ·rw [if_neg c16] at H
          have c16b0 : (Op.bytesLess ((rdOf ByteArray.empty t101 x7_1).toList) ((rdOf ByteArray.empty t104 x7_1).toList)) = false := by simpa using c16
          clear c16
          by_cases c19 : (Op.bytesLess ((rdOf ByteArray.empty t104 x7_1).toList) ((rdOf ByteArray.empty t101 x7_1).toList)) = true
          ·rw [if_pos c19] at H
           have c19b0 : (Op.bytesLess ((rdOf ByteArray.empty t104 x7_1).toList) ((rdOf ByteArray.empty t101 x7_1).toList)) = true := c19
           clear c19
           obtain rfl := Option.some.inj H
           obtain ⟨Ao20, co20, eo20⟩ := Kd.R_slice HO_5.out
           subst eo20
           have p107 : 0 ≤ (x7_1 : Int) := of_decide_eq_true (by first | (with_reducible assumption) | assumption)
           have q107 : x7_1 < (t101.length : Int) := of_decide_eq_true (by first | (with_reducible assumption) | assumption)
           obtain ⟨ad107, e107, hx107_0⟩ := Kd.at_string (Kd.R_reads' HO_5.out).2.2 x7_1 p107 q107
           cases e107
           replace p107 := eq_true p107
           replace q107 := eq_true q107
           obtain ⟨Ao21, co21, eo21⟩ := Kd.R_slice HO_6.out
           subst eo21
           have p108 : 0 ≤ (x7_1 : Int) := of_decide_eq_true (by first | (with_reducible assumption) | assumption)
           have q108 : x7_1 < (t104.length : Int) := of_decide_eq_true (by first | (with_reducible assumption) | assumption)
           obtain ⟨ad108, e108, hx108_0⟩ := Kd.at_string (Kd.R_reads' HO_6.out).2.2 x7_1 p108 q108
           cases e108
           replace p108 := eq_true p108
           replace q108 := eq_true q108
           have p109 : 0 ≤ (x7_1 : Int) := of_decide_eq_true (by first | (with_reducible assumption) | assumption)
           have q109 : x7_1 < (t101.length : Int) := of_decide_eq_true (by first | (with_reducible assumption) | assumption)
           obtain ⟨ad109, e109, hx109_0⟩ := Kd.at_string (Kd.R_reads' HO_5.out).2.2 x7_1 p109 q109
           obtain rfl : ad107 = ad109 := (by injection e109)
           replace p109 := eq_true p109
           replace q109 := eq_true q109
           have p110 : 0 ≤ (x7_1 : Int) := of_decide_eq_true (by first | (with_reducible assumption) | assumption)
           have q110 : x7_1 < (t104.length : Int) := of_decide_eq_true (by first | (with_reducible assumption) | assumption)
           obtain ⟨ad110, e110, hx110_0⟩ := Kd.at_string (Kd.R_reads' HO_6.out).2.2 x7_1 p110 q110
           obtain rfl : ad108 = ad110 := (by injection e110)
           replace p110 := eq_true p110
           replace q110 := eq_true q110
           go_wp2
           repeat (go_quiet (fail); try go_wp2)
           go_ret
           exact ⟨by first | rfl | (simp [errW_none, errW_some] <;> rfl) | (simp [*, errW_none, errW_some] <;> rfl), by repeat (first | (with_reducible first | exact HB.out | apply bwA | apply pwbN | apply bw1) | exact HB.out)⟩
          ·rw [if_neg c19] at H
           have c19b0 : (Op.bytesLess ((rdOf ByteArray.empty t104 x7_1).toList) ((rdOf ByteArray.empty t101 x7_1).toList)) = false := by simpa using c19
           clear c19
           have H' := Aside0.mk H
           clear H
           obtain ⟨Ao22, co22, eo22⟩ := Kd.R_slice HO_5.out
           subst eo22
           have p107 : 0 ≤ (x7_1 : Int) := of_decide_eq_true (by first | (with_reducible assumption) | assumption)
           have q107 : x7_1 < (t101.length : Int) := of_decide_eq_true (by first | (with_reducible assumption) | assumption)
           obtain ⟨ad107, e107, hx107_0⟩ := Kd.at_string (Kd.R_reads' HO_5.out).2.2 x7_1 p107 q107
           cases e107
           replace p107 := eq_true p107
           replace q107 := eq_true q107
           obtain ⟨Ao23, co23, eo23⟩ := Kd.R_slice HO_6.out
           subst eo23
           have p108 : 0 ≤ (x7_1 : Int) := of_decide_eq_true (by first | (with_reducible assumption) | assumption)
           have q108 : x7_1 < (t104.length : Int) := of_decide_eq_true (by first | (with_reducible assumption) | assumption)
           obtain ⟨ad108, e108, hx108_0⟩ := Kd.at_string (Kd.R_reads' HO_6.out).2.2 x7_1 p108 q108
           cases e108
           replace p108 := eq_true p108
           replace q108 := eq_true q108
           have p109 : 0 ≤ (x7_1 : Int) := of_decide_eq_true (by first | (with_reducible assumption) | assumption)
           have q109 : x7_1 < (t101.length : Int) := of_decide_eq_true (by first | (with_reducible assumption) | assumption)
           obtain ⟨ad109, e109, hx109_0⟩ := Kd.at_string (Kd.R_reads' HO_5.out).2.2 x7_1 p109 q109
           obtain rfl : ad107 = ad109 := (by injection e109)
           replace p109 := eq_true p109
           replace q109 := eq_true q109
           have p110 : 0 ≤ (x7_1 : Int) := of_decide_eq_true (by first | (with_reducible assumption) | assumption)
           have q110 : x7_1 < (t104.length : Int) := of_decide_eq_true (by first | (with_reducible assumption) | assumption)
           obtain ⟨ad110, e110, hx110_0⟩ := Kd.at_string (Kd.R_reads' HO_6.out).2.2 x7_1 p110 q110
           obtain rfl : ad108 = ad110 := (by injection e110)
           replace p110 := eq_true p110
           replace q110 := eq_true q110
           go_wp2
           repeat (go_quiet (fail); try go_wp2)
           go_roundg kj6
           case measure => have := HK1.out; have := HJ6.out; omega
           case rel => exact ⟨(wrap64 (x7_1 + 1)), (by first | rfl | (simp; done) | (simp [*]; done)), H', ⟨by have := HK1.out; have := HJ6.out; omega⟩, ⟨by (with_reducible repeat (first | apply Kd.R_alloc | apply Kd.R_drewN | apply Kd.R_drew)); exact HO_5.out⟩, ⟨by (with_reducible repeat (first | apply Kd.R_alloc | apply Kd.R_drewN | apply Kd.R_drew)); exact HO_6.out⟩, ⟨by repeat (first | (with_reducible first | exact HB.out | apply bwA | apply pwbN | apply bw1) | exact HB.out)⟩⟩
        ·rw [if_neg c15] at H
         exact absurd H (by simp)
       ·rw [if_neg c14] at H
        exact absurd H (by simp)
      ·rw [if_neg c13] at H
       exact absurd H (by simp)
     ·replace c12 := Bool.eq_false_iff.mpr c12
      subst c12
      have H1 : (if (t101.length : Int) < (t104.length : Int) then (some (-1)) else (if (t101.length : Int) > (t104.length : Int) then (some 1) else (some 0))) = some r := by rw [if_neg (show ¬ (false = true) by decide)] at H; exact H
      clear H
      have H := H1
      clear H1
      by_cases c24 : (t101.length : Int) < (t104.length : Int)
      ·rw [if_pos c24] at H
       have c24b0 : decide ((t101.length : Int) < (t104.length : Int)) = true := decide_eq_true c24
       have c24b1 : decide (t101.length < t104.length) = true := decide_eq_true (Int.ofNat_lt.mp c24)
       clear c24
       obtain rfl := Option.some.inj H
       obtain ⟨Ao25, co25, eo25⟩ := Kd.R_slice HO_5.out
       subst eo25
       obtain ⟨Ao26, co26, eo26⟩ := Kd.R_slice HO_6.out
       subst eo26
       go_wp2
       repeat (go_quiet (fail); try go_wp2)
       go_ret
       exact ⟨by first | rfl | (simp [errW_none, errW_some] <;> rfl) | (simp [*, errW_none, errW_some] <;> rfl), by repeat (first | (with_reducible first | exact HB.out | apply bwA | apply pwbN | apply bw1) | exact HB.out)⟩
      ·rw [if_neg c24] at H
       have c24b0 : decide ((t101.length : Int) < (t104.length : Int)) = false := decide_eq_false c24
       have c24b1 : decide (t101.length < t104.length) = false := decide_eq_false (fun h => c24 (Int.ofNat_lt.mpr h))
       clear c24
       by_cases c27 : (t101.length : Int) > (t104.length : Int)
       ·rw [if_pos c27] at H
        have c27b0 : decide ((t104.length : Int) < (t101.length : Int)) = true := decide_eq_true c27
        have c27b1 : decide (t104.length < t101.length) = true := decide_eq_true (Int.ofNat_lt.mp c27)
        clear c27
        obtain rfl := Option.some.inj H
        obtain ⟨Ao28, co28, eo28⟩ := Kd.R_slice HO_5.out
        subst eo28
        obtain ⟨Ao29, co29, eo29⟩ := Kd.R_slice HO_6.out
        subst eo29
        go_wp2
        repeat (go_quiet (fail); try go_wp2)
        go_ret
        exact ⟨by first | rfl | (simp [errW_none, errW_some] <;> rfl) | (simp [*, errW_none, errW_some] <;> rfl), by repeat (first | (with_reducible first | exact HB.out | apply bwA | apply pwbN | apply bw1) | exact HB.out)⟩
       ·rw [if_neg c27] at H
        have c27b0 : decide ((t104.length : Int) < (t101.length : Int)) = false := decide_eq_false c27
        have c27b1 : decide (t104.length < t101.length) = false := decide_eq_false (fun h => c27 (Int.ofNat_lt.mpr h))
        clear c27
        obtain rfl := Option.some.inj H
        obtain ⟨Ao30, co30, eo30⟩ := Kd.R_slice HO_5.out
        subst eo30
        obtain ⟨Ao31, co31, eo31⟩ := Kd.R_slice HO_6.out
        subst eo31
        go_wp2
        repeat (go_quiet (fail); try go_wp2)
        go_ret
        exact ⟨by first | rfl | (simp [errW_none, errW_some] <;> rfl) | (simp [*, errW_none, errW_some] <;> rfl), by repeat (first | (with_reducible first | exact HB.out | apply bwA | apply pwbN | apply bw1) | exact HB.out)⟩
end Go.Proofs.YtcbbcnmifohibaaDoor.All
end
section
namespace Go.Proofs.YtcbbcnmifohibaaDoor.All
open Go.RowKit Go.Proofs.YtcbbcnmifohibaaDoorW.PrintWords Go.Proofs.YtcbbcnmifohibaaDoorW.PrintLast Go.Proofs.YtcbbcnmifohibaaDoorW.PrintMore
open Go.Proofs.YtcbbcnmifohibaaDoorW.Mine
attribute [local go_sem] gtr_string leq_string geq_string
attribute [local go_sem] max2_int min2_int max_two min_two max_three min_three max_four min_four
set_option linter.unusedVariables false
set_option linter.unusedSimpArgs false
def creelref_TimeFault.f (a0 : Int) (a1 : Int) : Option (Int) := if a0 < (-1099511627776) then (some 4) else (if a0 > 1099511627776 then (some 4) else (if a1 < 0 then (some 4) else (if a1 ≥ 1000000000 then (some 4) else (some 0))))
set_option maxHeartbeats 8000000 in
set_option maxRecDepth 100000 in
theorem creelref_TimeFault.calls (a0 : Int) (a1 : Int) (r : Int) (w : World) (h : creelref_TimeFault.f a0 a1 = some r) :
  Calls Tryd.prog 99 #[.int .i64 a0, .int .i64 a1] w fun e w' => e = .returned (.int .i64 r) ∧ Drawn0 w w' := by
 have H : (if a0 < (-1099511627776) then (some 4) else (if a0 > 1099511627776 then (some 4) else (if a1 < 0 then (some 4) else (if a1 ≥ 1000000000 then (some 4) else (some 0))))) = some r := h
 clear h
 by_cases c3 : a0 < (-1099511627776)
 ·rw [if_pos c3] at H
  have c3b0 : decide (a0 < (-1099511627776)) = true := decide_eq_true c3
  clear c3
  obtain rfl := Option.some.inj H
  go_enter Tryd.func99, Tryd.ntmps99
  go_wp2
  go_ret
  exact ⟨by first | rfl | (simp; done) | (simp [*]; done), by repeat (first | exact Drawn0.refl _ | apply Drawn0.step)⟩
 ·rw [if_neg c3] at H
  have c3b0 : decide (a0 < (-1099511627776)) = false := decide_eq_false c3
  clear c3
  by_cases c4 : a0 > 1099511627776
  ·rw [if_pos c4] at H
   have c4b0 : decide (1099511627776 < a0) = true := decide_eq_true c4
   clear c4
   obtain rfl := Option.some.inj H
   go_enter Tryd.func99, Tryd.ntmps99
   go_wp2
   go_ret
   exact ⟨by first | rfl | (simp; done) | (simp [*]; done), by repeat (first | exact Drawn0.refl _ | apply Drawn0.step)⟩
  ·rw [if_neg c4] at H
   have c4b0 : decide (1099511627776 < a0) = false := decide_eq_false c4
   clear c4
   by_cases c5 : a1 < 0
   ·rw [if_pos c5] at H
    have c5b0 : decide (a1 < 0) = true := decide_eq_true c5
    clear c5
    obtain rfl := Option.some.inj H
    go_enter Tryd.func99, Tryd.ntmps99
    go_wp2
    go_ret
    exact ⟨by first | rfl | (simp; done) | (simp [*]; done), by repeat (first | exact Drawn0.refl _ | apply Drawn0.step)⟩
   ·rw [if_neg c5] at H
    have c5b0 : decide (a1 < 0) = false := decide_eq_false c5
    clear c5
    by_cases c6 : a1 ≥ 1000000000
    ·rw [if_pos c6] at H
     have c6b0 : decide (1000000000 ≤ a1) = true := decide_eq_true c6
     clear c6
     obtain rfl := Option.some.inj H
     go_enter Tryd.func99, Tryd.ntmps99
     go_wp2
     go_ret
     exact ⟨by first | rfl | (simp; done) | (simp [*]; done), by repeat (first | exact Drawn0.refl _ | apply Drawn0.step)⟩
    ·rw [if_neg c6] at H
     have c6b0 : decide (1000000000 ≤ a1) = false := decide_eq_false c6
     clear c6
     obtain rfl := Option.some.inj H
     go_enter Tryd.func99, Tryd.ntmps99
     go_wp2
     go_ret
     exact ⟨by first | rfl | (simp; done) | (simp [*]; done), by repeat (first | exact Drawn0.refl _ | apply Drawn0.step)⟩
end Go.Proofs.YtcbbcnmifohibaaDoor.All
end
section
namespace Go.Proofs.YtcbbcnmifohibaaDoor.All
open Go.RowKit Go.Proofs.YtcbbcnmifohibaaDoorW.PrintWords Go.Proofs.YtcbbcnmifohibaaDoorW.PrintLast Go.Proofs.YtcbbcnmifohibaaDoorW.PrintMore
open Go.Proofs.YtcbbcnmifohibaaDoorW.Mine
attribute [local go_sem] gtr_string leq_string geq_string
attribute [local go_sem] max2_int min2_int max_two min_two max_three min_three max_four min_four
set_option linter.unusedVariables false
set_option linter.unusedSimpArgs false
mutual
def creelref_MetaFault.j0 : Nat → Bool → Int → Int → Int → ByteArray → ByteArray → Int → Int → Option (Int)
 | 0, _, _, _, _, _, _, _, _ => none
 | k + 1, x30, x102000, x102001, x102002, x102003, x102004, x102005, x102006 => if x30 = true then (some 4) else (if (x102003.size : Int) > 60 then (creelref_MetaFault.j1 k true x102000 x102001 x102002 x102003 x102004 x102005 x102006) else (creelref_MetaFault.j1 k (decide ((x102004.size : Int) > 60)) x102000 x102001 x102002 x102003 x102004 x102005 x102006))
def creelref_MetaFault.j1 : Nat → Bool → Int → Int → Int → ByteArray → ByteArray → Int → Int → Option (Int)
 | 0, _, _, _, _, _, _, _, _ => none
 | k + 1, x40, x102000, x102001, x102002, x102003, x102004, x102005, x102006 => if x40 = true then (some 1) else ((creelref_has.f k x102003 0).bind fun t102 => (if t102 = true then (some 3) else ((creelref_has.f k x102004 0).bind fun t103 => (if t103 = true then (some 3) else ((creelref_TimeFault.f x102005 x102006).bind fun t104 => (some t104))))))
end
def creelref_MetaFault.f (k : Nat) (a0_0 : Int) (a0_1 : Int) (a0_2 : Int) (a0_3 : ByteArray) (a0_4 : ByteArray) (a0_5 : Int) (a0_6 : Int) : Option (Int) := if a0_0 < 0 then (creelref_MetaFault.j0 k true a0_0 a0_1 a0_2 a0_3 a0_4 a0_5 a0_6) else (if a0_0 ≥ 4096 then (creelref_MetaFault.j0 k true a0_0 a0_1 a0_2 a0_3 a0_4 a0_5 a0_6) else (if a0_1 < 0 then (creelref_MetaFault.j0 k true a0_0 a0_1 a0_2 a0_3 a0_4 a0_5 a0_6) else (if a0_1 > 1125899906842624 then (creelref_MetaFault.j0 k true a0_0 a0_1 a0_2 a0_3 a0_4 a0_5 a0_6) else (if a0_2 < 0 then (creelref_MetaFault.j0 k true a0_0 a0_1 a0_2 a0_3 a0_4 a0_5 a0_6) else (creelref_MetaFault.j0 k (decide (a0_2 > 1125899906842624)) a0_0 a0_1 a0_2 a0_3 a0_4 a0_5 a0_6)))))
set_option maxHeartbeats 8000000 in
set_option maxRecDepth 100000 in
theorem creelref_MetaFault.calls (k : Nat) (a0_0 : Int) (a0_1 : Int) (a0_2 : Int) (a0_3 : ByteArray) (a0_4 : ByteArray) (a0_5 : Int) (a0_6 : Int) (r : Int) (w : World) (h : creelref_MetaFault.f k a0_0 a0_1 a0_2 a0_3 a0_4 a0_5 a0_6 = some r) :
  Calls Tryd.prog 90 #[.agg #[.int .i64 a0_0, .int .i64 a0_1, .int .i64 a0_2, .string a0_3, .string a0_4, .int .i64 a0_5, .int .i64 a0_6]] w fun e w' => e = .returned (.int .i64 r) ∧ Below w.heap.size w w' := by
 have hu42 := Tryd.underlying42
 have HB := Aside0.mk (Below.refl w.heap.size w)
 have H : (if a0_0 < 0 then (creelref_MetaFault.j0 k true a0_0 a0_1 a0_2 a0_3 a0_4 a0_5 a0_6) else (if a0_0 ≥ 4096 then (creelref_MetaFault.j0 k true a0_0 a0_1 a0_2 a0_3 a0_4 a0_5 a0_6) else (if a0_1 < 0 then (creelref_MetaFault.j0 k true a0_0 a0_1 a0_2 a0_3 a0_4 a0_5 a0_6) else (if a0_1 > 1125899906842624 then (creelref_MetaFault.j0 k true a0_0 a0_1 a0_2 a0_3 a0_4 a0_5 a0_6) else (if a0_2 < 0 then (creelref_MetaFault.j0 k true a0_0 a0_1 a0_2 a0_3 a0_4 a0_5 a0_6) else (creelref_MetaFault.j0 k (decide (a0_2 > 1125899906842624)) a0_0 a0_1 a0_2 a0_3 a0_4 a0_5 a0_6)))))) = some r := h
 clear h
 have HC2 := Aside0.mk H
 clear H
 go_enter Tryd.func90, Tryd.ntmps90
 go_upto_region 1 with (first | ((with_reducible refine gate_dst (N := 1) rfl ?_); (try (refine gate_guard (by rfl) ?_; dsimp only)); refine box_event ?hg (N := 1) ?hd (cs := #[.int .i64 a0_0, .int .i64 a0_1, .int .i64 a0_2, .string a0_3, .string a0_4, .int .i64 a0_5, .int .i64 a0_6]) (t := 42) ?hr ?_; (case hd => rfl); (case hg => rfl); (case hr => first | (go_simp; done) | (go_simp; rfl)); intro gb101 hg w3 hbox hb; have n0_ := Aside0.mk (below_step (by repeat (first | (with_reducible first | exact HB.out | apply bwA | apply pwbN | apply bw1) | exact HB.out)) hb); have n1_ := Aside0.mk (hbox); have n2_ := Aside0.mk ((by rw [hg]; exact (below_size (by repeat (first | (with_reducible first | exact HB.out | apply bwA | apply pwbN | apply bw1) | exact HB.out))) : w.heap.size ≤ gb101)); have n3_ := Aside0.mk ((by rw [hg]; exact (below_size (by repeat (first | (with_reducible first | exact HB.out | apply bwA | apply pwbN | apply bw1) | exact HB.out))) : w.heap.size ≤ gb101)); clear HB; have HB := n0_; have BK101 := n1_; have GW101 := n2_; have GE101 := n3_; clear n0_ n1_ n2_ n3_; clear hb hbox hg))
 (try simp only [Act.put, List.setIfInBounds_toArray, List.set_cons_zero, List.set_cons_succ])
 go_cut [30] (fun v30 wc => ∃ (kq : Nat) (x30_1 : Bool), v30 = .bool x30_1 ∧ Aside0 (creelref_MetaFault.j0 kq x30_1 a0_0 a0_1 a0_2 a0_3 a0_4 a0_5 a0_6 = some r) ∧ Aside0 (kq ≤ k) ∧ Aside0 (wc.heap[gb101]? = some (.cells #[.int .i64 a0_0, .int .i64 a0_1, .int .i64 a0_2, .string a0_3, .string a0_4, .int .i64 a0_5, .int .i64 a0_6] 42 (0, 0))) ∧ Aside0 (Below w.heap.size w wc))
 case first =>
  have H := HC2.out
  clear HC2
  by_cases c4 : a0_0 < 0
  ·rw [if_pos c4] at H
   have c4b0 : decide (a0_0 < 0) = true := decide_eq_true c4
   clear c4
   (first | rw [c4b0] | (simp only [i64_w, i32_w]; rw [c4b0]) | skip)
   have H' := Aside0.mk H
   clear H
   obtain ⟨hcz5_0, hcz5_1, hcz5_2, hcz5_3, hcz5_4, hcz5_5, hcz5_6, hfz5_0, hfz5_1, hfz5_2, hfz5_3, hfz5_4, hfz5_5, hfz5_6⟩ := blkA7 BK101.out
   go_wp2
   go_meet
   case rel => exact ⟨_, (true), (by first | rfl | (simp; done) | (simp [*]; done)), H', ⟨by first | omega | exact Nat.le_refl _⟩, ⟨by (with_reducible repeat (first | refine blk_drewN ?_ _ | refine blk_drew ?_ | refine blk_alloc ?_ _)); exact BK101.out⟩, ⟨by repeat (first | (with_reducible first | exact HB.out | apply bwA | apply pwbN | apply bw1 | refine below_set ?_ GE101.out) | exact HB.out)⟩⟩
  ·rw [if_neg c4] at H
   have c4b0 : decide (a0_0 < 0) = false := decide_eq_false c4
   clear c4
   (first | rw [c4b0] | (simp only [i64_w, i32_w]; rw [c4b0]) | skip)
   by_cases c6 : a0_0 ≥ 4096
   ·rw [if_pos c6] at H
    have c6b0 : decide (4096 ≤ a0_0) = true := decide_eq_true c6
    clear c6
    have H' := Aside0.mk H
    clear H
    obtain ⟨hcz7_0, hcz7_1, hcz7_2, hcz7_3, hcz7_4, hcz7_5, hcz7_6, hfz7_0, hfz7_1, hfz7_2, hfz7_3, hfz7_4, hfz7_5, hfz7_6⟩ := blkA7 BK101.out
    go_wp2
    go_meet
    case rel => exact ⟨_, (true), (by first | rfl | (simp; done) | (simp [*]; done)), H', ⟨by first | omega | exact Nat.le_refl _⟩, ⟨by (with_reducible repeat (first | refine blk_drewN ?_ _ | refine blk_drew ?_ | refine blk_alloc ?_ _)); exact BK101.out⟩, ⟨by repeat (first | (with_reducible first | exact HB.out | apply bwA | apply pwbN | apply bw1 | refine below_set ?_ GE101.out) | exact HB.out)⟩⟩
   ·rw [if_neg c6] at H
    have c6b0 : decide (4096 ≤ a0_0) = false := decide_eq_false c6
    clear c6
    by_cases c8 : a0_1 < 0
    ·rw [if_pos c8] at H
     have c8b0 : decide (a0_1 < 0) = true := decide_eq_true c8
     clear c8
     have H' := Aside0.mk H
     clear H
     obtain ⟨hcz9_0, hcz9_1, hcz9_2, hcz9_3, hcz9_4, hcz9_5, hcz9_6, hfz9_0, hfz9_1, hfz9_2, hfz9_3, hfz9_4, hfz9_5, hfz9_6⟩ := blkA7 BK101.out
     go_wp2
     go_meet
     case rel => exact ⟨_, (true), (by first | rfl | (simp; done) | (simp [*]; done)), H', ⟨by first | omega | exact Nat.le_refl _⟩, ⟨by (with_reducible repeat (first | refine blk_drewN ?_ _ | refine blk_drew ?_ | refine blk_alloc ?_ _)); exact BK101.out⟩, ⟨by repeat (first | (with_reducible first | exact HB.out | apply bwA | apply pwbN | apply bw1 | refine below_set ?_ GE101.out) | exact HB.out)⟩⟩
    ·rw [if_neg c8] at H
     have c8b0 : decide (a0_1 < 0) = false := decide_eq_false c8
     clear c8
     by_cases c10 : a0_1 > 1125899906842624
     ·rw [if_pos c10] at H
      have c10b0 : decide (1125899906842624 < a0_1) = true := decide_eq_true c10
      clear c10
      have H' := Aside0.mk H
      clear H
      obtain ⟨hcz11_0, hcz11_1, hcz11_2, hcz11_3, hcz11_4, hcz11_5, hcz11_6, hfz11_0, hfz11_1, hfz11_2, hfz11_3, hfz11_4, hfz11_5, hfz11_6⟩ := blkA7 BK101.out
      go_wp2
      go_meet
      case rel => exact ⟨_, (true), (by first | rfl | (simp; done) | (simp [*]; done)), H', ⟨by first | omega | exact Nat.le_refl _⟩, ⟨by (with_reducible repeat (first | refine blk_drewN ?_ _ | refine blk_drew ?_ | refine blk_alloc ?_ _)); exact BK101.out⟩, ⟨by repeat (first | (with_reducible first | exact HB.out | apply bwA | apply pwbN | apply bw1 | refine below_set ?_ GE101.out) | exact HB.out)⟩⟩
     ·rw [if_neg c10] at H
      have c10b0 : decide (1125899906842624 < a0_1) = false := decide_eq_false c10
      clear c10
      by_cases c12 : a0_2 < 0
      ·rw [if_pos c12] at H
       have c12b0 : decide (a0_2 < 0) = true := decide_eq_true c12
       clear c12
       have H' := Aside0.mk H
       clear H
       obtain ⟨hcz13_0, hcz13_1, hcz13_2, hcz13_3, hcz13_4, hcz13_5, hcz13_6, hfz13_0, hfz13_1, hfz13_2, hfz13_3, hfz13_4, hfz13_5, hfz13_6⟩ := blkA7 BK101.out
       go_wp2
       go_meet
       case rel => exact ⟨_, (true), (by first | rfl | (simp; done) | (simp [*]; done)), H', ⟨by first | omega | exact Nat.le_refl _⟩, ⟨by (with_reducible repeat (first | refine blk_drewN ?_ _ | refine blk_drew ?_ | refine blk_alloc ?_ _)); exact BK101.out⟩, ⟨by repeat (first | (with_reducible first | exact HB.out | apply bwA | apply pwbN | apply bw1 | refine below_set ?_ GE101.out) | exact HB.out)⟩⟩
      ·rw [if_neg c12] at H
       have c12b0 : decide (a0_2 < 0) = false := decide_eq_false c12
       clear c12
       have H' := Aside0.mk H
       clear H
       obtain ⟨hcz14_0, hcz14_1, hcz14_2, hcz14_3, hcz14_4, hcz14_5, hcz14_6, hfz14_0, hfz14_1, hfz14_2, hfz14_3, hfz14_4, hfz14_5, hfz14_6⟩ := blkA7 BK101.out
       go_wp2
       go_meet
       case rel => exact ⟨_, (decide (a0_2 > 1125899906842624)), (by first | rfl | (simp; done) | (simp [*]; done)), H', ⟨by first | omega | exact Nat.le_refl _⟩, ⟨by (with_reducible repeat (first | refine blk_drewN ?_ _ | refine blk_drew ?_ | refine blk_alloc ?_ _)); exact BK101.out⟩, ⟨by repeat (first | (with_reducible first | exact HB.out | apply bwA | apply pwbN | apply bw1 | refine below_set ?_ GE101.out) | exact HB.out)⟩⟩
 case rest =>
  clear HC2
  repeat first|clear c1|clear p2|clear c4|clear c4b0|clear c6|clear c6b0|clear c8|clear c8b0|clear c9|clear c10|clear c10b0|clear c12|clear c12b0|clear hcz11_0|clear hcz11_1|clear hcz11_2|clear hcz11_3|clear hcz11_4|clear hcz11_5|clear hcz11_6|clear hcz13_0|clear hcz13_1|clear hcz13_2|clear hcz13_3|clear hcz13_4|clear hcz13_5|clear hcz13_6|clear hcz14_0|clear hcz14_1|clear hcz14_2|clear hcz14_3|clear hcz14_4|clear hcz14_5|clear hcz14_6|clear hcz5_0|clear hcz5_1|clear hcz5_2|clear hcz5_3|clear hcz5_4|clear hcz5_5|clear hcz5_6|clear hcz7_0|clear hcz7_1|clear hcz7_2|clear hcz7_3|clear hcz7_4|clear hcz7_5|clear hcz7_6|clear hcz9_0|clear hcz9_1|clear hcz9_2|clear hcz9_3|clear hcz9_4|clear hcz9_5|clear hcz9_6|clear hfz11_0|clear hfz11_1|clear hfz11_2|clear hfz11_3|clear hfz11_4|clear hfz11_5|clear hfz11_6|clear hfz13_0|clear hfz13_1|clear hfz13_2|clear hfz13_3|clear hfz13_4|clear hfz13_5|clear hfz13_6|clear hfz14_0|clear hfz14_1|clear hfz14_2|clear hfz14_3|clear hfz14_4|clear hfz14_5|clear hfz14_6|clear hfz5_0|clear hfz5_1|clear hfz5_2|clear hfz5_3|clear hfz5_4|clear hfz5_5|clear hfz5_6|clear hfz7_0|clear hfz7_1|clear hfz7_2|clear hfz7_3|clear hfz7_4|clear hfz7_5|clear hfz7_6|clear hfz9_0|clear hfz9_1|clear hfz9_2|clear hfz9_3|clear hfz9_4|clear hfz9_5|clear hfz9_6
  obtain ⟨kq, x30_1, rfl, HA, HJ1, BK101, HB⟩ := hcut
  cases kq with
  | zero => exact absurd HA.out (by simp [creelref_MetaFault.j0])
  | succ kj1 =>
   have H := HA.out
   clear HA
   simp only [creelref_MetaFault.j0] at H
   by_cases c15 : x30_1 = true
   ·subst c15
    have H1 : (some 4) = some r := by rw [if_pos rfl] at H; exact H
    clear H
    have H := H1
    clear H1
    obtain rfl := Option.some.inj H
    go_wp2
    go_ret
    exact ⟨by first | rfl | (simp [errW_none, errW_some] <;> rfl) | (simp [*, errW_none, errW_some] <;> rfl), by repeat (first | (with_reducible first | exact HB.out | apply bwA | apply pwbN | apply bw1 | refine below_set ?_ GE101.out) | exact HB.out)⟩
   ·replace c15 := Bool.eq_false_iff.mpr c15
    subst c15
    have H1 : (if (a0_3.size : Int) > 60 then (creelref_MetaFault.j1 kj1 true a0_0 a0_1 a0_2 a0_3 a0_4 a0_5 a0_6) else (creelref_MetaFault.j1 kj1 (decide ((a0_4.size : Int) > 60)) a0_0 a0_1 a0_2 a0_3 a0_4 a0_5 a0_6)) = some r := by rw [if_neg (show ¬ (false = true) by decide)] at H; exact H
    clear H
    have H := H1
    clear H1
    have HC16 := Aside0.mk H
    clear H
    go_upto_region 3 with (fail)
    go_cut [40] (fun v40 wc => ∃ (kq : Nat) (x40_15 : Bool), v40 = .bool x40_15 ∧ Aside0 (creelref_MetaFault.j1 kq x40_15 a0_0 a0_1 a0_2 a0_3 a0_4 a0_5 a0_6 = some r) ∧ Aside0 (kq ≤ kj1) ∧ Aside0 (wc.heap[gb101]? = some (.cells #[.int .i64 a0_0, .int .i64 a0_1, .int .i64 a0_2, .string a0_3, .string a0_4, .int .i64 a0_5, .int .i64 a0_6] 42 (0, 0))) ∧ Aside0 (Below w.heap.size w wc))
    case first =>
     have H := HC16.out
     clear HC16
     by_cases c17 : (a0_3.size : Int) > 60
     ·rw [if_pos c17] at H
      have c17b0 : decide (60 < (a0_3.size : Int)) = true := decide_eq_true c17
      have c17b1 : decide (60 < a0_3.size) = true := decide_eq_true (by omega)
      clear c17
      (first | rw [c17b0] | (simp only [i64_w, i32_w]; rw [c17b0]) | skip)
      have H' := Aside0.mk H
      clear H
      obtain ⟨hcz18_0, hcz18_1, hcz18_2, hcz18_3, hcz18_4, hcz18_5, hcz18_6, hfz18_0, hfz18_1, hfz18_2, hfz18_3, hfz18_4, hfz18_5, hfz18_6⟩ := blkA7 BK101.out
      go_wp2
      go_meet
      case rel => exact ⟨_, (true), (by first | rfl | (simp; done) | (simp [*]; done)), H', ⟨by have := HJ1.out; first | omega | exact Nat.le_refl _⟩, ⟨by (with_reducible repeat (first | refine blk_drewN ?_ _ | refine blk_drew ?_ | refine blk_alloc ?_ _)); exact BK101.out⟩, ⟨by repeat (first | (with_reducible first | exact HB.out | apply bwA | apply pwbN | apply bw1 | refine below_set ?_ GE101.out) | exact HB.out)⟩⟩
     ·rw [if_neg c17] at H
      have c17b0 : decide (60 < (a0_3.size : Int)) = false := decide_eq_false c17
      have c17b1 : decide (60 < a0_3.size) = false := decide_eq_false (by omega)
      clear c17
      (first | rw [c17b0] | (simp only [i64_w, i32_w]; rw [c17b0]) | skip)
      have H' := Aside0.mk H
      clear H
      obtain ⟨hcz19_0, hcz19_1, hcz19_2, hcz19_3, hcz19_4, hcz19_5, hcz19_6, hfz19_0, hfz19_1, hfz19_2, hfz19_3, hfz19_4, hfz19_5, hfz19_6⟩ := blkA7 BK101.out
      go_wp2
      go_meet
      case rel => exact ⟨_, (decide ((a0_4.size : Int) > 60)), (by first | rfl | (simp; done) | (simp [*]; done)), H', ⟨by have := HJ1.out; first | omega | exact Nat.le_refl _⟩, ⟨by (with_reducible repeat (first | refine blk_drewN ?_ _ | refine blk_drew ?_ | refine blk_alloc ?_ _)); exact BK101.out⟩, ⟨by repeat (first | (with_reducible first | exact HB.out | apply bwA | apply pwbN | apply bw1 | refine below_set ?_ GE101.out) | exact HB.out)⟩⟩
    case rest =>
     clear HC16
     repeat first|clear c1|clear p2|clear c4|clear c4b0|clear c6|clear c6b0|clear c8|clear c8b0|clear c9|clear c10|clear c10b0|clear c12|clear c12b0|clear c15|clear c17|clear c17b0|clear c17b1|clear hcz11_0|clear hcz11_1|clear hcz11_2|clear hcz11_3|clear hcz11_4|clear hcz11_5|clear hcz11_6|clear hcz13_0|clear hcz13_1|clear hcz13_2|clear hcz13_3|clear hcz13_4|clear hcz13_5|clear hcz13_6|clear hcz14_0|clear hcz14_1|clear hcz14_2|clear hcz14_3|clear hcz14_4|clear hcz14_5|clear hcz14_6|clear hcz18_0|clear hcz18_1|clear hcz18_2|clear hcz18_3|clear hcz18_4|clear hcz18_5|clear hcz18_6|clear hcz19_0|clear hcz19_1|clear hcz19_2|clear hcz19_3|clear hcz19_4|clear hcz19_5|clear hcz19_6|clear hcz5_0|clear hcz5_1|clear hcz5_2|clear hcz5_3|clear hcz5_4|clear hcz5_5|clear hcz5_6|clear hcz7_0|clear hcz7_1|clear hcz7_2|clear hcz7_3|clear hcz7_4|clear hcz7_5|clear hcz7_6|clear hcz9_0|clear hcz9_1|clear hcz9_2|clear hcz9_3|clear hcz9_4|clear hcz9_5|clear hcz9_6|clear hfz11_0|clear hfz11_1|clear hfz11_2|clear hfz11_3|clear hfz11_4|clear hfz11_5|clear hfz11_6|clear hfz13_0|clear hfz13_1|clear hfz13_2|clear hfz13_3|clear hfz13_4|clear hfz13_5|clear hfz13_6|clear hfz14_0|clear hfz14_1|clear hfz14_2|clear hfz14_3|clear hfz14_4|clear hfz14_5|clear hfz14_6|clear hfz18_0|clear hfz18_1|clear hfz18_2|clear hfz18_3|clear hfz18_4|clear hfz18_5|clear hfz18_6|clear hfz19_0|clear hfz19_1|clear hfz19_2|clear hfz19_3|clear hfz19_4|clear hfz19_5|clear hfz19_6|clear hfz5_0|clear hfz5_1|clear hfz5_2|clear hfz5_3|clear hfz5_4|clear hfz5_5|clear hfz5_6|clear hfz7_0|clear hfz7_1|clear hfz7_2|clear hfz7_3|clear hfz7_4|clear hfz7_5|clear hfz7_6|clear hfz9_0|clear hfz9_1|clear hfz9_2|clear hfz9_3|clear hfz9_4|clear hfz9_5|clear hfz9_6|clear p2
     obtain ⟨kq, x40_15, rfl, HA, HJ15, BK101, HB⟩ := hcut
     cases kq with
     | zero => exact absurd HA.out (by simp [creelref_MetaFault.j1])
     | succ kj15 =>
      have H := HA.out
      clear HA
      simp only [creelref_MetaFault.j1] at H
      by_cases c20 : x40_15 = true
      ·subst c20
       have H1 : (some 1) = some r := by rw [if_pos rfl] at H; exact H
       clear H
       have H := H1
       clear H1
       obtain rfl := Option.some.inj H
       go_wp2
       go_ret
       exact ⟨by first | rfl | (simp [errW_none, errW_some] <;> rfl) | (simp [*, errW_none, errW_some] <;> rfl), by repeat (first | (with_reducible first | exact HB.out | apply bwA | apply pwbN | apply bw1 | refine below_set ?_ GE101.out) | exact HB.out)⟩
      ·replace c20 := Bool.eq_false_iff.mpr c20
       subst c20
       have H1 : ((creelref_has.f kj15 a0_3 0).bind fun t102 => (if t102 = true then (some 3) else ((creelref_has.f kj15 a0_4 0).bind fun t103 => (if t103 = true then (some 3) else ((creelref_TimeFault.f a0_5 a0_6).bind fun t104 => (some t104)))))) = some r := by rw [if_neg (show ¬ (false = true) by decide)] at H; exact H
       clear H
       have H := H1
       clear H1
       replace H := Option.bind_eq_some_iff.mp H
       obtain ⟨t102, A210, H⟩ := H
       replace H : (if t102 = true then (some 3) else ((creelref_has.f kj15 a0_4 0).bind fun t103 => (if t103 = true then (some 3) else ((creelref_TimeFault.f a0_5 a0_6).bind fun t104 => (some t104))))) = some r := H
       have A21 := Aside0.mk A210
       clear A210
       by_cases c22 : t102 = true
       ·subst c22
        have H1 : (some 3) = some r := by rw [if_pos rfl] at H; exact H
        clear H
        have H := H1
        clear H1
        obtain rfl := Option.some.inj H
        obtain ⟨hcz23_0, hcz23_1, hcz23_2, hcz23_3, hcz23_4, hcz23_5, hcz23_6, hfz23_0, hfz23_1, hfz23_2, hfz23_3, hfz23_4, hfz23_5, hfz23_6⟩ := blkA7 BK101.out
        go_wp2_with (first | ((with_reducible refine gate_callee (f := 65) rfl ?_); refine goesL_ (some 43) rfl rfl Tryd.func65 (by kernel_rfl) rfl #[.string a0_3, .int .u8 0] rfl (by (try simp only [List.map_toArray, List.map_cons, List.map_nil]); first | done | rfl | (simp only [List.length_drop, List.length_take]; rfl)) ?_; (with_reducible refine (creelref_has.calls kj15 a0_3 0 true _ A21.out).mono ?_); rintro e w' ⟨rfl, ⟨nd, rfl⟩⟩; refine ⟨_, rfl, ?_⟩))
        go_ret
        exact ⟨by first | rfl | (simp [errW_none, errW_some] <;> rfl) | (simp [*, errW_none, errW_some] <;> rfl), by repeat (first | (with_reducible first | exact HB.out | apply bwA | apply pwbN | apply bw1 | refine below_set ?_ GE101.out) | exact HB.out)⟩
       ·replace c22 := Bool.eq_false_iff.mpr c22
        subst c22
        have H1 : ((creelref_has.f kj15 a0_4 0).bind fun t103 => (if t103 = true then (some 3) else ((creelref_TimeFault.f a0_5 a0_6).bind fun t104 => (some t104)))) = some r := by rw [if_neg (show ¬ (false = true) by decide)] at H; exact H
        clear H
        have H := H1
        clear H1
        replace H := Option.bind_eq_some_iff.mp H
        obtain ⟨t103, A240, H⟩ := H
        replace H : (if t103 = true then (some 3) else ((creelref_TimeFault.f a0_5 a0_6).bind fun t104 => (some t104))) = some r := H
        have A24 := Aside0.mk A240
        clear A240
        by_cases c25 : t103 = true
        ·subst c25
         have H1 : (some 3) = some r := by rw [if_pos rfl] at H; exact H
         clear H
         have H := H1
         clear H1
         obtain rfl := Option.some.inj H
         obtain ⟨hcz26_0, hcz26_1, hcz26_2, hcz26_3, hcz26_4, hcz26_5, hcz26_6, hfz26_0, hfz26_1, hfz26_2, hfz26_3, hfz26_4, hfz26_5, hfz26_6⟩ := blkA7 BK101.out
         go_wp2_with (first | ((with_reducible refine gate_callee (f := 65) rfl ?_); refine goesL_ (some 43) rfl rfl Tryd.func65 (by kernel_rfl) rfl #[.string a0_3, .int .u8 0] rfl (by (try simp only [List.map_toArray, List.map_cons, List.map_nil]); first | done | rfl | (simp only [List.length_drop, List.length_take]; rfl)) ?_; (with_reducible refine (creelref_has.calls kj15 a0_3 0 false _ A21.out).mono ?_); rintro e w' ⟨rfl, ⟨nd, rfl⟩⟩; refine ⟨_, rfl, ?_⟩) | (go_at_call 65; (with_reducible refine (creelref_has.calls kj15 a0_4 0 true _ A24.out).mono ?_); rintro e w' ⟨rfl, ⟨nd, rfl⟩⟩))
         go_ret
         exact ⟨by first | rfl | (simp [errW_none, errW_some] <;> rfl) | (simp [*, errW_none, errW_some] <;> rfl), by repeat (first | (with_reducible first | exact HB.out | apply bwA | apply pwbN | apply bw1 | refine below_set ?_ GE101.out) | exact HB.out)⟩
        ·replace c25 := Bool.eq_false_iff.mpr c25
         subst c25
         have H1 : ((creelref_TimeFault.f a0_5 a0_6).bind fun t104 => (some t104)) = some r := by rw [if_neg (show ¬ (false = true) by decide)] at H; exact H
         clear H
         have H := H1
         clear H1
         replace H := Option.bind_eq_some_iff.mp H
         obtain ⟨t104, A270, H⟩ := H
         replace H : (some t104) = some r := H
         have A27 := Aside0.mk A270
         clear A270
         obtain rfl := Option.some.inj H
         obtain ⟨hcz28_0, hcz28_1, hcz28_2, hcz28_3, hcz28_4, hcz28_5, hcz28_6, hfz28_0, hfz28_1, hfz28_2, hfz28_3, hfz28_4, hfz28_5, hfz28_6⟩ := blkA7 BK101.out
         go_wp2_with (first | ((with_reducible refine gate_callee (f := 65) rfl ?_); refine goesL_ (some 43) rfl rfl Tryd.func65 (by kernel_rfl) rfl #[.string a0_3, .int .u8 0] rfl (by (try simp only [List.map_toArray, List.map_cons, List.map_nil]); first | done | rfl | (simp only [List.length_drop, List.length_take]; rfl)) ?_; (with_reducible refine (creelref_has.calls kj15 a0_3 0 false _ A21.out).mono ?_); rintro e w' ⟨rfl, ⟨nd, rfl⟩⟩; refine ⟨_, rfl, ?_⟩) | (go_at_call 65; (with_reducible refine (creelref_has.calls kj15 a0_4 0 false _ A24.out).mono ?_); rintro e w' ⟨rfl, ⟨nd, rfl⟩⟩) | ((with_reducible refine gate_callee (f := 99) rfl ?_); refine goesL_ (some 53) rfl rfl Tryd.func99 (by kernel_rfl) rfl #[.int .i64 a0_5, .int .i64 a0_6] rfl (by (try simp only [List.map_toArray, List.map_cons, List.map_nil]); first | done | rfl | (simp only [List.length_drop, List.length_take]; rfl)) ?_; (with_reducible refine (creelref_TimeFault.calls a0_5 a0_6 t104 _ A27.out).mono ?_); rintro e w' ⟨rfl, ⟨nd, rfl⟩⟩; refine ⟨_, rfl, ?_⟩))
         go_ret
         exact ⟨by first | rfl | (simp [errW_none, errW_some] <;> rfl) | (simp [*, errW_none, errW_some] <;> rfl), by repeat (first | (with_reducible first | exact HB.out | apply bwA | apply pwbN | apply bw1 | refine below_set ?_ GE101.out) | exact HB.out)⟩
end Go.Proofs.YtcbbcnmifohibaaDoor.All
end
