/- Made by programs of the prover: walks of Go functions, the words that they use, and plain laws, each text in a section of its own; no condition of its own. -/
import Derived.Deep.Slices
import Derived.SizedLaws
import Derived.ChangeSlices
import Derived.ChangeArms
import Derived.ChangeSame
import Derived.ProofKit
import Derived.Lib.Bytealg
import Derived.Lib.IndexAny
import Derived.Lib.IndexLaws
import Derived.Test.YtgkofpjeiogafaaDoorZFaultFirsts1
import Derived.Test.YtgkofpjeiogafaaDoorZFaultFirsts2
import Derived.Test.YtgkofpjeiogafaaDoorZFaultFirsts3
import Derived.Test.YtgkofpjeiogafaaDoorZFaultFirsts4
import Derived.Test.YtgkofpjeiogafaaDoorZFaultFirsts5
import Derived.Test.YtgkofpjeiogafaaDoorZFaultFirsts6
import Derived.Test.YtgkofpjeiogafaaDoorZFaultFirsts7
import Derived.Test.YtgkofpjeiogafaaDoorZFaultFirsts8
import Derived.Test.YtgkofpjeiogafaaDoorZFaultFirsts9
section
namespace Go.Proofs.YtgkofpjeiogafaaDoor.All
open Go.RowKit Go.Proofs.YtgkofpjeiogafaaDoorW.PrintWords Go.Proofs.YtgkofpjeiogafaaDoorW.PrintLast Go.Proofs.YtgkofpjeiogafaaDoorW.PrintMore
open Go.Proofs.YtgkofpjeiogafaaDoorW.Mine
attribute [local go_sem] gtr_string leq_string geq_string
attribute [local go_sem] max2_int min2_int max_two min_two max_three min_three max_four min_four   -- for this text's walks alone
set_option linter.unusedVariables false
set_option linter.unusedSimpArgs false

attribute [local go_sem high] eqA40
/-! ### creellaw_FaultFirsts: function 6 -/
def creellaw_FaultFirsts.f (k : Nat) (l0 : List (S80)) (l1 : List (S40)) : Option (Bool) := (fault_Check.f k l1).bind fun t101 => ((fault_First.f k l0 l1).bind fun bt102 => ((creelref_FaultsFault.f k l1).bind fun t107 => ((creelref_FaultFirst.f k l0 l1).bind fun bt108 => (if t101 = t107 then (if (bt102.1.toList == bt108.1.toList && (bt102.2.1 == bt108.2.1)) = true then (if bt102.2.2.1 = bt108.2.2.1 then (some (bt102.2.2.2 == bt108.2.2.2)) else (some false)) else (some false)) else (some false)))))
theorem creellaw_FaultFirsts.mono : ∀ a0 a1 k, LeO (creellaw_FaultFirsts.f k a0 a1) (creellaw_FaultFirsts.f (k + 1) a0 a1) := by
 intro a0 a1 k
 unfold creellaw_FaultFirsts.f
 repeat' first
   | (with_reducible exact creelref_FaultFirst.mono _ _ _)
   | (with_reducible exact creelref_FaultsFault.mono _ _)
   | (with_reducible exact fault_Check.mono _ _)
   | (with_reducible exact fault_First.mono _ _ _)
   | (with_reducible exact LeO.refl _)
   | (with_reducible exact LeO.none _)
   | (with_reducible refine LeO.ite ?_ ?_)
   | (with_reducible refine LeO.bind ?_ (fun _ => ?_))
   | exact creelref_FaultFirst.mono _ _ _
   | exact creelref_FaultsFault.mono _ _
   | exact fault_Check.mono _ _
   | exact fault_First.mono _ _ _
   | exact LeO.none _
   | refine LeO.ite ?_ ?_
   | refine LeO.bind ?_ (fun _ => ?_)
set_option maxHeartbeats 8000000 in
set_option maxRecDepth 100000 in
theorem creellaw_FaultFirsts.calls (k : Nat) (A0 : Option Addr) (c0 : Nat) (l0 : List (S80)) (A1 : Option Addr) (c1 : Nat) (l1 : List (S40)) (r : Bool) (w : World) (hr0 : Kd.C k80 w A0 l0.length l0) (hc0 : l0.length ≤ c0) (hr1 : Kd.C k40 w A1 l1.length l1) (hc1 : l1.length ≤ c1) (h : creellaw_FaultFirsts.f k l0 l1 = some r) :
  Calls Tryd.prog 6 #[.slice A0 l0.length c0, .slice A1 l1.length c1] w fun e w' => e = .returned (.bool r) ∧ Below w.heap.size w w' := by
 have hu40 := Tryd.underlying40
 have HR0 := Aside0.mk hr0
 have HC0 := Aside0.mk hc0
 clear hr0 hc0
 have HR1 := Aside0.mk hr1
 have HC1 := Aside0.mk hc1
 clear hr1 hc1
 have HB := Aside0.mk (Below.refl w.heap.size w)
 have H : ((fault_Check.f k l1).bind fun t101 => ((fault_First.f k l0 l1).bind fun bt102 => ((creelref_FaultsFault.f k l1).bind fun t107 => ((creelref_FaultFirst.f k l0 l1).bind fun bt108 => (if t101 = t107 then (if (bt102.1.toList == bt108.1.toList && (bt102.2.1 == bt108.2.1)) = true then (if bt102.2.2.1 = bt108.2.2.1 then (some (bt102.2.2.2 == bt108.2.2.2)) else (some false)) else (some false)) else (some false)))))) = some r := h
 clear h
 replace H := Option.bind_eq_some_iff.mp H
 obtain ⟨t101, A30, H⟩ := H
 replace H : ((fault_First.f k l0 l1).bind fun bt102 => ((creelref_FaultsFault.f k l1).bind fun t107 => ((creelref_FaultFirst.f k l0 l1).bind fun bt108 => (if t101 = t107 then (if (bt102.1.toList == bt108.1.toList && (bt102.2.1 == bt108.2.1)) = true then (if bt102.2.2.1 = bt108.2.2.1 then (some (bt102.2.2.2 == bt108.2.2.2)) else (some false)) else (some false)) else (some false))))) = some r := H
 have A3 := Aside0.mk A30
 clear A30
 replace H := Option.bind_eq_some_iff.mp H
 obtain ⟨⟨t102, t103, t104, t105⟩, A40, H⟩ := H
 replace H : ((creelref_FaultsFault.f k l1).bind fun t107 => ((creelref_FaultFirst.f k l0 l1).bind fun bt108 => (if t101 = t107 then (if (t102.toList == bt108.1.toList && (t103 == bt108.2.1)) = true then (if t104 = bt108.2.2.1 then (some (t105 == bt108.2.2.2)) else (some false)) else (some false)) else (some false)))) = some r := H
 have A4 := Aside0.mk A40
 clear A40
 replace H := Option.bind_eq_some_iff.mp H
 obtain ⟨t107, A50, H⟩ := H
 replace H : ((creelref_FaultFirst.f k l0 l1).bind fun bt108 => (if t101 = t107 then (if (t102.toList == bt108.1.toList && (t103 == bt108.2.1)) = true then (if t104 = bt108.2.2.1 then (some (t105 == bt108.2.2.2)) else (some false)) else (some false)) else (some false))) = some r := H
 have A5 := Aside0.mk A50
 clear A50
 replace H := Option.bind_eq_some_iff.mp H
 obtain ⟨⟨t108, t109, t110, t111⟩, A60, H⟩ := H
 replace H : (if t101 = t107 then (if (t102.toList == t108.toList && (t103 == t109)) = true then (if t104 = t110 then (some (t105 == t111)) else (some false)) else (some false)) else (some false)) = some r := H
 have A6 := Aside0.mk A60
 clear A60
 by_cases c7 : t101 = t107
 ·rw [if_pos c7] at H
  have c7b0 : (t101 == t107) = true := beq_iff_eq.mpr c7
  have c7b1 : (t101 != t107) = false := bne_eq_false_iff_eq.mpr c7
  clear c7
  by_cases c8 : (t102.toList == t108.toList && (t103 == t109)) = true
  ·rw [if_pos c8] at H
   have c8b0 : (t102.toList == t108.toList && (t103 == t109)) = true := c8
   (try (have c8b1 : decide (t102.toList = t108.toList && (t103 == t109)) = true := by simpa using c8))
   (try (have c8b2 : (t102.toList == t108.toList && (t103 == t109)) = true := by simpa using c8))
   clear c8
   by_cases c9 : t104 = t110
   ·rw [if_pos c9] at H
    have c9b0 : (t104 == t110) = true := beq_iff_eq.mpr c9
    have c9b1 : (t104 != t110) = false := bne_eq_false_iff_eq.mpr c9
    clear c9
    obtain rfl := Option.some.inj H
    go_enter Tryd.func6, Tryd.ntmps6
    go_wp2_with (first | ((with_reducible refine gate_callee (f := 16) rfl ?_); refine goesL_ (some 14) rfl rfl Tryd.func16 (by kernel_rfl) rfl #[.slice A1 l1.length c1] rfl (by (try simp only [List.map_toArray, List.map_cons, List.map_nil]); first | done | rfl | (simp only [List.length_drop, List.length_take]; rfl)) ?_; (with_reducible refine (fault_Check.calls k _ _ l1 t101 _ ?side1 ?side2 A3.out).mono ?_); (case side1 => repeat (first | exact HR1.out | (with_reducible refine Kd.C_alloc ?_ _) | (with_reducible refine Kd.C_drewN ?_ _) | (with_reducible refine Kd.C_drew ?_))); (case side2 => exact HC1.out); rintro e w10 ⟨rfl, hb⟩; refine ⟨_, rfl, ?_⟩; have n0_ := Aside0.mk (below_step (by repeat (first | (with_reducible first | exact HB.out | apply below_alloc | apply pw_below_drewN | apply below_drew1) | exact HB.out)) hb); clear HB; have HB := n0_; clear n0_; (try clear hb); (try clear hb2); (try clear hk); (try clear hi)) | ((with_reducible refine gate_callee (f := 17) rfl ?_); refine goesL_ (some 18) rfl rfl Tryd.func17 (by kernel_rfl) rfl #[.slice A0 l0.length c0, .slice A1 l1.length c1] rfl (by (try simp only [List.map_toArray, List.map_cons, List.map_nil]); first | done | rfl | (simp only [List.length_drop, List.length_take]; rfl)) ?_; (with_reducible refine (fault_First.calls k _ _ l0 _ _ l1 t102 t103 t104 t105 _ ?side1 ?side2 ?side3 ?side4 A4.out).mono ?_); (case side1 => repeat (first | exact (Kd.C_below HR0.out HB.out) | (with_reducible refine Kd.C_alloc ?_ _) | (with_reducible refine Kd.C_drewN ?_ _) | (with_reducible refine Kd.C_drew ?_))); (case side2 => exact HC0.out); (case side3 => repeat (first | exact (Kd.C_below HR1.out HB.out) | (with_reducible refine Kd.C_alloc ?_ _) | (with_reducible refine Kd.C_drewN ?_ _) | (with_reducible refine Kd.C_drew ?_))); (case side4 => exact HC1.out); rintro e w11 ⟨rfl, hb⟩; refine ⟨_, rfl, ?_⟩; have n0_ := Aside0.mk (below_step (by repeat (first | (with_reducible first | exact HB.out | apply below_alloc | apply pw_below_drewN | apply below_drew1) | exact HB.out)) hb); clear HB; have HB := n0_; clear n0_; (try clear hb); (try clear hb2); (try clear hk); (try clear hi)) | ((with_reducible refine gate_dst (N := 6) rfl ?_); refine box_event ?hg (N := 6) ?hd (cs := #[.string (⟨#[]⟩ : ByteArray), .int .i64 0]) (t := 40) ?hr ?_; (case hd => rfl); (case hg => rfl); (case hr => first | (go_simp; done) | (go_simp; rfl)); intro gb106 hg w12 hbox hb; have n0_ := Aside0.mk (below_step (by repeat (first | (with_reducible first | exact HB.out | apply below_alloc | apply pw_below_drewN | apply below_drew1) | exact HB.out)) hb); have n1_ := Aside0.mk (hbox); have n2_ := Aside0.mk ((by rw [hg]; exact (below_size (by repeat (first | (with_reducible first | exact HB.out | apply below_alloc | apply pw_below_drewN | apply below_drew1) | exact HB.out))) : w.heap.size ≤ gb106)); have n3_ := Aside0.mk ((by rw [hg]; exact (below_size (by repeat (first | (with_reducible first | exact HB.out | apply below_alloc | apply pw_below_drewN | apply below_drew1) | exact HB.out))) : w.heap.size ≤ gb106)); clear HB; have HB := n0_; have BK106 := n1_; have GW106 := n2_; have GE106 := n3_; clear n0_ n1_ n2_ n3_; clear hb hbox hg; have hcz13_0 : w12.cell? ⟨gb106, 0, none⟩ = some (.string (⟨#[]⟩ : ByteArray)) := (blk_cell BK106.out 0).trans rfl; have hcz13_1 : w12.cell? ⟨gb106, 1, none⟩ = some (.int .i64 0) := (blk_cell BK106.out 1).trans rfl; have hfz13_0 := blk_frozen BK106.out 0; have hfz13_1 := blk_frozen BK106.out 1) | ((with_reducible refine gate_callee (f := 18) rfl ?_); refine goesL_ (some 23) rfl rfl Tryd.func18 (by kernel_rfl) rfl #[.slice A1 l1.length c1] rfl (by (try simp only [List.map_toArray, List.map_cons, List.map_nil]); first | done | rfl | (simp only [List.length_drop, List.length_take]; rfl)) ?_; (with_reducible refine (creelref_FaultsFault.calls k _ _ l1 t107 _ ?side1 ?side2 A5.out).mono ?_); (case side1 => exact Kd.C_below HR1.out (by repeat (first | (with_reducible first | exact HB.out | apply below_alloc | apply pw_below_drewN | apply below_drew1 | refine below_set ?_ GE106.out) | exact HB.out))); (case side2 => exact HC1.out); rintro e w14 ⟨rfl, hb⟩; refine ⟨_, rfl, ?_⟩; have n0_ := Aside0.mk (blk_below (g := gb106) (o := .cells #[.string t102, .int .i64 t103] 40 (0, 0)) (by (with_reducible repeat (first | refine blk_drewN ?_ _ | refine blk_drew ?_ | refine blk_alloc ?_ _)); refine blk_put (cs := #[.string t102, .int .i64 0]) ?_ 1 _ rfl; (with_reducible repeat (first | refine blk_drewN ?_ _ | refine blk_drew ?_ | refine blk_alloc ?_ _)); refine blk_put (cs := #[.string (⟨#[]⟩ : ByteArray), .int .i64 0]) ?_ 0 _ rfl; (with_reducible repeat (first | refine blk_drewN ?_ _ | refine blk_drew ?_ | refine blk_alloc ?_ _)); exact BK106.out) hb); have n1_ := Aside0.mk (below_step (by repeat (first | (with_reducible first | exact HB.out | apply below_alloc | apply pw_below_drewN | apply below_drew1 | refine below_set ?_ GE106.out) | exact HB.out)) hb); clear BK106; clear HB; have BK106 := n0_; have HB := n1_; clear n0_ n1_; (try clear hb); (try clear hb2); (try clear hk); (try clear hi)) | ((with_reducible refine gate_callee (f := 19) rfl ?_); refine goesL_ (some 27) rfl rfl Tryd.func19 (by kernel_rfl) rfl #[.slice A0 l0.length c0, .slice A1 l1.length c1] rfl (by (try simp only [List.map_toArray, List.map_cons, List.map_nil]); first | done | rfl | (simp only [List.length_drop, List.length_take]; rfl)) ?_; (with_reducible refine (creelref_FaultFirst.calls k _ _ l0 _ _ l1 t108 t109 t110 t111 _ ?side1 ?side2 ?side3 ?side4 A6.out).mono ?_); (case side1 => repeat (first | exact (Kd.C_below HR0.out HB.out) | (with_reducible refine Kd.C_alloc ?_ _) | (with_reducible refine Kd.C_drewN ?_ _) | (with_reducible refine Kd.C_drew ?_))); (case side2 => exact HC0.out); (case side3 => repeat (first | exact (Kd.C_below HR1.out HB.out) | (with_reducible refine Kd.C_alloc ?_ _) | (with_reducible refine Kd.C_drewN ?_ _) | (with_reducible refine Kd.C_drew ?_))); (case side4 => exact HC1.out); rintro e w15 ⟨rfl, hb⟩; refine ⟨_, rfl, ?_⟩; have n0_ := Aside0.mk (blk_below (g := gb106) (o := .cells #[.string t102, .int .i64 t103] 40 (0, 0)) (by (with_reducible repeat (first | refine blk_drewN ?_ _ | refine blk_drew ?_ | refine blk_alloc ?_ _)); exact BK106.out) hb); have n1_ := Aside0.mk (below_step (by repeat (first | (with_reducible first | exact HB.out | apply below_alloc | apply pw_below_drewN | apply below_drew1 | refine below_set ?_ GE106.out) | exact HB.out)) hb); clear BK106; clear HB; have BK106 := n0_; have HB := n1_; clear n0_ n1_; (try clear hb); (try clear hb2); (try clear hk); (try clear hi)) | ((with_reducible refine gate_dst (N := 10) rfl ?_); refine box_event ?hg (N := 10) ?hd (cs := #[.string (⟨#[]⟩ : ByteArray), .int .i64 0]) (t := 40) ?hr ?_; (case hd => rfl); (case hg => rfl); (case hr => first | (go_simp; done) | (go_simp; rfl)); intro gb112 hg w16 hbox hb; have n0_ := Aside0.mk (blk_below (g := gb106) (o := .cells #[.string t102, .int .i64 t103] 40 (0, 0)) (by (with_reducible repeat (first | refine blk_drewN ?_ _ | refine blk_drew ?_ | refine blk_alloc ?_ _)); exact BK106.out) hb); have n1_ := Aside0.mk (below_step (by repeat (first | (with_reducible first | exact HB.out | apply below_alloc | apply pw_below_drewN | apply below_drew1 | refine below_set ?_ GE106.out) | exact HB.out)) hb); have n2_ := Aside0.mk (hbox); have n3_ := Aside0.mk ((by rw [hg]; exact (below_size (by repeat (first | (with_reducible first | exact HB.out | apply below_alloc | apply pw_below_drewN | apply below_drew1 | refine below_set ?_ GE106.out) | exact HB.out))) : w.heap.size ≤ gb112)); have n4_ := Aside0.mk ((by rw [hg]; exact (below_size (by repeat (first | (with_reducible first | exact HB.out | apply below_alloc | apply pw_below_drewN | apply below_drew1 | refine below_set ?_ GE106.out) | exact HB.out))) : w.heap.size ≤ gb112)); have n5_ := Aside0.mk ((by rw [hg]; exact Nat.ne_of_lt (blk_lt (g := gb106) (o := .cells #[.string t102, .int .i64 t103] 40 (0, 0)) (by (with_reducible repeat (first | refine blk_drewN ?_ _ | refine blk_drew ?_ | refine blk_alloc ?_ _)); exact BK106.out)) : gb106 ≠ gb112)); have n6_ := Aside0.mk ((by rw [hg]; exact Nat.ne_of_gt (blk_lt (g := gb106) (o := .cells #[.string t102, .int .i64 t103] 40 (0, 0)) (by (with_reducible repeat (first | refine blk_drewN ?_ _ | refine blk_drew ?_ | refine blk_alloc ?_ _)); exact BK106.out)) : gb112 ≠ gb106)); clear BK106; clear HB; have BK106 := n0_; have HB := n1_; have BK112 := n2_; have GW112 := n3_; have GE112 := n4_; have NB106_112 := n5_; have NB112_106 := n6_; clear n0_ n1_ n2_ n3_ n4_ n5_ n6_; clear hb hbox hg; have hnb17 := NB112_106.out; have hnc17 := NB106_112.out; have hcz18_0 : w16.cell? ⟨gb112, 0, none⟩ = some (.string (⟨#[]⟩ : ByteArray)) := (blk_cell BK112.out 0).trans rfl; have hcz18_1 : w16.cell? ⟨gb112, 1, none⟩ = some (.int .i64 0) := (blk_cell BK112.out 1).trans rfl; have hfz18_0 := blk_frozen BK112.out 0; have hfz18_1 := blk_frozen BK112.out 1; have hcz19_0 : w16.cell? ⟨gb106, 0, none⟩ = some (.string t102) := (blk_cell BK106.out 0).trans rfl; have hcz19_1 : w16.cell? ⟨gb106, 1, none⟩ = some (.int .i64 t103) := (blk_cell BK106.out 1).trans rfl; have hfz19_0 := blk_frozen BK106.out 0; have hfz19_1 := blk_frozen BK106.out 1))
    go_ret
    exact ⟨by first | rfl | (simp [errW_none, errW_some] <;> rfl) | (simp [*, errW_none, errW_some] <;> rfl), by repeat (first | (with_reducible first | exact HB.out | apply below_alloc | apply pw_below_drewN | apply below_drew1 | refine below_set ?_ GE106.out | refine below_set ?_ GE112.out) | exact HB.out)⟩
   ·rw [if_neg c9] at H
    have c9b0 : (t104 == t110) = false := beq_eq_false_iff_ne.mpr c9
    have c9b1 : (t104 != t110) = true := bne_iff_ne.mpr c9
    obtain rfl := Option.some.inj H
    go_enter Tryd.func6, Tryd.ntmps6
    go_wp2_with (first | ((with_reducible refine gate_callee (f := 16) rfl ?_); refine goesL_ (some 14) rfl rfl Tryd.func16 (by kernel_rfl) rfl #[.slice A1 l1.length c1] rfl (by (try simp only [List.map_toArray, List.map_cons, List.map_nil]); first | done | rfl | (simp only [List.length_drop, List.length_take]; rfl)) ?_; (with_reducible refine (fault_Check.calls k _ _ l1 t101 _ ?side1 ?side2 A3.out).mono ?_); (case side1 => repeat (first | exact HR1.out | (with_reducible refine Kd.C_alloc ?_ _) | (with_reducible refine Kd.C_drewN ?_ _) | (with_reducible refine Kd.C_drew ?_))); (case side2 => exact HC1.out); rintro e w20 ⟨rfl, hb⟩; refine ⟨_, rfl, ?_⟩; have n0_ := Aside0.mk (below_step (by repeat (first | (with_reducible first | exact HB.out | apply below_alloc | apply pw_below_drewN | apply below_drew1) | exact HB.out)) hb); clear HB; have HB := n0_; clear n0_; (try clear hb); (try clear hb2); (try clear hk); (try clear hi)) | ((with_reducible refine gate_callee (f := 17) rfl ?_); refine goesL_ (some 18) rfl rfl Tryd.func17 (by kernel_rfl) rfl #[.slice A0 l0.length c0, .slice A1 l1.length c1] rfl (by (try simp only [List.map_toArray, List.map_cons, List.map_nil]); first | done | rfl | (simp only [List.length_drop, List.length_take]; rfl)) ?_; (with_reducible refine (fault_First.calls k _ _ l0 _ _ l1 t102 t103 t104 t105 _ ?side1 ?side2 ?side3 ?side4 A4.out).mono ?_); (case side1 => repeat (first | exact (Kd.C_below HR0.out HB.out) | (with_reducible refine Kd.C_alloc ?_ _) | (with_reducible refine Kd.C_drewN ?_ _) | (with_reducible refine Kd.C_drew ?_))); (case side2 => exact HC0.out); (case side3 => repeat (first | exact (Kd.C_below HR1.out HB.out) | (with_reducible refine Kd.C_alloc ?_ _) | (with_reducible refine Kd.C_drewN ?_ _) | (with_reducible refine Kd.C_drew ?_))); (case side4 => exact HC1.out); rintro e w21 ⟨rfl, hb⟩; refine ⟨_, rfl, ?_⟩; have n0_ := Aside0.mk (below_step (by repeat (first | (with_reducible first | exact HB.out | apply below_alloc | apply pw_below_drewN | apply below_drew1) | exact HB.out)) hb); clear HB; have HB := n0_; clear n0_; (try clear hb); (try clear hb2); (try clear hk); (try clear hi)) | ((with_reducible refine gate_dst (N := 6) rfl ?_); refine box_event ?hg (N := 6) ?hd (cs := #[.string (⟨#[]⟩ : ByteArray), .int .i64 0]) (t := 40) ?hr ?_; (case hd => rfl); (case hg => rfl); (case hr => first | (go_simp; done) | (go_simp; rfl)); intro gb106 hg w22 hbox hb; have n0_ := Aside0.mk (below_step (by repeat (first | (with_reducible first | exact HB.out | apply below_alloc | apply pw_below_drewN | apply below_drew1) | exact HB.out)) hb); have n1_ := Aside0.mk (hbox); have n2_ := Aside0.mk ((by rw [hg]; exact (below_size (by repeat (first | (with_reducible first | exact HB.out | apply below_alloc | apply pw_below_drewN | apply below_drew1) | exact HB.out))) : w.heap.size ≤ gb106)); have n3_ := Aside0.mk ((by rw [hg]; exact (below_size (by repeat (first | (with_reducible first | exact HB.out | apply below_alloc | apply pw_below_drewN | apply below_drew1) | exact HB.out))) : w.heap.size ≤ gb106)); clear HB; have HB := n0_; have BK106 := n1_; have GW106 := n2_; have GE106 := n3_; clear n0_ n1_ n2_ n3_; clear hb hbox hg; have hcz23_0 : w22.cell? ⟨gb106, 0, none⟩ = some (.string (⟨#[]⟩ : ByteArray)) := (blk_cell BK106.out 0).trans rfl; have hcz23_1 : w22.cell? ⟨gb106, 1, none⟩ = some (.int .i64 0) := (blk_cell BK106.out 1).trans rfl; have hfz23_0 := blk_frozen BK106.out 0; have hfz23_1 := blk_frozen BK106.out 1) | ((with_reducible refine gate_callee (f := 18) rfl ?_); refine goesL_ (some 23) rfl rfl Tryd.func18 (by kernel_rfl) rfl #[.slice A1 l1.length c1] rfl (by (try simp only [List.map_toArray, List.map_cons, List.map_nil]); first | done | rfl | (simp only [List.length_drop, List.length_take]; rfl)) ?_; (with_reducible refine (creelref_FaultsFault.calls k _ _ l1 t107 _ ?side1 ?side2 A5.out).mono ?_); (case side1 => exact Kd.C_below HR1.out (by repeat (first | (with_reducible first | exact HB.out | apply below_alloc | apply pw_below_drewN | apply below_drew1 | refine below_set ?_ GE106.out) | exact HB.out))); (case side2 => exact HC1.out); rintro e w24 ⟨rfl, hb⟩; refine ⟨_, rfl, ?_⟩; have n0_ := Aside0.mk (blk_below (g := gb106) (o := .cells #[.string t102, .int .i64 t103] 40 (0, 0)) (by (with_reducible repeat (first | refine blk_drewN ?_ _ | refine blk_drew ?_ | refine blk_alloc ?_ _)); refine blk_put (cs := #[.string t102, .int .i64 0]) ?_ 1 _ rfl; (with_reducible repeat (first | refine blk_drewN ?_ _ | refine blk_drew ?_ | refine blk_alloc ?_ _)); refine blk_put (cs := #[.string (⟨#[]⟩ : ByteArray), .int .i64 0]) ?_ 0 _ rfl; (with_reducible repeat (first | refine blk_drewN ?_ _ | refine blk_drew ?_ | refine blk_alloc ?_ _)); exact BK106.out) hb); have n1_ := Aside0.mk (below_step (by repeat (first | (with_reducible first | exact HB.out | apply below_alloc | apply pw_below_drewN | apply below_drew1 | refine below_set ?_ GE106.out) | exact HB.out)) hb); clear BK106; clear HB; have BK106 := n0_; have HB := n1_; clear n0_ n1_; (try clear hb); (try clear hb2); (try clear hk); (try clear hi)) | ((with_reducible refine gate_callee (f := 19) rfl ?_); refine goesL_ (some 27) rfl rfl Tryd.func19 (by kernel_rfl) rfl #[.slice A0 l0.length c0, .slice A1 l1.length c1] rfl (by (try simp only [List.map_toArray, List.map_cons, List.map_nil]); first | done | rfl | (simp only [List.length_drop, List.length_take]; rfl)) ?_; (with_reducible refine (creelref_FaultFirst.calls k _ _ l0 _ _ l1 t108 t109 t110 t111 _ ?side1 ?side2 ?side3 ?side4 A6.out).mono ?_); (case side1 => repeat (first | exact (Kd.C_below HR0.out HB.out) | (with_reducible refine Kd.C_alloc ?_ _) | (with_reducible refine Kd.C_drewN ?_ _) | (with_reducible refine Kd.C_drew ?_))); (case side2 => exact HC0.out); (case side3 => repeat (first | exact (Kd.C_below HR1.out HB.out) | (with_reducible refine Kd.C_alloc ?_ _) | (with_reducible refine Kd.C_drewN ?_ _) | (with_reducible refine Kd.C_drew ?_))); (case side4 => exact HC1.out); rintro e w25 ⟨rfl, hb⟩; refine ⟨_, rfl, ?_⟩; have n0_ := Aside0.mk (blk_below (g := gb106) (o := .cells #[.string t102, .int .i64 t103] 40 (0, 0)) (by (with_reducible repeat (first | refine blk_drewN ?_ _ | refine blk_drew ?_ | refine blk_alloc ?_ _)); exact BK106.out) hb); have n1_ := Aside0.mk (below_step (by repeat (first | (with_reducible first | exact HB.out | apply below_alloc | apply pw_below_drewN | apply below_drew1 | refine below_set ?_ GE106.out) | exact HB.out)) hb); clear BK106; clear HB; have BK106 := n0_; have HB := n1_; clear n0_ n1_; (try clear hb); (try clear hb2); (try clear hk); (try clear hi)) | ((with_reducible refine gate_dst (N := 10) rfl ?_); refine box_event ?hg (N := 10) ?hd (cs := #[.string (⟨#[]⟩ : ByteArray), .int .i64 0]) (t := 40) ?hr ?_; (case hd => rfl); (case hg => rfl); (case hr => first | (go_simp; done) | (go_simp; rfl)); intro gb112 hg w26 hbox hb; have n0_ := Aside0.mk (blk_below (g := gb106) (o := .cells #[.string t102, .int .i64 t103] 40 (0, 0)) (by (with_reducible repeat (first | refine blk_drewN ?_ _ | refine blk_drew ?_ | refine blk_alloc ?_ _)); exact BK106.out) hb); have n1_ := Aside0.mk (below_step (by repeat (first | (with_reducible first | exact HB.out | apply below_alloc | apply pw_below_drewN | apply below_drew1 | refine below_set ?_ GE106.out) | exact HB.out)) hb); have n2_ := Aside0.mk (hbox); have n3_ := Aside0.mk ((by rw [hg]; exact (below_size (by repeat (first | (with_reducible first | exact HB.out | apply below_alloc | apply pw_below_drewN | apply below_drew1 | refine below_set ?_ GE106.out) | exact HB.out))) : w.heap.size ≤ gb112)); have n4_ := Aside0.mk ((by rw [hg]; exact (below_size (by repeat (first | (with_reducible first | exact HB.out | apply below_alloc | apply pw_below_drewN | apply below_drew1 | refine below_set ?_ GE106.out) | exact HB.out))) : w.heap.size ≤ gb112)); have n5_ := Aside0.mk ((by rw [hg]; exact Nat.ne_of_lt (blk_lt (g := gb106) (o := .cells #[.string t102, .int .i64 t103] 40 (0, 0)) (by (with_reducible repeat (first | refine blk_drewN ?_ _ | refine blk_drew ?_ | refine blk_alloc ?_ _)); exact BK106.out)) : gb106 ≠ gb112)); have n6_ := Aside0.mk ((by rw [hg]; exact Nat.ne_of_gt (blk_lt (g := gb106) (o := .cells #[.string t102, .int .i64 t103] 40 (0, 0)) (by (with_reducible repeat (first | refine blk_drewN ?_ _ | refine blk_drew ?_ | refine blk_alloc ?_ _)); exact BK106.out)) : gb112 ≠ gb106)); clear BK106; clear HB; have BK106 := n0_; have HB := n1_; have BK112 := n2_; have GW112 := n3_; have GE112 := n4_; have NB106_112 := n5_; have NB112_106 := n6_; clear n0_ n1_ n2_ n3_ n4_ n5_ n6_; clear hb hbox hg; have hnb27 := NB112_106.out; have hnc27 := NB106_112.out; have hcz28_0 : w26.cell? ⟨gb112, 0, none⟩ = some (.string (⟨#[]⟩ : ByteArray)) := (blk_cell BK112.out 0).trans rfl; have hcz28_1 : w26.cell? ⟨gb112, 1, none⟩ = some (.int .i64 0) := (blk_cell BK112.out 1).trans rfl; have hfz28_0 := blk_frozen BK112.out 0; have hfz28_1 := blk_frozen BK112.out 1; have hcz29_0 : w26.cell? ⟨gb106, 0, none⟩ = some (.string t102) := (blk_cell BK106.out 0).trans rfl; have hcz29_1 : w26.cell? ⟨gb106, 1, none⟩ = some (.int .i64 t103) := (blk_cell BK106.out 1).trans rfl; have hfz29_0 := blk_frozen BK106.out 0; have hfz29_1 := blk_frozen BK106.out 1))
    go_ret
    exact ⟨by first | rfl | (simp [errW_none, errW_some] <;> rfl) | (simp [*, errW_none, errW_some] <;> rfl), by repeat (first | (with_reducible first | exact HB.out | apply below_alloc | apply pw_below_drewN | apply below_drew1 | refine below_set ?_ GE106.out | refine below_set ?_ GE112.out) | exact HB.out)⟩
  ·rw [if_neg c8] at H
   have c8b0 : (t102.toList == t108.toList && (t103 == t109)) = false := by simpa using c8
   (try (have c8b1 : decide (t102.toList = t108.toList && (t103 == t109)) = false := by simpa using c8))
   (try (have c8b2 : (t102.toList == t108.toList && (t103 == t109)) = false := by simpa using c8))
   (try (have c8b3 : ¬ (t102.toList = t108.toList && (t103 == t109)) := by simpa using c8))
   clear c8
   obtain rfl := Option.some.inj H
   go_enter Tryd.func6, Tryd.ntmps6
   go_wp2_with (first | ((with_reducible refine gate_callee (f := 16) rfl ?_); refine goesL_ (some 14) rfl rfl Tryd.func16 (by kernel_rfl) rfl #[.slice A1 l1.length c1] rfl (by (try simp only [List.map_toArray, List.map_cons, List.map_nil]); first | done | rfl | (simp only [List.length_drop, List.length_take]; rfl)) ?_; (with_reducible refine (fault_Check.calls k _ _ l1 t101 _ ?side1 ?side2 A3.out).mono ?_); (case side1 => repeat (first | exact HR1.out | (with_reducible refine Kd.C_alloc ?_ _) | (with_reducible refine Kd.C_drewN ?_ _) | (with_reducible refine Kd.C_drew ?_))); (case side2 => exact HC1.out); rintro e w30 ⟨rfl, hb⟩; refine ⟨_, rfl, ?_⟩; have n0_ := Aside0.mk (below_step (by repeat (first | (with_reducible first | exact HB.out | apply below_alloc | apply pw_below_drewN | apply below_drew1) | exact HB.out)) hb); clear HB; have HB := n0_; clear n0_; (try clear hb); (try clear hb2); (try clear hk); (try clear hi)) | ((with_reducible refine gate_callee (f := 17) rfl ?_); refine goesL_ (some 18) rfl rfl Tryd.func17 (by kernel_rfl) rfl #[.slice A0 l0.length c0, .slice A1 l1.length c1] rfl (by (try simp only [List.map_toArray, List.map_cons, List.map_nil]); first | done | rfl | (simp only [List.length_drop, List.length_take]; rfl)) ?_; (with_reducible refine (fault_First.calls k _ _ l0 _ _ l1 t102 t103 t104 t105 _ ?side1 ?side2 ?side3 ?side4 A4.out).mono ?_); (case side1 => repeat (first | exact (Kd.C_below HR0.out HB.out) | (with_reducible refine Kd.C_alloc ?_ _) | (with_reducible refine Kd.C_drewN ?_ _) | (with_reducible refine Kd.C_drew ?_))); (case side2 => exact HC0.out); (case side3 => repeat (first | exact (Kd.C_below HR1.out HB.out) | (with_reducible refine Kd.C_alloc ?_ _) | (with_reducible refine Kd.C_drewN ?_ _) | (with_reducible refine Kd.C_drew ?_))); (case side4 => exact HC1.out); rintro e w31 ⟨rfl, hb⟩; refine ⟨_, rfl, ?_⟩; have n0_ := Aside0.mk (below_step (by repeat (first | (with_reducible first | exact HB.out | apply below_alloc | apply pw_below_drewN | apply below_drew1) | exact HB.out)) hb); clear HB; have HB := n0_; clear n0_; (try clear hb); (try clear hb2); (try clear hk); (try clear hi)) | ((with_reducible refine gate_dst (N := 6) rfl ?_); refine box_event ?hg (N := 6) ?hd (cs := #[.string (⟨#[]⟩ : ByteArray), .int .i64 0]) (t := 40) ?hr ?_; (case hd => rfl); (case hg => rfl); (case hr => first | (go_simp; done) | (go_simp; rfl)); intro gb106 hg w32 hbox hb; have n0_ := Aside0.mk (below_step (by repeat (first | (with_reducible first | exact HB.out | apply below_alloc | apply pw_below_drewN | apply below_drew1) | exact HB.out)) hb); have n1_ := Aside0.mk (hbox); have n2_ := Aside0.mk ((by rw [hg]; exact (below_size (by repeat (first | (with_reducible first | exact HB.out | apply below_alloc | apply pw_below_drewN | apply below_drew1) | exact HB.out))) : w.heap.size ≤ gb106)); have n3_ := Aside0.mk ((by rw [hg]; exact (below_size (by repeat (first | (with_reducible first | exact HB.out | apply below_alloc | apply pw_below_drewN | apply below_drew1) | exact HB.out))) : w.heap.size ≤ gb106)); clear HB; have HB := n0_; have BK106 := n1_; have GW106 := n2_; have GE106 := n3_; clear n0_ n1_ n2_ n3_; clear hb hbox hg; have hcz33_0 : w32.cell? ⟨gb106, 0, none⟩ = some (.string (⟨#[]⟩ : ByteArray)) := (blk_cell BK106.out 0).trans rfl; have hcz33_1 : w32.cell? ⟨gb106, 1, none⟩ = some (.int .i64 0) := (blk_cell BK106.out 1).trans rfl; have hfz33_0 := blk_frozen BK106.out 0; have hfz33_1 := blk_frozen BK106.out 1) | ((with_reducible refine gate_callee (f := 18) rfl ?_); refine goesL_ (some 23) rfl rfl Tryd.func18 (by kernel_rfl) rfl #[.slice A1 l1.length c1] rfl (by (try simp only [List.map_toArray, List.map_cons, List.map_nil]); first | done | rfl | (simp only [List.length_drop, List.length_take]; rfl)) ?_; (with_reducible refine (creelref_FaultsFault.calls k _ _ l1 t107 _ ?side1 ?side2 A5.out).mono ?_); (case side1 => exact Kd.C_below HR1.out (by repeat (first | (with_reducible first | exact HB.out | apply below_alloc | apply pw_below_drewN | apply below_drew1 | refine below_set ?_ GE106.out) | exact HB.out))); (case side2 => exact HC1.out); rintro e w34 ⟨rfl, hb⟩; refine ⟨_, rfl, ?_⟩; have n0_ := Aside0.mk (blk_below (g := gb106) (o := .cells #[.string t102, .int .i64 t103] 40 (0, 0)) (by (with_reducible repeat (first | refine blk_drewN ?_ _ | refine blk_drew ?_ | refine blk_alloc ?_ _)); refine blk_put (cs := #[.string t102, .int .i64 0]) ?_ 1 _ rfl; (with_reducible repeat (first | refine blk_drewN ?_ _ | refine blk_drew ?_ | refine blk_alloc ?_ _)); refine blk_put (cs := #[.string (⟨#[]⟩ : ByteArray), .int .i64 0]) ?_ 0 _ rfl; (with_reducible repeat (first | refine blk_drewN ?_ _ | refine blk_drew ?_ | refine blk_alloc ?_ _)); exact BK106.out) hb); have n1_ := Aside0.mk (below_step (by repeat (first | (with_reducible first | exact HB.out | apply below_alloc | apply pw_below_drewN | apply below_drew1 | refine below_set ?_ GE106.out) | exact HB.out)) hb); clear BK106; clear HB; have BK106 := n0_; have HB := n1_; clear n0_ n1_; (try clear hb); (try clear hb2); (try clear hk); (try clear hi)) | ((with_reducible refine gate_callee (f := 19) rfl ?_); refine goesL_ (some 27) rfl rfl Tryd.func19 (by kernel_rfl) rfl #[.slice A0 l0.length c0, .slice A1 l1.length c1] rfl (by (try simp only [List.map_toArray, List.map_cons, List.map_nil]); first | done | rfl | (simp only [List.length_drop, List.length_take]; rfl)) ?_; (with_reducible refine (creelref_FaultFirst.calls k _ _ l0 _ _ l1 t108 t109 t110 t111 _ ?side1 ?side2 ?side3 ?side4 A6.out).mono ?_); (case side1 => repeat (first | exact (Kd.C_below HR0.out HB.out) | (with_reducible refine Kd.C_alloc ?_ _) | (with_reducible refine Kd.C_drewN ?_ _) | (with_reducible refine Kd.C_drew ?_))); (case side2 => exact HC0.out); (case side3 => repeat (first | exact (Kd.C_below HR1.out HB.out) | (with_reducible refine Kd.C_alloc ?_ _) | (with_reducible refine Kd.C_drewN ?_ _) | (with_reducible refine Kd.C_drew ?_))); (case side4 => exact HC1.out); rintro e w35 ⟨rfl, hb⟩; refine ⟨_, rfl, ?_⟩; have n0_ := Aside0.mk (blk_below (g := gb106) (o := .cells #[.string t102, .int .i64 t103] 40 (0, 0)) (by (with_reducible repeat (first | refine blk_drewN ?_ _ | refine blk_drew ?_ | refine blk_alloc ?_ _)); exact BK106.out) hb); have n1_ := Aside0.mk (below_step (by repeat (first | (with_reducible first | exact HB.out | apply below_alloc | apply pw_below_drewN | apply below_drew1 | refine below_set ?_ GE106.out) | exact HB.out)) hb); clear BK106; clear HB; have BK106 := n0_; have HB := n1_; clear n0_ n1_; (try clear hb); (try clear hb2); (try clear hk); (try clear hi)) | ((with_reducible refine gate_dst (N := 10) rfl ?_); refine box_event ?hg (N := 10) ?hd (cs := #[.string (⟨#[]⟩ : ByteArray), .int .i64 0]) (t := 40) ?hr ?_; (case hd => rfl); (case hg => rfl); (case hr => first | (go_simp; done) | (go_simp; rfl)); intro gb112 hg w36 hbox hb; have n0_ := Aside0.mk (blk_below (g := gb106) (o := .cells #[.string t102, .int .i64 t103] 40 (0, 0)) (by (with_reducible repeat (first | refine blk_drewN ?_ _ | refine blk_drew ?_ | refine blk_alloc ?_ _)); exact BK106.out) hb); have n1_ := Aside0.mk (below_step (by repeat (first | (with_reducible first | exact HB.out | apply below_alloc | apply pw_below_drewN | apply below_drew1 | refine below_set ?_ GE106.out) | exact HB.out)) hb); have n2_ := Aside0.mk (hbox); have n3_ := Aside0.mk ((by rw [hg]; exact (below_size (by repeat (first | (with_reducible first | exact HB.out | apply below_alloc | apply pw_below_drewN | apply below_drew1 | refine below_set ?_ GE106.out) | exact HB.out))) : w.heap.size ≤ gb112)); have n4_ := Aside0.mk ((by rw [hg]; exact (below_size (by repeat (first | (with_reducible first | exact HB.out | apply below_alloc | apply pw_below_drewN | apply below_drew1 | refine below_set ?_ GE106.out) | exact HB.out))) : w.heap.size ≤ gb112)); have n5_ := Aside0.mk ((by rw [hg]; exact Nat.ne_of_lt (blk_lt (g := gb106) (o := .cells #[.string t102, .int .i64 t103] 40 (0, 0)) (by (with_reducible repeat (first | refine blk_drewN ?_ _ | refine blk_drew ?_ | refine blk_alloc ?_ _)); exact BK106.out)) : gb106 ≠ gb112)); have n6_ := Aside0.mk ((by rw [hg]; exact Nat.ne_of_gt (blk_lt (g := gb106) (o := .cells #[.string t102, .int .i64 t103] 40 (0, 0)) (by (with_reducible repeat (first | refine blk_drewN ?_ _ | refine blk_drew ?_ | refine blk_alloc ?_ _)); exact BK106.out)) : gb112 ≠ gb106)); clear BK106; clear HB; have BK106 := n0_; have HB := n1_; have BK112 := n2_; have GW112 := n3_; have GE112 := n4_; have NB106_112 := n5_; have NB112_106 := n6_; clear n0_ n1_ n2_ n3_ n4_ n5_ n6_; clear hb hbox hg; have hnb37 := NB112_106.out; have hnc37 := NB106_112.out; have hcz38_0 : w36.cell? ⟨gb112, 0, none⟩ = some (.string (⟨#[]⟩ : ByteArray)) := (blk_cell BK112.out 0).trans rfl; have hcz38_1 : w36.cell? ⟨gb112, 1, none⟩ = some (.int .i64 0) := (blk_cell BK112.out 1).trans rfl; have hfz38_0 := blk_frozen BK112.out 0; have hfz38_1 := blk_frozen BK112.out 1; have hcz39_0 : w36.cell? ⟨gb106, 0, none⟩ = some (.string t102) := (blk_cell BK106.out 0).trans rfl; have hcz39_1 : w36.cell? ⟨gb106, 1, none⟩ = some (.int .i64 t103) := (blk_cell BK106.out 1).trans rfl; have hfz39_0 := blk_frozen BK106.out 0; have hfz39_1 := blk_frozen BK106.out 1))
   go_ret
   exact ⟨by first | rfl | (simp [errW_none, errW_some] <;> rfl) | (simp [*, errW_none, errW_some] <;> rfl), by repeat (first | (with_reducible first | exact HB.out | apply below_alloc | apply pw_below_drewN | apply below_drew1 | refine below_set ?_ GE106.out | refine below_set ?_ GE112.out) | exact HB.out)⟩
 ·rw [if_neg c7] at H
  have c7b0 : (t101 == t107) = false := beq_eq_false_iff_ne.mpr c7
  have c7b1 : (t101 != t107) = true := bne_iff_ne.mpr c7
  obtain rfl := Option.some.inj H
  go_enter Tryd.func6, Tryd.ntmps6
  go_wp2_with (first | ((with_reducible refine gate_callee (f := 16) rfl ?_); refine goesL_ (some 14) rfl rfl Tryd.func16 (by kernel_rfl) rfl #[.slice A1 l1.length c1] rfl (by (try simp only [List.map_toArray, List.map_cons, List.map_nil]); first | done | rfl | (simp only [List.length_drop, List.length_take]; rfl)) ?_; (with_reducible refine (fault_Check.calls k _ _ l1 t101 _ ?side1 ?side2 A3.out).mono ?_); (case side1 => repeat (first | exact HR1.out | (with_reducible refine Kd.C_alloc ?_ _) | (with_reducible refine Kd.C_drewN ?_ _) | (with_reducible refine Kd.C_drew ?_))); (case side2 => exact HC1.out); rintro e w40 ⟨rfl, hb⟩; refine ⟨_, rfl, ?_⟩; have n0_ := Aside0.mk (below_step (by repeat (first | (with_reducible first | exact HB.out | apply below_alloc | apply pw_below_drewN | apply below_drew1) | exact HB.out)) hb); clear HB; have HB := n0_; clear n0_; (try clear hb); (try clear hb2); (try clear hk); (try clear hi)) | ((with_reducible refine gate_callee (f := 17) rfl ?_); refine goesL_ (some 18) rfl rfl Tryd.func17 (by kernel_rfl) rfl #[.slice A0 l0.length c0, .slice A1 l1.length c1] rfl (by (try simp only [List.map_toArray, List.map_cons, List.map_nil]); first | done | rfl | (simp only [List.length_drop, List.length_take]; rfl)) ?_; (with_reducible refine (fault_First.calls k _ _ l0 _ _ l1 t102 t103 t104 t105 _ ?side1 ?side2 ?side3 ?side4 A4.out).mono ?_); (case side1 => repeat (first | exact (Kd.C_below HR0.out HB.out) | (with_reducible refine Kd.C_alloc ?_ _) | (with_reducible refine Kd.C_drewN ?_ _) | (with_reducible refine Kd.C_drew ?_))); (case side2 => exact HC0.out); (case side3 => repeat (first | exact (Kd.C_below HR1.out HB.out) | (with_reducible refine Kd.C_alloc ?_ _) | (with_reducible refine Kd.C_drewN ?_ _) | (with_reducible refine Kd.C_drew ?_))); (case side4 => exact HC1.out); rintro e w41 ⟨rfl, hb⟩; refine ⟨_, rfl, ?_⟩; have n0_ := Aside0.mk (below_step (by repeat (first | (with_reducible first | exact HB.out | apply below_alloc | apply pw_below_drewN | apply below_drew1) | exact HB.out)) hb); clear HB; have HB := n0_; clear n0_; (try clear hb); (try clear hb2); (try clear hk); (try clear hi)) | ((with_reducible refine gate_dst (N := 6) rfl ?_); refine box_event ?hg (N := 6) ?hd (cs := #[.string (⟨#[]⟩ : ByteArray), .int .i64 0]) (t := 40) ?hr ?_; (case hd => rfl); (case hg => rfl); (case hr => first | (go_simp; done) | (go_simp; rfl)); intro gb106 hg w42 hbox hb; have n0_ := Aside0.mk (below_step (by repeat (first | (with_reducible first | exact HB.out | apply below_alloc | apply pw_below_drewN | apply below_drew1) | exact HB.out)) hb); have n1_ := Aside0.mk (hbox); have n2_ := Aside0.mk ((by rw [hg]; exact (below_size (by repeat (first | (with_reducible first | exact HB.out | apply below_alloc | apply pw_below_drewN | apply below_drew1) | exact HB.out))) : w.heap.size ≤ gb106)); have n3_ := Aside0.mk ((by rw [hg]; exact (below_size (by repeat (first | (with_reducible first | exact HB.out | apply below_alloc | apply pw_below_drewN | apply below_drew1) | exact HB.out))) : w.heap.size ≤ gb106)); clear HB; have HB := n0_; have BK106 := n1_; have GW106 := n2_; have GE106 := n3_; clear n0_ n1_ n2_ n3_; clear hb hbox hg; have hcz43_0 : w42.cell? ⟨gb106, 0, none⟩ = some (.string (⟨#[]⟩ : ByteArray)) := (blk_cell BK106.out 0).trans rfl; have hcz43_1 : w42.cell? ⟨gb106, 1, none⟩ = some (.int .i64 0) := (blk_cell BK106.out 1).trans rfl; have hfz43_0 := blk_frozen BK106.out 0; have hfz43_1 := blk_frozen BK106.out 1) | ((with_reducible refine gate_callee (f := 18) rfl ?_); refine goesL_ (some 23) rfl rfl Tryd.func18 (by kernel_rfl) rfl #[.slice A1 l1.length c1] rfl (by (try simp only [List.map_toArray, List.map_cons, List.map_nil]); first | done | rfl | (simp only [List.length_drop, List.length_take]; rfl)) ?_; (with_reducible refine (creelref_FaultsFault.calls k _ _ l1 t107 _ ?side1 ?side2 A5.out).mono ?_); (case side1 => exact Kd.C_below HR1.out (by repeat (first | (with_reducible first | exact HB.out | apply below_alloc | apply pw_below_drewN | apply below_drew1 | refine below_set ?_ GE106.out) | exact HB.out))); (case side2 => exact HC1.out); rintro e w44 ⟨rfl, hb⟩; refine ⟨_, rfl, ?_⟩; have n0_ := Aside0.mk (blk_below (g := gb106) (o := .cells #[.string t102, .int .i64 t103] 40 (0, 0)) (by (with_reducible repeat (first | refine blk_drewN ?_ _ | refine blk_drew ?_ | refine blk_alloc ?_ _)); refine blk_put (cs := #[.string t102, .int .i64 0]) ?_ 1 _ rfl; (with_reducible repeat (first | refine blk_drewN ?_ _ | refine blk_drew ?_ | refine blk_alloc ?_ _)); refine blk_put (cs := #[.string (⟨#[]⟩ : ByteArray), .int .i64 0]) ?_ 0 _ rfl; (with_reducible repeat (first | refine blk_drewN ?_ _ | refine blk_drew ?_ | refine blk_alloc ?_ _)); exact BK106.out) hb); have n1_ := Aside0.mk (below_step (by repeat (first | (with_reducible first | exact HB.out | apply below_alloc | apply pw_below_drewN | apply below_drew1 | refine below_set ?_ GE106.out) | exact HB.out)) hb); clear BK106; clear HB; have BK106 := n0_; have HB := n1_; clear n0_ n1_; (try clear hb); (try clear hb2); (try clear hk); (try clear hi)) | ((with_reducible refine gate_callee (f := 19) rfl ?_); refine goesL_ (some 27) rfl rfl Tryd.func19 (by kernel_rfl) rfl #[.slice A0 l0.length c0, .slice A1 l1.length c1] rfl (by (try simp only [List.map_toArray, List.map_cons, List.map_nil]); first | done | rfl | (simp only [List.length_drop, List.length_take]; rfl)) ?_; (with_reducible refine (creelref_FaultFirst.calls k _ _ l0 _ _ l1 t108 t109 t110 t111 _ ?side1 ?side2 ?side3 ?side4 A6.out).mono ?_); (case side1 => repeat (first | exact (Kd.C_below HR0.out HB.out) | (with_reducible refine Kd.C_alloc ?_ _) | (with_reducible refine Kd.C_drewN ?_ _) | (with_reducible refine Kd.C_drew ?_))); (case side2 => exact HC0.out); (case side3 => repeat (first | exact (Kd.C_below HR1.out HB.out) | (with_reducible refine Kd.C_alloc ?_ _) | (with_reducible refine Kd.C_drewN ?_ _) | (with_reducible refine Kd.C_drew ?_))); (case side4 => exact HC1.out); rintro e w45 ⟨rfl, hb⟩; refine ⟨_, rfl, ?_⟩; have n0_ := Aside0.mk (blk_below (g := gb106) (o := .cells #[.string t102, .int .i64 t103] 40 (0, 0)) (by (with_reducible repeat (first | refine blk_drewN ?_ _ | refine blk_drew ?_ | refine blk_alloc ?_ _)); exact BK106.out) hb); have n1_ := Aside0.mk (below_step (by repeat (first | (with_reducible first | exact HB.out | apply below_alloc | apply pw_below_drewN | apply below_drew1 | refine below_set ?_ GE106.out) | exact HB.out)) hb); clear BK106; clear HB; have BK106 := n0_; have HB := n1_; clear n0_ n1_; (try clear hb); (try clear hb2); (try clear hk); (try clear hi)) | ((with_reducible refine gate_dst (N := 10) rfl ?_); refine box_event ?hg (N := 10) ?hd (cs := #[.string (⟨#[]⟩ : ByteArray), .int .i64 0]) (t := 40) ?hr ?_; (case hd => rfl); (case hg => rfl); (case hr => first | (go_simp; done) | (go_simp; rfl)); intro gb112 hg w46 hbox hb; have n0_ := Aside0.mk (blk_below (g := gb106) (o := .cells #[.string t102, .int .i64 t103] 40 (0, 0)) (by (with_reducible repeat (first | refine blk_drewN ?_ _ | refine blk_drew ?_ | refine blk_alloc ?_ _)); exact BK106.out) hb); have n1_ := Aside0.mk (below_step (by repeat (first | (with_reducible first | exact HB.out | apply below_alloc | apply pw_below_drewN | apply below_drew1 | refine below_set ?_ GE106.out) | exact HB.out)) hb); have n2_ := Aside0.mk (hbox); have n3_ := Aside0.mk ((by rw [hg]; exact (below_size (by repeat (first | (with_reducible first | exact HB.out | apply below_alloc | apply pw_below_drewN | apply below_drew1 | refine below_set ?_ GE106.out) | exact HB.out))) : w.heap.size ≤ gb112)); have n4_ := Aside0.mk ((by rw [hg]; exact (below_size (by repeat (first | (with_reducible first | exact HB.out | apply below_alloc | apply pw_below_drewN | apply below_drew1 | refine below_set ?_ GE106.out) | exact HB.out))) : w.heap.size ≤ gb112)); have n5_ := Aside0.mk ((by rw [hg]; exact Nat.ne_of_lt (blk_lt (g := gb106) (o := .cells #[.string t102, .int .i64 t103] 40 (0, 0)) (by (with_reducible repeat (first | refine blk_drewN ?_ _ | refine blk_drew ?_ | refine blk_alloc ?_ _)); exact BK106.out)) : gb106 ≠ gb112)); have n6_ := Aside0.mk ((by rw [hg]; exact Nat.ne_of_gt (blk_lt (g := gb106) (o := .cells #[.string t102, .int .i64 t103] 40 (0, 0)) (by (with_reducible repeat (first | refine blk_drewN ?_ _ | refine blk_drew ?_ | refine blk_alloc ?_ _)); exact BK106.out)) : gb112 ≠ gb106)); clear BK106; clear HB; have BK106 := n0_; have HB := n1_; have BK112 := n2_; have GW112 := n3_; have GE112 := n4_; have NB106_112 := n5_; have NB112_106 := n6_; clear n0_ n1_ n2_ n3_ n4_ n5_ n6_; clear hb hbox hg; have hnb47 := NB112_106.out; have hnc47 := NB106_112.out; have hcz48_0 : w46.cell? ⟨gb112, 0, none⟩ = some (.string (⟨#[]⟩ : ByteArray)) := (blk_cell BK112.out 0).trans rfl; have hcz48_1 : w46.cell? ⟨gb112, 1, none⟩ = some (.int .i64 0) := (blk_cell BK112.out 1).trans rfl; have hfz48_0 := blk_frozen BK112.out 0; have hfz48_1 := blk_frozen BK112.out 1))
  go_ret
  exact ⟨by first | rfl | (simp [errW_none, errW_some] <;> rfl) | (simp [*, errW_none, errW_some] <;> rfl), by repeat (first | (with_reducible first | exact HB.out | apply below_alloc | apply pw_below_drewN | apply below_drew1 | refine below_set ?_ GE106.out | refine below_set ?_ GE112.out) | exact HB.out)⟩

end Go.Proofs.YtgkofpjeiogafaaDoor.All
end
section
namespace Go.Proofs.YtgkofpjeiogafaaDoorW.Opens
open Go.RowKit Go.ChangeShapes Go.WideShapes Go.Proofs.YtgkofpjeiogafaaDoorW.PrintWords

/-- Whatever reads as a datum of type t is a y of kind d, and good. -/
def Opens {α : Type} (P : Program) (t : TypeId) (d : Kd α) (g : α → Prop) : Prop :=
  ∀ (H : Type) (enc : TypeId × Value → H) (w : World) (fuel : Nat) (cs : List Value) (x : DataW H × List MemPlace),
    DataW.trod enc P w 0 (fun _ => true) true fuel t cs = some x → (∀ n ∈ x.1.weights P t, n ≤ reachBytes) → ∃ y, d.K w y cs ∧ g y

theorem opens_int {P : Program} {t : TypeId} {k : IntKind} (ht : P.underlying t = some (.int k)) : Opens P t (Kd.int k) (fun a => (Lit.int k a).wf = true) := by
  intro H enc w fuel cs x h _
  obtain ⟨a, e, _, wa⟩ := DataW.trod_int ht h
  exact ⟨a, e, wa⟩
theorem opens_string {P : Program} {t : TypeId} (ht : P.underlying t = some .string) : Opens P t Kd.string (fun s => s.size ≤ 140737488351232) := by
  intro H enc w fuel cs x h hw
  obtain ⟨a, e, hx, _⟩ := DataW.trod_string ht h
  refine ⟨a, e, ?_⟩
  have := hw a.data.toList.length (by rw [hx]; simp [DataW.weights])
  rw [Array.length_toList] at this
  exact this

theorem list_of {α : Type} {p : Nat → α → Prop} : ∀ (n : Nat), (∀ i, i < n → ∃ y, p i y) → ∃ l : List α, l.length = n ∧ ∀ i y, l[i]? = some y → p i y
  | 0, _ => ⟨[], rfl, fun i y h => by simp at h⟩
  | n + 1, h => by
    obtain ⟨l, hl, hp⟩ := list_of n (fun i hi => h i (by omega))
    obtain ⟨y, hy⟩ := h n (by omega)
    refine ⟨l ++ [y], by simp [hl], fun i z hz => ?_⟩
    by_cases hi : i < n
    · exact hp i z (by rwa [List.getElem?_append_left (by omega)] at hz)
    · rw [List.getElem?_append_right (by omega), hl] at hz
      have e0 : i - n = 0 := by
        rcases Nat.eq_zero_or_pos (i - n) with e | e
        · exact e
        · rw [List.getElem?_eq_none (by simp; omega)] at hz
          simp at hz
      rw [e0] at hz
      have : i = n := by omega
      subst this
      simp at hz
      subst hz
      exact hy

theorem mem_weightsAll {H : Type} {P : Program} {e : TypeId} {d : DataW H} : ∀ {l : List (DataW H)}, d ∈ l → ∀ n ∈ d.weights P e, n ∈ DataW.weightsAll P e l
  | a :: l, h, n, hn => by
    simp only [DataW.weightsAll, List.mem_append]
    rcases List.mem_cons.1 h with rfl | h
    · exact .inl hn
    · exact .inr (mem_weightsAll h n hn)
  | [], h, _, _ => by simp at h

theorem opens_slice {α : Type} {P : Program} {t e : TypeId} {B : Nat} {d : Kd α} {g : α → Prop} (ht : P.underlying t = some (.slice e)) (hc : P.cellsOf e = d.sz) (hB : P.bytesOf e = B) (ho : Opens P e d g) :
    Opens P t (Kd.slice e d) (fun l => l.length * B ≤ 140737488351232 ∧ ∀ y ∈ l, g y) := by
  intro H enc w fuel cs x h hw
  rcases Go.Deep.open_slice ht h with ⟨rfl, rfl⟩ | ⟨a, len, cap, m, n, D, Pl, rfl, _, hl, hm, hmm, rfl, hel⟩
  · exact ⟨[], ⟨none, 0, rfl, Nat.le_refl _, rfl, by simp, fun h => absurd h (by simp)⟩, by simp, by simp⟩
  · have hml : len ≤ m := by
      rw [hmm]
      simp only [if_true]
      exact hl
    have key : ∀ i, i < len → ∃ y, (∃ c, c.length = d.sz ∧ d.K w y c ∧ ∀ j u, c[j]? = some u → w.cell? (a.add (i * d.sz + j)) = some u) ∧ g y := by
      intro i hi
      obtain ⟨c, h1, h2⟩ := hel i (by omega)
      rw [hc] at h1
      obtain ⟨_, hlen, hcell⟩ := World.cells?_some h1
      obtain ⟨y, hK, hg⟩ := ho H enc w n c (D i, Pl i) h2 (fun q hq => hw q (by
        simp only [DataW.weights, ht, List.mem_cons, List.mem_append]
        exact .inr (.inl (mem_weightsAll (List.mem_map.2 ⟨i, List.mem_range.2 hi, rfl⟩) q hq))))
      refine ⟨y, ⟨c, hlen, hK, fun j u hu => ?_⟩, hg⟩
      have hj : j < d.sz := by
        rw [← hlen]
        exact (List.getElem?_eq_some_iff.1 hu).1
      rw [← Go.Deep.add_add, hcell j hj, hu]
    obtain ⟨l, hlen, hp⟩ := list_of len key
    subst hlen
    refine ⟨l, ⟨some a, cap, rfl, hl, rfl, ?_, fun _ => ⟨a, rfl, fun j p hj => ?_⟩⟩, ?_, ?_⟩
    · unfold maxLen at hm
      omega
    · obtain ⟨⟨c, h1, h2, h3⟩, _⟩ := hp j p hj
      exact ⟨c, h1, h2, h3⟩
    · have := hw ((l.length + (m - l.length)) * P.bytesOf e) (by simp [DataW.weights, ht])
      rw [hB] at this
      exact Nat.le_trans (Nat.mul_le_mul_right _ (by omega)) this
    · intro y hy
      obtain ⟨i, hi⟩ := List.mem_iff_getElem?.1 hy
      exact (hp i y hi).2

/-- The fields of a struct, from one of them on. -/
def OpensF {α : Type} (P : Program) (fs : List Field) (off : Nat) (d : Kd α) (g : α → Prop) : Prop :=
  ∀ (H : Type) (enc : TypeId × Value → H) (w : World) (n : Nat) (cs : List Value) (xs : List (DataW H × List MemPlace)),
    cs.length = off + d.sz → xs.length = fs.length → (∀ (i : Nat) (f : Field), fs[i]? = some f → DataW.trod enc P w 0 (fun _ => true) true n f.type ((cs.drop f.offset).take (P.cellsOf f.type)) = xs[i]?) →
    (∀ m ∈ DataW.weightsEach P (fs.map (·.type)) (xs.map (·.1)), m ≤ reachBytes) → ∃ y, d.K w y (cs.drop off) ∧ g y

theorem opensF_one {α : Type} {P : Program} {f : Field} {off : Nat} {d : Kd α} {g : α → Prop} (hoff : f.offset = off) (hc : P.cellsOf f.type = d.sz) (ho : Opens P f.type d g) : OpensF P [f] off d g := by
  intro H enc w n cs xs hl hx hf hw
  match xs, hx with
  | [x], _ =>
    have h := hf 0 f rfl
    rw [hoff, hc, List.take_of_length_le (by rw [List.length_drop]; omega)] at h
    exact ho H enc w n (cs.drop off) x h (fun m hm => hw m (by simp only [List.map_cons, List.map_nil, DataW.weightsEach, List.append_nil]; exact hm))

theorem opensF_cons {α β : Type} {P : Program} {f : Field} {fs : List Field} {off off2 : Nat} {d1 : Kd α} {d2 : Kd β} {g1 : α → Prop} {g2 : β → Prop} (hoff : f.offset = off) (hc : P.cellsOf f.type = d1.sz) (ho : Opens P f.type d1 g1)
    (h2 : off + d1.sz = off2) (hr : OpensF P fs off2 d2 g2) : OpensF P (f :: fs) off (Kd.pair d1 d2) (fun p => g1 p.1 ∧ g2 p.2) := by
  intro H enc w n cs xs hl hx hf hw
  match xs, hx with
  | x :: xs, hx =>
    subst h2
    have hl' : cs.length = off + (d1.sz + d2.sz) := hl
    have h := hf 0 f rfl
    rw [hoff, hc] at h
    obtain ⟨y1, k1, q1⟩ := ho H enc w n _ x h (fun m hm => hw m (by simp only [List.map_cons, DataW.weightsEach, List.mem_append]; exact .inl hm))
    obtain ⟨y2, k2, q2⟩ := hr H enc w n cs xs (by omega) (by simpa using hx) (fun i f' hi => by simpa using hf (i + 1) f' (by simpa using hi)) (fun m hm => hw m (by simp only [List.map_cons, DataW.weightsEach, List.mem_append]; exact .inr hm))
    refine ⟨(y1, y2), ⟨_, _, ?_, k1, k2⟩, q1, q2⟩
    rw [← List.drop_drop, List.take_append_drop]

theorem opens_struct {α : Type} {P : Program} {t : TypeId} {fs : Array Field} {d : Kd α} {g : α → Prop} (ht : P.underlying t = some (.struct fs)) (hc : P.cellsOf t = d.sz) (hF : OpensF P fs.toList 0 d g) : Opens P t d g := by
  intro H enc w fuel cs x h hw
  obtain ⟨xs, n, _, rfl, hl, hlen, hf⟩ := DataW.trod_struct ht h
  have := hF H enc w n cs xs (by omega) (by simpa using hlen) (fun i f hi => hf i f (by simpa using hi)) (fun m hm => hw m (by simpa only [DataW.weights, ht] using hm))
  simpa using this

theorem opens_iso {α β : Type} {P : Program} {t : TypeId} {d : Kd α} {g : α → Prop} {f : β → α} (inv : α → β) (hinv : ∀ y, f (inv y) = y) (ho : Opens P t d g) : Opens P t (Kd.iso d f) (fun x => g (f x)) := by
  intro H enc w fuel cs x h hw
  obtain ⟨y, hK, hg⟩ := ho H enc w fuel cs x h hw
  exact ⟨inv y, by show d.K w (f (inv y)) cs; rw [hinv]; exact hK, by show g (f (inv y)); rw [hinv]; exact hg⟩

/-- At a row's place. -/
theorem opens_at {α : Type} {P : Program} {t : TypeId} {d : Kd α} {g : α → Prop} (ho : Opens P t d g) {H : Type} {enc : TypeId × Value → H} {w : World} {v : Value} {x : DataW H} {ps : List MemPlace} {ts : List TypeId} {ds : List (DataW H)} {j : Nat}
    (hsz : (DataW.weightsEach P ts ds).all (· ≤ reachBytes) = true) (ht : ts[j]? = some t) (hd : ds[j]? = some x) (h : DataW.Trod enc P w 0 (fun _ => true) true t v x ps) : ∃ y, d.K w y v.cells.toList ∧ g y := by
  obtain ⟨fuel, hf⟩ := h
  exact ho H enc w fuel _ (x, ps) hf (fun n hn => by simpa using List.all_eq_true.1 hsz n (DataW.weights_mem_each ht hd n hn))
end Go.Proofs.YtgkofpjeiogafaaDoorW.Opens
end
section
namespace Go.Proofs.YtgkofpjeiogafaaDoor.GFaultFirsts
open Go.RowKit Go.Proofs.YtgkofpjeiogafaaDoor.All Go.Proofs.YtgkofpjeiogafaaDoorW.PrintWords Go.Proofs.YtgkofpjeiogafaaDoorW.PrintLast Go.Proofs.YtgkofpjeiogafaaDoorW.Opens
set_option linter.unusedVariables false
def good65 (x : S65) : Prop := ((Lit.int .i64 x.f0).wf = true) ∧ ((Lit.int .i64 x.f1).wf = true) ∧ ((Lit.int .i64 x.f2).wf = true) ∧ (x.f3.size ≤ 140737488351232) ∧ (x.f4.size ≤ 140737488351232) ∧ ((Lit.int .i64 x.f5).wf = true) ∧ ((Lit.int .i64 x.f6).wf = true)
theorem opens65 : Opens Tryd.prog 65 k65 good65 := opens_iso (f := (fun x : S65 => (x.f0, x.f1, x.f2, x.f3, x.f4, x.f5, x.f6))) (fun p => ⟨p.1, p.2.1, p.2.2.1, p.2.2.2.1, p.2.2.2.2.1, p.2.2.2.2.2.1, p.2.2.2.2.2.2⟩) (fun _ => rfl) (opens_struct Tryd.underlying65 (by kernel_rfl) (opensF_cons (off2 := 1) rfl (by kernel_rfl) (opens_int Tryd.underlying3) rfl (opensF_cons (off2 := 2) rfl (by kernel_rfl) (opens_int Tryd.underlying3) rfl (opensF_cons (off2 := 3) rfl (by kernel_rfl) (opens_int Tryd.underlying3) rfl (opensF_cons (off2 := 4) rfl (by kernel_rfl) (opens_string Tryd.underlying9) rfl (opensF_cons (off2 := 5) rfl (by kernel_rfl) (opens_string Tryd.underlying9) rfl (opensF_cons (off2 := 6) rfl (by kernel_rfl) (opens_int Tryd.underlying3) rfl (opensF_one rfl (by kernel_rfl) (opens_int Tryd.underlying3)))))))))

def good80 (x : S80) : Prop := (x.f0.size ≤ 140737488351232) ∧ ((Lit.int .i64 x.f1).wf = true) ∧ (x.f2.size ≤ 140737488351232) ∧ (good65 x.f3) ∧ (x.f4.length * 1 ≤ 140737488351232 ∧ ∀ y ∈ x.f4, (Lit.int .u8 y).wf = true)
theorem opens80 : Opens Tryd.prog 80 k80 good80 := opens_iso (f := (fun x : S80 => (x.f0, x.f1, x.f2, x.f3, x.f4))) (fun p => ⟨p.1, p.2.1, p.2.2.1, p.2.2.2.1, p.2.2.2.2⟩) (fun _ => rfl) (opens_struct Tryd.underlying80 (by kernel_rfl) (opensF_cons (off2 := 1) rfl (by kernel_rfl) (opens_string Tryd.underlying9) rfl (opensF_cons (off2 := 2) rfl (by kernel_rfl) (opens_int Tryd.underlying3) rfl (opensF_cons (off2 := 3) rfl (by kernel_rfl) (opens_string Tryd.underlying9) rfl (opensF_cons (off2 := 10) rfl (by kernel_rfl) opens65 rfl (opensF_one rfl (by kernel_rfl) (opens_slice (B := 1) Tryd.underlying66 (by kernel_rfl) (by kernel_rfl) (opens_int Tryd.underlying5))))))))

def good40 (x : S40) : Prop := (x.f0.size ≤ 140737488351232) ∧ ((Lit.int .i64 x.f1).wf = true)
theorem opens40 : Opens Tryd.prog 40 k40 good40 := opens_iso (f := (fun x : S40 => (x.f0, x.f1))) (fun p => ⟨p.1, p.2⟩) (fun _ => rfl) (opens_struct Tryd.underlying40 (by kernel_rfl) (opensF_cons (off2 := 1) rfl (by kernel_rfl) (opens_string Tryd.underlying9) rfl (opensF_one rfl (by kernel_rfl) (opens_int Tryd.underlying3))))

/-- What is to be proved of the plain functions. -/
def Pure : Prop := ∀ (l0 : List S80) (l1 : List S40), (l0.length * 136 ≤ 140737488351232 ∧ ∀ y ∈ l0, good80 y) → (l1.length * 24 ≤ 140737488351232 ∧ ∀ y ∈ l1, good40 y) → ∃ k, creellaw_FaultFirsts.f k l0 l1 = some true
theorem walk (P : Pure) (l0 : List S80) (l1 : List S40) (w : World) (g0 : l0.length * 136 ≤ 140737488351232 ∧ ∀ y ∈ l0, good80 y) (g1 : l1.length * 24 ≤ 140737488351232 ∧ ∀ y ∈ l1, good40 y) {A0 : Option Addr} {c0 : Nat} (r0 : Kd.C k80 w A0 l0.length l0) (hc0 : l0.length ≤ c0) {A1 : Option Addr} {c1 : Nat} (r1 : Kd.C k40 w A1 l1.length l1) (hc1 : l1.length ≤ c1) :
    Calls Tryd.prog 6 #[.slice A0 l0.length c0, .slice A1 l1.length c1] w fun e w' => e = .returned (.bool true) ∧ Below w.heap.size w w' := by
  obtain ⟨k, h⟩ := P l0 l1 g0 g1
  refine (creellaw_FaultFirsts.calls k A0 c0 l0 A1 c1 l1 true w r0 hc0 r1 hc1 h).mono ?_
  rintro e w' ⟨rfl, hd⟩
  exact ⟨rfl, hd⟩
end Go.Proofs.YtgkofpjeiogafaaDoor.GFaultFirsts
end
section
namespace Go.Proofs.YtgkofpjeiogafaaDoorW.PureBase
open Go.RowKit Go.Proofs.YtgkofpjeiogafaaDoorW.PrintWords

theorem wrap_is {x : Int} (h0 : -9223372036854775808 ≤ x) (h : x ≤ 9223372036854775807) : wrap64 x = x := by unfold wrap64; omega
theorem toList_data (s : ByteArray) : s.toList = s.data.toList := ByteArray.toList_eq s

/-- The byte at a place, as a list's. -/
theorem bt_get (s : ByteArray) (i : Nat) (h : i < s.size) : bt s i = ((s.data.toList[i]'(by simpa using h)).toNat : Int) := by
  unfold bt
  rw [dif_pos (by simpa using h)]
  simp
  rfl
theorem bt_eq_iff (s : ByteArray) (i : Nat) (h : i < s.size) (c : Int) (c0 : 0 ≤ c) (c1 : c ≤ 255) : bt s i = c ↔ s.data.toList[i]? = some c.toNat.toUInt8 := by
  rw [bt_get s i h, List.getElem?_eq_getElem (by simpa using h)]
  simp only [Option.some.injEq]
  constructor
  · intro e
    rw [← e]
    simp
  · intro e
    rw [e]
    simp
    omega
theorem size_list (s : ByteArray) : s.data.toList.length = s.size := by simp
theorem of_list (s : ByteArray) : (⟨s.data.toList.toArray⟩ : ByteArray) = s := by simp
theorem ext_list {s t : ByteArray} (h : s.data.toList = t.data.toList) : s = t := by
  rw [← of_list s, ← of_list t, h]
theorem toList_inj {s t : ByteArray} (h : s.toList = t.toList) : s = t := by
  rw [toList_data, toList_data] at h
  exact ext_list h

/-- Is a byte among a string's bytes? -/
theorem mem_bt (s : ByteArray) (c : Int) (c0 : 0 ≤ c) (c1 : c ≤ 255) : (∃ j : Int, 0 ≤ j ∧ j < s.size ∧ bt s j = c) ↔ s.data.toList.contains c.toNat.toUInt8 = true := by
  rw [List.contains_iff_mem]
  constructor
  · rintro ⟨j, h0, h1, h2⟩
    obtain ⟨i, rfl⟩ := Int.eq_ofNat_of_zero_le h0
    have := (bt_eq_iff s i (by omega) c c0 c1).1 h2
    exact List.mem_of_getElem? this
  · intro h
    obtain ⟨i, hi, he⟩ := List.mem_iff_getElem.1 h
    have hs : i < s.size := by simpa using hi
    refine ⟨i, by omega, by omega, ?_⟩
    rw [bt_eq_iff s i hs c c0 c1, List.getElem?_eq_getElem hi, he]

theorem index_ge (l : List UInt8) (c : UInt8) : decide (Lib.indexByte l c ≥ 0) = l.contains c := by
  rw [Lib.contains_iff_indexByte]

/-- Rounds: what is told at some number of rounds and is kept by more. -/
theorem Ev.at_ {α : Type} {g : Nat → Option α} {r : α} (h : Ev g r) : ∃ K, ∀ k, K ≤ k → g k = some r := h
theorem Ev.const {α : Type} {o : Option α} {r : α} (h : o = some r) : Ev (fun _ => o) r := ⟨0, fun _ _ => h⟩
theorem Ev.ifp {α : Type} {c : Prop} [Decidable c] {g f : Nat → Option α} {r : α} (hc : c) (h : Ev g r) : Ev (fun k => if c then g k else f k) r := by
  obtain ⟨K, hk⟩ := h
  exact ⟨K, fun k h => (if_pos hc).trans (hk k h)⟩
theorem Ev.ifn {α : Type} {c : Prop} [Decidable c] {g f : Nat → Option α} {r : α} (hc : ¬ c) (h : Ev f r) : Ev (fun k => if c then g k else f k) r := by
  obtain ⟨K, hk⟩ := h
  exact ⟨K, fun k h => (if_neg hc).trans (hk k h)⟩
end Go.Proofs.YtgkofpjeiogafaaDoorW.PureBase
end
section
namespace Go.Proofs.YtgkofpjeiogafaaDoor.Q
set_option linter.unusedVariables false
set_option linter.unusedSimpArgs false
open Go.RowKit Go.Proofs.YtgkofpjeiogafaaDoor.All Go.Proofs.YtgkofpjeiogafaaDoorW.PrintWords Go.Proofs.YtgkofpjeiogafaaDoorW.PrintLast Go.Proofs.YtgkofpjeiogafaaDoorW.PrintMore Go.Proofs.YtgkofpjeiogafaaDoorW.PureBase

-- FN creelref_has
theorem has_from (s : ByteArray) (c : Int) (hb : s.size ≤ 140737488351232) (d : Nat) : ∀ (k : Nat) (i : Int), 0 ≤ i → i ≤ s.size → (s.size : Int) - i = d → d < k →
    ∃ b, creelref_has.l0 k s c i = some b ∧ (b = true ↔ ∃ j : Int, i ≤ j ∧ j < s.size ∧ bt s j = c) := by
  induction d with
  | zero =>
    intro k i h0 h1 hd hk
    obtain ⟨k, rfl⟩ : ∃ m, k = m + 1 := ⟨k - 1, by omega⟩
    refine ⟨false, ?_, ?_⟩
    · simp only [creelref_has.l0]; rw [if_neg (by omega)]
    · constructor
      · intro h; cases h
      · rintro ⟨j, h1, h2, _⟩; omega
  | succ d ih =>
    intro k i h0 h1 hd hk
    obtain ⟨k, rfl⟩ : ∃ m, k = m + 1 := ⟨k - 1, by omega⟩
    have hlt : i < (s.size : Int) := by omega
    have hw : wrap64 (i + 1) = i + 1 := by unfold wrap64; omega
    by_cases e : bt s i = c
    · refine ⟨true, ?_, ?_⟩
      · simp only [creelref_has.l0]; rw [if_pos hlt, if_pos h0, if_pos e]
      · exact ⟨fun _ => ⟨i, by omega, hlt, e⟩, fun _ => rfl⟩
    · obtain ⟨b, hb1, hb2⟩ := ih k (i + 1) (by omega) (by omega) (by omega) (by omega)
      refine ⟨b, ?_, ?_⟩
      · simp only [creelref_has.l0]; rw [if_pos hlt, if_pos h0, hw, if_neg e]; exact hb1
      · rw [hb2]
        constructor
        · rintro ⟨j, h1, h2, h3⟩; exact ⟨j, by omega, h2, h3⟩
        · rintro ⟨j, h1, h2, h3⟩
          have : j ≠ i := by rintro rfl; exact e h3
          exact ⟨j, by omega, h2, h3⟩
theorem has_ev (s : ByteArray) (c : Int) (c0 : 0 ≤ c) (c1 : c ≤ 255) (hb : s.size ≤ 140737488351232) : Ev (fun k => creelref_has.f k s c) (s.data.toList.contains c.toNat.toUInt8) := by
  refine ⟨s.size + 1, fun k hk => ?_⟩
  obtain ⟨b, h1, h2⟩ := has_from s c hb s.size k 0 (by omega) (by omega) (by omega) (by omega)
  show creelref_has.l0 k s c 0 = _
  rw [h1]
  congr 1
  rw [Bool.eq_iff_iff, h2]
  exact mem_bt s c c0 c1
end Go.Proofs.YtgkofpjeiogafaaDoor.Q
end
section
namespace Go.Proofs.YtgkofpjeiogafaaDoor.Q
set_option linter.unusedVariables false
set_option linter.unusedSimpArgs false
open Go.RowKit Go.Proofs.YtgkofpjeiogafaaDoor.All Go.Proofs.YtgkofpjeiogafaaDoorW.PrintWords Go.Proofs.YtgkofpjeiogafaaDoorW.PrintLast Go.Proofs.YtgkofpjeiogafaaDoorW.PrintMore Go.Proofs.YtgkofpjeiogafaaDoorW.PureBase

-- USES Has
-- FN strings_IndexByte strings_Split strings_LastIndexByte creelref_parts creelref_PathFault creelref_PathParts creelref_PathSplit path_Check path_Parts path_Up path_Base
/-- The parts of a list of bytes between a byte. -/
def sp (c : UInt8) : List UInt8 → List (List UInt8)
  | [] => [[]]
  | b :: l => if b = c then [] :: sp c l else match sp c l with
    | p :: ps => (b :: p) :: ps
    | [] => [[b]]
theorem sp_ne (c : UInt8) (l : List UInt8) : sp c l ≠ [] := by
  cases l with
  | nil => simp [sp]
  | cons b l =>
    simp only [sp]
    split
    · simp
    · split <;> simp
/-- The same from the front: a first part that is under way. -/
theorem sp_go (c : UInt8) : ∀ (l p : List UInt8), c ∉ p → sp c (p ++ l) = (match sp c l with | q :: qs => (p ++ q) :: qs | [] => [p])
  | l, [], _ => by
    cases h : sp c l with
    | nil => exact absurd h (sp_ne c l)
    | cons q qs => simp [h]
  | l, a :: p, hp => by
    have ha : ¬ a = c := fun e => hp (by simp [e])
    have ih := sp_go c l p (fun h => hp (List.mem_cons_of_mem _ h))
    simp only [List.cons_append, sp]
    rw [if_neg ha, ih]
    cases h : sp c l with
    | nil => exact absurd h (sp_ne c l)
    | cons q qs => simp
theorem sp_cut (c : UInt8) (p l : List UInt8) (hp : c ∉ p) : sp c (p ++ c :: l) = p :: sp c l := by
  rw [sp_go c (c :: l) p hp]
  simp [sp]
theorem sp_whole (c : UInt8) (p : List UInt8) (hp : c ∉ p) : sp c p = [p] := by
  have := sp_go c [] p hp
  simpa [sp] using this
theorem sp_len_le (c : UInt8) (l : List UInt8) : (sp c l).length ≤ l.length + 1 := by
  induction l with
  | nil => simp [sp]
  | cons b l ih =>
    simp only [sp]
    split
    · simp; omega
    · split
      · rename_i h; rw [h] at ih; simp at ih ⊢; omega
      · simp

def mk (l : List UInt8) : ByteArray := ⟨l.toArray⟩
theorem mk_data (l : List UInt8) : (mk l).data.toList = l := rfl
theorem mk_of (s : ByteArray) : mk s.data.toList = s := of_list s
theorem mk_size (l : List UInt8) : (mk l).size = l.length := rfl
/-- A path's parts. -/
def pp (s : ByteArray) : List ByteArray := (sp 47 s.data.toList).map mk

theorem index_one_none {l : List UInt8} {c : UInt8} (h : Lib.index l [c] = -1) : c ∉ l := by
  rw [Lib.index_one] at h
  intro hm
  obtain ⟨i, hi, he⟩ := List.mem_iff_getElem.1 hm
  exact Lib.indexByte_none h i (by rw [List.getElem?_eq_getElem hi, he])
theorem index_one_some {l : List UInt8} {c : UInt8} {o : Nat} (h : Lib.index l [c] = (o : Int)) : o < l.length ∧ c ∉ l.take o ∧ l = l.take o ++ c :: l.drop (o + 1) := by
  rw [Lib.index_one] at h
  obtain ⟨h1, h2⟩ := Lib.indexByte_some h
  have hlt := (List.getElem?_eq_some_iff.1 h1).1
  have he := (List.getElem?_eq_some_iff.1 h1).2
  refine ⟨hlt, ?_, ?_⟩
  · intro hm
    obtain ⟨i, hi, hie⟩ := List.mem_iff_getElem.1 hm
    rw [List.length_take] at hi
    rw [List.getElem_take] at hie
    exact h2 i (by omega) (by rw [List.getElem?_eq_getElem (by omega), hie])
  · conv => lhs; rw [← List.take_append_drop o l]
    rw [List.drop_eq_getElem_cons hlt, he]
theorem split_sp (c : UInt8) : ∀ (k : Nat) (l : List UInt8), Lib.count l [c] ≤ k → Lib.splitK [c] 0 k l = sp c l
  | 0, l, h => by
    rw [Lib.count_one] at h
    have : c ∉ l := by
      intro hm
      have := List.count_pos_iff.2 hm
      omega
    rw [sp_whole c l this]; rfl
  | k + 1, l, h => by
    unfold Lib.splitK
    by_cases hi : Lib.index l [c] = -1
    · rw [if_pos (by simpa using hi), sp_whole c l (index_one_none hi)]
    · rw [if_neg (by simpa using hi)]
      have hge := Lib.indexByte_ge l c
      rw [← Lib.index_one] at hge
      obtain ⟨o, ho⟩ := Int.eq_ofNat_of_zero_le (show 0 ≤ Lib.index l [c] by omega)
      obtain ⟨h1, h2, h3⟩ := index_one_some ho
      rw [ho]
      simp only [Int.toNat_natCast, Nat.add_zero, List.length_singleton]
      have hc : Lib.count (l.drop (o + 1)) [c] ≤ k := by
        rw [Lib.count_one] at h ⊢
        rw [h3, List.count_append, List.count_cons_self] at h
        omega
      rw [split_sp c k _ hc]
      conv => rhs; rw [h3]
      rw [sp_cut c _ _ h2]
theorem split_is (s : ByteArray) (hs : s.size < 4294967281) : strings_Split.f s ⟨#[47]⟩ = some (pp s) := by
  unfold strings_Split.f
  simp only
  rw [if_pos hs]
  congr 1
  have h := Lib.splitB_data ⟨#[47]⟩ 0 (Lib.countB s ⟨#[47]⟩) s
  rw [show (⟨#[47]⟩ : ByteArray).data.toList = [47] from rfl, split_sp 47 _ _ (Nat.le_refl _)] at h
  unfold pp
  rw [← h, List.map_map]
  conv => lhs; rw [← List.map_id (Lib.splitB ⟨#[47]⟩ 0 (Lib.countB s ⟨#[47]⟩) s)]
  apply List.map_congr_left
  intro x _
  exact (mk_of x).symm

theorem drop_cons (s : ByteArray) (i : Nat) (h : i < s.size) : ∃ b : UInt8, s.data.toList.drop i = b :: s.data.toList.drop (i + 1) ∧ (b.toNat : Int) = bt s (i : Int) ∧ s.extract i (i + 1) = mk [b] := by
  have hl : i < s.data.toList.length := by rw [size_list]; exact h
  refine ⟨s.data.toList[i], List.drop_eq_getElem_cons hl, (bt_get s i h).symm, ?_⟩
  apply ext_list
  rw [Lib.extract_data, List.drop_eq_getElem_cons hl, show i + 1 - i = 1 from by omega]
  rfl
theorem byte_eq (b : UInt8) (c : Int) (h : (b.toNat : Int) = c) (n : UInt8) : c = (n.toNat : Int) ↔ b = n := by
  rw [← h]
  constructor
  · intro e
    apply UInt8.toNat_inj.1
    omega
  · intro e
    rw [e]
theorem parts_loop (s : ByteArray) (d : Nat) : ∀ (k i : Nat) (done : List ByteArray) (cur : List UInt8), s.size - i = d → i ≤ s.size → d < k → done.length + d < 8796093022207 → cur.length + d ≤ 4611686018427387904 → s.size ≤ 4611686018427387904 →
    creelref_parts.l0 k s 47 (done ++ [mk cur]) (i : Int) = some (done ++ (match sp 47 (s.data.toList.drop i) with | q :: qs => mk (cur ++ q) :: qs.map mk | [] => [mk cur])) := by
  induction d with
  | zero =>
    intro k i done cur hd hi hk hn hc hs
    obtain ⟨k, rfl⟩ : ∃ m, k = m + 1 := ⟨k - 1, by omega⟩
    simp only [creelref_parts.l0]
    rw [if_neg (by omega), List.drop_eq_nil_of_le (by rw [size_list]; omega)]
    simp [sp]
  | succ d ih =>
    intro k i done cur hd hi hk hn hc hs
    obtain ⟨k, rfl⟩ : ∃ m, k = m + 1 := ⟨k - 1, by omega⟩
    have hlt : i < s.size := by omega
    obtain ⟨b, h1, h2, h3⟩ := drop_cons s i hlt
    have hw : wrap64 ((i : Int) + 1) = ((i + 1 : Nat) : Int) := by rw [wrap_is (by omega) (by omega)]; omega
    have hlen : (done ++ [mk cur]).length = done.length + 1 := by simp
    simp only [creelref_parts.l0]
    rw [if_pos (by omega), if_pos (show (0 : Int) ≤ i by omega), h1, hw, hlen]
    simp only [sp]
    have h47 : bt s (i : Int) = 47 ↔ b = 47 := byte_eq b _ h2 47
    by_cases e : b = 47
    · rw [if_pos (h47.2 e), if_pos (by omega), if_pos e]
      have := ih k (i + 1) (done ++ [mk cur]) [] (by omega) (by omega) (by omega) (by simp only [List.length_append, List.length_singleton]; omega) (by simp only [List.length_nil]; omega) hs
      rw [show (⟨#[]⟩ : ByteArray) = mk [] from rfl, this]
      cases hsp : sp 47 (s.data.toList.drop (i + 1)) with
      | nil => exact absurd hsp (sp_ne _ _)
      | cons q qs => simp
    · have hne : ¬ bt s (i : Int) = 47 := fun h => e (h47.1 h)
      have hw2 : wrap64 (((done.length + 1 : Nat) : Int) - 1) = (done.length : Int) := by rw [wrap_is (by omega) (by omega)]; omega
      have hrd : rdOf ByteArray.empty (done ++ [mk cur]) (done.length : Int) = mk cur := by
        unfold rdOf
        rw [Int.toNat_natCast, List.getD_eq_getElem?_getD, List.getElem?_append_right (Nat.le_refl _), Nat.sub_self]; rfl
      have hex : s.extract ((i : Int)).toNat (((i + 1 : Nat) : Int)).toNat = mk [b] := by rw [Int.toNat_natCast, Int.toNat_natCast, h3]
      have happ : mk cur ++ mk [b] = mk (cur ++ [b]) := by apply ext_list; simp [mk]
      have hset : (done ++ [mk cur]).set done.length (mk (cur ++ [b])) = done ++ [mk (cur ++ [b])] := by
        rw [List.set_append_right _ _ (Nat.le_refl _), Nat.sub_self]; rfl
      rw [if_neg hne, hw2, hrd, hex, if_pos (by omega), if_pos (by omega), if_pos (by omega), if_pos (by omega), if_pos (by rw [mk_size, mk_size]; simp only [List.length_singleton]; omega), happ, Int.toNat_natCast, hset, if_neg e]
      rw [ih k (i + 1) done (cur ++ [b]) (by omega) (by omega) (by omega) (by omega) (by simp only [List.length_append, List.length_singleton]; omega) hs]
      cases hsp : sp 47 (s.data.toList.drop (i + 1)) with
      | nil => exact absurd hsp (sp_ne _ _)
      | cons q qs => simp
theorem parts_is (s : ByteArray) (k : Nat) (hs : s.size ≤ 4294967296) (hk : s.size < k) : creelref_parts.f k s 47 = some (pp s) := by
  unfold creelref_parts.f
  have := parts_loop s s.size k 0 [] [] (by omega) (by omega) hk (by simp only [List.length_nil]; omega) (by simp only [List.length_nil]; omega) (by omega)
  rw [show ([(⟨#[]⟩ : ByteArray)] : List ByteArray) = [] ++ [mk []] from rfl]
  rw [show ((0 : Nat) : Int) = 0 from rfl] at this
  rw [this]
  unfold pp
  rw [List.drop_zero]
  cases hsp : sp 47 s.data.toList with
  | nil => exact absurd hsp (sp_ne _ _)
  | cons q qs => simp
theorem pp_len (s : ByteArray) : (pp s).length ≤ s.size + 1 := by
  unfold pp
  rw [List.length_map]
  have := sp_len_le 47 s.data.toList
  rw [size_list] at this
  exact this

/-- A part that may not be. -/
def bad (p : ByteArray) : Bool := decide (p.toList = []) || decide (p.toList = [46]) || decide (p.toList = [46, 46])
/-- What is wrong with a path. -/
def pathR (s : ByteArray) : Int := if s.size < 1 ∨ 400 < s.size then 1 else if s.data.toList.contains 0 = true then 3 else if (pp s).any bad = true then 9 else 0

theorem check_loop (l : List ByteArray) (hl : l.length ≤ 4294967297) (d : Nat) : ∀ (k i : Nat), l.length - i = d → i ≤ l.length → d < k →
    path_Check.l0 k l (l.length : Int) (i : Int) = some (if (l.drop i).any bad = true then 9 else 0) ∧ creelref_PathFault.l0 k l (l.length : Int) (i : Int) = some (if (l.drop i).any bad = true then 9 else 0) := by
  induction d with
  | zero =>
    intro k i hd hi hk
    obtain ⟨k, rfl⟩ : ∃ m, k = m + 1 := ⟨k - 1, by omega⟩
    simp only [path_Check.l0, creelref_PathFault.l0]
    have hge : ¬ (i : Int) < l.length := by omega
    rw [if_neg hge, if_neg hge, List.drop_eq_nil_of_le (by omega)]
    simp
  | succ d ih =>
    intro k i hd hi hk
    obtain ⟨k, rfl⟩ : ∃ m, k = m + 1 := ⟨k - 1, by omega⟩
    have hlt : i < l.length := by omega
    have hw : wrap64 ((i : Int) + 1) = ((i + 1 : Nat) : Int) := by rw [wrap_is (by omega) (by omega)]; omega
    have hrd : rdOf ByteArray.empty l (i : Int) = l[i] := by
      unfold rdOf
      rw [Int.toNat_natCast, List.getD_eq_getElem?_getD, List.getElem?_eq_getElem hlt]; rfl
    obtain ⟨h1, h2⟩ := ih k (i + 1) (by omega) (by omega) (by omega)
    simp only [path_Check.l0, creelref_PathFault.l0]
    rw [hw, hrd, h1, h2, List.drop_eq_getElem_cons hlt, List.any_cons]
    generalize l[i] = p
    have c1 : (i : Int) < l.length := by omega
    have c2 : (0 : Int) ≤ i := by omega
    simp only [if_pos c1, if_pos c2]
    unfold bad
    by_cases e1 : p.toList = []
    · simp [e1]
    · by_cases e2 : p.toList = [46]
      · simp [e2]
      · by_cases e3 : p.toList = [46, 46]
        · simp [e3]
        · simp [e1, e2, e3]
theorem empty_size (s : ByteArray) : s.toList = ([] : List UInt8) ↔ s.size = 0 := by
  rw [toList_data, ← size_list]
  exact List.length_eq_zero_iff.symm
theorem path_same (s : ByteArray) (hs : s.size ≤ 140737488351232) : Ev (fun k => path_Check.f k s) (pathR s) ∧ Ev (fun k => creelref_PathFault.f k s) (pathR s) := by
  obtain ⟨K, hK⟩ := has_ev s 0 (by omega) (by omega) hs
  replace hK : ∀ k, K ≤ k → creelref_has.f k s 0 = some (s.data.toList.contains 0) := hK
  have hi : (Lib.indexByte s.data.toList ((0 : Int).toNat.toUInt8) ≥ 0) ↔ s.data.toList.contains 0 = true := by
    have := index_ge s.data.toList ((0 : Int).toNat.toUInt8)
    rw [← decide_eq_true_iff (p := Lib.indexByte s.data.toList ((0 : Int).toNat.toUInt8) ≥ 0), this]; rfl
  by_cases c : s.size < 1 ∨ 400 < s.size
  · have e : pathR s = 1 := by unfold pathR; rw [if_pos c]
    rw [e]
    refine ⟨⟨1, fun k hk => ?_⟩, ⟨1, fun k hk => ?_⟩⟩
    · obtain ⟨k, rfl⟩ : ∃ m, k = m + 1 := ⟨k - 1, by omega⟩
      show path_Check.f (k + 1) s = _
      unfold path_Check.f
      by_cases h : (s.size : Int) < 1
      · rw [if_pos h]; simp [path_Check.j0]
      · rw [if_neg h, decide_eq_true (show (s.size : Int) > 400 by omega)]; simp [path_Check.j0]
    · obtain ⟨k, rfl⟩ : ∃ m, k = m + 1 := ⟨k - 1, by omega⟩
      show creelref_PathFault.f (k + 1) s = _
      unfold creelref_PathFault.f
      by_cases h : s.toList = ([] : List UInt8)
      · rw [if_pos h]; simp [creelref_PathFault.j0]
      · rw [if_neg h]
        rw [empty_size] at h
        rw [decide_eq_true (show (s.size : Int) > 400 by omega)]; simp [creelref_PathFault.j0]
  · have h0 : ¬ s.toList = ([] : List UInt8) := by rw [empty_size]; omega
    have hsp := split_is s (by omega)
    have hpl := pp_len s
    by_cases hz : s.data.toList.contains 0 = true
    · have e : pathR s = 3 := by unfold pathR; rw [if_neg c, if_pos hz]
      rw [e]
      refine ⟨⟨1, fun k hk => ?_⟩, ⟨K + 1, fun k hk => ?_⟩⟩
      · obtain ⟨k, rfl⟩ : ∃ m, k = m + 1 := ⟨k - 1, by omega⟩
        show path_Check.f (k + 1) s = _
        unfold path_Check.f
        rw [if_neg (show ¬ (s.size : Int) < 1 by omega), decide_eq_false (show ¬ (s.size : Int) > 400 by omega)]
        simp only [path_Check.j0, Bool.false_eq_true, if_false, strings_IndexByte.f, Option.bind_some]
        rw [if_pos (hi.2 hz)]
      · obtain ⟨k, rfl⟩ : ∃ m, k = m + 1 := ⟨k - 1, by omega⟩
        show creelref_PathFault.f (k + 1) s = _
        unfold creelref_PathFault.f
        rw [if_neg h0, decide_eq_false (show ¬ (s.size : Int) > 400 by omega)]
        simp only [creelref_PathFault.j0, Bool.false_eq_true, if_false]
        rw [hK k (by omega)]
        simp only [Option.bind_some, hz, if_true]
    · have hz' : s.data.toList.contains 0 = false := by simpa using hz
      have e : pathR s = (if (pp s).any bad = true then 9 else 0) := by unfold pathR; rw [if_neg c, if_neg hz]
      rw [e]
      refine ⟨⟨500, fun k hk => ?_⟩, ⟨K + 500, fun k hk => ?_⟩⟩
      · obtain ⟨k, rfl⟩ : ∃ m, k = m + 1 := ⟨k - 1, by omega⟩
        obtain ⟨h1, _⟩ := check_loop (pp s) (by omega) (pp s).length k 0 (by omega) (by omega) (by omega)
        show path_Check.f (k + 1) s = _
        unfold path_Check.f
        rw [if_neg (show ¬ (s.size : Int) < 1 by omega), decide_eq_false (show ¬ (s.size : Int) > 400 by omega)]
        simp only [path_Check.j0, Bool.false_eq_true, if_false, strings_IndexByte.f, Option.bind_some]
        rw [if_neg (fun h => hz (hi.1 h)), hsp]
        simp only [Option.bind_some]
        rw [List.drop_zero] at h1
        exact h1
      · obtain ⟨k, rfl⟩ : ∃ m, k = m + 1 := ⟨k - 1, by omega⟩
        obtain ⟨_, h2⟩ := check_loop (pp s) (by omega) (pp s).length k 0 (by omega) (by omega) (by omega)
        show creelref_PathFault.f (k + 1) s = _
        unfold creelref_PathFault.f
        rw [if_neg h0, decide_eq_false (show ¬ (s.size : Int) > 400 by omega)]
        simp only [creelref_PathFault.j0, Bool.false_eq_true, if_false]
        rw [hK k (by omega)]
        simp only [Option.bind_some, hz', Bool.false_eq_true, if_false]
        rw [parts_is s k (by omega) (by omega)]
        simp only [Option.bind_some]
        rw [List.drop_zero] at h2
        exact h2

/-! Of two lists of parts, and what a path is in. -/
def joinS : List (List UInt8) → List UInt8
  | [] => []
  | [p] => p
  | p :: q :: r => p ++ 47 :: joinS (q :: r)
theorem joinS_cons (p : List UInt8) {r : List (List UInt8)} (h : r ≠ []) : joinS (p :: r) = p ++ 47 :: joinS r := by
  cases r with
  | nil => exact absurd rfl h
  | cons q r => rfl
theorem joinS_snoc (xs : List (List UInt8)) (x : List UInt8) (h : xs ≠ []) : joinS (xs ++ [x]) = joinS xs ++ 47 :: x := by
  induction xs with
  | nil => exact absurd rfl h
  | cons p xs ih =>
    cases xs with
    | nil => rfl
    | cons q xs =>
      have := ih (by simp)
      rw [List.cons_append, joinS_cons p (by simp), this, joinS_cons p (by simp)]
      simp
theorem join_sp (l : List UInt8) : joinS (sp 47 l) = l := by
  induction l with
  | nil => rfl
  | cons b l ih =>
    simp only [sp]
    by_cases hb : b = 47
    · rw [if_pos hb, joinS_cons _ (sp_ne _ _), ih, hb]; rfl
    · rw [if_neg hb]
      cases hs : sp 47 l with
      | nil => exact absurd hs (sp_ne _ _)
      | cons p ps =>
        rw [hs] at ih
        cases ps with
        | nil => simp [joinS] at ih ⊢; exact ih
        | cons q qs =>
          simp only [joinS_cons _ (show (q :: qs) ≠ [] by simp)] at ih ⊢
          rw [List.cons_append, ih]
theorem join_take_le (xs : List (List UInt8)) : ∀ i, (joinS (xs.take i)).length ≤ (joinS xs).length := by
  induction xs with
  | nil => intro i; simp [joinS]
  | cons p xs ih =>
    intro i
    cases i with
    | zero => simp [joinS]
    | succ i =>
      rw [List.take_succ_cons]
      cases xs with
      | nil => simp [joinS]
      | cons q xs =>
        cases i with
        | zero =>
          rw [List.take_zero, joinS_cons p (show (q :: xs) ≠ [] by simp)]
          simp [joinS]
        | succ i =>
          have := ih (i + 1)
          rw [joinS_cons p (show (q :: xs).take (i + 1) ≠ [] by simp), joinS_cons p (by simp)]
          simp only [List.length_append, List.length_cons]
          omega
theorem sp_last (A B : List UInt8) (hB : (47 : UInt8) ∉ B) : sp 47 (A ++ 47 :: B) = sp 47 A ++ [B] := by
  induction A with
  | nil => simp [sp, sp_whole 47 B hB]
  | cons a A ih =>
    simp only [List.cons_append, sp]
    by_cases ha : a = 47
    · rw [if_pos ha, if_pos ha, ih]; rfl
    · rw [if_neg ha, if_neg ha, ih]
      cases hs : sp 47 A with
      | nil => exact absurd hs (sp_ne _ _)
      | cons p ps => simp

theorem split_loop (xs : List (List UInt8)) (hx : xs ≠ []) (hn : xs.length ≤ 4294967297) (hj : (joinS xs).length ≤ 4294967296) (d : Nat) : ∀ (k i : Nat), xs.length - 1 - i = d → i ≤ xs.length - 1 → d < k →
    creelref_PathSplit.l0 k (xs.map mk) (mk (joinS (xs.take i))) (i : Int) = some (mk (joinS (xs.take (xs.length - 1))), mk (xs.getLast hx)) := by
  have hlen : 0 < xs.length := List.length_pos_iff.2 hx
  have hrd : ∀ j (h : j < xs.length), rdOf ByteArray.empty (xs.map mk) (j : Int) = mk xs[j] := by
    intro j h
    unfold rdOf
    rw [Int.toNat_natCast, List.getD_eq_getElem?_getD, List.getElem?_map, List.getElem?_eq_getElem h]; rfl
  have hw1 : wrap64 ((xs.length : Int) - 1) = ((xs.length - 1 : Nat) : Int) := by rw [wrap_is (by omega) (by omega)]; omega
  induction d with
  | zero =>
    intro k i hd hi hk
    obtain ⟨k, rfl⟩ : ∃ m, k = m + 1 := ⟨k - 1, by omega⟩
    obtain rfl : i = xs.length - 1 := by omega
    simp only [creelref_PathSplit.l0, List.length_map]
    rw [hw1, if_neg (show ¬ ((xs.length - 1 : Nat) : Int) < ((xs.length - 1 : Nat) : Int) by omega), if_pos (show (0 : Int) ≤ ((xs.length - 1 : Nat) : Int) by omega), if_pos (show ((xs.length - 1 : Nat) : Int) < (xs.length : Int) by omega), hrd (xs.length - 1) (by omega), List.getLast_eq_getElem]
  | succ d ih =>
    intro k i hd hi hk
    obtain ⟨k, rfl⟩ : ∃ m, k = m + 1 := ⟨k - 1, by omega⟩
    have hlt : i < xs.length := by omega
    have hw : wrap64 ((i : Int) + 1) = ((i + 1 : Nat) : Int) := by rw [wrap_is (by omega) (by omega)]; omega
    have hnext := ih k (i + 1) (by omega) (by omega) (by omega)
    have ht : xs.take (i + 1) = xs.take i ++ [xs[i]] := (List.take_append_getElem hlt).symm
    have hle := join_take_le xs (i + 1)
    simp only [creelref_PathSplit.l0, List.length_map]
    rw [hw1, if_pos (show (i : Int) < ((xs.length - 1 : Nat) : Int) by omega), hw, hrd i hlt]
    by_cases h0 : i = 0
    · subst h0
      rw [if_neg (by omega), if_pos (by omega), if_pos (by omega)]
      have h1 : xs.take (0 + 1) = [xs[0]] := by rw [ht]; rfl
      rw [h1] at hle
      have e : mk (joinS (xs.take 0)) ++ mk xs[0] = mk (joinS (xs.take (0 + 1))) := by
        rw [h1]; apply ext_list; simp [mk, joinS]
      have hsz : (mk (joinS (xs.take 0))).size + (mk xs[0]).size ≤ 9223372036854775807 := by
        have hle' : xs[0].length ≤ (joinS xs).length := hle
        rw [mk_size, mk_size, List.take_zero]
        show 0 + xs[0].length ≤ _
        omega
      rw [if_pos hsz, e]; exact hnext
    · have hne : xs.take i ≠ [] := by
        intro h
        have h2 := congrArg List.length h
        rw [List.length_take, List.length_nil] at h2
        omega
      have hj2 : joinS (xs.take (i + 1)) = joinS (xs.take i) ++ 47 :: xs[i] := by rw [ht, joinS_snoc _ _ hne]
      have e : (mk (joinS (xs.take i)) ++ (⟨#[47]⟩ : ByteArray)) ++ mk xs[i] = mk (joinS (xs.take (i + 1))) := by
        rw [hj2]; apply ext_list; simp [mk]
      rw [hj2] at hle
      simp only [List.length_append, List.length_cons] at hle
      have hs1 : (mk (joinS (xs.take i)) ++ (⟨#[47]⟩ : ByteArray)).size = (joinS (xs.take i)).length + 1 := by rw [ByteArray.size_append, mk_size]; rfl
      rw [if_pos (by omega), if_pos (by rw [mk_size]; omega), if_pos (by omega), if_pos (by omega), if_pos (by rw [hs1, mk_size]; omega), e]
      exact hnext
theorem split_at (s : ByteArray) (k : Nat) (hs : s.size ≤ 1048576) (hk : s.size + 2 < k) : creelref_PathSplit.f k s = some (mk (joinS ((sp 47 s.data.toList).take ((sp 47 s.data.toList).length - 1))), mk ((sp 47 s.data.toList).getLast (sp_ne _ _))) := by
  unfold creelref_PathSplit.f
  rw [parts_is s k (by omega) (by omega)]
  simp only [Option.bind_some]
  have hl := sp_len_le 47 s.data.toList
  rw [size_list] at hl
  have := split_loop (sp 47 s.data.toList) (sp_ne _ _) (by omega) (by rw [join_sp, size_list]; omega) ((sp 47 s.data.toList).length - 1) k 0 (by omega) (by omega) (by omega)
  exact this
theorem data_get (s : ByteArray) (i : Nat) (h : i < s.size) : ((s.data[i]!).toNat : Int) = bt s (i : Int) := by
  rw [bt_get s i h]
  have h' : i < s.data.size := h
  rw [getElem!_pos s.data i h']
  simp
theorem last_f (s : ByteArray) (hb : s.size < 4611686018427387904) (t : Int) (e : Lib.lastIndexByte s 47 = t) : strings_LastIndexByte.f s 47 = some t := by
  unfold strings_LastIndexByte.f
  rw [if_pos hb, e]
theorem up0 (s : ByteArray) (n : Nat) (e : strings_LastIndexByte.f s 47 = some (n : Int)) (hn : n ≤ s.size) : path_Up.f s = some (s.extract 0 n) := by
  unfold path_Up.f
  rw [e]
  simp only [Option.bind_some]
  rw [if_neg (show ¬ (n : Int) < 0 by omega), if_pos (Int.natCast_nonneg n), if_pos (Int.ofNat_le.2 hn), Int.toNat_natCast]
theorem up_none (s : ByteArray) (hs : s.size ≤ 1048576) (e : Lib.lastIndexByte s 47 = -1) : path_Up.f s = some (⟨#[]⟩ : ByteArray) := by
  have h := last_f s (by omega) _ e
  unfold path_Up.f
  rw [h]; simp
theorem up_some (s : ByteArray) (hs : s.size ≤ 1048576) (i : Nat) (hi : i < s.size) (e : Lib.lastIndexByte s 47 = (i : Int)) : path_Up.f s = some (s.extract 0 i) := up0 s i (last_f s (by omega) _ e) (by omega)
theorem last_cut (s : ByteArray) (i : Nat) (hi : i < s.size) (hc : ((s.data[i]!).toNat : Int) = 47) (hn : ∀ j, i < j → j < s.size → ((s.data[j]!).toNat : Int) ≠ 47) :
    (47 : UInt8) ∉ s.data.toList.drop (i + 1) ∧ s.data.toList = s.data.toList.take i ++ 47 :: s.data.toList.drop (i + 1) := by
  have hl : i < s.data.toList.length := by rw [size_list]; exact hi
  have h47 : (47 : Int).toNat.toUInt8 = 47 := rfl
  have hb : s.data.toList[i] = 47 := by
    rw [data_get s i hi, bt_eq_iff s i hi 47 (by omega) (by omega), List.getElem?_eq_getElem hl, h47] at hc
    exact Option.some.inj hc
  refine ⟨?_, ?_⟩
  · intro hm
    obtain ⟨j, hj, hje⟩ := List.mem_iff_getElem.1 hm
    rw [List.length_drop, size_list] at hj
    rw [List.getElem_drop] at hje
    apply hn (i + 1 + j) (by omega) (by omega)
    rw [data_get s _ (by omega), bt_eq_iff s _ (by omega) 47 (by omega) (by omega), List.getElem?_eq_getElem (by rw [size_list]; omega), hje, h47]
  · conv => lhs; rw [← List.take_append_drop i s.data.toList, List.drop_eq_getElem_cons hl, hb]
theorem last_none (s : ByteArray) (hn : ∀ j, j < s.size → ((s.data[j]!).toNat : Int) ≠ 47) : (47 : UInt8) ∉ s.data.toList := by
  have h47 : (47 : Int).toNat.toUInt8 = 47 := rfl
  intro hm
  obtain ⟨j, hj, hje⟩ := List.mem_iff_getElem.1 hm
  have hjs : j < s.size := by simpa using hj
  apply hn j hjs
  rw [data_get s j hjs, bt_eq_iff s j hjs 47 (by omega) (by omega), List.getElem?_eq_getElem hj, hje, h47]
theorem split_last (A B : List UInt8) (hB : (47 : UInt8) ∉ B) (l : List UInt8) (hl : l = A ++ 47 :: B) (hx : sp 47 l ≠ []) : joinS ((sp 47 l).take ((sp 47 l).length - 1)) = A ∧ (sp 47 l).getLast hx = B := by
  have h1 : sp 47 l = sp 47 A ++ [B] := by rw [hl]; exact sp_last A B hB
  refine ⟨?_, ?_⟩
  · rw [h1, List.length_append, List.length_singleton, Nat.add_sub_cancel, List.take_left, join_sp]
  · have h2 : (sp 47 l).getLast? = some B := by rw [h1]; simp
    rw [List.getLast?_eq_some_getLast hx] at h2
    exact Option.some.inj h2
theorem split_only (l : List UInt8) (h : (47 : UInt8) ∉ l) (hx : sp 47 l ≠ []) : joinS ((sp 47 l).take ((sp 47 l).length - 1)) = [] ∧ (sp 47 l).getLast hx = l := by
  have h1 := sp_whole 47 l h
  refine ⟨by rw [h1]; rfl, ?_⟩
  have h2 : (sp 47 l).getLast? = some l := by rw [h1]; simp
  rw [List.getLast?_eq_some_getLast hx] at h2
  exact Option.some.inj h2
theorem up_only (s : ByteArray) (k : Nat) (hs : s.size ≤ 1048576) (hk : s.size + 2 < k) : (Lib.lastIndexByte s 47 = -1 ∧ path_Up.f s = some (⟨#[]⟩ : ByteArray) ∧ creelref_PathSplit.f k s = some ((⟨#[]⟩ : ByteArray), s)) ∨
    ∃ i, i < s.size ∧ Lib.lastIndexByte s 47 = (i : Int) ∧ path_Up.f s = some (s.extract 0 i) ∧ creelref_PathSplit.f k s = some (s.extract 0 i, s.extract (i + 1) s.size) := by
  have hsp := split_at s k hs hk
  rcases Lib.lastIndexByte_spec s 47 with ⟨e, hn⟩ | ⟨i, hi, e, hc, hn⟩
  · obtain ⟨h3, h4⟩ := split_only _ (last_none s hn) (sp_ne 47 s.data.toList)
    refine Or.inl ⟨e, up_none s hs e, ?_⟩
    rw [hsp, h3, h4, mk_of]; rfl
  · obtain ⟨c1, c2⟩ := last_cut s i hi hc hn
    obtain ⟨h3, h4⟩ := split_last _ _ c1 _ c2 (sp_ne 47 s.data.toList)
    have x1 : mk (s.data.toList.take i) = s.extract 0 i := by apply ext_list; rw [mk_data, Lib.extract_data]; simp
    have x2 : mk (s.data.toList.drop (i + 1)) = s.extract (i + 1) s.size := by apply ext_list; rw [mk_data, Lib.extract_to_end]
    refine Or.inr ⟨i, hi, e, up_some s hs i hi e, ?_⟩
    rw [hsp, h3, h4, x1, x2]
end Go.Proofs.YtgkofpjeiogafaaDoor.Q
end
section
namespace Go.Proofs.YtgkofpjeiogafaaDoor.Q
set_option linter.unusedVariables false
set_option linter.unusedSimpArgs false
open Go.RowKit Go.Proofs.YtgkofpjeiogafaaDoor.All Go.Proofs.YtgkofpjeiogafaaDoorW.PrintWords Go.Proofs.YtgkofpjeiogafaaDoorW.PrintLast Go.Proofs.YtgkofpjeiogafaaDoorW.PrintMore Go.Proofs.YtgkofpjeiogafaaDoorW.PureBase

-- USES Has
-- FN strings_IndexByte stamp_Check creelref_TimeFault meta_Check creelref_MetaFault
/-- What is wrong, by either. -/
def wrong (a b c : Int) (u g : ByteArray) (s n : Int) : Int :=
  if a < 0 ∨ a > 4095 ∨ b < 0 ∨ b > 1125899906842624 ∨ c < 0 ∨ c > 1125899906842624 then 4
  else if (u.size : Int) > 60 ∨ (g.size : Int) > 60 then 1
  else if u.data.toList.contains 0 = true ∨ g.data.toList.contains 0 = true then 3
  else if s < -1099511627776 ∨ s > 1099511627776 ∨ n < 0 ∨ n > 999999999 then 4 else 0

theorem stamp_is (s n : Int) : stamp_Check.f s n = some (if s < -1099511627776 ∨ s > 1099511627776 ∨ n < 0 ∨ n > 999999999 then 4 else 0) := by
  unfold stamp_Check.f
  by_cases h1 : s < -1099511627776
  · simp [h1]
  · by_cases h2 : s > 1099511627776
    · simp [h1, h2]
    · by_cases h3 : n < 0
      · simp [h1, h2, h3]
      · by_cases h4 : n > 999999999 <;> simp [h1, h2, h3, h4]
theorem time_is (s n : Int) : creelref_TimeFault.f s n = some (if s < -1099511627776 ∨ s > 1099511627776 ∨ n < 0 ∨ n > 999999999 then 4 else 0) := by
  unfold creelref_TimeFault.f
  by_cases h1 : s < -1099511627776
  · simp [h1]
  · by_cases h2 : s > 1099511627776
    · simp [h1, h2]
    · by_cases h3 : n < 0
      · simp [h1, h2, h3]
      · by_cases h4 : n > 999999999
        · rw [if_neg h1, if_neg h2, if_neg h3, if_pos (by omega), if_pos (by omega)]
        · rw [if_neg h1, if_neg h2, if_neg h3, if_neg (by omega), if_neg (by omega)]

theorem check_ev (a b c : Int) (u g : ByteArray) (s n : Int) : Ev (fun k => meta_Check.f k a b c u g s n) (wrong a b c u g s n) := by
  refine ⟨10, fun k hk => ?_⟩
  obtain ⟨k, rfl⟩ : ∃ m, k = m + 10 := ⟨k - 10, by omega⟩
  have j2 : ∀ (b2 : Bool) (m : Nat), (b2 = false → u.size ≤ 60 ∧ g.size ≤ 60) → meta_Check.j2 (m + 1) b2 a b c u g s n = some (if b2 = true then 1 else if u.data.toList.contains 0 = true ∨ g.data.toList.contains 0 = true then 3
      else if s < -1099511627776 ∨ s > 1099511627776 ∨ n < 0 ∨ n > 999999999 then 4 else 0) := by
    intro b2 m hb
    simp only [meta_Check.j2]
    cases b2 with
    | true => simp
    | false =>
      obtain ⟨h1, h2⟩ := hb rfl
      simp only [Bool.false_eq_true, if_false]; rw [if_pos (by omega)]
      unfold strings_IndexByte.f
      simp only [Option.bind_some]
      have e : (Lib.indexByte (u ++ g).data.toList ((0 : Int).toNat.toUInt8) ≥ 0) ↔ (u.data.toList.contains 0 = true ∨ g.data.toList.contains 0 = true) := by
        have := index_ge (u ++ g).data.toList ((0 : Int).toNat.toUInt8)
        rw [← decide_eq_true_iff (p := Lib.indexByte (u ++ g).data.toList ((0 : Int).toNat.toUInt8) ≥ 0), this]
        simp
      by_cases h : u.data.toList.contains 0 = true ∨ g.data.toList.contains 0 = true
      · rw [if_pos h, if_pos (e.2 h)]
      · rw [if_neg h, if_neg (fun x => h (e.1 x)), stamp_is]; rfl
  have j1 : ∀ (b1 : Bool) (m : Nat), meta_Check.j1 (m + 2) b1 a b c u g s n = some (if b1 = true then 4 else if (u.size : Int) > 60 ∨ (g.size : Int) > 60 then 1 else if u.data.toList.contains 0 = true ∨ g.data.toList.contains 0 = true then 3
      else if s < -1099511627776 ∨ s > 1099511627776 ∨ n < 0 ∨ n > 999999999 then 4 else 0) := by
    intro b1 m
    simp only [meta_Check.j1]
    cases b1 with
    | true => simp
    | false =>
      simp only [Bool.false_eq_true, if_false]
      by_cases h1 : (u.size : Int) > 60
      · rw [if_pos h1, j2 true m (by simp)]; simp [h1]
      · rw [if_neg h1]
        by_cases h2 : (g.size : Int) > 60
        · rw [decide_eq_true h2, j2 true m (by simp)]; simp [h2]
        · rw [decide_eq_false h2, j2 false m (fun _ => ⟨by omega, by omega⟩)]; simp [h1, h2]
  show meta_Check.f (k + 10) a b c u g s n = _
  unfold meta_Check.f wrong
  by_cases h1 : a < 0
  · simp [meta_Check.j0, j1, h1]
  · by_cases h2 : a > 4095
    · simp [meta_Check.j0, j1, h1, h2]
    · by_cases h3 : b < 0
      · simp [meta_Check.j0, j1, h1, h2, h3]
      · by_cases h4 : b > 1125899906842624
        · simp [meta_Check.j0, j1, h1, h2, h3, h4]
        · by_cases h5 : c < 0
          · simp [meta_Check.j0, j1, h1, h2, h3, h4, h5]
          · by_cases h6 : c > 1125899906842624
            · simp [meta_Check.j0, j1, h1, h2, h3, h4, h5, h6]
            · simp [meta_Check.j0, j1, h1, h2, h3, h4, h5, h6]

theorem fault_ev (a b c : Int) (u g : ByteArray) (s n : Int) (hu : u.size ≤ 140737488351232) (hg : g.size ≤ 140737488351232) : Ev (fun k => creelref_MetaFault.f k a b c u g s n) (wrong a b c u g s n) := by
  obtain ⟨K1, e1⟩ := has_ev u 0 (by omega) (by omega) hu
  obtain ⟨K2, e2⟩ := has_ev g 0 (by omega) (by omega) hg
  replace e1 : ∀ k, K1 ≤ k → creelref_has.f k u 0 = some (u.data.toList.contains 0) := e1
  replace e2 : ∀ k, K2 ≤ k → creelref_has.f k g 0 = some (g.data.toList.contains 0) := e2
  refine ⟨max K1 K2 + 10, fun k hk => ?_⟩
  obtain ⟨k, rfl⟩ : ∃ m, k = m + 2 := ⟨k - 2, by omega⟩
  have j1 : ∀ (b1 : Bool), creelref_MetaFault.j1 (k + 1) b1 a b c u g s n = some (if b1 = true then 1 else if u.data.toList.contains 0 = true ∨ g.data.toList.contains 0 = true then 3
      else if s < -1099511627776 ∨ s > 1099511627776 ∨ n < 0 ∨ n > 999999999 then 4 else 0) := by
    intro b1
    simp only [creelref_MetaFault.j1]
    cases b1 with
    | true => simp
    | false =>
      simp only [Bool.false_eq_true, if_false]; rw [e1 k (by omega), e2 k (by omega)]
      simp only [Option.bind_some]
      by_cases h1 : u.data.toList.contains 0 = true
      · rw [if_pos h1, if_pos (.inl h1)]
      · rw [if_neg h1]
        by_cases h2 : g.data.toList.contains 0 = true
        · rw [if_pos h2, if_pos (.inr h2)]
        · rw [if_neg h2, if_neg (by rintro (h | h); exact h1 h; exact h2 h), time_is]; rfl
  have j0 : ∀ (b1 : Bool), creelref_MetaFault.j0 (k + 2) b1 a b c u g s n = some (if b1 = true then 4 else if (u.size : Int) > 60 ∨ (g.size : Int) > 60 then 1 else if u.data.toList.contains 0 = true ∨ g.data.toList.contains 0 = true then 3
      else if s < -1099511627776 ∨ s > 1099511627776 ∨ n < 0 ∨ n > 999999999 then 4 else 0) := by
    intro b1
    simp only [creelref_MetaFault.j0]
    cases b1 with
    | true => simp
    | false =>
      simp only [Bool.false_eq_true, if_false]
      by_cases h1 : (u.size : Int) > 60
      · rw [if_pos h1, j1]; simp [h1]
      · rw [if_neg h1]
        by_cases h2 : (g.size : Int) > 60
        · rw [decide_eq_true h2, j1]; simp [h2]
        · rw [decide_eq_false h2, j1]; simp [h1, h2]
  have hx : a ≥ 4096 ↔ a > 4095 := by omega
  show creelref_MetaFault.f (k + 2) a b c u g s n = _
  unfold creelref_MetaFault.f wrong
  by_cases h1 : a < 0
  · simp [j0, hx, h1]
  · by_cases h2 : a > 4095
    · simp [j0, hx, h1, h2]
    · by_cases h3 : b < 0
      · simp [j0, hx, h1, h2, h3]
      · by_cases h4 : b > 1125899906842624
        · simp [j0, hx, h1, h2, h3, h4]
        · by_cases h5 : c < 0
          · simp [j0, hx, h1, h2, h3, h4, h5]
          · by_cases h6 : c > 1125899906842624
            · simp [j0, hx, h1, h2, h3, h4, h5, h6]
            · simp [j0, hx, h1, h2, h3, h4, h5, h6]
end Go.Proofs.YtgkofpjeiogafaaDoor.Q
end
section
namespace Go.Proofs.YtgkofpjeiogafaaDoor.Q
set_option linter.unusedVariables false
set_option linter.unusedSimpArgs false
open Go.RowKit Go.Proofs.YtgkofpjeiogafaaDoor.All Go.Proofs.YtgkofpjeiogafaaDoorW.PrintWords Go.Proofs.YtgkofpjeiogafaaDoorW.PrintLast Go.Proofs.YtgkofpjeiogafaaDoorW.PrintMore Go.Proofs.YtgkofpjeiogafaaDoorW.PureBase

-- USES Path Meta
-- FN plan_Right creelref_EntryFault
theorem idx00 (t : ByteArray) : (Lib.indexByte t.data.toList ((0 : Int).toNat.toUInt8) ≥ 0) ↔ t.data.toList.contains 0 = true := by
  have := index_ge t.data.toList ((0 : Int).toNat.toUInt8)
  rw [← decide_eq_true_iff (p := Lib.indexByte t.data.toList ((0 : Int).toNat.toUInt8) ≥ 0), this]; rfl
/-- The end of the tests of a member. -/
def tailE (b : Bool) (kind : Int) (t : ByteArray) : Int := if b = true then 1 else if kind = 4 then pathR t else if t.data.toList.contains 0 = true then 3 else 0
def midE (x : Bool) (kind : Int) (t : ByteArray) (n : Nat) : Int := if x = true then 3 else tailE (decide ((n : Int) > 2000) || decide ((t.size : Int) > 400)) kind t
/-- What is wrong with a member, its path and metadata aside. -/
def restE (kind : Int) (t : ByteArray) (n : Nat) : Int := if kind < 1 ∨ 4 < kind then 2 else midE ((decide (kind ≠ 1) && decide (0 < n)) || ((t.toList != ([] : List UInt8)) != decide (kind ≥ 3))) kind t n
def entryR (p : ByteArray) (kind : Int) (t : ByteArray) (a b c : Int) (u g : ByteArray) (s n : Int) (d : Nat) : Int :=
  if pathR p = 0 then (if wrong a b c u g s n = 0 then restE kind t d else wrong a b c u g s n) else pathR p
theorem pr_j2 (k : Nat) (x : Bool) (p : ByteArray) (kind : Int) (t : ByteArray) (a b c : Int) (u g : ByteArray) (s n : Int) (d : List Int) (h : path_Check.f k t = some (pathR t)) :
    plan_Right.j2 (k + 1) x p kind t a b c u g s n d = some (tailE x kind t) := by
  have hi := idx00 t
  simp only [plan_Right.j2, h, strings_IndexByte.f, Option.bind_some]
  unfold tailE
  by_cases z : t.data.toList.contains 0 = true
  · rw [if_pos (hi.2 z), if_pos z]
    by_cases x0 : x = true <;> by_cases k4 : kind = 4 <;> simp [x0, k4]
  · rw [if_neg (fun h => z (hi.1 h)), if_neg z]
    by_cases x0 : x = true <;> by_cases k4 : kind = 4 <;> simp [x0, k4]
theorem pr_j1 (k : Nat) (x : Bool) (p : ByteArray) (kind : Int) (t : ByteArray) (a b c : Int) (u g : ByteArray) (s n : Int) (d : List Int) (h : path_Check.f k t = some (pathR t)) :
    plan_Right.j1 (k + 2) x p kind t a b c u g s n d = some (midE x kind t d.length) := by
  simp only [plan_Right.j1, pr_j2 k _ p kind t a b c u g s n d h]
  unfold midE
  by_cases x0 : x = true
  · rw [if_pos x0, if_pos x0]
  · rw [if_neg x0, if_neg x0]
    by_cases d0 : (d.length : Int) > 2000
    · rw [if_pos d0, decide_eq_true d0]; rfl
    · rw [if_neg d0, decide_eq_false d0]; rfl
theorem pr_j0 (k : Nat) (x : Bool) (p : ByteArray) (kind : Int) (t : ByteArray) (a b c : Int) (u g : ByteArray) (s n : Int) (d : List Int) (h : path_Check.f k t = some (pathR t)) :
    plan_Right.j0 (k + 3) x p kind t a b c u g s n d = some (if x = true then 2 else midE ((decide (kind ≠ 1) && decide (0 < d.length)) || ((t.toList != ([] : List UInt8)) != decide (kind ≥ 3))) kind t d.length) := by
  simp only [plan_Right.j0, pr_j1 k _ p kind t a b c u g s n d h]
  by_cases x0 : x = true
  · rw [if_pos x0, if_pos x0]
  · rw [if_neg x0, if_neg x0]
    by_cases k1 : kind = 1
    · rw [if_pos k1, decide_eq_false (show ¬ kind ≠ 1 from fun h => h k1)]; rfl
    · rw [if_neg k1, decide_eq_true (show kind ≠ 1 from k1)]
      by_cases d0 : (d.length : Int) > 0
      · rw [if_pos d0, decide_eq_true (show 0 < d.length by omega)]; rfl
      · rw [if_neg d0, decide_eq_false (show ¬ 0 < d.length by omega)]; rfl
theorem ef_j2 (k : Nat) (x : Bool) (p : ByteArray) (kind : Int) (t : ByteArray) (a b c : Int) (u g : ByteArray) (s n : Int) (d : List Int) (h : creelref_PathFault.f k t = some (pathR t)) (h' : creelref_has.f k t 0 = some (t.data.toList.contains 0)) :
    creelref_EntryFault.j2 (k + 1) x p kind t a b c u g s n d = some (tailE x kind t) := by
  simp only [creelref_EntryFault.j2, h, h', Option.bind_some]
  unfold tailE
  generalize t.data.toList.contains 0 = z
  cases z <;> cases x <;> by_cases k4 : kind = 4 <;> simp [k4]
theorem ef_j1 (k : Nat) (x : Bool) (p : ByteArray) (kind : Int) (t : ByteArray) (a b c : Int) (u g : ByteArray) (s n : Int) (d : List Int) (h : creelref_PathFault.f k t = some (pathR t)) (h' : creelref_has.f k t 0 = some (t.data.toList.contains 0)) :
    creelref_EntryFault.j1 (k + 2) x p kind t a b c u g s n d = some (midE x kind t d.length) := by
  simp only [creelref_EntryFault.j1, ef_j2 k _ p kind t a b c u g s n d h h']
  unfold midE
  by_cases x0 : x = true
  · rw [if_pos x0, if_pos x0]
  · rw [if_neg x0, if_neg x0]
    by_cases d0 : (d.length : Int) > 2000
    · rw [if_pos d0, decide_eq_true d0]; rfl
    · rw [if_neg d0, decide_eq_false d0]; rfl
theorem ef_j0 (k : Nat) (x : Bool) (p : ByteArray) (kind : Int) (t : ByteArray) (a b c : Int) (u g : ByteArray) (s n : Int) (d : List Int) (h : creelref_PathFault.f k t = some (pathR t)) (h' : creelref_has.f k t 0 = some (t.data.toList.contains 0)) (hk : 1 ≤ kind) :
    creelref_EntryFault.j0 (k + 3) x p kind t a b c u g s n d = some (if x = true then 2 else midE ((decide (kind ≠ 1) && decide (0 < d.length)) || ((t.toList != ([] : List UInt8)) != decide (kind ≥ 3))) kind t d.length) := by
  simp only [creelref_EntryFault.j0, ef_j1 k _ p kind t a b c u g s n d h h']
  by_cases x0 : x = true
  · rw [if_pos x0, if_pos x0]
  · rw [if_neg x0, if_neg x0]
    have hd : ((d.length : Int) != 0) = decide (0 < d.length) := by
      by_cases d0 : d.length = 0
      · rw [d0]; rfl
      · rw [decide_eq_true (show 0 < d.length by omega)]; simpa using fun h => d0 (by rw [h]; rfl)
    by_cases g2 : kind > 2
    · rw [if_pos g2, if_pos (show kind > 1 by omega), decide_eq_true (show kind ≠ 1 by omega), decide_eq_true (show kind ≥ 3 by omega), hd]
      by_cases t0 : t.toList = ([] : List UInt8)
      · rw [if_pos t0, t0]
        cases decide (0 < d.length) <;> rfl
      · rw [if_neg t0, bne_iff_ne.mpr t0]
        cases decide (0 < d.length) <;> rfl
    · rw [if_neg g2, decide_eq_false (show ¬ kind ≥ 3 by omega), hd]
      by_cases t0 : t.toList = ([] : List UInt8)
      · rw [if_pos t0, t0]
        by_cases g1 : kind > 1
        · rw [if_pos g1, decide_eq_true (show kind ≠ 1 by omega)]
          cases decide (0 < d.length) <;> rfl
        · rw [if_neg g1, decide_eq_false (show ¬ kind ≠ 1 by omega)]
          cases decide (0 < d.length) <;> rfl
      · rw [if_neg t0, bne_iff_ne.mpr t0]
        cases decide (kind ≠ 1) <;> cases decide (0 < d.length) <;> rfl
theorem plan_ev (p : ByteArray) (kind : Int) (t : ByteArray) (a b c : Int) (u g : ByteArray) (s n : Int) (d : List Int) (hp : p.size ≤ 140737488351232) (ht : t.size ≤ 140737488351232) :
    Ev (fun k => plan_Right.f k p kind t a b c u g s n d) (entryR p kind t a b c u g s n d.length) := by
  obtain ⟨K1, a1⟩ := (path_same p hp).1
  replace a1 : ∀ k, K1 ≤ k → path_Check.f k p = some (pathR p) := a1
  obtain ⟨K2, a2⟩ := check_ev a b c u g s n
  replace a2 : ∀ k, K2 ≤ k → meta_Check.f k a b c u g s n = some (wrong a b c u g s n) := a2
  obtain ⟨K3, a3⟩ := (path_same t ht).1
  replace a3 : ∀ k, K3 ≤ k → path_Check.f k t = some (pathR t) := a3
  refine ⟨K1 + K2 + K3 + 10, fun k hk => ?_⟩
  show plan_Right.f k p kind t a b c u g s n d = _
  unfold plan_Right.f entryR
  rw [a1 k (by omega)]
  simp only [Option.bind_some]
  by_cases hP : pathR p = 0
  · rw [if_pos hP, if_pos hP, a2 k (by omega)]
    simp only [Option.bind_some]
    by_cases hM : wrong a b c u g s n = 0
    · rw [if_pos hM, if_pos hM]
      obtain ⟨k, rfl⟩ : ∃ m, k = m + 3 := ⟨k - 3, by omega⟩
      rw [pr_j0 k _ p kind t a b c u g s n d (a3 k (by omega)), pr_j0 k _ p kind t a b c u g s n d (a3 k (by omega))]
      unfold restE
      by_cases l1 : kind < 1
      · rw [if_pos l1, if_pos rfl, if_pos (Or.inl l1)]
      · rw [if_neg l1]
        by_cases g4 : kind > 4
        · rw [decide_eq_true g4, if_pos rfl, if_pos (Or.inr g4)]
        · rw [decide_eq_false g4, if_neg (by simp), if_neg (by omega)]
    · rw [if_neg hM, if_neg hM]
  · rw [if_neg hP, if_neg hP]
theorem refentry_ev (p : ByteArray) (kind : Int) (t : ByteArray) (a b c : Int) (u g : ByteArray) (s n : Int) (d : List Int) (hp : p.size ≤ 140737488351232) (ht : t.size ≤ 140737488351232) (hu : u.size ≤ 140737488351232) (hg : g.size ≤ 140737488351232) :
    Ev (fun k => creelref_EntryFault.f k p kind t a b c u g s n d) (entryR p kind t a b c u g s n d.length) := by
  obtain ⟨K1, a1⟩ := (path_same p hp).2
  replace a1 : ∀ k, K1 ≤ k → creelref_PathFault.f k p = some (pathR p) := a1
  obtain ⟨K2, a2⟩ := fault_ev a b c u g s n hu hg
  replace a2 : ∀ k, K2 ≤ k → creelref_MetaFault.f k a b c u g s n = some (wrong a b c u g s n) := a2
  obtain ⟨K3, a3⟩ := (path_same t ht).2
  replace a3 : ∀ k, K3 ≤ k → creelref_PathFault.f k t = some (pathR t) := a3
  obtain ⟨K4, a4⟩ := has_ev t 0 (by omega) (by omega) ht
  replace a4 : ∀ k, K4 ≤ k → creelref_has.f k t 0 = some (t.data.toList.contains 0) := a4
  refine ⟨K1 + K2 + K3 + K4 + 10, fun k hk => ?_⟩
  show creelref_EntryFault.f k p kind t a b c u g s n d = _
  unfold creelref_EntryFault.f entryR
  rw [a1 k (by omega)]
  simp only [Option.bind_some]
  by_cases hP : pathR p = 0
  · rw [if_pos hP, if_pos hP, a2 k (by omega)]
    simp only [Option.bind_some]
    by_cases hM : wrong a b c u g s n = 0
    · rw [if_pos hM, if_pos hM]
      obtain ⟨k, rfl⟩ : ∃ m, k = m + 3 := ⟨k - 3, by omega⟩
      unfold restE
      by_cases l1 : kind < 1
      · rw [if_pos l1, if_pos (Or.inl l1)]
        simp [creelref_EntryFault.j0]
      · rw [if_neg l1, ef_j0 k _ p kind t a b c u g s n d (a3 k (by omega)) (a4 k (by omega)) (by omega)]
        by_cases g4 : kind > 4
        · rw [decide_eq_true g4, if_pos rfl, if_pos (Or.inr g4)]
        · rw [decide_eq_false g4, if_neg (by simp), if_neg (by omega)]
    · rw [if_neg hM, if_neg hM]
  · rw [if_neg hP, if_neg hP]
end Go.Proofs.YtgkofpjeiogafaaDoor.Q
end
