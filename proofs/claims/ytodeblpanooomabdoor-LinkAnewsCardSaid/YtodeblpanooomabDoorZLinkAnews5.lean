/- Made by programs of the prover: walks of Go functions, the words that they use, and plain laws, each text in a section of its own; no condition of its own. -/
import Derived.Laws.MakeOwn
import Derived.Test.YtodeblpanooomabDoorZLinkAnews1
import Derived.Test.YtodeblpanooomabDoorZLinkAnews2
import Derived.Test.YtodeblpanooomabDoorZLinkAnews3
import Derived.Test.YtodeblpanooomabDoorZLinkAnews4
section
namespace Go.Proofs.YtodeblpanooomabDoor.All
open Go.RowKit Go.Proofs.YtodeblpanooomabDoorW.PrintWords Go.Proofs.YtodeblpanooomabDoorW.PrintLast Go.Proofs.YtodeblpanooomabDoorW.PrintMore
open Go.Proofs.YtodeblpanooomabDoorW.Mine
attribute [local go_sem] gtr_string leq_string geq_string
attribute [local go_sem] max2_int min2_int max_two min_two max_three min_three max_four min_four   -- for this text's walks alone
set_option linter.unusedVariables false
set_option linter.unusedSimpArgs false

/-! ### path_Up: function 54 -/
def path_Up.f (a0 : ByteArray) : Option (ByteArray) := (strings_LastIndexByte.f a0 47).bind fun t101 => (if t101 < 0 then (some (⟨#[]⟩ : ByteArray)) else (if 0 ≤ t101 then (if t101 ≤ (a0.size : Int) then (some (a0.extract 0 (t101 : Int).toNat)) else (none)) else (none)))
set_option maxHeartbeats 8000000 in
set_option maxRecDepth 100000 in
theorem path_Up.calls (a0 : ByteArray) (r : ByteArray) (w : World) (h : path_Up.f a0 = some r) :
  Calls Tryd.prog 54 #[.string a0] w fun e w' => e = .returned (.string r) ∧ Drawn0 w w' := by
 have H : ((strings_LastIndexByte.f a0 47).bind fun t101 => (if t101 < 0 then (some (⟨#[]⟩ : ByteArray)) else (if 0 ≤ t101 then (if t101 ≤ (a0.size : Int) then (some (a0.extract 0 (t101 : Int).toNat)) else (none)) else (none)))) = some r := h
 clear h
 replace H := Option.bind_eq_some_iff.mp H
 obtain ⟨t101, A20, H⟩ := H
 replace H : (if t101 < 0 then (some (⟨#[]⟩ : ByteArray)) else (if 0 ≤ t101 then (if t101 ≤ (a0.size : Int) then (some (a0.extract 0 (t101 : Int).toNat)) else (none)) else (none))) = some r := H
 have A2 := Aside0.mk A20
 clear A20
 by_cases c3 : t101 < 0
 ·rw [if_pos c3] at H
  have c3b0 : decide (t101 < 0) = true := decide_eq_true c3
  clear c3
  obtain rfl := Option.some.inj H
  go_enter Tryd.func54, Tryd.ntmps54
  go_wp2_with (first | ((with_reducible refine gate_callee (f := 69) rfl ?_); refine goesL_ (some 5) rfl rfl Tryd.func69 (by kernel_rfl) rfl #[.string a0, .int .u8 47] rfl (by (try simp only [List.map_toArray, List.map_cons, List.map_nil]); first | done | rfl | (simp only [List.length_drop, List.length_take]; rfl)) ?_; (with_reducible refine (strings_LastIndexByte.calls a0 47 t101 _ A2.out).mono ?_); rintro e w' ⟨rfl, ⟨nd, rfl⟩⟩; refine ⟨_, rfl, ?_⟩))
  go_ret
  exact ⟨by first | rfl | (simp; done) | (simp [*]; done), by repeat (first | exact Drawn0.refl _ | apply Drawn0.step)⟩
 ·rw [if_neg c3] at H
  have c3b0 : decide (t101 < 0) = false := decide_eq_false c3
  clear c3
  by_cases c4 : 0 ≤ t101
  ·rw [if_pos c4] at H
   have c4b0 := eq_true c4
   have c4b1 : decide (0 ≤ t101) = true := decide_eq_true c4
   clear c4
   by_cases c5 : t101 ≤ (a0.size : Int)
   ·rw [if_pos c5] at H
    have c5b0 := eq_true c5
    have c5b1 : decide (t101 ≤ (a0.size : Int)) = true := decide_eq_true c5
    clear c5
    obtain rfl := Option.some.inj H
    go_enter Tryd.func54, Tryd.ntmps54
    go_wp2_with (first | ((with_reducible refine gate_callee (f := 69) rfl ?_); refine goesL_ (some 5) rfl rfl Tryd.func69 (by kernel_rfl) rfl #[.string a0, .int .u8 47] rfl (by (try simp only [List.map_toArray, List.map_cons, List.map_nil]); first | done | rfl | (simp only [List.length_drop, List.length_take]; rfl)) ?_; (with_reducible refine (strings_LastIndexByte.calls a0 47 t101 _ A2.out).mono ?_); rintro e w' ⟨rfl, ⟨nd, rfl⟩⟩; refine ⟨_, rfl, ?_⟩))
    go_ret
    exact ⟨by first | rfl | (simp; done) | (simp [*]; done), by repeat (first | exact Drawn0.refl _ | apply Drawn0.step)⟩
   ·rw [if_neg c5] at H
    exact absurd H (by simp)
  ·rw [if_neg c4] at H
   exact absurd H (by simp)

end Go.Proofs.YtodeblpanooomabDoor.All
end
section
namespace Go.Proofs.YtodeblpanooomabDoor.All
open Go.RowKit Go.Proofs.YtodeblpanooomabDoorW.PrintWords Go.Proofs.YtodeblpanooomabDoorW.PrintLast Go.Proofs.YtodeblpanooomabDoorW.PrintMore
open Go.Proofs.YtodeblpanooomabDoorW.Mine
attribute [local go_sem] gtr_string leq_string geq_string
attribute [local go_sem] max2_int min2_int max_two min_two max_three min_three max_four min_four   -- for this text's walks alone
set_option linter.unusedVariables false
set_option linter.unusedSimpArgs false

/-! ### tree_Find: function 55 -/
def tree_Find.l0 : Nat → List (S56) → ByteArray → Int → Option Int
 | 0, _, _, _ => none
 | k + 1, x0, s, i => if i < (x0.length : Int) then (if 0 ≤ i then (if ((rd_T56 x0 i).f0).toList = s.toList then (some i) else (tree_Find.l0 k x0 s (wrap64 (i + 1)))) else none) else (some (-1))
theorem tree_Find.mono_l : ∀ k, (∀ y0 y1 y2, LeO (tree_Find.l0 k y0 y1 y2) (tree_Find.l0 (k + 1) y0 y1 y2))
 | 0 => fun _ _ _ r h => by simp [tree_Find.l0] at h
 | k + 1 => by
  have ih0 := tree_Find.mono_l k
  intro y0 y1 y2
  unfold tree_Find.l0
  repeat' first
   | (with_reducible exact ih0 _ _ _)
   | (with_reducible exact LeO.refl _)
   | (with_reducible exact LeO.none _)
   | (with_reducible refine LeO.ite ?_ ?_)
set_option maxHeartbeats 4000000 in
set_option maxRecDepth 100000 in
/-- the closure compares the path with the captured text -/
theorem tree_Find.same (s : ByteArray) (gs : Nat) (cells : Array Value) (x : ByteArray) (w : World) (hx : cells[0]? = some (.string x)) (hn : cells.size = 12) (hs : w.heap[gs]? = some (.cells #[.string s] 9 (0, 0))) :
  Calls Tryd.prog 71 #[.agg cells, .pointer (some ⟨gs, 0, none⟩)] w fun e w' => e = .returned (.bool (x.toList == s.toList)) ∧ Below w.heap.size w w' := by
 have hlt := (Array.getElem?_eq_some_iff.1 hs).1
 have HB0 := Aside0.mk (Below.refl w.heap.size w)
 have HS := Aside0.mk hs
 have HX := Aside0.mk hx
 have HL := Aside0.mk hlt
 clear hs hx hlt
 go_enter Tryd.func71, Tryd.ntmps71
 go_wp2_with (((with_reducible refine gate_dst (N := 2) rfl ?_); refine box_event ?hg (N := 2) ?hd (cs := cells) (t := 56) ?hr ?_; (case hd => rfl); (case hg => rfl); (case hr => first | (go_simp; done) | (go_simp; rfl)); intro gb hg w2 hbox hb2; have HG := Aside0.mk hg; have HB2 := Aside0.mk hb2; have h0 : w2.cell? ⟨gb, 0, none⟩ = some (.string x) := (blk_cell hbox 0).trans HX.out; have h1 : w2.cell? ⟨gs, 0, none⟩ = some (.string s) := (by rw [Lib.cell_of_heap ((hb2.block gs HL.out).trans HS.out)]; rfl); clear hg hb2 hbox))
 go_ret
 exact ⟨rfl, HB2.out⟩
set_option maxHeartbeats 8000000 in
set_option maxRecDepth 100000 in
theorem tree_Find.index (k : Nat) (A0 : Option Addr) (c0 : Nat) (l0 : List (S56)) (s : ByteArray) (gs : Nat) (r : Int) (w : World) (hr0 : Kd.C k56 w A0 l0.length l0) (hc0 : l0.length ≤ c0) (hs : w.heap[gs]? = some (.cells #[.string s] 9 (0, 0))) (h : tree_Find.l0 k l0 s 0 = some r) :
  Calls Tryd.prog 70 #[.slice A0 l0.length c0, .func (.func 71) #[] #[.pointer (some ⟨gs, 0, none⟩)]] w fun e w' => e = .returned (.int .i64 r) ∧ Below w.heap.size w w' := by
 have HR0 := Aside0.mk hr0
 have HC0 := Aside0.mk hc0
 have HS := Aside0.mk hs
 have HL := Aside0.mk (Array.getElem?_eq_some_iff.1 hs).1
 have H' := Aside0.mk h
 have HB0 := Aside0.mk (Below.refl w.heap.size w)
 clear hr0 hc0 hs h
 go_enter Tryd.func70, Tryd.ntmps70
 go_wp2
 go_loopg [5, 8] k (fun kq _ v8 wx => ∃ (i : Int), v8 = .int .i64 i ∧ Aside0 (tree_Find.l0 kq l0 s i = some r) ∧ Aside0 (kq ≤ k) ∧ Aside0 (Below w.heap.size w wx))
 case atStart => exact ⟨0, rfl, H', ⟨Nat.le_refl _⟩, HB0⟩
 case round =>
  clear H' HB0
  obtain ⟨i, rfl, HA, HK1, HB⟩ := hrel
  cases gk with
  | zero => exact absurd HA.out (by simp [tree_Find.l0])
  | succ k1 =>
   have H := HA.out
   clear HA
   simp only [tree_Find.l0] at H
   by_cases c3 : i < (l0.length : Int)
   ·rw [if_pos c3] at H
    by_cases c4 : 0 ≤ i
    ·rw [if_pos c4] at H
     obtain ⟨ad, A11, c11, e, hx0, hx1, hx2, hx3, hx4, hx5, hx6, hx7, hx8, hx9, hx10, hx11, hl11, hi11⟩ := at_T56 HR0.out i c4 c3
     cases e
     have hb := HB.out
     have hy0 := (hb.cell (World.block_lt_of_cell? w _ hx0)).trans hx0
     have hy1 := (hb.cell (World.block_lt_of_cell? w _ hx1)).trans hx1
     have hy2 := (hb.cell (World.block_lt_of_cell? w _ hx2)).trans hx2
     have hy3 := (hb.cell (World.block_lt_of_cell? w _ hx3)).trans hx3
     have hy4 := (hb.cell (World.block_lt_of_cell? w _ hx4)).trans hx4
     have hy5 := (hb.cell (World.block_lt_of_cell? w _ hx5)).trans hx5
     have hy6 := (hb.cell (World.block_lt_of_cell? w _ hx6)).trans hx6
     have hy7 := (hb.cell (World.block_lt_of_cell? w _ hx7)).trans hx7
     have hy8 := (hb.cell (World.block_lt_of_cell? w _ hx8)).trans hx8
     have hy9 := (hb.cell (World.block_lt_of_cell? w _ hx9)).trans hx9
     have hy10 := (hb.cell (World.block_lt_of_cell? w _ hx10)).trans hx10
     have hy11 := (hb.cell (World.block_lt_of_cell? w _ hx11)).trans hx11
     clear hb hx0 hx1 hx2 hx3 hx4 hx5 hx6 hx7 hx8 hx9 hx10 hx11 hl11 hi11
     have hS1 := Aside0.mk ((HB.out.block gs HL.out).trans HS.out)
     by_cases c5 : ((rd_T56 l0 i).f0).toList = s.toList
     ·rw [if_pos c5] at H
      obtain rfl := Option.some.inj H
      have c5b : (((rd_T56 l0 i).f0).toList == s.toList) = true := beq_iff_eq.mpr c5
      have C5 := Aside0.mk c5b
      replace c3 := eq_true c3
      replace c4 := eq_true c4
      clear c5 c5b
      go_wp2_with (go_at_call 71; refine (tree_Find.same s gs _ (rd_T56 l0 i).f0 _ rfl rfl hS1.out).mono ?_; rintro e w3 ⟨rfl, hb3⟩; have HB3 := Aside0.mk (below_step HB.out hb3); have c5x := C5.out; clear hb3)
      go_ret
      exact ⟨rfl, HB3.out⟩
     ·rw [if_neg c5] at H
      have H' := Aside0.mk H
      have c5b : (((rd_T56 l0 i).f0).toList == s.toList) = false := beq_eq_false_iff_ne.mpr c5
      have C5 := Aside0.mk c5b
      replace c3 := eq_true c3
      replace c4 := eq_true c4
      clear c5 c5b H
      go_wp2_with (go_at_call 71; refine (tree_Find.same s gs _ (rd_T56 l0 i).f0 _ rfl rfl hS1.out).mono ?_; rintro e w3 ⟨rfl, hb3⟩; have HB3 := Aside0.mk (below_step HB.out hb3); have c5x := C5.out; clear hb3)
      go_roundg k1
      case measure => have := HK1.out; omega
      case rel => exact ⟨wrap64 (i + 1), rfl, H', ⟨by have := HK1.out; omega⟩, HB3⟩
    ·rw [if_neg c4] at H
     cases H
   ·rw [if_neg c3] at H
    obtain rfl := Option.some.inj H
    have c3b := decide_eq_false c3
    clear c3 H
    go_wp2
    go_ret
    exact ⟨rfl, HB.out⟩
def tree_Find.f (k : Nat) (l0 : List (S56)) (a1 : ByteArray) : Option (Int × Int) := (tree_Find.l0 k l0 a1 0).bind fun i => if i < 0 then some (0, 5) else some (i, 0)
theorem tree_Find.mono : ∀ a0 a1 k, LeO (tree_Find.f k a0 a1) (tree_Find.f (k + 1) a0 a1) := by
 intro a0 a1 k
 have ih0 := tree_Find.mono_l k
 unfold tree_Find.f
 repeat' first
   | (with_reducible exact ih0 _ _ _)
   | (with_reducible exact LeO.refl _)
   | (with_reducible exact LeO.none _)
   | (with_reducible refine LeO.ite ?_ ?_)
   | (with_reducible refine LeO.bind ?_ (fun _ => ?_))
set_option maxHeartbeats 4000000 in
set_option maxRecDepth 100000 in
theorem tree_Find.calls (k : Nat) (A0 : Option Addr) (c0 : Nat) (l0 : List (S56)) (a1 : ByteArray) (r1 : Int) (r2 : Int) (w : World) (hr0 : Kd.C k56 w A0 l0.length l0) (hc0 : l0.length ≤ c0) (h : tree_Find.f k l0 a1 = some (r1, r2)) :
  Calls Tryd.prog 55 #[.slice A0 l0.length c0, .string a1] w fun e w' => e = .returned (.tuple #[.int .i64 r1, .int .i64 r2]) ∧ Below w.heap.size w w' := by
 have HR0 := Aside0.mk hr0
 have HC0 := Aside0.mk hc0
 clear hr0 hc0
 obtain ⟨i, A10, H⟩ := Option.bind_eq_some_iff.mp (show ((tree_Find.l0 k l0 a1 0).bind fun i => if i < 0 then some (0, 5) else some (i, 0)) = some (r1, r2) from h)
 have A1 := Aside0.mk A10
 clear A10 h
 by_cases c1 : i < 0
 ·rw [if_pos c1] at H
  simp only [Option.some.injEq, Prod.mk.injEq] at H
  obtain ⟨rfl, rfl⟩ := H
  have c1b := decide_eq_true c1
  clear c1
  go_enter Tryd.func55, Tryd.ntmps55
  go_wp2_with (first | ((with_reducible refine gate_dst (N := 3) rfl ?_); refine box_event ?hg (N := 3) ?hd (cs := #[.string a1]) (t := 9) ?hr ?_; (case hd => rfl); (case hg => rfl); (case hr => first | (go_simp; done) | (go_simp; rfl)); intro gs hg w2 hbox hb2; have HK := Aside0.mk hbox; have HB2 := Aside0.mk hb2; clear hg hb2 hbox) | (go_at_call 70; refine (tree_Find.index k A0 c0 l0 a1 gs i _ (Kd.C_below HR0.out HB2.out) HC0.out HK.out A1.out).mono ?_; rintro e w3 ⟨rfl, hb3⟩; have HB3 := Aside0.mk (below_step HB2.out hb3); clear hb3))
  go_ret2
  exact ⟨rfl, HB3.out⟩
 ·rw [if_neg c1] at H
  simp only [Option.some.injEq, Prod.mk.injEq] at H
  obtain ⟨rfl, rfl⟩ := H
  have c1b := decide_eq_false c1
  clear c1
  go_enter Tryd.func55, Tryd.ntmps55
  go_wp2_with (first | ((with_reducible refine gate_dst (N := 3) rfl ?_); refine box_event ?hg (N := 3) ?hd (cs := #[.string a1]) (t := 9) ?hr ?_; (case hd => rfl); (case hg => rfl); (case hr => first | (go_simp; done) | (go_simp; rfl)); intro gs hg w2 hbox hb2; have HK := Aside0.mk hbox; have HB2 := Aside0.mk hb2; clear hg hb2 hbox) | (go_at_call 70; refine (tree_Find.index k A0 c0 l0 a1 gs i _ (Kd.C_below HR0.out HB2.out) HC0.out HK.out A1.out).mono ?_; rintro e w3 ⟨rfl, hb3⟩; have HB3 := Aside0.mk (below_step HB2.out hb3); clear hb3))
  go_ret2
  exact ⟨rfl, HB3.out⟩


end Go.Proofs.YtodeblpanooomabDoor.All
end
section
namespace Go.Proofs.YtodeblpanooomabDoor.All
open Go.RowKit Go.Proofs.YtodeblpanooomabDoorW.PrintWords Go.Proofs.YtodeblpanooomabDoorW.PrintLast Go.Proofs.YtodeblpanooomabDoorW.PrintMore
open Go.Proofs.YtodeblpanooomabDoorW.Mine
attribute [local go_sem] gtr_string leq_string geq_string
attribute [local go_sem] max2_int min2_int max_two min_two max_three min_three max_four min_four   -- for this text's walks alone
set_option linter.unusedVariables false
set_option linter.unusedSimpArgs false

theorem eqA53 (d : Nat) (w : World) (x0 y0 : Int) (x1 y1 : Int) (x2 y2 : Int) (x3 y3 : ByteArray) (x4 y4 : ByteArray) (x5 y5 : Int) (x6 y6 : Int) :
  (Op.equalIn (d + 2) 53 (.agg #[.int .i64 x0, .int .i64 x1, .int .i64 x2, .string x3, .string x4, .int .i64 x5, .int .i64 x6]) (.agg #[.int .i64 y0, .int .i64 y1, .int .i64 y2, .string y3, .string y4, .int .i64 y5, .int .i64 y6])).run Tryd.prog w = .ok (x0 == y0 && (x1 == y1 && (x2 == y2 && (x3.toList == y3.toList && (x4.toList == y4.toList && (x5 == y5 && (x6 == y6))))))) w := by
 refine eqA_of Tryd.underlying53 (by kernel_rfl) ?_
 refine eqf_cons (by rfl) (by go_simp; rfl) (by go_simp; rfl) (by go_simp) ?_
 refine eqf_cons (by rfl) (by go_simp; rfl) (by go_simp; rfl) (by go_simp) ?_
 refine eqf_cons (by rfl) (by go_simp; rfl) (by go_simp; rfl) (by go_simp) ?_
 refine eqf_cons (by rfl) (by go_simp; rfl) (by go_simp; rfl) (by go_simp) ?_
 refine eqf_cons (by rfl) (by go_simp; rfl) (by go_simp; rfl) (by go_simp) ?_
 refine eqf_cons (by rfl) (by go_simp; rfl) (by go_simp; rfl) (by go_simp) ?_
 exact eqf_last (by rfl) (by go_simp; rfl) (by go_simp; rfl) (by go_simp)
end Go.Proofs.YtodeblpanooomabDoor.All
end
section
namespace Go.Proofs.YtodeblpanooomabDoor.All
open Go.RowKit Go.Proofs.YtodeblpanooomabDoorW.PrintWords Go.Proofs.YtodeblpanooomabDoorW.PrintLast Go.Proofs.YtodeblpanooomabDoorW.PrintMore
open Go.Proofs.YtodeblpanooomabDoorW.Mine
attribute [local go_sem] gtr_string leq_string geq_string
attribute [local go_sem] max2_int min2_int max_two min_two max_three min_three max_four min_four   -- for this text's walks alone
set_option linter.unusedVariables false
set_option linter.unusedSimpArgs false

attribute [local go_sem high] eqA53
/-! ### tree_alike: function 56 -/
def tree_alike.f (a0_0 : ByteArray) (a0_1 : Int) (a0_2 : Int) (a0_3 : ByteArray) (a0_4 : Int) (a0_5 : Int) (a0_6 : Int) (a0_7 : ByteArray) (a0_8 : ByteArray) (a0_9 : Int) (a0_10 : Int) (l0_11 : List Int) (a1_0 : ByteArray) (a1_1 : Int) (a1_2 : Int) (a1_3 : ByteArray) (a1_4 : Int) (a1_5 : Int) (a1_6 : Int) (a1_7 : ByteArray) (a1_8 : ByteArray) (a1_9 : Int) (a1_10 : Int) (l1_11 : List Int) : Option (Bool) := if (a0_4 == a1_4 && (a0_5 == a1_5 && (a0_6 == a1_6 && (a0_7.toList == a1_7.toList && (a0_8.toList == a1_8.toList && (a0_9 == a1_9 && (a0_10 == a1_10))))))) = true then (some ((strOfNums l0_11).toList == (strOfNums l1_11).toList)) else (some false)
set_option maxHeartbeats 8000000 in
set_option maxRecDepth 100000 in
theorem tree_alike.calls (a0_0 : ByteArray) (a0_1 : Int) (a0_2 : Int) (a0_3 : ByteArray) (a0_4 : Int) (a0_5 : Int) (a0_6 : Int) (a0_7 : ByteArray) (a0_8 : ByteArray) (a0_9 : Int) (a0_10 : Int) (A0_11 : Option Addr) (c0_11 : Nat) (l0_11 : List Int) (a1_0 : ByteArray) (a1_1 : Int) (a1_2 : Int) (a1_3 : ByteArray) (a1_4 : Int) (a1_5 : Int) (a1_6 : Int) (a1_7 : ByteArray) (a1_8 : ByteArray) (a1_9 : Int) (a1_10 : Int) (A1_11 : Option Addr) (c1_11 : Nat) (l1_11 : List Int) (r : Bool) (w : World) (hr0_11 : Kd.C (Kd.int .u8) w A0_11 l0_11.length l0_11) (hc0_11 : l0_11.length ≤ c0_11) (hr1_11 : Kd.C (Kd.int .u8) w A1_11 l1_11.length l1_11) (hc1_11 : l1_11.length ≤ c1_11) (h : tree_alike.f a0_0 a0_1 a0_2 a0_3 a0_4 a0_5 a0_6 a0_7 a0_8 a0_9 a0_10 l0_11 a1_0 a1_1 a1_2 a1_3 a1_4 a1_5 a1_6 a1_7 a1_8 a1_9 a1_10 l1_11 = some r) :
  Calls Tryd.prog 56 #[.agg #[.string a0_0, .int .i64 a0_1, .int .i64 a0_2, .string a0_3, .int .i64 a0_4, .int .i64 a0_5, .int .i64 a0_6, .string a0_7, .string a0_8, .int .i64 a0_9, .int .i64 a0_10, .slice A0_11 l0_11.length c0_11], .agg #[.string a1_0, .int .i64 a1_1, .int .i64 a1_2, .string a1_3, .int .i64 a1_4, .int .i64 a1_5, .int .i64 a1_6, .string a1_7, .string a1_8, .int .i64 a1_9, .int .i64 a1_10, .slice A1_11 l1_11.length c1_11]] w fun e w' => e = .returned (.bool r) ∧ Below w.heap.size w w' := by
 have hu56 := Tryd.underlying56
 have hu53 := Tryd.underlying53
 have HR0_11 := Aside0.mk hr0_11
 have HC0_11 := Aside0.mk hc0_11
 clear hr0_11 hc0_11
 have HR1_11 := Aside0.mk hr1_11
 have HC1_11 := Aside0.mk hc1_11
 clear hr1_11 hc1_11
 have HB := Aside0.mk (Below.refl w.heap.size w)
 have H : (if (a0_4 == a1_4 && (a0_5 == a1_5 && (a0_6 == a1_6 && (a0_7.toList == a1_7.toList && (a0_8.toList == a1_8.toList && (a0_9 == a1_9 && (a0_10 == a1_10))))))) = true then (some ((strOfNums l0_11).toList == (strOfNums l1_11).toList)) else (some false)) = some r := h
 clear h
 by_cases c3 : (a0_4 == a1_4 && (a0_5 == a1_5 && (a0_6 == a1_6 && (a0_7.toList == a1_7.toList && (a0_8.toList == a1_8.toList && (a0_9 == a1_9 && (a0_10 == a1_10))))))) = true
 ·rw [if_pos c3] at H
  have c3b0 : (a0_4 == a1_4 && (a0_5 == a1_5 && (a0_6 == a1_6 && (a0_7.toList == a1_7.toList && (a0_8.toList == a1_8.toList && (a0_9 == a1_9 && (a0_10 == a1_10))))))) = true := c3
  (try (have c3b1 : decide (a0_4 = a1_4 && (a0_5 == a1_5 && (a0_6 == a1_6 && (a0_7.toList == a1_7.toList && (a0_8.toList == a1_8.toList && (a0_9 == a1_9 && (a0_10 == a1_10))))))) = true := by simpa using c3))
  (try (have c3b2 : (a0_4 == a1_4 && (a0_5 == a1_5 && (a0_6 == a1_6 && (a0_7.toList == a1_7.toList && (a0_8.toList == a1_8.toList && (a0_9 == a1_9 && (a0_10 == a1_10))))))) = true := by simpa using c3))
  clear c3
  obtain rfl := Option.some.inj H
  go_enter Tryd.func56, Tryd.ntmps56
  go_wp2_with (first | ((with_reducible refine gate_dst (N := 2) rfl ?_); refine box_event ?hg (N := 2) ?hd (cs := #[.string a0_0, .int .i64 a0_1, .int .i64 a0_2, .string a0_3, .int .i64 a0_4, .int .i64 a0_5, .int .i64 a0_6, .string a0_7, .string a0_8, .int .i64 a0_9, .int .i64 a0_10, .slice A0_11 l0_11.length c0_11]) (t := 56) ?hr ?_; (case hd => rfl); (case hg => rfl); (case hr => first | (go_simp; done) | (go_simp; rfl)); intro gb101 hg w4 hbox hb; have n0_ := Aside0.mk (below_step (by repeat (first | (with_reducible first | exact HB.out | apply below_alloc | apply pw_below_drewN | apply below_drew1) | exact HB.out)) hb); have n1_ := Aside0.mk (hbox); have n2_ := Aside0.mk ((by rw [hg]; exact (below_size (by repeat (first | (with_reducible first | exact HB.out | apply below_alloc | apply pw_below_drewN | apply below_drew1) | exact HB.out))) : w.heap.size ≤ gb101)); have n3_ := Aside0.mk ((by rw [hg]; exact (below_size (by repeat (first | (with_reducible first | exact HB.out | apply below_alloc | apply pw_below_drewN | apply below_drew1) | exact HB.out))) : w.heap.size ≤ gb101)); clear HB; have HB := n0_; have BK101 := n1_; have GW101 := n2_; have GE101 := n3_; clear n0_ n1_ n2_ n3_; clear hb hbox hg) | ((with_reducible refine gate_dst (N := 3) rfl ?_); refine box_event ?hg (N := 3) ?hd (cs := #[.string a1_0, .int .i64 a1_1, .int .i64 a1_2, .string a1_3, .int .i64 a1_4, .int .i64 a1_5, .int .i64 a1_6, .string a1_7, .string a1_8, .int .i64 a1_9, .int .i64 a1_10, .slice A1_11 l1_11.length c1_11]) (t := 56) ?hr ?_; (case hd => rfl); (case hg => rfl); (case hr => first | (go_simp; done) | (go_simp; rfl)); intro gb102 hg w5 hbox hb; have n0_ := Aside0.mk (blk_below (g := gb101) (o := .cells #[.string a0_0, .int .i64 a0_1, .int .i64 a0_2, .string a0_3, .int .i64 a0_4, .int .i64 a0_5, .int .i64 a0_6, .string a0_7, .string a0_8, .int .i64 a0_9, .int .i64 a0_10, .slice A0_11 l0_11.length c0_11] 56 (0, 0)) (by (with_reducible repeat (first | refine blk_drewN ?_ _ | refine blk_drew ?_ | refine blk_alloc ?_ _)); exact BK101.out) hb); have n1_ := Aside0.mk (below_step (by repeat (first | (with_reducible first | exact HB.out | apply below_alloc | apply pw_below_drewN | apply below_drew1 | refine below_set ?_ GE101.out) | exact HB.out)) hb); have n2_ := Aside0.mk (hbox); have n3_ := Aside0.mk ((by rw [hg]; exact (below_size (by repeat (first | (with_reducible first | exact HB.out | apply below_alloc | apply pw_below_drewN | apply below_drew1 | refine below_set ?_ GE101.out) | exact HB.out))) : w.heap.size ≤ gb102)); have n4_ := Aside0.mk ((by rw [hg]; exact (below_size (by repeat (first | (with_reducible first | exact HB.out | apply below_alloc | apply pw_below_drewN | apply below_drew1 | refine below_set ?_ GE101.out) | exact HB.out))) : w.heap.size ≤ gb102)); have n5_ := Aside0.mk ((by rw [hg]; exact Nat.ne_of_lt (blk_lt (g := gb101) (o := .cells #[.string a0_0, .int .i64 a0_1, .int .i64 a0_2, .string a0_3, .int .i64 a0_4, .int .i64 a0_5, .int .i64 a0_6, .string a0_7, .string a0_8, .int .i64 a0_9, .int .i64 a0_10, .slice A0_11 l0_11.length c0_11] 56 (0, 0)) (by (with_reducible repeat (first | refine blk_drewN ?_ _ | refine blk_drew ?_ | refine blk_alloc ?_ _)); exact BK101.out)) : gb101 ≠ gb102)); have n6_ := Aside0.mk ((by rw [hg]; exact Nat.ne_of_gt (blk_lt (g := gb101) (o := .cells #[.string a0_0, .int .i64 a0_1, .int .i64 a0_2, .string a0_3, .int .i64 a0_4, .int .i64 a0_5, .int .i64 a0_6, .string a0_7, .string a0_8, .int .i64 a0_9, .int .i64 a0_10, .slice A0_11 l0_11.length c0_11] 56 (0, 0)) (by (with_reducible repeat (first | refine blk_drewN ?_ _ | refine blk_drew ?_ | refine blk_alloc ?_ _)); exact BK101.out)) : gb102 ≠ gb101)); clear BK101; clear HB; have BK101 := n0_; have HB := n1_; have BK102 := n2_; have GW102 := n3_; have GE102 := n4_; have NB101_102 := n5_; have NB102_101 := n6_; clear n0_ n1_ n2_ n3_ n4_ n5_ n6_; clear hb hbox hg; have hnb6 := NB101_102.out; have hnc6 := NB102_101.out; have hcz7_0 : w5.cell? ⟨gb101, 0, none⟩ = some (.string a0_0) := (blk_cell BK101.out 0).trans rfl; have hcz7_1 : w5.cell? ⟨gb101, 1, none⟩ = some (.int .i64 a0_1) := (blk_cell BK101.out 1).trans rfl; have hcz7_2 : w5.cell? ⟨gb101, 2, none⟩ = some (.int .i64 a0_2) := (blk_cell BK101.out 2).trans rfl; have hcz7_3 : w5.cell? ⟨gb101, 3, none⟩ = some (.string a0_3) := (blk_cell BK101.out 3).trans rfl; have hcz7_4 : w5.cell? ⟨gb101, 4, none⟩ = some (.int .i64 a0_4) := (blk_cell BK101.out 4).trans rfl; have hcz7_5 : w5.cell? ⟨gb101, 5, none⟩ = some (.int .i64 a0_5) := (blk_cell BK101.out 5).trans rfl; have hcz7_6 : w5.cell? ⟨gb101, 6, none⟩ = some (.int .i64 a0_6) := (blk_cell BK101.out 6).trans rfl; have hcz7_7 : w5.cell? ⟨gb101, 7, none⟩ = some (.string a0_7) := (blk_cell BK101.out 7).trans rfl; have hcz7_8 : w5.cell? ⟨gb101, 8, none⟩ = some (.string a0_8) := (blk_cell BK101.out 8).trans rfl; have hcz7_9 : w5.cell? ⟨gb101, 9, none⟩ = some (.int .i64 a0_9) := (blk_cell BK101.out 9).trans rfl; have hcz7_10 : w5.cell? ⟨gb101, 10, none⟩ = some (.int .i64 a0_10) := (blk_cell BK101.out 10).trans rfl; have hcz7_11 : w5.cell? ⟨gb101, 11, none⟩ = some (.slice A0_11 l0_11.length c0_11) := (blk_cell BK101.out 11).trans rfl; have hfz7_0 := blk_frozen BK101.out 0; have hfz7_1 := blk_frozen BK101.out 1; have hfz7_2 := blk_frozen BK101.out 2; have hfz7_3 := blk_frozen BK101.out 3; have hfz7_4 := blk_frozen BK101.out 4; have hfz7_5 := blk_frozen BK101.out 5; have hfz7_6 := blk_frozen BK101.out 6; have hfz7_7 := blk_frozen BK101.out 7; have hfz7_8 := blk_frozen BK101.out 8; have hfz7_9 := blk_frozen BK101.out 9; have hfz7_10 := blk_frozen BK101.out 10; have hfz7_11 := blk_frozen BK101.out 11; have hcz8_0 : w5.cell? ⟨gb102, 0, none⟩ = some (.string a1_0) := (blk_cell BK102.out 0).trans rfl; have hcz8_1 : w5.cell? ⟨gb102, 1, none⟩ = some (.int .i64 a1_1) := (blk_cell BK102.out 1).trans rfl; have hcz8_2 : w5.cell? ⟨gb102, 2, none⟩ = some (.int .i64 a1_2) := (blk_cell BK102.out 2).trans rfl; have hcz8_3 : w5.cell? ⟨gb102, 3, none⟩ = some (.string a1_3) := (blk_cell BK102.out 3).trans rfl; have hcz8_4 : w5.cell? ⟨gb102, 4, none⟩ = some (.int .i64 a1_4) := (blk_cell BK102.out 4).trans rfl; have hcz8_5 : w5.cell? ⟨gb102, 5, none⟩ = some (.int .i64 a1_5) := (blk_cell BK102.out 5).trans rfl; have hcz8_6 : w5.cell? ⟨gb102, 6, none⟩ = some (.int .i64 a1_6) := (blk_cell BK102.out 6).trans rfl; have hcz8_7 : w5.cell? ⟨gb102, 7, none⟩ = some (.string a1_7) := (blk_cell BK102.out 7).trans rfl; have hcz8_8 : w5.cell? ⟨gb102, 8, none⟩ = some (.string a1_8) := (blk_cell BK102.out 8).trans rfl; have hcz8_9 : w5.cell? ⟨gb102, 9, none⟩ = some (.int .i64 a1_9) := (blk_cell BK102.out 9).trans rfl; have hcz8_10 : w5.cell? ⟨gb102, 10, none⟩ = some (.int .i64 a1_10) := (blk_cell BK102.out 10).trans rfl; have hcz8_11 : w5.cell? ⟨gb102, 11, none⟩ = some (.slice A1_11 l1_11.length c1_11) := (blk_cell BK102.out 11).trans rfl; have hfz8_0 := blk_frozen BK102.out 0; have hfz8_1 := blk_frozen BK102.out 1; have hfz8_2 := blk_frozen BK102.out 2; have hfz8_3 := blk_frozen BK102.out 3; have hfz8_4 := blk_frozen BK102.out 4; have hfz8_5 := blk_frozen BK102.out 5; have hfz8_6 := blk_frozen BK102.out 6; have hfz8_7 := blk_frozen BK102.out 7; have hfz8_8 := blk_frozen BK102.out 8; have hfz8_9 := blk_frozen BK102.out 9; have hfz8_10 := blk_frozen BK102.out 10; have hfz8_11 := blk_frozen BK102.out 11; have hcv9 := Kd.C_string (P := Tryd.prog) (A := A0_11) (c := c0_11) Tryd.underlying54 Tryd.underlying5 Tryd.underlying9 (Kd.C_below HR0_11.out HB.out); have hcv10 := Kd.C_string (P := Tryd.prog) (A := A1_11) (c := c1_11) Tryd.underlying54 Tryd.underlying5 Tryd.underlying9 (Kd.C_below HR1_11.out HB.out)))
  go_ret
  exact ⟨by first | rfl | (simp [errW_none, errW_some] <;> rfl) | (simp [*, errW_none, errW_some] <;> rfl), by repeat (first | (with_reducible first | exact HB.out | apply below_alloc | apply pw_below_drewN | apply below_drew1 | refine below_set ?_ GE101.out | refine below_set ?_ GE102.out) | exact HB.out)⟩
 ·rw [if_neg c3] at H
  have c3b0 : (a0_4 == a1_4 && (a0_5 == a1_5 && (a0_6 == a1_6 && (a0_7.toList == a1_7.toList && (a0_8.toList == a1_8.toList && (a0_9 == a1_9 && (a0_10 == a1_10))))))) = false := by simpa using c3
  (try (have c3b1 : decide (a0_4 = a1_4 && (a0_5 == a1_5 && (a0_6 == a1_6 && (a0_7.toList == a1_7.toList && (a0_8.toList == a1_8.toList && (a0_9 == a1_9 && (a0_10 == a1_10))))))) = false := by simpa using c3))
  (try (have c3b2 : (a0_4 == a1_4 && (a0_5 == a1_5 && (a0_6 == a1_6 && (a0_7.toList == a1_7.toList && (a0_8.toList == a1_8.toList && (a0_9 == a1_9 && (a0_10 == a1_10))))))) = false := by simpa using c3))
  (try (have c3b3 : ¬ (a0_4 = a1_4 && (a0_5 == a1_5 && (a0_6 == a1_6 && (a0_7.toList == a1_7.toList && (a0_8.toList == a1_8.toList && (a0_9 == a1_9 && (a0_10 == a1_10))))))) := by simpa using c3))
  clear c3
  obtain rfl := Option.some.inj H
  go_enter Tryd.func56, Tryd.ntmps56
  go_wp2_with (first | ((with_reducible refine gate_dst (N := 2) rfl ?_); refine box_event ?hg (N := 2) ?hd (cs := #[.string a0_0, .int .i64 a0_1, .int .i64 a0_2, .string a0_3, .int .i64 a0_4, .int .i64 a0_5, .int .i64 a0_6, .string a0_7, .string a0_8, .int .i64 a0_9, .int .i64 a0_10, .slice A0_11 l0_11.length c0_11]) (t := 56) ?hr ?_; (case hd => rfl); (case hg => rfl); (case hr => first | (go_simp; done) | (go_simp; rfl)); intro gb101 hg w11 hbox hb; have n0_ := Aside0.mk (below_step (by repeat (first | (with_reducible first | exact HB.out | apply below_alloc | apply pw_below_drewN | apply below_drew1) | exact HB.out)) hb); have n1_ := Aside0.mk (hbox); have n2_ := Aside0.mk ((by rw [hg]; exact (below_size (by repeat (first | (with_reducible first | exact HB.out | apply below_alloc | apply pw_below_drewN | apply below_drew1) | exact HB.out))) : w.heap.size ≤ gb101)); have n3_ := Aside0.mk ((by rw [hg]; exact (below_size (by repeat (first | (with_reducible first | exact HB.out | apply below_alloc | apply pw_below_drewN | apply below_drew1) | exact HB.out))) : w.heap.size ≤ gb101)); clear HB; have HB := n0_; have BK101 := n1_; have GW101 := n2_; have GE101 := n3_; clear n0_ n1_ n2_ n3_; clear hb hbox hg) | ((with_reducible refine gate_dst (N := 3) rfl ?_); refine box_event ?hg (N := 3) ?hd (cs := #[.string a1_0, .int .i64 a1_1, .int .i64 a1_2, .string a1_3, .int .i64 a1_4, .int .i64 a1_5, .int .i64 a1_6, .string a1_7, .string a1_8, .int .i64 a1_9, .int .i64 a1_10, .slice A1_11 l1_11.length c1_11]) (t := 56) ?hr ?_; (case hd => rfl); (case hg => rfl); (case hr => first | (go_simp; done) | (go_simp; rfl)); intro gb102 hg w12 hbox hb; have n0_ := Aside0.mk (blk_below (g := gb101) (o := .cells #[.string a0_0, .int .i64 a0_1, .int .i64 a0_2, .string a0_3, .int .i64 a0_4, .int .i64 a0_5, .int .i64 a0_6, .string a0_7, .string a0_8, .int .i64 a0_9, .int .i64 a0_10, .slice A0_11 l0_11.length c0_11] 56 (0, 0)) (by (with_reducible repeat (first | refine blk_drewN ?_ _ | refine blk_drew ?_ | refine blk_alloc ?_ _)); exact BK101.out) hb); have n1_ := Aside0.mk (below_step (by repeat (first | (with_reducible first | exact HB.out | apply below_alloc | apply pw_below_drewN | apply below_drew1 | refine below_set ?_ GE101.out) | exact HB.out)) hb); have n2_ := Aside0.mk (hbox); have n3_ := Aside0.mk ((by rw [hg]; exact (below_size (by repeat (first | (with_reducible first | exact HB.out | apply below_alloc | apply pw_below_drewN | apply below_drew1 | refine below_set ?_ GE101.out) | exact HB.out))) : w.heap.size ≤ gb102)); have n4_ := Aside0.mk ((by rw [hg]; exact (below_size (by repeat (first | (with_reducible first | exact HB.out | apply below_alloc | apply pw_below_drewN | apply below_drew1 | refine below_set ?_ GE101.out) | exact HB.out))) : w.heap.size ≤ gb102)); have n5_ := Aside0.mk ((by rw [hg]; exact Nat.ne_of_lt (blk_lt (g := gb101) (o := .cells #[.string a0_0, .int .i64 a0_1, .int .i64 a0_2, .string a0_3, .int .i64 a0_4, .int .i64 a0_5, .int .i64 a0_6, .string a0_7, .string a0_8, .int .i64 a0_9, .int .i64 a0_10, .slice A0_11 l0_11.length c0_11] 56 (0, 0)) (by (with_reducible repeat (first | refine blk_drewN ?_ _ | refine blk_drew ?_ | refine blk_alloc ?_ _)); exact BK101.out)) : gb101 ≠ gb102)); have n6_ := Aside0.mk ((by rw [hg]; exact Nat.ne_of_gt (blk_lt (g := gb101) (o := .cells #[.string a0_0, .int .i64 a0_1, .int .i64 a0_2, .string a0_3, .int .i64 a0_4, .int .i64 a0_5, .int .i64 a0_6, .string a0_7, .string a0_8, .int .i64 a0_9, .int .i64 a0_10, .slice A0_11 l0_11.length c0_11] 56 (0, 0)) (by (with_reducible repeat (first | refine blk_drewN ?_ _ | refine blk_drew ?_ | refine blk_alloc ?_ _)); exact BK101.out)) : gb102 ≠ gb101)); clear BK101; clear HB; have BK101 := n0_; have HB := n1_; have BK102 := n2_; have GW102 := n3_; have GE102 := n4_; have NB101_102 := n5_; have NB102_101 := n6_; clear n0_ n1_ n2_ n3_ n4_ n5_ n6_; clear hb hbox hg; have hnb13 := NB101_102.out; have hnc13 := NB102_101.out; have hcz14_0 : w12.cell? ⟨gb101, 0, none⟩ = some (.string a0_0) := (blk_cell BK101.out 0).trans rfl; have hcz14_1 : w12.cell? ⟨gb101, 1, none⟩ = some (.int .i64 a0_1) := (blk_cell BK101.out 1).trans rfl; have hcz14_2 : w12.cell? ⟨gb101, 2, none⟩ = some (.int .i64 a0_2) := (blk_cell BK101.out 2).trans rfl; have hcz14_3 : w12.cell? ⟨gb101, 3, none⟩ = some (.string a0_3) := (blk_cell BK101.out 3).trans rfl; have hcz14_4 : w12.cell? ⟨gb101, 4, none⟩ = some (.int .i64 a0_4) := (blk_cell BK101.out 4).trans rfl; have hcz14_5 : w12.cell? ⟨gb101, 5, none⟩ = some (.int .i64 a0_5) := (blk_cell BK101.out 5).trans rfl; have hcz14_6 : w12.cell? ⟨gb101, 6, none⟩ = some (.int .i64 a0_6) := (blk_cell BK101.out 6).trans rfl; have hcz14_7 : w12.cell? ⟨gb101, 7, none⟩ = some (.string a0_7) := (blk_cell BK101.out 7).trans rfl; have hcz14_8 : w12.cell? ⟨gb101, 8, none⟩ = some (.string a0_8) := (blk_cell BK101.out 8).trans rfl; have hcz14_9 : w12.cell? ⟨gb101, 9, none⟩ = some (.int .i64 a0_9) := (blk_cell BK101.out 9).trans rfl; have hcz14_10 : w12.cell? ⟨gb101, 10, none⟩ = some (.int .i64 a0_10) := (blk_cell BK101.out 10).trans rfl; have hcz14_11 : w12.cell? ⟨gb101, 11, none⟩ = some (.slice A0_11 l0_11.length c0_11) := (blk_cell BK101.out 11).trans rfl; have hfz14_0 := blk_frozen BK101.out 0; have hfz14_1 := blk_frozen BK101.out 1; have hfz14_2 := blk_frozen BK101.out 2; have hfz14_3 := blk_frozen BK101.out 3; have hfz14_4 := blk_frozen BK101.out 4; have hfz14_5 := blk_frozen BK101.out 5; have hfz14_6 := blk_frozen BK101.out 6; have hfz14_7 := blk_frozen BK101.out 7; have hfz14_8 := blk_frozen BK101.out 8; have hfz14_9 := blk_frozen BK101.out 9; have hfz14_10 := blk_frozen BK101.out 10; have hfz14_11 := blk_frozen BK101.out 11; have hcz15_0 : w12.cell? ⟨gb102, 0, none⟩ = some (.string a1_0) := (blk_cell BK102.out 0).trans rfl; have hcz15_1 : w12.cell? ⟨gb102, 1, none⟩ = some (.int .i64 a1_1) := (blk_cell BK102.out 1).trans rfl; have hcz15_2 : w12.cell? ⟨gb102, 2, none⟩ = some (.int .i64 a1_2) := (blk_cell BK102.out 2).trans rfl; have hcz15_3 : w12.cell? ⟨gb102, 3, none⟩ = some (.string a1_3) := (blk_cell BK102.out 3).trans rfl; have hcz15_4 : w12.cell? ⟨gb102, 4, none⟩ = some (.int .i64 a1_4) := (blk_cell BK102.out 4).trans rfl; have hcz15_5 : w12.cell? ⟨gb102, 5, none⟩ = some (.int .i64 a1_5) := (blk_cell BK102.out 5).trans rfl; have hcz15_6 : w12.cell? ⟨gb102, 6, none⟩ = some (.int .i64 a1_6) := (blk_cell BK102.out 6).trans rfl; have hcz15_7 : w12.cell? ⟨gb102, 7, none⟩ = some (.string a1_7) := (blk_cell BK102.out 7).trans rfl; have hcz15_8 : w12.cell? ⟨gb102, 8, none⟩ = some (.string a1_8) := (blk_cell BK102.out 8).trans rfl; have hcz15_9 : w12.cell? ⟨gb102, 9, none⟩ = some (.int .i64 a1_9) := (blk_cell BK102.out 9).trans rfl; have hcz15_10 : w12.cell? ⟨gb102, 10, none⟩ = some (.int .i64 a1_10) := (blk_cell BK102.out 10).trans rfl; have hcz15_11 : w12.cell? ⟨gb102, 11, none⟩ = some (.slice A1_11 l1_11.length c1_11) := (blk_cell BK102.out 11).trans rfl; have hfz15_0 := blk_frozen BK102.out 0; have hfz15_1 := blk_frozen BK102.out 1; have hfz15_2 := blk_frozen BK102.out 2; have hfz15_3 := blk_frozen BK102.out 3; have hfz15_4 := blk_frozen BK102.out 4; have hfz15_5 := blk_frozen BK102.out 5; have hfz15_6 := blk_frozen BK102.out 6; have hfz15_7 := blk_frozen BK102.out 7; have hfz15_8 := blk_frozen BK102.out 8; have hfz15_9 := blk_frozen BK102.out 9; have hfz15_10 := blk_frozen BK102.out 10; have hfz15_11 := blk_frozen BK102.out 11))
  go_ret
  exact ⟨by first | rfl | (simp [errW_none, errW_some] <;> rfl) | (simp [*, errW_none, errW_some] <;> rfl), by repeat (first | (with_reducible first | exact HB.out | apply below_alloc | apply pw_below_drewN | apply below_drew1 | refine below_set ?_ GE101.out | refine below_set ?_ GE102.out) | exact HB.out)⟩

end Go.Proofs.YtodeblpanooomabDoor.All
end
section
namespace Go.Proofs.YtodeblpanooomabDoor.All
open Go.RowKit Go.Proofs.YtodeblpanooomabDoorW.PrintWords Go.Proofs.YtodeblpanooomabDoorW.PrintLast Go.Proofs.YtodeblpanooomabDoorW.PrintMore
open Go.Proofs.YtodeblpanooomabDoorW.Mine
attribute [local go_sem] gtr_string leq_string geq_string
attribute [local go_sem] max2_int min2_int max_two min_two max_three min_three max_four min_four   -- for this text's walks alone
set_option linter.unusedVariables false
set_option linter.unusedSimpArgs false

/-! ### tree_Check: function 29 -/
open Go.Proofs.YtodeblpanooomabDoorW.MapOwn
/-- is the path behind the last one no greater? -/
def tree_Check.two (k : Nat) (l : List S56) (x : S56) (n : Nat) : Option Bool := if 0 < n then (path_Compare.f k (rd_T56 l ((n - 1 : Nat) : Int)).f0 x.f0).bind fun c => some (decide (0 ≤ c)) else some false
/-- is what it is in no directory ahead of it? -/
def tree_Check.up (k : Nat) (l : List S56) (x : S56) (n : Nat) : Option Bool := (path_Up.f x.f0).bind fun up => if up.toList = ([] : List UInt8) then some false else (tree_Find.f k (l.take n) up).bind fun r => if r.2 = 0 then (if 0 ≤ r.1 ∧ r.1 < (l.length : Int) then some ((rd_T56 l r.1).f1 != 2) else none) else some true
def tree_Check.alike (y x : S56) : Option Bool := tree_alike.f (y).f0 (y).f1 (y).f2 (y).f3 (y).f4.f0 (y).f4.f1 (y).f4.f2 (y).f4.f3 (y).f4.f4 (y).f4.f5 (y).f4.f6 (y).f5 (x).f0 (x).f1 (x).f2 (x).f3 (x).f4.f0 (x).f4.f1 (x).f4.f2 (x).f4.f3 (x).f4.f4 (x).f4.f5 (x).f4.f6 (x).f5
def tree_Check.right (k : Nat) (x : S56) : Option Int := tree_Right.f k (x).f0 (x).f1 (x).f2 (x).f3 (x).f4.f0 (x).f4.f1 (x).f4.f2 (x).f4.f3 (x).f4.f4 (x).f4.f5 (x).f4.f6 (x).f5
/-- the files met so far, and this one -/
def tree_Check.same (m : List (Int × S56)) (x : S56) : Option (Int × List (Int × S56)) := if x.f2 = 0 then some (0, m) else if (Lit.int .i64 x.f2).wf = true then (match get m x.f2 with
 | some y => (tree_Check.alike y x).bind fun b => if b = true then some (0, m) else some (11, m)
 | none => some (0, (x.f2, x) :: m)) else none
def tree_Check.step (k : Nat) (l : List S56) (m : List (Int × S56)) (x : S56) (n : Nat) : Option (Int × List (Int × S56)) := (tree_Check.right k x).bind fun e => if e = 0 then ((tree_Check.two k l x n).bind fun t => if t = true then some (6, m) else (tree_Check.up k l x n).bind fun u => if u = true then some (10, m) else tree_Check.same m x) else some (e, m)
def tree_Check.l0 : Nat → List S56 → List (Int × S56) → Nat → Option Int
 | 0, _, _, _ => none
 | k + 1, l, m, n => if n < l.length then (tree_Check.step k l m (rd_T56 l (n : Int)) n).bind fun r => if r.1 = 0 then tree_Check.l0 k l r.2 (n + 1) else some r.1 else some 0
def tree_Check.f (k : Nat) (l0 : List S56) : Option Int := if 40 < l0.length then some 1 else tree_Check.l0 k l0 [] 0
theorem tree_Check.mono_two : ∀ l x n k, LeO (tree_Check.two k l x n) (tree_Check.two (k + 1) l x n) := by
 intro l x n k
 unfold tree_Check.two
 repeat' first
   | (with_reducible exact ih0 _ _ _ _)
   | (with_reducible exact LeO.refl _)
   | (with_reducible exact LeO.none _)
   | (with_reducible refine LeO.ite ?_ ?_)
   | (with_reducible refine LeO.bind ?_ (fun _ => ?_))
   | exact path_Compare.mono _ _ _
theorem tree_Check.mono_up : ∀ l x n k, LeO (tree_Check.up k l x n) (tree_Check.up (k + 1) l x n) := by
 intro l x n k
 unfold tree_Check.up
 repeat' first
   | (with_reducible exact ih0 _ _ _ _)
   | (with_reducible exact LeO.refl _)
   | (with_reducible exact LeO.none _)
   | (with_reducible refine LeO.ite ?_ ?_)
   | (with_reducible refine LeO.bind ?_ (fun _ => ?_))
   | exact tree_Find.mono _ _ _
theorem tree_Check.mono_step : ∀ l m x n k, LeO (tree_Check.step k l m x n) (tree_Check.step (k + 1) l m x n) := by
 intro l m x n k
 unfold tree_Check.step tree_Check.right
 repeat' first
   | (with_reducible exact ih0 _ _ _ _)
   | (with_reducible exact LeO.refl _)
   | (with_reducible exact LeO.none _)
   | (with_reducible refine LeO.ite ?_ ?_)
   | (with_reducible refine LeO.bind ?_ (fun _ => ?_))
   | exact tree_Check.mono_two _ _ _ _
   | exact tree_Check.mono_up _ _ _ _
   | exact tree_Right.mono _ _ _ _ _ _ _ _ _ _ _ _ _
theorem tree_Check.mono_l : ∀ k, (∀ y0 y1 y2, LeO (tree_Check.l0 k y0 y1 y2) (tree_Check.l0 (k + 1) y0 y1 y2))
 | 0 => fun _ _ _ r h => by simp [tree_Check.l0] at h
 | k + 1 => by
  have ih0 := tree_Check.mono_l k
  intro y0 y1 y2
  unfold tree_Check.l0
  repeat' first
   | (with_reducible exact ih0 _ _ _)
   | (with_reducible exact LeO.refl _)
   | (with_reducible exact LeO.none _)
   | (with_reducible refine LeO.ite ?_ ?_)
   | (with_reducible refine LeO.bind ?_ (fun _ => ?_))
   | exact tree_Check.mono_step _ _ _ _ _
theorem tree_Check.mono : ∀ a0 k, LeO (tree_Check.f k a0) (tree_Check.f (k + 1) a0) := by
 intro a0 k
 have ih0 := tree_Check.mono_l k
 unfold tree_Check.f
 repeat' first
   | (with_reducible exact ih0 _ _ _)
   | (with_reducible exact LeO.refl _)
   | (with_reducible exact LeO.none _)
   | (with_reducible refine LeO.ite ?_ ?_)
   | (with_reducible refine LeO.bind ?_ (fun _ => ?_))
theorem tree_Check.zeroE (w : World) : (zeroValue 56).run Tryd.prog w = .ok (.agg #[.string (⟨#[]⟩ : ByteArray), .int .i64 0, .int .i64 0, .string (⟨#[]⟩ : ByteArray), .int .i64 0, .int .i64 0, .int .i64 0, .string (⟨#[]⟩ : ByteArray), .string (⟨#[]⟩ : ByteArray), .int .i64 0, .int .i64 0, .slice none 0 0]) w := by kernel_rfl
/-- a node as the map keeps it -/
def tree_Check.Rep (w : World) (y : S56) (v : Value) : Prop := ∃ cs : Array Value, v = .agg cs ∧ k56.K w y cs.toList
/-- what the loop holds -/
def tree_Check.Inv (w W : World) (bm n : Nat) (m : List (Int × S56)) : Prop := MapAt (Lit.int .i64) Tryd.prog 3 (tree_Check.Rep w) W bm n m ∧ w.heap.size ≤ bm ∧ Below w.heap.size w W
theorem tree_Check.Inv.step {w W W' : World} {bm n : Nat} {m : List (Int × S56)} (h : tree_Check.Inv w W bm n m) (hb : Below W.heap.size W W') : tree_Check.Inv w W' bm n m := ⟨h.1.below hb, h.2.1, below_step h.2.2 hb⟩
theorem tree_Check.szN : (Tryd.prog.info? 56).map (·.size) = some 12 := by kernel_rfl
theorem tree_Check.elem {w : World} {A : Option Addr} {l : List S56} (h : Kd.C k56 w A l.length l) (n : Nat) (hn : n < l.length) : ∃ ad A11 c11, A = some ad ∧ (∀ j v, ([.string (rd_T56 l (n : Int)).f0, .int .i64 (rd_T56 l (n : Int)).f1, .int .i64 (rd_T56 l (n : Int)).f2, .string (rd_T56 l (n : Int)).f3, .int .i64 (rd_T56 l (n : Int)).f4.f0, .int .i64 (rd_T56 l (n : Int)).f4.f1, .int .i64 (rd_T56 l (n : Int)).f4.f2, .string (rd_T56 l (n : Int)).f4.f3, .string (rd_T56 l (n : Int)).f4.f4, .int .i64 (rd_T56 l (n : Int)).f4.f5, .int .i64 (rd_T56 l (n : Int)).f4.f6, .slice A11 (rd_T56 l (n : Int)).f5.length c11] : List Value)[j]? = some v → w.cell? ((ad.add (n * 12)).add j) = some v) ∧ (rd_T56 l (n : Int)).f5.length ≤ c11 ∧ (Kd.int .u8).C w A11 (rd_T56 l (n : Int)).f5.length (rd_T56 l (n : Int)).f5 := by
 obtain ⟨ad, c, e, _, hK, hc0⟩ := Kd.C_get h z56 (n : Int) (Int.natCast_nonneg _) (by omega)
 obtain ⟨A11, c11, rfl, l11, g11⟩ := k56_open hK
 refine ⟨ad, A11, c11, e, fun j v hv => ?_, l11, g11⟩
 have := hc0 j v hv
 rw [Int.toNat_natCast] at this
 rw [← this]
 congr 1
 show (ad.add (n * 12)).add j = ad.add (n * 12 + j)
 unfold Addr.add
 by_cases h1 : j = 0
 ·subst h1; simp
 ·by_cases h2 : n * 12 = 0
  ·simp [h1, h2]
  ·rw [if_neg h1, if_neg h2, if_neg (by omega)]; simp [Nat.add_assoc]
theorem tree_Check.Inv.drewN {w W : World} {bm n : Nat} {m : List (Int × S56)} (h : tree_Check.Inv w W bm n m) (q : Nat) : tree_Check.Inv w (W.drewN q) bm n m := h.step (pw_below_drewN (Below.refl _ _) q)
/-- the loop's own state and the node's own copy -/
def tree_Check.St (w W : World) (bm n : Nat) (m : List (Int × S56)) (gb : Nat) (cs : Array Value) : Prop := tree_Check.Inv w W bm n m ∧ w.heap.size ≤ gb ∧ gb ≠ bm ∧ W.heap[gb]? = some (.cells cs 56 (0, 0))
theorem tree_Check.St.step {w W W' : World} {bm n gb : Nat} {m : List (Int × S56)} {cs : Array Value} (h : tree_Check.St w W bm n m gb cs) (hb : Below W.heap.size W W') : tree_Check.St w W' bm n m gb cs := ⟨h.1.step hb, h.2.1, h.2.2.1, blk_below h.2.2.2 hb⟩
theorem tree_Check.St.drewN {w W : World} {bm n gb : Nat} {m : List (Int × S56)} {cs : Array Value} (h : tree_Check.St w W bm n m gb cs) (q : Nat) : tree_Check.St w (W.drewN q) bm n m gb cs := h.step (pw_below_drewN (Below.refl _ _) q)
theorem tree_Check.St.drew {w W : World} {bm n gb : Nat} {m : List (Int × S56)} {cs : Array Value} (h : tree_Check.St w W bm n m gb cs) : tree_Check.St w W.drew bm n m gb cs := h.step (below_drew1 (Below.refl _ _))
theorem tree_Check.Inv.box {w W W' : World} {bm n gb : Nat} {m : List (Int × S56)} {cs : Array Value} (h : tree_Check.Inv w W bm n m) (hg : gb = W.heap.size) (hk : W'.heap[gb]? = some (.cells cs 56 (0, 0))) (hb : Below W.heap.size W W') : tree_Check.St w W' bm n m gb cs := ⟨h.step hb, by rw [hg]; exact h.2.2.size, by have := h.1.lt; omega, hk⟩
theorem tree_Check.St.put {w W W' : World} {bm n gb : Nat} {m : List (Int × S56)} {cs cs' : Array Value} (h : tree_Check.St w W bm n m gb cs) (hk : W'.heap[gb]? = some (.cells cs' 56 (0, 0))) (hg : W.grownBy W' (some gb)) : tree_Check.St w W' bm n m gb cs' := ⟨⟨h.1.1.kept hg (fun e => h.2.2.1 (by injection e with e; exact e.symm)), h.1.2.1, below_grown h.1.2.2 hg h.2.1 (blk_lt h.2.2.2)⟩, h.2.1, h.2.2.1, hk⟩
theorem tree_Check.Inv.next {w W : World} {bm n : Nat} {m : List (Int × S56)} (h : tree_Check.Inv w W bm n m) : tree_Check.Inv w W bm (n + 1) m := ⟨h.1.mono (Nat.le_succ n), h.2⟩
theorem tree_Check.Inv.putM {w W W' : World} {bm n : Nat} {m m' : List (Int × S56)} (h : tree_Check.Inv w W bm n m) (hm : MapAt (Lit.int .i64) Tryd.prog 3 (tree_Check.Rep w) W' bm (n + 1) m') (hg : W.grownBy W' (some bm)) : tree_Check.Inv w W' bm (n + 1) m' := ⟨hm, h.2.1, below_grown h.2.2 hg h.2.1 h.1.lt⟩
theorem tree_Check.St.apart {w W : World} {bm n gb g2 : Nat} {m : List (Int × S56)} {cs : Array Value} (h : tree_Check.St w W bm n m gb cs) (hg : g2 = W.heap.size) : w.heap.size ≤ g2 ∧ gb ≠ g2 ∧ bm ≠ g2 := ⟨by rw [hg]; exact h.1.2.2.size, by have := blk_lt h.2.2.2; omega, by have := h.1.1.lt; omega⟩
theorem tree_Check.St.other {w W W' : World} {bm n gb g2 : Nat} {m : List (Int × S56)} {cs : Array Value} (h : tree_Check.St w W bm n m gb cs) (hg : W.grownBy W' (some g2)) (ha : w.heap.size ≤ g2 ∧ gb ≠ g2 ∧ bm ≠ g2) (hl : g2 < W.heap.size) : tree_Check.St w W' bm n m gb cs := ⟨⟨h.1.1.kept hg (fun e => ha.2.2 (by injection e)), h.1.2.1, below_grown h.1.2.2 hg ha.1 hl⟩, h.2.1, h.2.2.1, blk_grown h.2.2.2 hg (fun e => ha.2.1 (by injection e))⟩
set_option maxHeartbeats 8000000 in
set_option maxRecDepth 100000 in
theorem tree_Check.calls (k : Nat) (A0 : Option Addr) (c0 : Nat) (l0 : List (S56)) (r : Int) (w : World) (hr0 : Kd.C k56 w A0 l0.length l0) (hc0 : l0.length ≤ c0) (h : tree_Check.f k l0 = some r) :
  Calls Tryd.prog 29 #[.slice A0 l0.length c0] w fun e w' => e = .returned (.int .i64 r) ∧ Below w.heap.size w w' := by
 have hu56 := Tryd.underlying56
 have HR0 := Aside0.mk hr0
 have HC0 := Aside0.mk hc0
 clear hr0 hc0
 by_cases c1 : 40 < l0.length
 ·have H : (if 40 < l0.length then some 1 else tree_Check.l0 k l0 [] 0) = some r := h
  rw [if_pos c1] at H
  obtain rfl := Option.some.inj H
  clear h H
  have c1b : decide ((40 : Int) < (l0.length : Int)) = true := decide_eq_true (by omega)
  clear c1
  go_enter Tryd.func29, Tryd.ntmps29
  go_wp2
  go_ret
  exact ⟨rfl, by first | exact Below.refl _ _ | exact below_drew1 (Below.refl _ _)⟩
 ·have H : (if 40 < l0.length then some 1 else tree_Check.l0 k l0 [] 0) = some r := h
  rw [if_neg c1] at H
  have H' := Aside0.mk H
  have HN := Aside0.mk (Nat.not_lt.1 c1)
  have c1b : decide ((40 : Int) < (l0.length : Int)) = false := decide_eq_false (by omega)
  clear h H c1
  have hmm := @run_makeMap Tryd.prog
  go_enter Tryd.func29, Tryd.ntmps29
  go_wp2
  go_loopg [18] k (fun kq v18 wx => ∃ (n : Nat) (m : List (Int × S56)), v18 = .int .i64 (n : Int) ∧ Aside0 (n ≤ l0.length) ∧ Aside0 (tree_Check.l0 kq l0 m n = some r) ∧ Aside0 (kq ≤ k) ∧ Aside0 (tree_Check.Inv w wx w.heap.size n m))
  case atStart => exact ⟨0, [], rfl, ⟨Nat.zero_le _⟩, H', ⟨Nat.le_refl _⟩, ⟨⟨MapAt.made _ _ _ _ _, Nat.le_refl _, below_alloc (Below.refl _ _) _⟩⟩⟩
  case round =>
   clear H'
   obtain ⟨n, m, rfl, HN1, HA, HK1, HI⟩ := hrel
   cases gk with
   | zero => exact absurd HA.out (by simp [tree_Check.l0])
   | succ k1 =>
    have H := HA.out
    clear HA
    simp only [tree_Check.l0] at H
    by_cases c3 : n < l0.length
    ·rw [if_pos c3] at H
     have c3b : decide ((n : Int) < (l0.length : Int)) = true := decide_eq_true (by omega)
     replace H := Option.bind_eq_some_iff.mp H
     obtain ⟨⟨e0, m1⟩, AS, H⟩ := H
     obtain ⟨ad, A11, c11, e, hx, hl11, hi11⟩ := tree_Check.elem HR0.out n c3
     cases e
     have HXC := Aside0.mk hx
     clear hx
     have p3 : ((n : Int) < (l0.length : Int)) = True := eq_true (by omega)
     have p4 : (0 ≤ (n : Int)) = True := eq_true (by omega)
     have HX := Aside0.mk hi11
     have HL := Aside0.mk hl11
     have HLT := Aside0.mk c3
     clear hi11 hl11 c3
     generalize hx : rd_T56 l0 (n : Int) = x at *
     clear hx
     obtain ⟨e1, AR, AS⟩ := Option.bind_eq_some_iff.mp (show ((tree_Check.right k1 x).bind fun e => if e = 0 then ((tree_Check.two k1 l0 x n).bind fun t => if t = true then some (6, m) else (tree_Check.up k1 l0 x n).bind fun u => if u = true then some (10, m) else tree_Check.same m x) else some (e, m)) = some (e0, m1) from AS)
     have HAR := Aside0.mk (show tree_Right.f k1 (x).f0 (x).f1 (x).f2 (x).f3 (x).f4.f0 (x).f4.f1 (x).f4.f2 (x).f4.f3 (x).f4.f4 (x).f4.f5 (x).f4.f6 (x).f5 = some e1 from AR)
     clear AR
     by_cases c6 : e1 = 0
     ·rw [if_pos c6] at AS
      obtain ⟨t, AT, AS⟩ := Option.bind_eq_some_iff.mp AS
      have HAT := Aside0.mk AT
      have HQ := Aside0.mk AS
      have HH := Aside0.mk H
      have c6a : (e1 == 0) = true := beq_iff_eq.mpr c6
      have c6b : (e1 != 0) = false := bne_eq_false_iff_eq.mpr c6
      clear AS H AT c6
      go_upto_region 10 with (first | ((with_reducible refine gate_dst (N := 22) rfl ?_); refine load_event (ad := ad.add (n * 12)) rfl rfl hu56 rfl rfl (cs := [.string (x).f0, .int .i64 (x).f1, .int .i64 (x).f2, .string (x).f3, .int .i64 (x).f4.f0, .int .i64 (x).f4.f1, .int .i64 (x).f4.f2, .string (x).f4.f3, .string (x).f4.f4, .int .i64 (x).f4.f5, .int .i64 (x).f4.f6, .slice A11 (x).f5.length c11]) tree_Check.szN (fun j v hv => (HI.out.2.2.cell (World.block_lt_of_cell? w _ (HXC.out j v hv))).trans (HXC.out j v hv)) ?_) | ((with_reducible refine gate_dst (N := 5) rfl ?_); refine box_event ?hg (N := 5) ?hd (cs := #[.string (⟨#[]⟩ : ByteArray), .int .i64 0, .int .i64 0, .string (⟨#[]⟩ : ByteArray), .int .i64 0, .int .i64 0, .int .i64 0, .string (⟨#[]⟩ : ByteArray), .string (⟨#[]⟩ : ByteArray), .int .i64 0, .int .i64 0, .slice none 0 0]) (t := 56) ?hr ?_; (case hd => rfl); (case hg => rfl); (case hr => first | (go_simp; done) | (go_simp; rfl)); intro gb hg w2 hbox hb2; have HS := Aside0.mk (HI.out.box hg hbox hb2); clear hg hbox hb2 HI) | ((with_reducible refine gate_store (t := 56) (p := 5) rfl ?_); refine put_event rfl rfl rfl rfl rfl HS.out.2.2.2 (tree_Check.szN) rfl rfl ?_; intro w3 hk3 hg3; have HS3 := Aside0.mk (HS.out.put hk3 hg3); clear HS hk3 hg3; have HS := HS3; clear HS3) | ((with_reducible refine gate_dst (N := 23) rfl ?_); refine load_event rfl rfl hu56 rfl rfl (cs := [.string (x).f0, .int .i64 (x).f1, .int .i64 (x).f2, .string (x).f3, .int .i64 (x).f4.f0, .int .i64 (x).f4.f1, .int .i64 (x).f4.f2, .string (x).f4.f3, .string (x).f4.f4, .int .i64 (x).f4.f5, .int .i64 (x).f4.f6, .slice A11 (x).f5.length c11]) tree_Check.szN (cells_of_blk HS.out.2.2.2) ?_) | (go_at_call 53; refine (tree_Right.calls k1 (x).f0 (x).f1 (x).f2 (x).f3 (x).f4.f0 (x).f4.f1 (x).f4.f2 (x).f4.f3 (x).f4.f4 (x).f4.f5 (x).f4.f6 A11 c11 (x).f5 e1 _ (Kd.C_below HX.out HS.out.1.2.2) HL.out HAR.out).mono ?_; rintro e w3 ⟨rfl, hb3⟩; have HS3 := Aside0.mk (HS.out.step hb3); clear HS hb3; have HS := HS3; clear HS3))
      (try simp only [Act.put, List.setIfInBounds_toArray, List.set_cons_zero, List.set_cons_succ])
      go_cut [41] (fun v41 wc => v41 = .bool t ∧ Aside0 (tree_Check.St w wc w.heap.size n m gb #[.string (x).f0, .int .i64 (x).f1, .int .i64 (x).f2, .string (x).f3, .int .i64 (x).f4.f0, .int .i64 (x).f4.f1, .int .i64 (x).f4.f2, .string (x).f4.f3, .string (x).f4.f4, .int .i64 (x).f4.f5, .int .i64 (x).f4.f6, .slice A11 (x).f5.length c11]))
      case first =>
       by_cases c7 : 0 < n
       ·have AT := HAT.out
        clear HAT
        unfold tree_Check.two at AT
        rw [if_pos c7] at AT
        obtain ⟨c, AC, AT⟩ := Option.bind_eq_some_iff.mp AT
        obtain rfl := Option.some.inj AT
        have HAC := Aside0.mk AC
        clear AC AT
        obtain ⟨ad', A11', c11', e', hx', _, _⟩ := tree_Check.elem HR0.out (n - 1) (by have := HN1.out; omega)
        cases e'
        have h0 : w.cell? (ad.add ((n - 1) * 12)) = some (.string (rd_T56 l0 ((n - 1 : Nat) : Int)).f0) := hx' 0 _ rfl
        have HP := Aside0.mk ((HS.out.1.2.2.cell (World.block_lt_of_cell? w _ h0)).trans h0)
        have HPL := Aside0.mk (Nat.lt_of_lt_of_le (World.block_lt_of_cell? w _ h0) HS.out.1.2.2.size)
        clear hx' h0
        have hw : IntKind.i64.wrap ((n : Int) - 1) = ((n - 1 : Nat) : Int) := by have := HN.out; have := HN1.out; rw [IntWalk.i64_in _ (by omega)]; omega
        have hp : w.heap.size ≤ gb := HS.out.2.1
        have hn' : ((n - 1 : Nat) : Int) < (l0.length : Int) := by have := HN1.out; omega
        have hc0 := HP.out
        have hc1 := blk_cell HS.out.2.2.2 0
        have hg0 : decide ((0 : Int) < (n : Int)) = true := decide_eq_true (by omega)
        have hg1 : (0 < n) = True := eq_true c7
        go_region_held3 (fun w' => w'.cell? (ad.add ((n - 1) * 12)) = some (.string (rd_T56 l0 ((n - 1 : Nat) : Int)).f0) ∧ w'.cell? ⟨gb, 0, none⟩ = some (.string x.f0)) (first | go_keep | (go_split_ands; exact ⟨(hb3.cell (World.block_lt_of_cell? _ _ (by assumption))).trans (by assumption), (hb3.cell (World.block_lt_of_cell? _ _ (by assumption))).trans (by assumption)⟩)) ((go_at_call 43; refine (path_Compare.calls k1 _ _ c _ HAC.out).mono ?_; rintro e w3 ⟨rfl, hb3⟩))
        go_wp2
        go_meet
        case rel => exact ⟨rfl, ⟨by first | exact HS.out.step hb3 | exact (HS.out.drewN _).step hb3 | exact HS.out.drew.step hb3⟩⟩
       ·have AT := HAT.out
        clear HAT
        unfold tree_Check.two at AT
        rw [if_neg c7] at AT
        obtain rfl := Option.some.inj AT
        clear AT
        have hg0 : decide ((0 : Int) < (n : Int)) = false := decide_eq_false (by omega)
        have hg1 : (0 < n) = False := eq_false c7
        go_quiet (fail)
        go_wp2
        go_meet
        case rel => exact ⟨rfl, ⟨by first | exact HS.out | exact HS.out.drewN _ | exact HS.out.drew⟩⟩
      case rest =>
       obtain ⟨rfl, HS⟩ := hcut
       cases t with
       | true =>
        have AS := HQ.out
        have H := HH.out
        rw [if_pos rfl] at AS
        simp only [Option.some.injEq, Prod.mk.injEq] at AS
        obtain ⟨rfl, rfl⟩ := AS
        rw [if_neg (by decide)] at H
        obtain rfl := Option.some.inj H
        clear HQ HH H HAT
        go_wp2
        go_ret
        exact ⟨rfl, HS.out.1.2.2⟩
       | false =>
        have AS := HQ.out
        rw [if_neg (by decide)] at AS
        obtain ⟨u, AU, AS⟩ := Option.bind_eq_some_iff.mp AS
        have HQ2 := Aside0.mk AS
        obtain ⟨up, AP, AU⟩ := Option.bind_eq_some_iff.mp (show ((path_Up.f x.f0).bind fun up => if up.toList = ([] : List UInt8) then some false else (tree_Find.f k1 (l0.take n) up).bind fun r => if r.2 = 0 then (if 0 ≤ r.1 ∧ r.1 < (l0.length : Int) then some ((rd_T56 l0 r.1).f1 != 2) else none) else some true) = some u from AU)
        have HAP := Aside0.mk AP
        have HAU := Aside0.mk AU
        clear AS AU AP HQ HAT
        have hc0 := blk_cell HS.out.2.2.2 0
        go_upto_if 46 with (go_at_call 54; refine (path_Up.calls x.f0 up _ HAP.out).mono ?_; rintro e w4 ⟨rfl, nd, rfl⟩)
        (try simp only [Act.put, List.setIfInBounds_toArray, List.set_cons_zero, List.set_cons_succ])
        have HS2 := Aside0.mk (HS.out.drewN nd)
        clear HS hc0
        have HS := HS2
        clear HS2
        go_cut [] (fun wc => Aside0 (u = false) ∧ Aside0 (tree_Check.St w wc w.heap.size n m gb #[.string (x).f0, .int .i64 (x).f1, .int .i64 (x).f2, .string (x).f3, .int .i64 (x).f4.f0, .int .i64 (x).f4.f1, .int .i64 (x).f4.f2, .string (x).f4.f3, .string (x).f4.f4, .int .i64 (x).f4.f5, .int .i64 (x).f4.f6, .slice A11 (x).f5.length c11]))
        case first =>
         have AU := HAU.out
         by_cases c8 : up.toList = ([] : List UInt8)
         ·rw [if_pos c8] at AU
          have HU := Aside0.mk (Option.some.inj AU).symm
          have c8a : up.toList.isEmpty = true := by rw [c8]; rfl
          clear AU c8
          rw [c8a]
          go_wp2
          go_meet
          case rel => exact ⟨HU, ⟨by first | exact HS.out | exact HS.out.drewN _ | exact HS.out.drew⟩⟩
         ·rw [if_neg c8] at AU
          obtain ⟨⟨j1, j2⟩, AF, AU⟩ := Option.bind_eq_some_iff.mp AU
          have c8a : up.toList.isEmpty = false := by cases h : up.toList with | nil => exact absurd h c8 | cons a b => rfl
          have HF : Aside0 (∀ W, Below w.heap.size w W → Calls Tryd.prog 55 #[.slice (some ad) n c0, .string up] W fun e w' => e = .returned (.tuple #[.int .i64 j1, .int .i64 j2]) ∧ Below W.heap.size W w') := ⟨fun W hb => by
           have hlen : (l0.take n).length = n := by have := HN1.out; simp; omega
           have := tree_Find.calls k1 (some ad) c0 (l0.take n) up j1 j2 W (Kd.C_below (Kd.C_take HR0.out HN1.out) hb) (by have := HC0.out; have := HN1.out; omega) AF
           rw [hlen] at this
           exact this⟩
          have hnc : (n : Int) ≤ (c0 : Int) := by have := HC0.out; have := HN1.out; omega
          have hnc' : n ≤ c0 := by omega
          clear c8 AF
          rw [c8a]
          by_cases c9 : j2 = 0
          ·rw [if_pos c9] at AU
           by_cases c10 : 0 ≤ j1 ∧ j1 < (l0.length : Int)
           ·rw [if_pos c10] at AU
            obtain rfl := Option.some.inj AU
            clear AU
            have c9a : (j2 == 0) = true := beq_iff_eq.mpr c9
            have c9b : (j2 != 0) = false := bne_eq_false_iff_eq.mpr c9
            clear c9
            obtain ⟨ad', A11', c11', e', hq0, hq1, hq2, hq3, hq4, hq5, hq6, hq7, hq8, hq9, hq10, hq11, _, _⟩ := at_T56 HR0.out j1 c10.1 c10.2
            cases e'
            have HQ1 := Aside0.mk hq1
            have HQL := Aside0.mk (World.block_lt_of_cell? w _ hq1)
            clear hq0 hq1 hq2 hq3 hq4 hq5 hq6 hq7 hq8 hq9 hq10 hq11
            have c10a := eq_true c10.1
            have c10b := eq_true c10.2
            by_cases c11 : (rd_T56 l0 j1).f1 = 2
            ·have c11a : ((rd_T56 l0 j1).f1 != 2) = false := bne_eq_false_iff_eq.mpr c11
             have c11b : ((rd_T56 l0 j1).f1 == 2) = true := beq_iff_eq.mpr c11
             have HU := Aside0.mk c11a
             clear c11
             go_wp2_with (go_at_call 55; refine (HF.out _ HS.out.1.2.2).mono ?_; rintro e w5 ⟨rfl, hb5⟩; have HS5 := Aside0.mk (HS.out.step hb5); clear HS hb5; have HS := HS5; clear HS5; have hq1 : _ = _ := (HS.out.1.2.2.cell HQL.out).trans HQ1.out)
             go_meet
             case rel => exact ⟨HU, ⟨by first | exact HS.out | exact HS.out.drewN _ | exact HS.out.drew⟩⟩
            ·have c11a : ((rd_T56 l0 j1).f1 != 2) = true := bne_iff_ne.mpr c11
             have c11b : ((rd_T56 l0 j1).f1 == 2) = false := beq_eq_false_iff_ne.mpr c11
             have AS := HQ2.out
             rw [c11a, if_pos rfl] at AS
             simp only [Option.some.injEq, Prod.mk.injEq] at AS
             obtain ⟨rfl, rfl⟩ := AS
             have H := HH.out
             rw [if_neg (by decide)] at H
             obtain rfl := Option.some.inj H
             clear c11 H HH HQ2
             go_wp2_with (go_at_call 55; refine (HF.out _ HS.out.1.2.2).mono ?_; rintro e w5 ⟨rfl, hb5⟩; have HS5 := Aside0.mk (HS.out.step hb5); clear HS hb5; have HS := HS5; clear HS5; have hq1 : _ = _ := (HS.out.1.2.2.cell HQL.out).trans HQ1.out)
             go_ret
             exact ⟨rfl, HS.out.1.2.2⟩
           ·rw [if_neg c10] at AU
            cases AU
          ·rw [if_neg c9] at AU
           obtain rfl := Option.some.inj AU
           have c9a : (j2 == 0) = false := beq_eq_false_iff_ne.mpr c9
           have c9b : (j2 != 0) = true := bne_iff_ne.mpr c9
           have AS := HQ2.out
           rw [if_pos rfl] at AS
           simp only [Option.some.injEq, Prod.mk.injEq] at AS
           obtain ⟨rfl, rfl⟩ := AS
           have H := HH.out
           rw [if_neg (by decide)] at H
           obtain rfl := Option.some.inj H
           clear c9 H HH HQ2
           go_wp2_with (go_at_call 55; refine (HF.out _ HS.out.1.2.2).mono ?_; rintro e w5 ⟨rfl, hb5⟩; have HS5 := Aside0.mk (HS.out.step hb5); clear HS hb5; have HS := HS5; clear HS5)
           go_ret
           exact ⟨rfl, HS.out.1.2.2⟩
        case rest =>
         obtain ⟨HU, HS⟩ := hcut
         obtain rfl := HU.out
         have AS := HQ2.out
         rw [if_neg (by decide)] at AS
         clear HQ2 HAU HU
         have H := HH.out
         clear HH
         have hc2 := blk_cell HS.out.2.2.2 2
         by_cases c12 : x.f2 = 0
         ·simp only [tree_Check.same, if_pos c12, Option.some.injEq, Prod.mk.injEq] at AS
          obtain ⟨rfl, rfl⟩ := AS
          rw [if_pos rfl] at H
          have H' := Aside0.mk H
          have c12b : (x.f2 == 0) = true := beq_iff_eq.mpr c12
          have h40 : (n : Int) < 40 := by have := HLT.out; have := HN.out; omega
          clear H c12
          go_wp2
          go_roundg k1
          case measure => have := HK1.out; omega
          case rel => exact ⟨n + 1, m, by go_num, ⟨HLT.out⟩, H', ⟨by have := HK1.out; omega⟩, ⟨(by first | exact HS.out.1.next | exact HS.out.drew.1.next)⟩⟩
         ·by_cases c13 : (Lit.int .i64 x.f2).wf = true
          ·simp only [tree_Check.same, if_neg c12, if_pos c13] at AS
           have c12b : (x.f2 == 0) = false := beq_eq_false_iff_ne.mpr c12
           have HWF := Aside0.mk c13
           clear c12 c13
           cases hget : get m x.f2 with
           | none =>
            rw [hget] at AS
            simp only [Option.some.injEq, Prod.mk.injEq] at AS
            obtain ⟨rfl, rfl⟩ := AS
            rw [if_pos rfl] at H
            have H' := Aside0.mk H
            have HGET := Aside0.mk hget
            have h40 : (n : Int) < 40 := by have := HLT.out; have := HN.out; omega
            clear H hget
            go_wp2_with (first | (at_lookup; refine wp_look_ok_miss _ rfl _ _ 76 rfl 56 (Maps.int_keyed Tryd.underlying3) Tryd.underlying76 (tree_Check.zeroE _) w.heap.size n rfl HS.out.1.1 _ rfl (Maps.keyOf_int_mk Tryd.underlying3 HWF.out) HGET.out ?_) | ((with_reducible refine gate_dst (N := 10) rfl ?_); refine box_event ?hg (N := 10) ?hd (cs := #[.string (⟨#[]⟩ : ByteArray), .int .i64 0, .int .i64 0, .string (⟨#[]⟩ : ByteArray), .int .i64 0, .int .i64 0, .int .i64 0, .string (⟨#[]⟩ : ByteArray), .string (⟨#[]⟩ : ByteArray), .int .i64 0, .int .i64 0, .slice none 0 0]) (t := 56) ?hr ?_; (case hd => rfl); (case hg => rfl); (case hr => first | (go_simp; done) | (go_simp; rfl)); intro gb2 hg w2 hbox hb2; have HG2 := Aside0.mk (HS.out.apart hg); have HS2 := Aside0.mk (HS.out.step hb2); have HK2 := Aside0.mk hbox; clear hg hbox hb2 HS; have HS := HS2; clear HS2) | ((with_reducible refine gate_store (t := 56) (p := 10) rfl ?_); refine put_event rfl rfl rfl rfl rfl HK2.out (tree_Check.szN) rfl rfl ?_; intro w3 hk3 hg3; have HS3 := Aside0.mk (HS.out.other hg3 HG2.out (blk_lt HK2.out)); clear HS HK2; have HK2 := Aside0.mk hk3; have HS := HS3; have hc2 := blk_cell HS.out.2.2.2 2; clear HS3 hk3 hg3) | ((with_reducible refine gate_dst (N := 87) rfl ?_); refine load_event rfl rfl hu56 rfl rfl (cs := [.string (x).f0, .int .i64 (x).f1, .int .i64 (x).f2, .string (x).f3, .int .i64 (x).f4.f0, .int .i64 (x).f4.f1, .int .i64 (x).f4.f2, .string (x).f4.f3, .string (x).f4.f4, .int .i64 (x).f4.f5, .int .i64 (x).f4.f6, .slice A11 (x).f5.length c11]) tree_Check.szN (cells_of_blk HS.out.2.2.2) ?_) | (at_mapUpdate; refine wp_put _ (fun a b h => by injection h) rfl _ _ _ 76 rfl 56 (Maps.int_keyed Tryd.underlying3) Tryd.underlying76 w.heap.size n rfl HS.out.1.1 (by have := HN.out; have := HN1.out; unfold maxLen; omega) _ _ rfl rfl (Maps.keyOf_int_mk Tryd.underlying3 HWF.out) (y := x) ⟨_, rfl, k56_mk w x HL.out HX.out⟩ ?_; intro w4 hm4 hg4; have HI4 := Aside0.mk (HS.out.1.putM hm4 hg4); clear hm4 hg4))
            go_roundg k1
            case measure => have := HK1.out; omega
            case rel => exact ⟨n + 1, _, by go_num, ⟨HLT.out⟩, H', ⟨by have := HK1.out; omega⟩, HI4⟩
           | some y =>
            rw [hget] at AS
            obtain ⟨b, AA, AS⟩ := Option.bind_eq_some_iff.mp AS
            have HAA := Aside0.mk (show tree_alike.f (y).f0 (y).f1 (y).f2 (y).f3 (y).f4.f0 (y).f4.f1 (y).f4.f2 (y).f4.f3 (y).f4.f4 (y).f4.f5 (y).f4.f6 (y).f5 (x).f0 (x).f1 (x).f2 (x).f3 (x).f4.f0 (x).f4.f1 (x).f4.f2 (x).f4.f3 (x).f4.f4 (x).f4.f5 (x).f4.f6 (x).f5 = some b from AA)
            have HGET := Aside0.mk hget
            clear AA hget
            cases b with
            | true =>
             rw [if_pos rfl] at AS
             simp only [Option.some.injEq, Prod.mk.injEq] at AS
             obtain ⟨rfl, rfl⟩ := AS
             rw [if_pos rfl] at H
             have H' := Aside0.mk H
             have h40 : (n : Int) < 40 := by have := HLT.out; have := HN.out; omega
             clear H
             go_wp2_with (first | (at_lookup; refine wp_look_ok_hit _ rfl _ _ 76 rfl 56 (Maps.int_keyed Tryd.underlying3) Tryd.underlying76 (tree_Check.zeroE _) w.heap.size n rfl HS.out.1.1 _ rfl (Maps.keyOf_int_mk Tryd.underlying3 HWF.out) HGET.out ?_; rintro v ⟨cs, rfl, hKy⟩; obtain ⟨A11y, c11y, hcs, l11y, g11y⟩ := k56_open hKy; obtain rfl : cs = #[.string (y).f0, .int .i64 (y).f1, .int .i64 (y).f2, .string (y).f3, .int .i64 (y).f4.f0, .int .i64 (y).f4.f1, .int .i64 (y).f4.f2, .string (y).f4.f3, .string (y).f4.f4, .int .i64 (y).f4.f5, .int .i64 (y).f4.f6, .slice A11y (y).f5.length c11y] := Array.toList_inj.mp hcs; have HYL := Aside0.mk l11y; have HYG := Aside0.mk g11y; clear hKy hcs l11y g11y) | ((with_reducible refine gate_dst (N := 10) rfl ?_); refine box_event ?hg (N := 10) ?hd (cs := #[.string (⟨#[]⟩ : ByteArray), .int .i64 0, .int .i64 0, .string (⟨#[]⟩ : ByteArray), .int .i64 0, .int .i64 0, .int .i64 0, .string (⟨#[]⟩ : ByteArray), .string (⟨#[]⟩ : ByteArray), .int .i64 0, .int .i64 0, .slice none 0 0]) (t := 56) ?hr ?_; (case hd => rfl); (case hg => rfl); (case hr => first | (go_simp; done) | (go_simp; rfl)); intro gb2 hg w2 hbox hb2; have HG2 := Aside0.mk (HS.out.apart hg); have HS2 := Aside0.mk (HS.out.step hb2); have HK2 := Aside0.mk hbox; clear hg hbox hb2 HS; have HS := HS2; clear HS2) | ((with_reducible refine gate_store (t := 56) (p := 10) rfl ?_); refine put_event rfl rfl rfl rfl rfl HK2.out (tree_Check.szN) rfl rfl ?_; intro w3 hk3 hg3; have HS3 := Aside0.mk (HS.out.other hg3 HG2.out (blk_lt HK2.out)); clear HS HK2; have HK2 := Aside0.mk hk3; have HS := HS3; have hc2 := blk_cell HS.out.2.2.2 2; clear HS3 hk3 hg3) | ((with_reducible refine gate_dst (N := 77) rfl ?_); refine load_event rfl rfl hu56 rfl rfl (cs := [.string (y).f0, .int .i64 (y).f1, .int .i64 (y).f2, .string (y).f3, .int .i64 (y).f4.f0, .int .i64 (y).f4.f1, .int .i64 (y).f4.f2, .string (y).f4.f3, .string (y).f4.f4, .int .i64 (y).f4.f5, .int .i64 (y).f4.f6, .slice A11y (y).f5.length c11y]) tree_Check.szN (cells_of_blk HK2.out) ?_) | ((with_reducible refine gate_dst (N := 78) rfl ?_); refine load_event rfl rfl hu56 rfl rfl (cs := [.string (x).f0, .int .i64 (x).f1, .int .i64 (x).f2, .string (x).f3, .int .i64 (x).f4.f0, .int .i64 (x).f4.f1, .int .i64 (x).f4.f2, .string (x).f4.f3, .string (x).f4.f4, .int .i64 (x).f4.f5, .int .i64 (x).f4.f6, .slice A11 (x).f5.length c11]) tree_Check.szN (cells_of_blk HS.out.2.2.2) ?_) | (go_at_call 56; refine (tree_alike.calls (y).f0 (y).f1 (y).f2 (y).f3 (y).f4.f0 (y).f4.f1 (y).f4.f2 (y).f4.f3 (y).f4.f4 (y).f4.f5 (y).f4.f6 A11y c11y (y).f5 (x).f0 (x).f1 (x).f2 (x).f3 (x).f4.f0 (x).f4.f1 (x).f4.f2 (x).f4.f3 (x).f4.f4 (x).f4.f5 (x).f4.f6 A11 c11 (x).f5 _ _ (Kd.C_below HYG.out HS.out.1.2.2) HYL.out (Kd.C_below HX.out HS.out.1.2.2) HL.out HAA.out).mono ?_; rintro e w5 ⟨rfl, hb5⟩; have HS5 := Aside0.mk (HS.out.step hb5); clear HS hb5; have HS := HS5; clear HS5))
             go_roundg k1
             case measure => have := HK1.out; omega
             case rel => exact ⟨n + 1, m, by go_num, ⟨HLT.out⟩, H', ⟨by have := HK1.out; omega⟩, ⟨HS.out.1.next⟩⟩
            | false =>
             rw [if_neg (by decide)] at AS
             simp only [Option.some.injEq, Prod.mk.injEq] at AS
             obtain ⟨rfl, rfl⟩ := AS
             rw [if_neg (by decide)] at H
             obtain rfl := Option.some.inj H
             clear H
             go_wp2_with (first | (at_lookup; refine wp_look_ok_hit _ rfl _ _ 76 rfl 56 (Maps.int_keyed Tryd.underlying3) Tryd.underlying76 (tree_Check.zeroE _) w.heap.size n rfl HS.out.1.1 _ rfl (Maps.keyOf_int_mk Tryd.underlying3 HWF.out) HGET.out ?_; rintro v ⟨cs, rfl, hKy⟩; obtain ⟨A11y, c11y, hcs, l11y, g11y⟩ := k56_open hKy; obtain rfl : cs = #[.string (y).f0, .int .i64 (y).f1, .int .i64 (y).f2, .string (y).f3, .int .i64 (y).f4.f0, .int .i64 (y).f4.f1, .int .i64 (y).f4.f2, .string (y).f4.f3, .string (y).f4.f4, .int .i64 (y).f4.f5, .int .i64 (y).f4.f6, .slice A11y (y).f5.length c11y] := Array.toList_inj.mp hcs; have HYL := Aside0.mk l11y; have HYG := Aside0.mk g11y; clear hKy hcs l11y g11y) | ((with_reducible refine gate_dst (N := 10) rfl ?_); refine box_event ?hg (N := 10) ?hd (cs := #[.string (⟨#[]⟩ : ByteArray), .int .i64 0, .int .i64 0, .string (⟨#[]⟩ : ByteArray), .int .i64 0, .int .i64 0, .int .i64 0, .string (⟨#[]⟩ : ByteArray), .string (⟨#[]⟩ : ByteArray), .int .i64 0, .int .i64 0, .slice none 0 0]) (t := 56) ?hr ?_; (case hd => rfl); (case hg => rfl); (case hr => first | (go_simp; done) | (go_simp; rfl)); intro gb2 hg w2 hbox hb2; have HG2 := Aside0.mk (HS.out.apart hg); have HS2 := Aside0.mk (HS.out.step hb2); have HK2 := Aside0.mk hbox; clear hg hbox hb2 HS; have HS := HS2; clear HS2) | ((with_reducible refine gate_store (t := 56) (p := 10) rfl ?_); refine put_event rfl rfl rfl rfl rfl HK2.out (tree_Check.szN) rfl rfl ?_; intro w3 hk3 hg3; have HS3 := Aside0.mk (HS.out.other hg3 HG2.out (blk_lt HK2.out)); clear HS HK2; have HK2 := Aside0.mk hk3; have HS := HS3; have hc2 := blk_cell HS.out.2.2.2 2; clear HS3 hk3 hg3) | ((with_reducible refine gate_dst (N := 77) rfl ?_); refine load_event rfl rfl hu56 rfl rfl (cs := [.string (y).f0, .int .i64 (y).f1, .int .i64 (y).f2, .string (y).f3, .int .i64 (y).f4.f0, .int .i64 (y).f4.f1, .int .i64 (y).f4.f2, .string (y).f4.f3, .string (y).f4.f4, .int .i64 (y).f4.f5, .int .i64 (y).f4.f6, .slice A11y (y).f5.length c11y]) tree_Check.szN (cells_of_blk HK2.out) ?_) | ((with_reducible refine gate_dst (N := 78) rfl ?_); refine load_event rfl rfl hu56 rfl rfl (cs := [.string (x).f0, .int .i64 (x).f1, .int .i64 (x).f2, .string (x).f3, .int .i64 (x).f4.f0, .int .i64 (x).f4.f1, .int .i64 (x).f4.f2, .string (x).f4.f3, .string (x).f4.f4, .int .i64 (x).f4.f5, .int .i64 (x).f4.f6, .slice A11 (x).f5.length c11]) tree_Check.szN (cells_of_blk HS.out.2.2.2) ?_) | (go_at_call 56; refine (tree_alike.calls (y).f0 (y).f1 (y).f2 (y).f3 (y).f4.f0 (y).f4.f1 (y).f4.f2 (y).f4.f3 (y).f4.f4 (y).f4.f5 (y).f4.f6 A11y c11y (y).f5 (x).f0 (x).f1 (x).f2 (x).f3 (x).f4.f0 (x).f4.f1 (x).f4.f2 (x).f4.f3 (x).f4.f4 (x).f4.f5 (x).f4.f6 A11 c11 (x).f5 _ _ (Kd.C_below HYG.out HS.out.1.2.2) HYL.out (Kd.C_below HX.out HS.out.1.2.2) HL.out HAA.out).mono ?_; rintro e w5 ⟨rfl, hb5⟩; have HS5 := Aside0.mk (HS.out.step hb5); clear HS hb5; have HS := HS5; clear HS5))
             go_ret
             exact ⟨rfl, HS.out.1.2.2⟩
          ·simp only [tree_Check.same, if_neg c12, if_neg c13] at AS
           cases AS
     ·rw [if_neg c6] at AS
      simp only [Option.some.injEq, Prod.mk.injEq] at AS
      obtain ⟨rfl, rfl⟩ := AS
      rw [if_neg c6] at H
      obtain rfl := Option.some.inj H
      have c6a : (e1 == 0) = false := beq_eq_false_iff_ne.mpr c6
      have c6b : (e1 != 0) = true := bne_iff_ne.mpr c6
      clear c6 H
      go_wp2_with (first | ((with_reducible refine gate_dst (N := 22) rfl ?_); refine load_event (ad := ad.add (n * 12)) rfl rfl hu56 rfl rfl (cs := [.string (x).f0, .int .i64 (x).f1, .int .i64 (x).f2, .string (x).f3, .int .i64 (x).f4.f0, .int .i64 (x).f4.f1, .int .i64 (x).f4.f2, .string (x).f4.f3, .string (x).f4.f4, .int .i64 (x).f4.f5, .int .i64 (x).f4.f6, .slice A11 (x).f5.length c11]) tree_Check.szN (fun j v hv => (HI.out.2.2.cell (World.block_lt_of_cell? w _ (HXC.out j v hv))).trans (HXC.out j v hv)) ?_) | ((with_reducible refine gate_dst (N := 5) rfl ?_); refine box_event ?hg (N := 5) ?hd (cs := #[.string (⟨#[]⟩ : ByteArray), .int .i64 0, .int .i64 0, .string (⟨#[]⟩ : ByteArray), .int .i64 0, .int .i64 0, .int .i64 0, .string (⟨#[]⟩ : ByteArray), .string (⟨#[]⟩ : ByteArray), .int .i64 0, .int .i64 0, .slice none 0 0]) (t := 56) ?hr ?_; (case hd => rfl); (case hg => rfl); (case hr => first | (go_simp; done) | (go_simp; rfl)); intro gb hg w2 hbox hb2; have HS := Aside0.mk (HI.out.box hg hbox hb2); clear hg hbox hb2 HI) | ((with_reducible refine gate_store (t := 56) (p := 5) rfl ?_); refine put_event rfl rfl rfl rfl rfl HS.out.2.2.2 (tree_Check.szN) rfl rfl ?_; intro w3 hk3 hg3; have HS3 := Aside0.mk (HS.out.put hk3 hg3); clear HS hk3 hg3; have HS := HS3; clear HS3) | ((with_reducible refine gate_dst (N := 23) rfl ?_); refine load_event rfl rfl hu56 rfl rfl (cs := [.string (x).f0, .int .i64 (x).f1, .int .i64 (x).f2, .string (x).f3, .int .i64 (x).f4.f0, .int .i64 (x).f4.f1, .int .i64 (x).f4.f2, .string (x).f4.f3, .string (x).f4.f4, .int .i64 (x).f4.f5, .int .i64 (x).f4.f6, .slice A11 (x).f5.length c11]) tree_Check.szN (cells_of_blk HS.out.2.2.2) ?_) | (go_at_call 53; refine (tree_Right.calls k1 (x).f0 (x).f1 (x).f2 (x).f3 (x).f4.f0 (x).f4.f1 (x).f4.f2 (x).f4.f3 (x).f4.f4 (x).f4.f5 (x).f4.f6 A11 c11 (x).f5 e1 _ (Kd.C_below HX.out HS.out.1.2.2) HL.out HAR.out).mono ?_; rintro e w3 ⟨rfl, hb3⟩; have HS3 := Aside0.mk (HS.out.step hb3); clear HS hb3; have HS := HS3; clear HS3))
      go_ret
      exact ⟨rfl, HS.out.1.2.2⟩
    ·rw [if_neg c3] at H
     obtain rfl := Option.some.inj H
     have c3b : decide ((n : Int) < (l0.length : Int)) = false := decide_eq_false (by omega)
     have c3c : decide (n < l0.length) = false := decide_eq_false c3
     have c3d := eq_false c3
     clear c3 H
     go_wp2
     go_ret
     exact ⟨rfl, HI.out.2.2⟩


end Go.Proofs.YtodeblpanooomabDoor.All
end
section
namespace Go.Proofs.YtodeblpanooomabDoor.All
open Go.RowKit Go.Proofs.YtodeblpanooomabDoorW.PrintWords Go.Proofs.YtodeblpanooomabDoorW.PrintLast Go.Proofs.YtodeblpanooomabDoorW.PrintMore
open Go.Proofs.YtodeblpanooomabDoorW.Mine
attribute [local go_sem] gtr_string leq_string geq_string
attribute [local go_sem] max2_int min2_int max_two min_two max_three min_three max_four min_four   -- for this text's walks alone
set_option linter.unusedVariables false
set_option linter.unusedSimpArgs false

/-! ### link_Firsts: function 9 -/
open Go.Proofs.YtodeblpanooomabDoorW.MapOwn
/-- A whole number as the map keeps it. -/
def link_Firsts.Rep (y : Int) (v : Value) : Prop := v = .int .i64 y
theorem link_Firsts.zeroI (w : World) : (zeroValue 3).run Tryd.prog w = .ok (.int .i64 0) w := by kernel_rfl
abbrev link_Firsts.MA (W : World) (b n : Nat) (m : List (Int × Int)) : Prop := MapAt (Lit.int .i64) Tryd.prog 3 link_Firsts.Rep W b n m
theorem link_Firsts.MA.obj {W : World} {b n : Nat} {m : List (Int × Int)} (h : link_Firsts.MA W b n m) : ∃ es clock, W.heap[b]? = some (.map es clock) := by
 obtain ⟨D, ⟨es, clock, hes, _⟩, _⟩ := h
 exact ⟨es, clock, hes⟩
theorem link_Firsts.grown_below {W W' : World} {row : Option Nat} (h : Below W.heap.size W W') : W.grownBy W' row := ⟨h.os, h.tape, h.output, h.size, fun k hk _ => h.block k hk⟩
abbrev link_Firsts.Row (W : World) (base : Nat) (v : Value) (xs : List Int) : Prop := Kd.R (Kd.int .i64) 3 W base (fun _ => True) v xs
theorem link_Firsts.Row.keep {W W' : World} {base : Nat} {v : Value} {xs : List Int} (h : link_Firsts.Row W base v xs) (hb : ∀ k, v.ownBlock = some k → W'.heap[k]? = W.heap[k]?) : link_Firsts.Row W' base v xs :=
 Kd.R_mono (Kd.R_move (Kd.R_flat (ok' := fun k => v.ownBlock = some k) (fun h => h) h (fun k hk _ => hk)) (fun k hk => hb k hk)) (fun _ _ => trivial)
theorem link_Firsts.Row.grown {W W' : World} {base g : Nat} {v : Value} {xs : List Int} (h : link_Firsts.Row W base v xs) (hg : W.grownBy W' (some g)) (hne : some g ≠ v.ownBlock) : link_Firsts.Row W' base v xs :=
 h.keep (fun k hk => hg.block k (Kd.R_lt h k hk) (fun e => hne (by rw [hk, ← e])))
theorem link_Firsts.Row.nmap {W : World} {base b : Nat} {v : Value} {xs : List Int} (h : link_Firsts.Row W base v xs) {es clock} (hb : W.heap[b]? = some (.map es clock)) : some b ≠ v.ownBlock := fun e => by
 obtain ⟨cells, hc⟩ := Kd.R_typed h b e.symm
 rw [hb] at hc
 cases hc
/-- what a node is met with -/
def link_Firsts.meetF (m : List (Int × Int)) (s at_ : Int) : Option (Int × List (Int × Int)) := if s = 0 then some (at_, m) else if (Lit.int .i64 s).wf = true then (match get m s with
 | some i => some (i, m)
 | none => some (at_, (s, at_) :: m)) else none
set_option maxHeartbeats 8000000 in
set_option maxRecDepth 100000 in
theorem link_Firsts.meet (gt bm n : Nat) (m : List (Int × Int)) (x : S56) (A11 : Option Addr) (c11 : Nat) (at_ r : Int) (m' : List (Int × Int)) (W : World) (hm : link_Firsts.MA W bm n m) (hn : n < maxLen) (ht : W.heap[gt]? = some (.cells #[.map (some bm)] 51 (0, 0))) (h : link_Firsts.meetF m (x).f2 at_ = some (r, m')) :
  Calls Tryd.prog 30 #[.pointer (some ⟨gt, 0, none⟩), .agg #[.string (x).f0, .int .i64 (x).f1, .int .i64 (x).f2, .string (x).f3, .int .i64 (x).f4.f0, .int .i64 (x).f4.f1, .int .i64 (x).f4.f2, .string (x).f4.f3, .string (x).f4.f4, .int .i64 (x).f4.f5, .int .i64 (x).f4.f6, .slice A11 (x).f5.length c11], .int .i64 at_] W fun e w' => e = .returned (.int .i64 r) ∧ link_Firsts.MA w' bm (n + 1) m' ∧ W.grownBy w' (some bm) := by
 have HM := Aside0.mk hm
 have HT := Aside0.mk ht
 have HN := Aside0.mk hn
 clear hm ht hn
 unfold link_Firsts.meetF at h
 by_cases c1 : (x).f2 = 0
 ·rw [if_pos c1] at h
  simp only [Option.some.injEq, Prod.mk.injEq] at h
  obtain ⟨rfl, rfl⟩ := h
  have c1b : ((x).f2 == 0) = true := beq_iff_eq.mpr c1
  clear c1
  go_enter Tryd.func30, Tryd.ntmps30
  go_wp2_with ((with_reducible refine gate_dst (N := 4) rfl ?_); refine box_event ?hg (N := 4) ?hd (cs := #[.string (x).f0, .int .i64 (x).f1, .int .i64 (x).f2, .string (x).f3, .int .i64 (x).f4.f0, .int .i64 (x).f4.f1, .int .i64 (x).f4.f2, .string (x).f4.f3, .string (x).f4.f4, .int .i64 (x).f4.f5, .int .i64 (x).f4.f6, .slice A11 (x).f5.length c11]) (t := 56) ?hr ?_; (case hd => rfl); (case hg => rfl); (case hr => first | (go_simp; done) | (go_simp; rfl)); intro gb hg w2 hbox hb2; have HM2 := Aside0.mk (HM.out.below hb2); have HG2 := Aside0.mk (link_Firsts.grown_below (row := some bm) hb2); have HT2 := Aside0.mk (blk_below HT.out hb2); have hc2 : w2.cell? ⟨gb, 2, none⟩ = some (.int .i64 (x).f2) := (blk_cell hbox 2).trans rfl; have hct : w2.cell? ⟨gt, 0, none⟩ = some (.map (some bm)) := (blk_cell HT2.out 0).trans rfl; clear hg hbox hb2)
  go_ret
  exact ⟨rfl, HM2.out.mono (Nat.le_succ n), HG2.out⟩
 ·rw [if_neg c1] at h
  have c1b : ((x).f2 == 0) = false := beq_eq_false_iff_ne.mpr c1
  clear c1
  by_cases c2 : (Lit.int .i64 (x).f2).wf = true
  ·rw [if_pos c2] at h
   have HW := Aside0.mk c2
   clear c2
   cases hget : get m (x).f2 with
   | some i =>
    simp only [hget, Option.some.injEq, Prod.mk.injEq] at h
    obtain ⟨rfl, rfl⟩ := h
    have HGET := Aside0.mk hget
    clear hget
    go_enter Tryd.func30, Tryd.ntmps30
    go_upto_region 3 with ((with_reducible refine gate_dst (N := 4) rfl ?_); refine box_event ?hg (N := 4) ?hd (cs := #[.string (x).f0, .int .i64 (x).f1, .int .i64 (x).f2, .string (x).f3, .int .i64 (x).f4.f0, .int .i64 (x).f4.f1, .int .i64 (x).f4.f2, .string (x).f4.f3, .string (x).f4.f4, .int .i64 (x).f4.f5, .int .i64 (x).f4.f6, .slice A11 (x).f5.length c11]) (t := 56) ?hr ?_; (case hd => rfl); (case hg => rfl); (case hr => first | (go_simp; done) | (go_simp; rfl)); intro gb hg w2 hbox hb2; have HM2 := Aside0.mk (HM.out.below hb2); have HG2 := Aside0.mk (link_Firsts.grown_below (row := some bm) hb2); have HT2 := Aside0.mk (blk_below HT.out hb2); have hc2 : w2.cell? ⟨gb, 2, none⟩ = some (.int .i64 (x).f2) := (blk_cell hbox 2).trans rfl; have hct : w2.cell? ⟨gt, 0, none⟩ = some (.map (some bm)) := (blk_cell HT2.out 0).trans rfl; clear hg hbox hb2)
    have hlk : ∀ q, (Instr.lookup 49 (.map (some bm)) (.int .i64 (x).f2) true).run Tryd.prog (w2.drewN q) = .ok (.tuple #[.int .i64 i, .bool true]) (w2.drewN q) := fun q => by
     obtain ⟨v, rfl, hrun⟩ := MapAt.run_ok_hit (w2.drewN q) (HM2.out.below (pw_below_drewN (Below.refl _ _) q)) (Maps.int_keyed Tryd.underlying3) Tryd.underlying49 (link_Firsts.zeroI _) (Maps.keyOf_int_mk Tryd.underlying3 HW.out) HGET.out
     exact hrun
    go_quiet (fail)
    go_wp2
    go_ret
    exact ⟨rfl, (HM2.out.mono (Nat.le_succ n)).below (pw_below_drewN (Below.refl _ _) _), HG2.out.trans (link_Firsts.grown_below (pw_below_drewN (Below.refl _ _) _))⟩
   | none =>
    simp only [hget, Option.some.injEq, Prod.mk.injEq] at h
    obtain ⟨rfl, rfl⟩ := h
    have HGET := Aside0.mk hget
    clear hget
    go_enter Tryd.func30, Tryd.ntmps30
    go_upto_region 3 with ((with_reducible refine gate_dst (N := 4) rfl ?_); refine box_event ?hg (N := 4) ?hd (cs := #[.string (x).f0, .int .i64 (x).f1, .int .i64 (x).f2, .string (x).f3, .int .i64 (x).f4.f0, .int .i64 (x).f4.f1, .int .i64 (x).f4.f2, .string (x).f4.f3, .string (x).f4.f4, .int .i64 (x).f4.f5, .int .i64 (x).f4.f6, .slice A11 (x).f5.length c11]) (t := 56) ?hr ?_; (case hd => rfl); (case hg => rfl); (case hr => first | (go_simp; done) | (go_simp; rfl)); intro gb hg w2 hbox hb2; have HM2 := Aside0.mk (HM.out.below hb2); have HG2 := Aside0.mk (link_Firsts.grown_below (row := some bm) hb2); have HT2 := Aside0.mk (blk_below HT.out hb2); have hc2 : w2.cell? ⟨gb, 2, none⟩ = some (.int .i64 (x).f2) := (blk_cell hbox 2).trans rfl; have hct : w2.cell? ⟨gt, 0, none⟩ = some (.map (some bm)) := (blk_cell HT2.out 0).trans rfl; clear hg hbox hb2)
    have hlk : ∀ q, (Instr.lookup 49 (.map (some bm)) (.int .i64 (x).f2) true).run Tryd.prog (w2.drewN q) = .ok (.tuple #[.int .i64 0, .bool false]) (w2.drewN q) := fun q =>
     MapAt.run_ok_miss (w2.drewN q) (HM2.out.below (pw_below_drewN (Below.refl _ _) q)) (Maps.int_keyed Tryd.underlying3) Tryd.underlying49 (link_Firsts.zeroI _) (Maps.keyOf_int_mk Tryd.underlying3 HW.out) HGET.out
    have hup : ∀ q, ∃ w5, (Instr.mapUpdate 49 (.map (some bm)) (.int .i64 (x).f2) (.int .i64 at_)).run Tryd.prog (w2.drewN q) = .ok () w5 ∧ link_Firsts.MA w5 bm (n + 1) (((x).f2, at_) :: m) ∧ (w2.drewN q).grownBy w5 (some bm) := fun q => by
     obtain ⟨w5, h1, h2, h3⟩ := MapAt.put (val := .int .i64 at_) (HM2.out.below (pw_below_drewN (Below.refl _ _) q)) (fun a b h => by injection h) (Maps.int_keyed Tryd.underlying3) Tryd.underlying49 HN.out (Maps.keyOf_int_mk Tryd.underlying3 HW.out) (x := at_) rfl
     exact ⟨w5, h1, h2, h3.grown⟩
    obtain ⟨F, hF⟩ := Classical.skolem.1 hup
    have hrun : ∀ q, (Instr.mapUpdate 49 (.map (some bm)) (.int .i64 (x).f2) (.int .i64 at_)).run Tryd.prog (w2.drewN q) = .ok () (F q) := fun q => (hF q).1
    have HF := Aside0.mk hF
    clear hup hF
    go_quiet (fail)
    go_wp2
    go_region
    all_goals (go_wp2; go_ret; exact ⟨rfl, (HF.out _).2.1, HG2.out.trans ((link_Firsts.grown_below (pw_below_drewN (Below.refl _ _) _)).trans (HF.out _).2.2)⟩)
  ·rw [if_neg c2] at h
   cases h
/-- the places of the first ones, node by node -/
def link_Firsts.run : List S56 → Int → List (Int × Int) → List Int → Option (List Int)
 | [], _, _, acc => some acc
 | x :: xs, i, m, acc => (link_Firsts.meetF m (x).f2 i).bind fun r => if acc.length < 17592186044415 then link_Firsts.run xs (i + 1) r.2 (acc ++ [r.1]) else none
def link_Firsts.f (k : Nat) (l0 : List S56) : Option (List Int × Int) := (tree_Check.f k l0).bind fun e => if e = 0 then (if l0.length ≤ 1000000 then (link_Firsts.run l0 0 [] []).bind fun r => some (r, 0) else none) else some ([], e)
theorem link_Firsts.mono : ∀ a0 k, LeO (link_Firsts.f k a0) (link_Firsts.f (k + 1) a0) := by
 intro a0 k
 unfold link_Firsts.f
 exact LeO.bind (tree_Check.mono _ _) (fun e => LeO.refl _)
theorem link_Firsts.at_ (l : List S56) (n : Nat) (h : n < l.length) : l.drop n = rd_T56 l (n : Int) :: l.drop (n + 1) := by
 rw [List.drop_eq_getElem_cons h]
 congr 1
 unfold rd_T56
 rw [Int.toNat_natCast, List.getD_eq_getElem?_getD, List.getElem?_eq_getElem h]; rfl
/-- what the loop holds -/
structure link_Firsts.St (w W : World) (gt bm n : Nat) (m : List (Int × Int)) (v : Value) (xs : List Int) : Prop where
 map : link_Firsts.MA W bm n m
 mle : w.heap.size ≤ bm
 tle : w.heap.size ≤ gt
 tbl : W.heap[gt]? = some (.cells #[.map (some bm)] 51 (0, 0))
 row : link_Firsts.Row W w.heap.size v xs
 below : Below w.heap.size w W
section
variable {w W W' : World} {gt bm n g : Nat} {m m' : List (Int × Int)} {v v' : Value} {xs xs' : List Int}
theorem link_Firsts.St.step (h : link_Firsts.St w W gt bm n m v xs) (hb : Below W.heap.size W W') : link_Firsts.St w W' gt bm n m v xs :=
 ⟨h.map.below hb, h.mle, h.tle, blk_below h.tbl hb, h.row.keep (fun k hk => hb.block k (Kd.R_lt h.row k hk)), below_step h.below hb⟩
theorem link_Firsts.St.other (h : link_Firsts.St w W gt bm n m v xs) (hg : W.grownBy W' (some g)) (h1 : w.heap.size ≤ g) (h2 : g < W.heap.size) (h3 : bm ≠ g) (h4 : gt ≠ g) (h5 : some g ≠ v.ownBlock) : link_Firsts.St w W' gt bm n m v xs :=
 ⟨h.map.kept hg (fun e => h3 (Option.some.inj e)), h.mle, h.tle, blk_grown h.tbl hg (fun e => h4 (Option.some.inj e)), h.row.grown hg h5, below_grown h.below hg h1 h2⟩
theorem link_Firsts.St.met (h : link_Firsts.St w W gt bm n m v xs) (hm : link_Firsts.MA W' bm (n + 1) m') (hg : W.grownBy W' (some bm)) : link_Firsts.St w W' gt bm (n + 1) m' v xs := by
 obtain ⟨es, clock, hb⟩ := h.map.obj
 refine ⟨hm, h.mle, h.tle, blk_grown h.tbl hg (fun e => ?_), h.row.grown hg (h.row.nmap hb), below_grown h.below hg h.mle h.map.lt⟩
 have e2 := h.tbl
 rw [Option.some.inj e, hb] at e2
 cases e2
theorem link_Firsts.St.app (h : link_Firsts.St w W gt bm n m v xs) (hr : link_Firsts.Row W' w.heap.size v' xs') (hb : Below w.heap.size w W') (hg : W.grownBy W' v.ownBlock) : link_Firsts.St w W' gt bm n m v' xs' := by
 obtain ⟨es, clock, hm⟩ := h.map.obj
 exact ⟨h.map.kept hg (h.row.nmap hm), h.mle, h.tle, blk_grown h.tbl hg (Kd.R_ne h.row h.tbl (by decide)), hr, hb⟩
end
theorem link_Firsts.infoI : (Tryd.prog.info? 3).map (fun i => (i.zero, i.size, i.bytes)) = some (some (.int .i64 0), 1, 8) := by kernel_rfl
set_option maxHeartbeats 8000000 in
set_option maxRecDepth 100000 in
theorem link_Firsts.calls (k : Nat) (A0 : Option Addr) (c0 : Nat) (l0 : List (S56)) (r1 : List Int) (r2 : Int) (w : World) (hr0 : Kd.C k56 w A0 l0.length l0) (hc0 : l0.length ≤ c0) (h : link_Firsts.f k l0 = some (r1, r2)) :
  Calls Tryd.prog 9 #[.slice A0 l0.length c0] w fun e w' => ∃ v0_ : Value, e = .returned (.tuple #[v0_, .int .i64 r2]) ∧ Kd.R (Kd.int .i64) 3 w' w.heap.size (fun _ => True) v0_ r1 ∧ Below w.heap.size w w' := by
 have hu56 := Tryd.underlying56
 have HR0 := Aside0.mk hr0
 have HC0 := Aside0.mk hc0
 clear hr0 hc0
 obtain ⟨e1, A10, H⟩ := Option.bind_eq_some_iff.mp (show ((tree_Check.f k l0).bind fun e => if e = 0 then (if l0.length ≤ 1000000 then (link_Firsts.run l0 0 [] []).bind fun r => some (r, 0) else none) else some ([], e)) = some (r1, r2) from h)
 have HA1 := Aside0.mk A10
 clear A10 h
 by_cases c1 : e1 = 0
 ·rw [if_pos c1] at H
  have c1a : (e1 == 0) = true := beq_iff_eq.mpr c1
  have c1b : (e1 != 0) = false := bne_eq_false_iff_eq.mpr c1
  clear c1
  by_cases hl : l0.length ≤ 1000000
  ·rw [if_pos hl] at H
   obtain ⟨rr, AR, H⟩ := Option.bind_eq_some_iff.mp H
   simp only [Option.some.injEq, Prod.mk.injEq] at H
   obtain ⟨rfl, rfl⟩ := H
   have H' := Aside0.mk AR
   have HL := Aside0.mk hl
   clear AR hl
   have hmm := @run_makeMap Tryd.prog
   go_enter Tryd.func9, Tryd.ntmps9
   go_wp2_with (first | (go_at_call 29; refine (tree_Check.calls k A0 c0 l0 e1 _ HR0.out HC0.out HA1.out).mono ?_; rintro e w2 ⟨rfl, hb2⟩; have HB := Aside0.mk hb2; clear hb2) | ((with_reducible refine gate_dst (N := 16) rfl ?_); refine box_event ?hg (N := 16) ?hd (cs := #[.map (some w2.heap.size)]) (t := 51) ?hr ?_; (case hd => rfl); (case hg => rfl); (case hr => first | (go_simp; done) | (go_simp; rfl)); intro gt hg w3 hbox hb3; have HS := Aside0.mk (show link_Firsts.St w w3 gt w2.heap.size 0 [] (.slice none 0 0) [] from ⟨(MapAt.made _ _ _ _ _).below hb3, HB.out.size, (by have := HB.out.size; have := hg; simp at this; omega), hbox, Kd.R_nil _ _ _ _ _, below_step (below_alloc HB.out _) hb3⟩); clear hg hbox hb3))
   clear hmm
   obtain ⟨bm, hbm⟩ : ∃ bm, w2.heap.size = bm := ⟨_, rfl⟩
   rw [hbm] at HS
   clear hbm
   go_loopg [6, 19] l0.length (fun kq v6 v19 wx => ∃ (n : Nat) (m : List (Int × Int)) (acc : List Int), Aside0 (kq = l0.length - n) ∧ Aside0 (n ≤ l0.length) ∧ v19 = .int .i64 (n : Int) ∧ Aside0 (link_Firsts.run (l0.drop n) (n : Int) m acc = some rr) ∧ Aside0 (link_Firsts.St w wx gt bm n m v6 acc))
   case atStart => exact ⟨0, [], [], ⟨rfl⟩, ⟨Nat.zero_le _⟩, rfl, ⟨by rw [List.drop_zero]; exact H'.out⟩, HS⟩
   case round =>
    clear H' HS
    obtain ⟨n, m, acc, HQ, HN, rfl, HA, HS⟩ := hrel
    by_cases c3 : n < l0.length
    ·have H := HA.out
     clear HA
     rw [link_Firsts.at_ l0 n c3] at H
     obtain ⟨⟨ri, m'⟩, A20, H⟩ := Option.bind_eq_some_iff.mp (show ((link_Firsts.meetF m (rd_T56 l0 (n : Int)).f2 (n : Int)).bind fun r => if acc.length < 17592186044415 then link_Firsts.run (l0.drop (n + 1)) ((n : Int) + 1) r.2 (acc ++ [r.1]) else none) = some rr from H)
     by_cases hla : acc.length < 17592186044415
     ·replace H : link_Firsts.run (l0.drop (n + 1)) ((n : Int) + 1) m' (acc ++ [ri]) = some rr := by rw [← H]; exact (if_pos hla).symm
      have HA2 := Aside0.mk A20
      have HLA := Aside0.mk hla
      have H' := Aside0.mk H
      clear A20 H hla
      obtain ⟨ad, A11, c11, e, hx, hl11, hi11⟩ := elem56 HR0.out n c3
      cases e
      have HXC := Aside0.mk hx
      have HLT := Aside0.mk c3
      have p3 : ((n : Int) < (l0.length : Int)) = True := eq_true (by omega)
      have p4 : (0 ≤ (n : Int)) = True := eq_true (by omega)
      have hw1 : wrap64 ((n : Int) + 1) = ((n + 1 : Nat) : Int) := by have := HL.out; unfold wrap64; omega
      clear hx hl11 hi11 c3
      generalize hx : rd_T56 l0 (n : Int) = x at *
      clear hx
      go_wp2_with (first | ((with_reducible refine gate_dst (N := 23) rfl ?_); refine load_event (ad := ad.add (n * 12)) rfl rfl hu56 rfl rfl (cs := [.string (x).f0, .int .i64 (x).f1, .int .i64 (x).f2, .string (x).f3, .int .i64 (x).f4.f0, .int .i64 (x).f4.f1, .int .i64 (x).f4.f2, .string (x).f4.f3, .string (x).f4.f4, .int .i64 (x).f4.f5, .int .i64 (x).f4.f6, .slice A11 (x).f5.length c11]) sz56 (fun j v hv => (HS.out.below.cell (World.block_lt_of_cell? w _ (HXC.out j v hv))).trans (HXC.out j v hv)) ?_) | ((with_reducible refine gate_dst (N := 8) rfl ?_); refine box_event ?hg (N := 8) ?hd (cs := #[.string (⟨#[]⟩ : ByteArray), .int .i64 0, .int .i64 0, .string (⟨#[]⟩ : ByteArray), .int .i64 0, .int .i64 0, .int .i64 0, .string (⟨#[]⟩ : ByteArray), .string (⟨#[]⟩ : ByteArray), .int .i64 0, .int .i64 0, .slice none 0 0]) (t := 56) ?hr ?_; (case hd => rfl); (case hg => rfl); (case hr => first | (go_simp; done) | (go_simp; rfl)); intro g8 hg w2 hbox hb2; have HG := Aside0.mk (show w.heap.size ≤ g8 by rw [hg]; exact HS.out.below.size); have HNE := Aside0.mk (show bm ≠ g8 ∧ gt ≠ g8 ∧ some g8 ≠ u6.ownBlock from ⟨by have := HS.out.map.lt; omega, by have := blk_lt HS.out.tbl; omega, fun e => by have := Kd.R_lt HS.out.row g8 e.symm; omega⟩); have HK := Aside0.mk hbox; have HS9 := Aside0.mk (HS.out.step hb2); clear HS; have HS := HS9; clear HS9; clear hg hbox hb2) | ((with_reducible refine gate_store (t := 56) (p := 8) rfl ?_); refine put_event rfl rfl rfl rfl rfl HK.out sz56 rfl rfl ?_; intro w3 hk3 hg3; have HS9 := Aside0.mk (HS.out.other hg3 HG.out (blk_lt HK.out) HNE.out.1 HNE.out.2.1 HNE.out.2.2); have HK9 := Aside0.mk (hk3); clear HS HK; have HS := HS9; have HK := HK9; clear HS9 HK9; clear hk3 hg3) | ((with_reducible refine gate_dst (N := 26) rfl ?_); refine load_event rfl rfl hu56 rfl rfl (cs := [.string (x).f0, .int .i64 (x).f1, .int .i64 (x).f2, .string (x).f3, .int .i64 (x).f4.f0, .int .i64 (x).f4.f1, .int .i64 (x).f4.f2, .string (x).f4.f3, .string (x).f4.f4, .int .i64 (x).f4.f5, .int .i64 (x).f4.f6, .slice A11 (x).f5.length c11]) sz56 (cells_of_blk HK.out) ?_) | (go_at_call 30; refine (link_Firsts.meet gt bm n m x A11 c11 (n : Int) ri m' _ HS.out.map (by have := HL.out; have := HN.out; unfold maxLen; omega) HS.out.tbl HA2.out).mono ?_; rintro e w5 ⟨rfl, hm5, hg5⟩; have HS9 := Aside0.mk (HS.out.met hm5 hg5); clear HS; have HS := HS9; clear HS9; clear hm5 hg5) | ((with_reducible refine gate_builtin (b := .append) (xs := #[.tmp 24, .tmp 29]) rfl ?_); at_builtin; refine Kd.R_append (Kd.int .i64) (w0 := w) w.heap.size rfl (.tmp 24) (.tmp 29) 23 3 (.int .i64 0) 8 rfl Tryd.underlying23 link_Firsts.infoI rfl (by decide) (by omega) u6 acc ri [.int .i64 ri] (fun _ => True) (fun _ => False) rfl (by first | (go_simp; done) | (go_simp; rfl)) rfl (fun _ hk => hk.elim) (fun _ _ => trivial) HS.out.row HS.out.below HS.out.below.size (by have := HLA.out; omega) ?_; intro v30 w7 ho hb hg hat; have HS9 := Aside0.mk (HS.out.app ho hb hg); clear HS; have HS := HS9; clear HS9; clear ho hb hg hat))
      go_roundg (l0.length - (n + 1))
      case measure => have := HQ.out; have := HLT.out; omega
      case rel => exact ⟨n + 1, m', acc ++ [ri], ⟨rfl⟩, ⟨HLT.out⟩, (by first | rfl | rw [hw1]), H', HS⟩
     ·have H2 : none = some rr := by rw [← H]; exact (if_neg hla).symm
      cases H2
    ·have c3b : decide ((n : Int) < (l0.length : Int)) = false := decide_eq_false (by omega)
     have c3n : decide (n < l0.length) = false := decide_eq_false c3
     have c3m : (n < l0.length) = False := eq_false c3
     have H := HA.out
     rw [List.drop_of_length_le (by omega)] at H
     obtain rfl := Option.some.inj (show some acc = some rr from H)
     obtain ⟨Ao, co, eo⟩ := Kd.R_slice HS.out.row
     subst eo
     clear c3 H HA
     go_wp2
     go_ret2
     exact ⟨_, rfl, HS.out.row, HS.out.below⟩
  ·rw [if_neg hl] at H
   cases H
 ·rw [if_neg c1] at H
  simp only [Option.some.injEq, Prod.mk.injEq] at H
  obtain ⟨rfl, rfl⟩ := H
  have c1a : (e1 == 0) = false := beq_eq_false_iff_ne.mpr c1
  have c1b : (e1 != 0) = true := bne_iff_ne.mpr c1
  clear c1
  go_enter Tryd.func9, Tryd.ntmps9
  go_wp2_with (go_at_call 29; refine (tree_Check.calls k A0 c0 l0 e1 _ HR0.out HC0.out HA1.out).mono ?_; rintro e w2 ⟨rfl, hb2⟩; have HB := Aside0.mk hb2; clear hb2)
  go_ret2
  exact ⟨_, rfl, Kd.R_nil _ _ _ _ _, HB.out⟩


end Go.Proofs.YtodeblpanooomabDoor.All
end
section
namespace Go.Proofs.YtodeblpanooomabDoorW.MakeCap
open Go Go.RowKit Go.Proofs.YtodeblpanooomabDoorW.PrintWords
/-! ### make([]T, 0, n): an empty row with room -/
theorem R_makecap {α : Type} {P : Program} {ops : Array Oper} {rest : List Oper} {o : Oper} {a : Act} {Q : Exit → Act → World → Prop} (d : Kd α) {w0 W : World} (base e : Nat) (hgd : o.guard = none) {N : Tmp} (_hd : o.dst = some N) (t : TypeId) (x y : Operand) (ho : o.op = .makeSlice t x y) (n : Int) (hx : a.eval x = .int .i64 0) (hy : a.eval y = .int .i64 n)
    (ht : P.underlying t = some (.slice e)) (z : Value) (bytes : Nat) (hinfo : (P.info? e).map (fun i => (i.zero, i.size, i.bytes)) = some (some z, d.sz, bytes)) (_hs0 : 0 < d.sz) (hb0 : 0 < bytes)
    {ok : Nat → Prop} (hfresh : ok W.heap.size) (h0 : 0 ≤ n) (hl : n.toNat * bytes ≤ 281474976710656) (HB : Below base w0 W) (hbase : base ≤ W.heap.size)
    (h : ∀ v1 w1, d.R e w1 base ok v1 [] → Below base w0 w1 → W.grownBy w1 none → (∃ b, v1.ownBlock = some b ∧ W.heap.size ≤ b) → wpList P ops Q rest (a.put o.dst v1) w1) : wpList P ops Q (o :: rest) a W := by
  obtain ⟨m, rfl⟩ := Int.eq_ofNat_of_zero_le h0
  simp only [Int.toNat_natCast] at hl
  obtain ⟨i0, hi, hzz⟩ := Option.map_eq_some_iff.1 hinfo
  simp only [Prod.mk.injEq] at hzz
  obtain ⟨hz0, hz1, hz2⟩ := hzz
  have hm : m ≤ 281474976710656 := Nat.le_trans (Nat.le_mul_of_pos_right _ hb0) hl
  have hr := run_make (P := P) W t e i0 z ht hi hz0 .i64 .i64 0 (m : Int) (by omega) (by omega)
    (by
      have h3 : ((i0.bytes * m : Nat) : Int) ≤ 281474976710656 := by rw [hz2, Nat.mul_comm]; omega
      rwa [Int.natCast_mul] at h3) (by omega)
  simp only [Int.toNat_natCast] at hr
  rw [hz1] at hr
  have hrun : (execOp a.eval o).run P W = .ok (.value (.slice (some ⟨W.heap.size, 0, none⟩) 0 m)) (W.alloc (.cells (madeCells z.cells (m * d.sz)) e)) := by simp [execOp, ho, hx, hy, hr]
  refine Kd.event_run hgd hrun (h _ _ ⟨fun k hk => ?_, [], ⟨by simp, .inr ⟨W.heap.size, m, _, rfl, hbase, blk_new W _, Nat.zero_le _, by simp only [maxLen]; omega, by simp [size_madeCells], by simp⟩⟩, Reps.none _ _⟩ (HB.alloc hbase _) (World.grownBy_alloc W _ none) ⟨W.heap.size, by simp [Value.ownBlock], Nat.le_refl _⟩)
  have : W.heap.size = k := by simpa [Value.ownBlock] using hk
  subst this
  exact hfresh
end Go.Proofs.YtodeblpanooomabDoorW.MakeCap
end
