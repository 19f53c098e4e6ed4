/- Made by a program of the prover (over the print of the kit): a Lean function with the answers of a Go function, and the proof that the call comes to them; conditions: those in the statements alone. -/
import Derived.Test.YtcipaajdmpkdfaaDoorK
import Derived.Test.YtcipaajdmpkdfaaDoorFRecordWrite
import Derived.Test.YtcipaajdmpkdfaaDoorFPaxCheck
namespace Go.Proofs.YtcipaajdmpkdfaaDoor.All
open Go.RowKit Go.Proofs.YtcipaajdmpkdfaaDoorW.PrintWords Go.Proofs.YtcipaajdmpkdfaaDoorW.PrintLast Go.Proofs.YtcipaajdmpkdfaaDoorW.PrintMore
open Go.Proofs.YtcipaajdmpkdfaaDoorW.Mine
attribute [local go_sem] gtr_string leq_string geq_string
attribute [local go_sem] max2_int min2_int max_two min_two max_three min_three max_four min_four   -- for this text's walks alone
set_option linter.unusedVariables false
set_option linter.unusedSimpArgs false

/-! ### pax_Write: function 22 -/
theorem pax_Write.sizeB : (Tryd.prog.info? 84).map (·.size) = some 2 := by kernel_rfl
theorem pax_Write.liesB : liesAt Tryd.prog Tryd.prog.depth 84 (2 / Tryd.prog.cellsOf 84) 0 84 1 = true := by kernel_rfl
theorem pax_Write.infoB : (Tryd.prog.info? 5).map (fun i => (i.zero, i.size, i.bytes)) = some (some (.int .u8 0), 1, 1) := by kernel_rfl
set_option maxHeartbeats 1000000 in
set_option maxRecDepth 100000 in
/-- copyCheck at a builder that has been used: nothing turns. -/
theorem pax_Write.copy_used (b : Nat) (w : World) (h0 : w.cell? ⟨b, 0, none⟩ = some (.pointer (some ⟨b, 0, none⟩))) :
    Calls Tryd.prog 65 #[.pointer (some ⟨b, 0, none⟩)] w fun e w' => e = .returned (.tuple #[]) ∧ w' = w := by
  obtain ⟨j, hj, _⟩ := Option.map_eq_some_iff.1 pax_Write.sizeB
  go_enter Tryd.func65, Tryd.ntmps65
  go_wp2
  rw [Lib.run_neq_ptr_same w _ Tryd.underlying82 hj]
  go_wp2
  go_end0
  exact ⟨rfl, rfl⟩
set_option maxHeartbeats 1000000 in
set_option maxRecDepth 100000 in
/-- copyCheck at a fresh builder: it stores its own address. -/
theorem pax_Write.copy_fresh (b : Nat) (w : World) (h0 : w.cell? ⟨b, 0, none⟩ = some (.pointer none)) (hsh : w.shape? b = some (84, 2)) (hfz : w.frozen? ⟨b, 0, none⟩ = false) :
    Calls Tryd.prog 65 #[.pointer (some ⟨b, 0, none⟩)] w fun e w' => e = .returned (.tuple #[]) ∧ w' = w.setCell ⟨b, 0, none⟩ (.pointer (some ⟨b, 0, none⟩)) := by
  obtain ⟨j, hj, hjs⟩ := Option.map_eq_some_iff.1 pax_Write.sizeB
  go_enter Tryd.func65, Tryd.ntmps65
  go_wp2
  rw [Lib.run_to_unsafe w ⟨b, 0, none⟩ Tryd.underlying82 Tryd.underlying110 hj (by rw [hjs]; decide) hsh (Nat.zero_lt_succ 1)]
  simp only [Result.andThen]
  rw [Oper.upon_value]
  go_wp2
  rw [run_callFunc_extern Tryd.func82 (by kernel_rfl) (by kernel_rfl) (by kernel_rfl) (e := Extern.AbiNoEscape.same) (by kernel_rfl)]
  rw [Lib.run_noEscape]
  simp only [Result.andThen]
  rw [Oper.upon_value]
  go_wp2
  rw [Lib.run_from_unsafe w ⟨b, 0, none⟩ Tryd.underlying110 Tryd.underlying82 hj hsh pax_Write.liesB]
  simp only [Result.andThen]
  rw [Oper.upon_value]
  go_wp2
  go_end0
  exact ⟨rfl, rfl⟩
/-- copyCheck: behind it the builder is used; its bytes are as they were. -/
theorem pax_Write.copy (B b : Nat) (bs : List Value) (w : World) (h : Lib.IsBuilder 84 5 B b bs w) :
    Calls Tryd.prog 65 #[.pointer (some ⟨b, 0, none⟩)] w fun e w' => e = .returned (.tuple #[]) ∧ (Lib.BuilderAt 84 5 B b (.pointer (some ⟨b, 0, none⟩)) bs w' ∧ Below B w w') := by
  rcases h with h | h
  · refine (pax_Write.copy_fresh b w h.cell0 h.shape h.frozen0).mono ?_
    rintro e w' ⟨rfl, rfl⟩
    exact ⟨rfl, h.used _, (Below.refl B w).setCell (p := ⟨b, 0, none⟩) h.1 _⟩
  · refine (pax_Write.copy_used b w h.cell0).mono ?_
    rintro e w' ⟨rfl, rfl⟩
    exact ⟨rfl, h, Below.refl B _⟩
set_option maxHeartbeats 2000000 in
set_option maxRecDepth 100000 in
/-- WriteString appends; the new length takes at most 2^47 bytes. -/
theorem pax_Write.writeString (B b : Nat) (bs : List Value) (s : ByteArray) (w : World) (h : Lib.IsBuilder 84 5 B b bs w) (hlen : bs.length + s.size ≤ 140737488355328) (hBw : B ≤ w.heap.size) :
    Calls Tryd.prog 49 #[.pointer (some ⟨b, 0, none⟩), .string s] w fun e w' => e = .returned (.tuple #[.int .i64 s.size, .nilIface]) ∧ (Lib.BuilderAt 84 5 B b (.pointer (some ⟨b, 0, none⟩)) (bs ++ Lib.strCells s) w' ∧ Below B w w') := by
  obtain ⟨i0, hi, hz0, hz1, hz2⟩ := info_parts pax_Write.infoB
  go_enter Tryd.func49, Tryd.ntmps49
  go_wp2_with (go_at_call 65; refine (pax_Write.copy B b bs _ h).mono ?_)
  rintro e w1 ⟨rfl, h1, hb1⟩
  obtain ⟨hB, v, hbk, hown, hne⟩ := h1
  have c0 : w1.cell? ⟨b, 0, none⟩ = some (.pointer (some ⟨b, 0, none⟩)) := by rw [Lib.cell_of_heap hbk]; rfl
  have c1 : w1.cell? ⟨b, 1, none⟩ = some v := by rw [Lib.cell_of_heap hbk]; rfl
  go_wp2_with (at_builtin; refine Lib.wpList_append_own_string _ rfl _ _ 65 9 rfl B 5 i0 Tryd.underlying65 Tryd.underlying9 hi hz0 hz1 hz2 _ _ _ rfl hown s rfl ?c3 ?c4 ?c5 ?_)
  case c3 => unfold maxLen; omega
  case c4 => omega
  case c5 => have := hb1.size; omega
  intro v' w2 hown' hgrow _
  have hlt : b < w1.heap.size := by
    rcases Nat.lt_or_ge b w1.heap.size with h' | h'
    · exact h'
    · simp [Array.getElem?_eq_none h'] at hbk
  have hb2 : w2.heap[b]? = some (.cells #[.pointer (some ⟨b, 0, none⟩), v] 84 (0, 0)) := by
    rw [hgrow.block b hlt (fun e => hne e.symm)]
    exact hbk
  have d0 : w2.cell? ⟨b, 0, none⟩ = some (.pointer (some ⟨b, 0, none⟩)) := by rw [Lib.cell_of_heap hb2]; rfl
  have d1 : w2.cell? ⟨b, 1, none⟩ = some v := by rw [Lib.cell_of_heap hb2]; rfl
  have f1 : w2.frozen? ⟨b, 1, none⟩ = false := Lib.frozen_of_heap hb2 1
  obtain ⟨ao, n', cap, rfl⟩ : ∃ ao n' cap, v' = .slice ao n' cap := by
    rcases hown'.2 with ⟨hv, _⟩ | ⟨g, cap, cur, hv, _⟩
    · exact ⟨_, _, _, hv⟩
    · exact ⟨_, _, _, hv⟩
  go_wp2
  go_ret2
  refine ⟨rfl, ?_, ?_⟩
  · exact Lib.BuilderAt.put (T := 84) (e := 5) hB hb2 (bs' := bs ++ Lib.strCells s) (by simpa [Lib.strCells_length] using hown') (by decide)
  · exact (hb1.grown hgrow (by have := hb1.size; omega) (fun k hk => (hown.lt k hk).1)).setCell (p := ⟨b, 1, none⟩) hB _
def pax_Write.l0 : Nat → List (S26) → ByteArray → Int → Option (ByteArray × Int)
  | 0, _, _, _ => none
  | k + 1, l, acc, i => if i < (l.length : Int) then (if 0 ≤ i then ((record_Write.f k ((rd_T26 l i).f0) ((rd_T26 l i).f1)).bind fun r => if acc.size + r.1.size ≤ 140737488355328 then pax_Write.l0 k l (acc ++ r.1) (wrap64 (i + 1)) else none) else none) else some (acc, 0)
def pax_Write.f (k : Nat) (l0 : List (S26)) : Option (ByteArray × Int) := (pax_Check.f k l0).bind fun e => if e = 0 then pax_Write.l0 k l0 (⟨#[]⟩ : ByteArray) 0 else some ((⟨#[]⟩ : ByteArray), e)
theorem pax_Write.mono_l : ∀ k, (∀ y0 y1 y2, LeO (pax_Write.l0 k y0 y1 y2) (pax_Write.l0 (k + 1) y0 y1 y2))
  | 0 => fun _ _ _ r h => by simp [pax_Write.l0] at h
  | k + 1 => by
    have ih0 := pax_Write.mono_l k
    intro y0 y1 y2
    unfold pax_Write.l0
    repeat' first
      | (with_reducible exact ih0 _ _ _)
      | (with_reducible exact LeO.refl _)
      | (with_reducible exact LeO.none _)
      | (with_reducible refine LeO.ite ?_ ?_)
      | (with_reducible refine LeO.bind ?_ (fun _ => ?_))
      | exact ih0 _ _ _
      | exact record_Write.mono _ _ _
      | exact LeO.none _
      | refine LeO.ite ?_ ?_
      | refine LeO.bind ?_ (fun _ => ?_)
theorem pax_Write.mono : ∀ a0 k, LeO (pax_Write.f k a0) (pax_Write.f (k + 1) a0) := by
  intro a0 k
  have ih0 := pax_Write.mono_l k
  unfold pax_Write.f
  repeat' first
      | (with_reducible exact ih0 _ _ _)
      | (with_reducible exact LeO.refl _)
      | (with_reducible exact LeO.none _)
      | (with_reducible refine LeO.ite ?_ ?_)
      | (with_reducible refine LeO.bind ?_ (fun _ => ?_))
      | exact ih0 _ _ _
      | exact pax_Check.mono _ _
      | exact LeO.none _
      | refine LeO.ite ?_ ?_
      | refine LeO.bind ?_ (fun _ => ?_)
theorem pax_Write.keep {B b : Nat} {bs : List Value} {w w' : World} (h : Lib.IsBuilder 84 5 B b bs w) (hb : Below w.heap.size w w') : Lib.IsBuilder 84 5 B b bs w' := by
  rcases h with h | h
  · have hlt := h.lt
    obtain ⟨hB, v, hbk, hown, hne⟩ := h
    exact Or.inl ⟨hB, v, (hb.block b hlt).trans hbk, hown.kept (row := none) ⟨hb.os, hb.tape, hb.output, hb.size, fun k hk _ => hb.block k hk⟩ (by cases hv : v.ownBlock <;> simp), hne⟩
  · have hlt := h.lt
    obtain ⟨hB, v, hbk, hown, hne⟩ := h
    exact Or.inr ⟨hB, v, (hb.block b hlt).trans hbk, hown.kept (row := none) ⟨hb.os, hb.tape, hb.output, hb.size, fun k hk _ => hb.block k hk⟩ (by cases hv : v.ownBlock <;> simp), hne⟩
set_option maxHeartbeats 8000000 in
set_option maxRecDepth 100000 in
theorem pax_Write.calls (k : Nat) (A0 : Option Addr) (c0 : Nat) (l0 : List (S26)) (r1 : ByteArray) (r2 : Int) (w : World) (hr0 : Kd.C k26 w A0 l0.length l0) (hc0 : l0.length ≤ c0) (HT0 : Aside0 (Tab w)) (h : pax_Write.f k l0 = some (r1, r2)) :
    Calls Tryd.prog 22 #[.slice A0 l0.length c0] w fun e w' => e = .returned (.tuple #[.string r1, .int .i64 r2]) ∧ Below w.heap.size w w' := by
  have hu26 := Tryd.underlying26
  have HR0 := Aside0.mk hr0
  have HC0 := Aside0.mk hc0
  clear hr0 hc0
  have HB := Aside0.mk (Below.refl w.heap.size w)
  have H := Option.bind_eq_some_iff.mp (show ((pax_Check.f k l0).bind fun e => if e = 0 then pax_Write.l0 k l0 (⟨#[]⟩ : ByteArray) 0 else some ((⟨#[]⟩ : ByteArray), e)) = some (r1, r2) from h)
  clear h
  obtain ⟨e0, A20, H⟩ := H
  have A2 := Aside0.mk A20
  clear A20
  go_enter Tryd.func22, Tryd.ntmps22
  by_cases c3 : e0 = 0
  · rw [if_pos c3] at H
    have c3b0 : (e0 == 0) = true := beq_iff_eq.mpr c3
    have c3b1 : (e0 != 0) = false := bne_eq_false_iff_eq.mpr c3
    clear c3
    have H' := Aside0.mk H
    clear H
    go_wp2_with (first | (go_at_call 21; refine (pax_Check.calls k A0 c0 l0 e0 _ HR0.out HC0.out A2.out).mono ?_; rintro e w1 ⟨rfl, hb1⟩; have HB1 := Aside0.mk hb1; clear hb1 HB; have HB := HB1; clear HB1) | ((with_reducible refine gate_dst (N := 5) rfl ?_); refine box_event ?hg (N := 5) ?hd (cs := #[.pointer none, .slice none 0 0]) (t := 84) ?hr ?_; (case hd => rfl); (case hg => rfl); (case hr => first | (go_simp; done) | (go_simp; rfl)); intro gb hg w2 hbox hb2; have HK := Aside0.mk hbox; have HG := Aside0.mk hg; have HB2 := Aside0.mk hb2; clear hbox hg hb2))
    have HI : Aside0 (Lib.IsBuilder 84 5 w.heap.size gb (Lib.strCells ⟨#[]⟩) _) := ⟨Or.inl ⟨by rw [HG.out]; exact HB.out.size, .slice none 0 0, HK.out, ⟨rfl, Or.inl ⟨rfl, rfl⟩⟩, by simp [Value.ownBlock]⟩⟩
    have HB3 := Aside0.mk (below_step HB.out HB2.out)
    clear HB HB2 HK HG
    have HB := HB3
    clear HB3
    go_loopg [17] k (fun kq v17 wx => ∃ (acc : ByteArray) (i : Int), v17 = .int .i64 i ∧ Aside0 (pax_Write.l0 kq l0 acc i = some (r1, r2)) ∧ Aside0 (kq ≤ k) ∧ Aside0 (Lib.IsBuilder 84 5 w.heap.size gb (Lib.strCells acc) wx) ∧ Aside0 (Below w.heap.size w wx))
    case atStart => exact ⟨⟨#[]⟩, 0, rfl, H', ⟨Nat.le_refl _⟩, HI, HB⟩
    case round =>
      clear H' HI HB
      obtain ⟨acc, i, rfl, HA, HK1, HI, HB⟩ := hrel
      cases gk with
      | zero => exact absurd HA.out (by simp [pax_Write.l0])
      | succ k1 =>
        have H := HA.out
        clear HA
        simp only [pax_Write.l0] at H
        by_cases c4 : i < (l0.length : Int)
        · rw [if_pos c4] at H
          have c4b0 : decide (i < (l0.length : Int)) = true := decide_eq_true c4
          by_cases c5 : 0 ≤ i
          · rw [if_pos c5] at H
            replace H := Option.bind_eq_some_iff.mp H
            obtain ⟨⟨s, e1⟩, A60, H⟩ := H
            have A6 := Aside0.mk A60
            clear A60
            by_cases c6 : acc.size + s.size ≤ 140737488355328
            · replace H : (if acc.size + s.size ≤ 140737488355328 then pax_Write.l0 k1 l0 (acc ++ s) (wrap64 (i + 1)) else none) = some (r1, r2) := H
              rw [if_pos c6] at H
              have H' := Aside0.mk H
              have C6 := Aside0.mk c6
              clear H c6
              obtain ⟨ad, ea, hx0, hx1⟩ := at_T26 HR0.out i c5 c4
              cases ea
              replace hx0 := (HB.out.cell (World.block_lt_of_cell? w _ hx0)).trans hx0
              replace hx1 := (HB.out.cell (World.block_lt_of_cell? w _ hx1)).trans hx1
              replace c5 := eq_true c5
              replace c4 := eq_true c4
              go_wp2_with (first | ((with_reducible refine gate_dst (N := 7) rfl ?_); refine box_event ?hg (N := 7) ?hd (cs := #[.string (⟨#[]⟩ : ByteArray), .string (⟨#[]⟩ : ByteArray)]) (t := 26) ?hr ?_; (case hd => rfl); (case hg => rfl); (case hr => first | (go_simp; done) | (go_simp; rfl)); intro gb2 hg w2 hbox hb2; have HK2 := Aside0.mk hbox; have HG2 := Aside0.mk hg; have HB2 := Aside0.mk hb2; have hcz0 : w2.cell? ⟨gb2, 0, none⟩ = some (.string (⟨#[]⟩ : ByteArray)) := (blk_cell HK2.out 0).trans rfl; have hcz1 : w2.cell? ⟨gb2, 1, none⟩ = some (.string (⟨#[]⟩ : ByteArray)) := (blk_cell HK2.out 1).trans rfl; have hfz0 := blk_frozen HK2.out 0; have hfz1 := blk_frozen HK2.out 1; have GE2 := Aside0.mk (show w.heap.size ≤ gb2 by rw [HG2.out]; exact HB.out.size); have HG2' := Aside0.mk (Nat.le_of_eq HG2.out.symm); clear hbox hg hb2) | (go_at_call 12; refine (record_Write.calls k1 _ _ s e1 _ ⟨tab_on HT0.out (by repeat (first | (with_reducible first | exact (below_step HB.out HB2.out) | apply below_alloc | apply pw_below_drewN | apply below_drew1 | refine below_set ?_ GE2.out) | exact (below_step HB.out HB2.out)))⟩ A6.out).mono ?_; rintro e w3 ⟨rfl, hb3⟩; have HB3 := Aside0.mk (below_step (by repeat (first | (with_reducible first | exact (below_step HB.out HB2.out) | apply below_alloc | apply pw_below_drewN | apply below_drew1 | refine below_set ?_ GE2.out) | exact (below_step HB.out HB2.out))) hb3); have HI3 := Aside0.mk (pax_Write.keep HI.out (below_step (by repeat (first | (with_reducible first | exact HB2.out | apply below_alloc | apply pw_below_drewN | apply below_drew1 | refine below_set ?_ HG2'.out) | exact HB2.out)) hb3)); clear hb3) | (go_at_call 49; refine (pax_Write.writeString w.heap.size gb (Lib.strCells acc) s _ HI3.out (by rw [Lib.strCells_length]; exact C6.out) HB3.out.size).mono ?_; rintro e w4 ⟨rfl, hat, hb4⟩; have HI4 := Aside0.mk hat; have HB4 := Aside0.mk (HB3.out.trans hb4); clear hat hb4))
              go_roundg k1
              case measure => have := HK1.out; omega
              case rel => exact ⟨acc ++ s, wrap64 (i + 1), rfl, H', ⟨by have := HK1.out; omega⟩, ⟨Or.inr (by rw [show Lib.strCells (acc ++ s) = Lib.strCells acc ++ Lib.strCells s from by simp [Lib.strCells]]; exact HI4.out)⟩, HB4⟩
            · replace H : (if acc.size + s.size ≤ 140737488355328 then pax_Write.l0 k1 l0 (acc ++ s) (wrap64 (i + 1)) else none) = some (r1, r2) := H
              rw [if_neg c6] at H
              exact absurd H (by simp)
          · rw [if_neg c5] at H
            exact absurd H (by simp)
        · rw [if_neg c4] at H
          simp only [Option.some.injEq, Prod.mk.injEq] at H
          obtain ⟨rfl, rfl⟩ := H
          have c4b0 : decide (i < (l0.length : Int)) = false := decide_eq_false c4
          clear c4
          go_wp2_with (go_at_call 50; refine (Tryd.Builder_String_any w.heap.size gb acc.data.toList _ HI.out HB.out.size).mono ?_; rintro e w5 ⟨he, hb5⟩; rw [show (⟨acc.data.toList.toArray⟩ : ByteArray) = acc from by simp] at he; subst he; have HB5 := Aside0.mk hb5; clear hb5)
          go_ret2
          exact ⟨rfl, HB.out.trans HB5.out⟩
  · rw [if_neg c3] at H
    simp only [Option.some.injEq, Prod.mk.injEq] at H
    obtain ⟨rfl, rfl⟩ := H
    have c3b0 : (e0 == 0) = false := beq_eq_false_iff_ne.mpr c3
    have c3b1 : (e0 != 0) = true := bne_iff_ne.mpr c3
    clear c3
    go_wp2_with (go_at_call 21; refine (pax_Check.calls k A0 c0 l0 e0 _ HR0.out HC0.out A2.out).mono ?_; rintro e w1 ⟨rfl, hb1⟩; have HB1 := Aside0.mk hb1; clear hb1)
    go_ret2
    exact ⟨rfl, HB1.out⟩


end Go.Proofs.YtcipaajdmpkdfaaDoor.All
