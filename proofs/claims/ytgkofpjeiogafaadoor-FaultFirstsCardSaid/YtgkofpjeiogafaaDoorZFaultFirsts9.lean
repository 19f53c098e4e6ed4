/- Made by programs of the prover: walks of Go functions, the words that they use, and plain laws, each text in a section of its own; no condition of its own. -/
import Derived.Test.YtgkofpjeiogafaaDoorZFaultFirsts2
import Derived.Test.YtgkofpjeiogafaaDoorZFaultFirsts3
import Derived.Test.YtgkofpjeiogafaaDoorZFaultFirsts6
import Derived.Test.YtgkofpjeiogafaaDoorZFaultFirsts8
section
namespace Go.Proofs.YtgkofpjeiogafaaDoor.All
open Go.RowKit Go.Proofs.YtgkofpjeiogafaaDoorW.PrintWords Go.Proofs.YtgkofpjeiogafaaDoorW.PrintLast Go.Proofs.YtgkofpjeiogafaaDoorW.PrintMore
open Go.Proofs.YtgkofpjeiogafaaDoorW.Mine
attribute [local go_sem] gtr_string leq_string geq_string
attribute [local go_sem] max2_int min2_int max_two min_two max_three min_three max_four min_four   -- for this text's walks alone
set_option linter.unusedVariables false
set_option linter.unusedSimpArgs false

/-! ### creelref_EntriesFault: function 15 -/
open Go.Proofs.YtgkofpjeiogafaaDoorW.MapOwn
attribute [local go_sem high] eqK65
def creelref_EntriesFault.right (k : Nat) (x : S80) : Option Int := creelref_EntryFault.f k (x).f0 (x).f1 (x).f2 (x).f3.f0 (x).f3.f1 (x).f3.f2 (x).f3.f3 (x).f3.f4 (x).f3.f5 (x).f3.f6 (x).f4
/-- is the path behind the last one no greater? -/
def creelref_EntriesFault.two (k : Nat) (l : List S80) (x : S80) (n : Nat) : Option Bool := if 0 < n then (creelref_PathOrder.f k (rd_T80 l ((n - 1 : Nat) : Int)).f0 x.f0).bind fun c => some (decide (0 ≤ c)) else some false
/-- is what it is in no directory ahead of it? -/
def creelref_EntriesFault.up (k : Nat) (l : List S80) (x : S80) (n : Nat) : Option Bool := (creelref_PathSplit.f k x.f0).bind fun p => (creelref_EntryAt.f k (l.take n) p.1).bind fun j => if p.1.toList = ([] : List UInt8) then some false else if j = (n : Int) then some true else if 0 ≤ j ∧ j < (l.length : Int) then some ((rd_T80 l j).f1 != 2) else none
def creelref_EntriesFault.meta (y x : S80) : Bool := ((y.f3).f0 == (x.f3).f0 && ((y.f3).f1 == (x.f3).f1 && ((y.f3).f2 == (x.f3).f2 && ((y.f3).f3.toList == (x.f3).f3.toList && ((y.f3).f4.toList == (x.f3).f4.toList && ((y.f3).f5 == (x.f3).f5 && ((y.f3).f6 == (x.f3).f6)))))))
/-- is what it is a link to no file ahead of it? -/
def creelref_EntriesFault.link (k : Nat) (l : List S80) (x : S80) (n : Nat) : Option Bool := (creelref_EntryAt.f k (l.take n) x.f2).bind fun j => if x.f1 = 4 then (if j = (n : Int) then some true else if 0 ≤ j ∧ j < (l.length : Int) then (if (rd_T80 l j).f1 = 1 then some (!creelref_EntriesFault.meta (rd_T80 l j) x) else some true) else none) else some false
def creelref_EntriesFault.step (k : Nat) (l : List S80) (x : S80) (n : Nat) : Option Int := (creelref_EntriesFault.right k x).bind fun e => if e = 0 then ((creelref_EntriesFault.two k l x n).bind fun t => if t = true then some 6 else (creelref_EntriesFault.up k l x n).bind fun u => if u = true then some 10 else (creelref_EntriesFault.link k l x n).bind fun v => if v = true then some 11 else some 0) else some e
def creelref_EntriesFault.l0 : Nat → List S80 → Nat → Option Int
 | 0, _, _ => none
 | k + 1, l, n => if n < l.length then (creelref_EntriesFault.step k l (rd_T80 l (n : Int)) n).bind fun e => if e = 0 then creelref_EntriesFault.l0 k l (n + 1) else some e else some 0
def creelref_EntriesFault.f (k : Nat) (l0 : List S80) : Option Int := if 40 < l0.length then some 1 else creelref_EntriesFault.l0 k l0 0
theorem creelref_EntriesFault.mono_two : ∀ l x n k, LeO (creelref_EntriesFault.two k l x n) (creelref_EntriesFault.two (k + 1) l x n) := by
 intro l x n k
 unfold creelref_EntriesFault.two
 repeat' first
   | (with_reducible exact LeO.refl _)
   | (with_reducible exact LeO.none _)
   | (with_reducible refine LeO.ite ?_ ?_)
   | (with_reducible refine LeO.bind ?_ (fun _ => ?_))
   | exact creelref_PathOrder.mono _ _ _
theorem creelref_EntriesFault.mono_up : ∀ l x n k, LeO (creelref_EntriesFault.up k l x n) (creelref_EntriesFault.up (k + 1) l x n) := by
 intro l x n k
 unfold creelref_EntriesFault.up
 repeat' first
   | (with_reducible exact LeO.refl _)
   | (with_reducible exact LeO.none _)
   | (with_reducible refine LeO.ite ?_ ?_)
   | (with_reducible refine LeO.bind ?_ (fun _ => ?_))
   | exact creelref_PathSplit.mono _ _
   | exact creelref_EntryAt.mono _ _ _
theorem creelref_EntriesFault.mono_link : ∀ l x n k, LeO (creelref_EntriesFault.link k l x n) (creelref_EntriesFault.link (k + 1) l x n) := by
 intro l x n k
 unfold creelref_EntriesFault.link
 repeat' first
   | (with_reducible exact LeO.refl _)
   | (with_reducible exact LeO.none _)
   | (with_reducible refine LeO.ite ?_ ?_)
   | (with_reducible refine LeO.bind ?_ (fun _ => ?_))
   | exact creelref_EntryAt.mono _ _ _
theorem creelref_EntriesFault.mono_step : ∀ l x n k, LeO (creelref_EntriesFault.step k l x n) (creelref_EntriesFault.step (k + 1) l x n) := by
 intro l x n k
 unfold creelref_EntriesFault.step creelref_EntriesFault.right
 repeat' first
   | (with_reducible exact creelref_EntriesFault.mono_link _ _ _ _)
   | (with_reducible exact LeO.refl _)
   | (with_reducible exact LeO.none _)
   | (with_reducible refine LeO.ite ?_ ?_)
   | (with_reducible refine LeO.bind ?_ (fun _ => ?_))
   | exact creelref_EntriesFault.mono_two _ _ _ _
   | exact creelref_EntriesFault.mono_up _ _ _ _
   | exact creelref_EntryFault.mono _ _ _ _ _ _ _ _ _ _ _ _
theorem creelref_EntriesFault.mono_l : ∀ k, (∀ y0 y1, LeO (creelref_EntriesFault.l0 k y0 y1) (creelref_EntriesFault.l0 (k + 1) y0 y1))
 | 0 => fun _ _ r h => by simp [creelref_EntriesFault.l0] at h
 | k + 1 => by
  have ih0 := creelref_EntriesFault.mono_l k
  intro y0 y1
  unfold creelref_EntriesFault.l0
  repeat' first
    | (with_reducible exact ih0 _ _)
    | (with_reducible exact LeO.refl _)
    | (with_reducible exact LeO.none _)
    | (with_reducible refine LeO.ite ?_ ?_)
    | (with_reducible refine LeO.bind ?_ (fun _ => ?_))
    | exact creelref_EntriesFault.mono_step _ _ _ _
theorem creelref_EntriesFault.mono : ∀ a0 k, LeO (creelref_EntriesFault.f k a0) (creelref_EntriesFault.f (k + 1) a0) := by
 intro a0 k
 have ih0 := creelref_EntriesFault.mono_l k
 unfold creelref_EntriesFault.f
 repeat' first
   | (with_reducible exact ih0 _ _)
   | (with_reducible exact LeO.refl _)
   | (with_reducible exact LeO.none _)
   | (with_reducible refine LeO.ite ?_ ?_)
   | (with_reducible refine LeO.bind ?_ (fun _ => ?_))
set_option maxHeartbeats 8000000 in
set_option maxRecDepth 100000 in
theorem creelref_EntriesFault.calls (k : Nat) (A0 : Option Addr) (c0 : Nat) (l0 : List (S80)) (r : Int) (w : World) (hr0 : Kd.C k80 w A0 l0.length l0) (hc0 : l0.length ≤ c0) (h : creelref_EntriesFault.f k l0 = some r) :
  Calls Tryd.prog 15 #[.slice A0 l0.length c0] w fun e w' => e = .returned (.int .i64 r) ∧ Below w.heap.size w w' := by
 have hu80 := Tryd.underlying80
 have hu65 := Tryd.underlying65
 have HR0 := Aside0.mk hr0
 have HC0 := Aside0.mk hc0
 clear hr0 hc0
 by_cases c1 : 40 < l0.length
 ·have H : (if 40 < l0.length then some 1 else creelref_EntriesFault.l0 k l0 0) = some r := h
  rw [if_pos c1] at H
  obtain rfl := Option.some.inj H
  clear h H
  have c1b : decide ((40 : Int) < (l0.length : Int)) = true := decide_eq_true (by omega)
  clear c1
  go_enter Tryd.func15, Tryd.ntmps15
  go_wp2
  go_ret
  exact ⟨rfl, by first | exact Below.refl _ _ | exact below_drew1 (Below.refl _ _)⟩
 ·have H : (if 40 < l0.length then some 1 else creelref_EntriesFault.l0 k l0 0) = some r := h
  rw [if_neg c1] at H
  have H' := Aside0.mk H
  have HN := Aside0.mk (Nat.not_lt.1 c1)
  have HB0 := Aside0.mk (Below.refl w.heap.size w)
  have c1b : decide ((40 : Int) < (l0.length : Int)) = false := decide_eq_false (by omega)
  clear h H c1
  go_enter Tryd.func15, Tryd.ntmps15
  go_wp2
  go_loopg [15] k (fun kq v15 wx => ∃ (n : Nat), v15 = .int .i64 (n : Int) ∧ Aside0 (n ≤ l0.length) ∧ Aside0 (creelref_EntriesFault.l0 kq l0 n = some r) ∧ Aside0 (kq ≤ k) ∧ Aside0 (Below w.heap.size w wx))
  case atStart => exact ⟨0, rfl, ⟨Nat.zero_le _⟩, H', ⟨Nat.le_refl _⟩, HB0⟩
  case round =>
   clear H' HB0
   obtain ⟨n, rfl, HN1, HA, HK1, HB⟩ := hrel
   cases gk with
   | zero => exact absurd HA.out (by simp [creelref_EntriesFault.l0])
   | succ k1 =>
    have H := HA.out
    clear HA
    simp only [creelref_EntriesFault.l0] at H
    by_cases c3 : n < l0.length
    ·rw [if_pos c3] at H
     have c3b : decide ((n : Int) < (l0.length : Int)) = true := decide_eq_true (by omega)
     replace H := Option.bind_eq_some_iff.mp H
     obtain ⟨e0, AS, H⟩ := H
     obtain ⟨ad, A10, c10, e, hx, hl10, hi10⟩ := elem80 HR0.out n c3
     cases e
     have HXC := Aside0.mk hx
     clear hx
     have p3 : ((n : Int) < (l0.length : Int)) = True := eq_true (by omega)
     have p4 : (0 ≤ (n : Int)) = True := eq_true (by omega)
     have HX := Aside0.mk hi10
     have HL := Aside0.mk hl10
     have HLT := Aside0.mk c3
     clear hi10 hl10 c3
     generalize hx : rd_T80 l0 (n : Int) = x at *
     clear hx
     obtain ⟨e1, AR, AS⟩ := Option.bind_eq_some_iff.mp (show ((creelref_EntriesFault.right k1 x).bind fun e => if e = 0 then ((creelref_EntriesFault.two k1 l0 x n).bind fun t => if t = true then some 6 else (creelref_EntriesFault.up k1 l0 x n).bind fun u => if u = true then some 10 else (creelref_EntriesFault.link k1 l0 x n).bind fun v => if v = true then some 11 else some 0) else some e) = some e0 from AS)
     have HAR := Aside0.mk (show creelref_EntryFault.f k1 (x).f0 (x).f1 (x).f2 (x).f3.f0 (x).f3.f1 (x).f3.f2 (x).f3.f3 (x).f3.f4 (x).f3.f5 (x).f3.f6 (x).f4 = some e1 from AR)
     clear AR
     by_cases c6 : e1 = 0
     ·rw [if_pos c6] at AS
      obtain ⟨t, AT, AS⟩ := Option.bind_eq_some_iff.mp AS
      have HAT := Aside0.mk AT
      have HQ := Aside0.mk AS
      have HH := Aside0.mk H
      have c6a : (e1 == 0) = true := beq_iff_eq.mpr c6
      have c6b : (e1 != 0) = false := bne_eq_false_iff_eq.mpr c6
      clear AS H AT c6
      go_upto_region 9 with (first | ((with_reducible refine gate_dst (N := 19) rfl ?_); refine load_event (ad := ad.add (n * 11)) rfl rfl hu80 rfl rfl (cs := [.string (x).f0, .int .i64 (x).f1, .string (x).f2, .int .i64 (x).f3.f0, .int .i64 (x).f3.f1, .int .i64 (x).f3.f2, .string (x).f3.f3, .string (x).f3.f4, .int .i64 (x).f3.f5, .int .i64 (x).f3.f6, .slice A10 (x).f4.length c10]) sz80 (fun j v hv => (HB.out.cell (World.block_lt_of_cell? w _ (HXC.out j v hv))).trans (HXC.out j v hv)) ?_) | ((with_reducible refine gate_dst (N := 4) rfl ?_); refine box_event ?hg (N := 4) ?hd (cs := #[.string (⟨#[]⟩ : ByteArray), .int .i64 0, .string (⟨#[]⟩ : ByteArray), .int .i64 0, .int .i64 0, .int .i64 0, .string (⟨#[]⟩ : ByteArray), .string (⟨#[]⟩ : ByteArray), .int .i64 0, .int .i64 0, .slice none 0 0]) (t := 80) ?hr ?_; (case hd => rfl); (case hg => rfl); (case hr => first | (go_simp; done) | (go_simp; rfl)); intro gb hg w2 hbox hb2; have HS := Aside0.mk (Held.box HB.out hg hbox hb2); clear hg hbox hb2 HB) | ((with_reducible refine gate_store (t := 80) (p := 4) rfl ?_); refine put_event rfl rfl rfl rfl rfl HS.out.blk sz80 rfl rfl ?_; intro w3 hk3 hg3; have HS3 := Aside0.mk (HS.out.put hk3 hg3); clear HS hk3 hg3; have HS := HS3; clear HS3) | ((with_reducible refine gate_dst (N := 20) rfl ?_); refine load_event rfl rfl hu80 rfl rfl (cs := [.string (x).f0, .int .i64 (x).f1, .string (x).f2, .int .i64 (x).f3.f0, .int .i64 (x).f3.f1, .int .i64 (x).f3.f2, .string (x).f3.f3, .string (x).f3.f4, .int .i64 (x).f3.f5, .int .i64 (x).f3.f6, .slice A10 (x).f4.length c10]) sz80 (cells_of_blk HS.out.blk) ?_) | (go_at_call 51; refine (creelref_EntryFault.calls k1 (x).f0 (x).f1 (x).f2 (x).f3.f0 (x).f3.f1 (x).f3.f2 (x).f3.f3 (x).f3.f4 (x).f3.f5 (x).f3.f6 A10 c10 (x).f4 e1 _ (Kd.C_below HX.out HS.out.below) HL.out HAR.out).mono ?_; rintro e w3 ⟨rfl, hb3⟩; have HS3 := Aside0.mk (HS.out.step hb3); clear HS hb3; have HS := HS3; clear HS3))
      (try simp only [Act.put, List.setIfInBounds_toArray, List.set_cons_zero, List.set_cons_succ])
      go_cut [38] (fun v38 wc => v38 = .bool t ∧ Aside0 (Held w wc gb 80 #[.string (x).f0, .int .i64 (x).f1, .string (x).f2, .int .i64 (x).f3.f0, .int .i64 (x).f3.f1, .int .i64 (x).f3.f2, .string (x).f3.f3, .string (x).f3.f4, .int .i64 (x).f3.f5, .int .i64 (x).f3.f6, .slice A10 (x).f4.length c10]))
      case first =>
       by_cases c7 : 0 < n
       ·have AT := HAT.out
        clear HAT
        unfold creelref_EntriesFault.two at AT
        rw [if_pos c7] at AT
        obtain ⟨c, AC, AT⟩ := Option.bind_eq_some_iff.mp AT
        obtain rfl := Option.some.inj AT
        have HAC := Aside0.mk AC
        clear AC AT
        obtain ⟨ad', A10', c10', e', hx', _, _⟩ := elem80 HR0.out (n - 1) (by have := HN1.out; omega)
        cases e'
        have h0 : w.cell? (ad.add ((n - 1) * 11)) = some (.string (rd_T80 l0 ((n - 1 : Nat) : Int)).f0) := hx' 0 _ rfl
        have hc0 := (HS.out.below.cell (World.block_lt_of_cell? w _ h0)).trans h0
        clear hx' h0
        have hw : IntKind.i64.wrap ((n : Int) - 1) = ((n - 1 : Nat) : Int) := by have := HN.out; have := HN1.out; rw [IntWalk.i64_in _ (by omega)]; omega
        have hn' : ((n - 1 : Nat) : Int) < (l0.length : Int) := by have := HN1.out; omega
        have hc1 := blk_cell HS.out.blk 0
        have hg0 : decide ((0 : Int) < (n : Int)) = true := decide_eq_true (by omega)
        have hg1 : (0 < n) = True := eq_true c7
        go_region_held3 (fun w' => w'.cell? (ad.add ((n - 1) * 11)) = some (.string (rd_T80 l0 ((n - 1 : Nat) : Int)).f0) ∧ w'.cell? ⟨gb, 0, none⟩ = some (.string x.f0)) (first | go_keep | (go_split_ands; exact ⟨(hb3.cell (World.block_lt_of_cell? _ _ (by assumption))).trans (by assumption), (hb3.cell (World.block_lt_of_cell? _ _ (by assumption))).trans (by assumption)⟩)) ((go_at_call 48; refine (creelref_PathOrder.calls k1 _ _ c _ HAC.out).mono ?_; rintro e w3 ⟨rfl, hb3⟩))
        go_wp2
        go_meet
        case rel => exact ⟨rfl, ⟨by first | exact HS.out.step hb3 | exact (HS.out.drewN _).step hb3 | exact HS.out.drew.step hb3⟩⟩
       ·have AT := HAT.out
        clear HAT
        unfold creelref_EntriesFault.two at AT
        rw [if_neg c7] at AT
        obtain rfl := Option.some.inj AT
        clear AT
        have hg0 : decide ((0 : Int) < (n : Int)) = false := decide_eq_false (by omega)
        have hg1 : (0 < n) = False := eq_false c7
        go_quiet (fail)
        go_wp2
        go_meet
        case rel => exact ⟨rfl, ⟨by first | exact HS.out | exact HS.out.drewN _ | exact HS.out.drew⟩⟩
      case rest =>
       obtain ⟨rfl, HS⟩ := hcut
       cases t with
       | true =>
        have AS := HQ.out
        have H := HH.out
        rw [if_pos rfl] at AS
        obtain rfl := Option.some.inj AS
        rw [if_neg (by decide)] at H
        obtain rfl := Option.some.inj H
        clear HQ HH H HAT
        go_wp2
        go_ret
        exact ⟨rfl, HS.out.below⟩
       | false =>
        have AS := HQ.out
        rw [if_neg (by decide)] at AS
        obtain ⟨u, AU, AS⟩ := Option.bind_eq_some_iff.mp AS
        have HQ2 := Aside0.mk AS
        obtain ⟨⟨up, last⟩, AP, AU⟩ := Option.bind_eq_some_iff.mp (show ((creelref_PathSplit.f k1 x.f0).bind fun p => (creelref_EntryAt.f k1 (l0.take n) p.1).bind fun j => if p.1.toList = ([] : List UInt8) then some false else if j = (n : Int) then some true else if 0 ≤ j ∧ j < (l0.length : Int) then some ((rd_T80 l0 j).f1 != 2) else none) = some u from AU)
        obtain ⟨j1, AF, AU⟩ := Option.bind_eq_some_iff.mp AU
        have HAP := Aside0.mk AP
        have HAU := Aside0.mk AU
        have HF : Aside0 (∀ W, Below w.heap.size w W → Calls Tryd.prog 52 #[.slice (some ad) n c0, .string up] W fun e w' => e = .returned (.int .i64 j1) ∧ Below W.heap.size W w') := ⟨fun W hb => by
         have hlen : (l0.take n).length = n := by have := HN1.out; simp; omega
         have := creelref_EntryAt.calls k1 (some ad) c0 (l0.take n) up j1 W (Kd.C_below (Kd.C_take HR0.out HN1.out) hb) (by have := HC0.out; have := HN1.out; omega) AF
         rw [hlen] at this
         exact this.mono (by rintro e w' ⟨rfl, nd, rfl⟩; exact ⟨rfl, pw_below_drewN (Below.refl _ _) nd⟩)⟩
        have hnc : (n : Int) ≤ (c0 : Int) := by have := HC0.out; have := HN1.out; omega
        have hnc' : n ≤ c0 := by omega
        clear AS AU AP AF HQ HAT
        have hc0 := blk_cell HS.out.blk 0
        go_upto_region 13 with (first | (go_at_call 49; refine (creelref_PathSplit.calls k1 x.f0 up last _ HAP.out).mono ?_; rintro e w4 ⟨rfl, hb4⟩; have HS4 := Aside0.mk (HS.out.step hb4); clear HS hb4; have HS := HS4; clear HS4) | (go_at_call 52; refine (HF.out _ HS.out.below).mono ?_; rintro e w5 ⟨rfl, hb5⟩; have HS5 := Aside0.mk (HS.out.step hb5); clear HS hb5; have HS := HS5; clear HS5))
        (try simp only [Act.put, List.setIfInBounds_toArray, List.set_cons_zero, List.set_cons_succ])
        go_cut [64] (fun v64 wc => v64 = .bool u ∧ Aside0 (Held w wc gb 80 #[.string (x).f0, .int .i64 (x).f1, .string (x).f2, .int .i64 (x).f3.f0, .int .i64 (x).f3.f1, .int .i64 (x).f3.f2, .string (x).f3.f3, .string (x).f3.f4, .int .i64 (x).f3.f5, .int .i64 (x).f3.f6, .slice A10 (x).f4.length c10]))
        case first =>
         have AU := HAU.out
         by_cases c8 : up.toList = ([] : List UInt8)
         ·rw [if_pos c8] at AU
          obtain rfl := Option.some.inj AU
          have c8a : up.toList.isEmpty = true := by rw [c8]; rfl
          have c8b : (!up.toList.isEmpty) = false := by rw [c8]; rfl
          clear AU c8
          go_wp2
          go_meet
          case rel => exact ⟨rfl, ⟨by first | exact HS.out | exact HS.out.drewN _ | exact HS.out.drew⟩⟩
         ·rw [if_neg c8] at AU
          have c8a : up.toList.isEmpty = false := by cases h : up.toList with | nil => exact absurd h c8 | cons a b => rfl
          have c8b : (!up.toList.isEmpty) = true := by rw [c8a]; rfl
          clear c8
          by_cases c9 : j1 = (n : Int)
          ·rw [if_pos c9] at AU
           obtain rfl := Option.some.inj AU
           have c9a : (j1 == (n : Int)) = true := beq_iff_eq.mpr c9
           clear AU c9
           go_wp2
           go_meet
           case rel => exact ⟨rfl, ⟨by first | exact HS.out | exact HS.out.drewN _ | exact HS.out.drew⟩⟩
          ·rw [if_neg c9] at AU
           by_cases c10 : 0 ≤ j1 ∧ j1 < (l0.length : Int)
           ·rw [if_pos c10] at AU
            obtain rfl := Option.some.inj AU
            have c9a : (j1 == (n : Int)) = false := beq_eq_false_iff_ne.mpr c9
            clear AU c9
            obtain ⟨ad', A10', c10', e', hq0, hq1, hq2, hq3, hq4, hq5, hq6, hq7, hq8, hq9, hq10, _, _⟩ := at_T80 HR0.out j1 c10.1 c10.2
            cases e'
            have hf1 := (HS.out.below.cell (World.block_lt_of_cell? w _ hq1)).trans hq1
            clear hq0 hq1 hq2 hq3 hq4 hq5 hq6 hq7 hq8 hq9 hq10
            have c10a := eq_true c10.1
            have c10b := eq_true c10.2
            clear c10
            go_wp2
            go_meet
            case rel => exact ⟨rfl, ⟨by first | exact HS.out | exact HS.out.drewN _ | exact HS.out.drew⟩⟩
           ·rw [if_neg c10] at AU
            cases AU
        case rest =>
         obtain ⟨rfl, HS⟩ := hcut
         have AS := HQ2.out
         have H := HH.out
         clear HQ2 HH HAU
         cases u with
         | true =>
          rw [if_pos rfl] at AS
          obtain rfl := Option.some.inj AS
          rw [if_neg (by decide)] at H
          obtain rfl := Option.some.inj H
          clear H
          go_wp2
          go_ret
          exact ⟨rfl, HS.out.below⟩
         | false =>
          rw [if_neg (by decide)] at AS
          have hc1 := blk_cell HS.out.blk 1
          have hc2 := blk_cell HS.out.blk 2
          have h40 : (n : Int) < 40 := by have := HLT.out; have := HN.out; omega
          have HH := Aside0.mk H
          clear H
          obtain ⟨v, AV, AS⟩ := Option.bind_eq_some_iff.mp AS
          have HAS := Aside0.mk AS
          obtain ⟨j2, AF2, AV⟩ := Option.bind_eq_some_iff.mp (show ((creelref_EntryAt.f k1 (l0.take n) x.f2).bind fun j => if x.f1 = 4 then (if j = (n : Int) then some true else if 0 ≤ j ∧ j < (l0.length : Int) then (if (rd_T80 l0 j).f1 = 1 then some (!creelref_EntriesFault.meta (rd_T80 l0 j) x) else some true) else none) else some false) = some v from AV)
          have HV := Aside0.mk AV
          have HF2 : Aside0 (∀ W, Held w W gb 80 #[.string (x).f0, .int .i64 (x).f1, .string (x).f2, .int .i64 (x).f3.f0, .int .i64 (x).f3.f1, .int .i64 (x).f3.f2, .string (x).f3.f3, .string (x).f3.f4, .int .i64 (x).f3.f5, .int .i64 (x).f3.f6, .slice A10 (x).f4.length c10] → Calls Tryd.prog 52 #[.slice (some ad) n c0, .string x.f2] W fun e w' => e = .returned (.int .i64 j2) ∧ Below W.heap.size W w') := ⟨fun W hb => by
           have hlen : (l0.take n).length = n := by have := HN1.out; simp; omega
           have := creelref_EntryAt.calls k1 (some ad) c0 (l0.take n) x.f2 j2 W (Kd.C_below (Kd.C_take HR0.out HN1.out) hb.below) (by have := HC0.out; have := HN1.out; omega) AF2
           rw [hlen] at this
           exact this.mono (by rintro e w' ⟨rfl, nd, rfl⟩; exact ⟨rfl, pw_below_drewN (Below.refl _ _) nd⟩)⟩
          clear AS AV AF2
          go_wp2
          go_region_held3 (fun w' => w'.cell? ⟨gb, 2, none⟩ = some (.string x.f2) ∧ Held w w' gb 80 #[.string (x).f0, .int .i64 (x).f1, .string (x).f2, .int .i64 (x).f3.f0, .int .i64 (x).f3.f1, .int .i64 (x).f3.f2, .string (x).f3.f3, .string (x).f3.f4, .int .i64 (x).f3.f5, .int .i64 (x).f3.f6, .slice A10 (x).f4.length c10]) ((go_split_ands; refine ⟨?_, ?_⟩; (first | go_keep | exact (hb5.cell (World.block_lt_of_cell? _ _ (by assumption))).trans (by assumption)); (first | exact HS.out.drew | exact Held.step (by assumption) hb5))) ((go_at_call 52; refine (HF2.out _ (by first | assumption | (go_split_ands; assumption))).mono ?_; rintro e w5 ⟨rfl, hb5⟩; have HS5 : Aside0 (Held w w5 gb 80 #[.string (x).f0, .int .i64 (x).f1, .string (x).f2, .int .i64 (x).f3.f0, .int .i64 (x).f3.f1, .int .i64 (x).f3.f2, .string (x).f3.f3, .string (x).f3.f4, .int .i64 (x).f3.f5, .int .i64 (x).f3.f6, .slice A10 (x).f4.length c10]) := ⟨Held.step (by first | assumption | (go_split_ands; assumption)) hb5⟩))
          clear HS
          have HS := HS5
          clear HS5 hb5 hc1 hc2
          have hc1 := blk_cell HS.out.blk 1
          have AV := HV.out
          clear HV HF HF2
          by_cases d1 : x.f1 = 4
          ·rw [if_pos d1] at AV
           have d1b : (x.f1 == 4) = true := beq_iff_eq.mpr d1
           by_cases d2 : j2 = (n : Int)
           ·rw [if_pos d2] at AV
            obtain rfl := Option.some.inj AV
            have d2b : (j2 == (n : Int)) = true := beq_iff_eq.mpr d2
            clear d1 d2 AV
            have AS := HAS.out
            rw [if_pos (by decide)] at AS
            obtain rfl := Option.some.inj AS
            have H := HH.out
            rw [if_neg (by decide)] at H
            obtain rfl := Option.some.inj H
            clear H AS HH HAS
            go_wp2
            go_quiet (fail)
            go_wp2
            go_ret
            exact ⟨rfl, (HS.out.drewN _).below⟩
           ·rw [if_neg d2] at AV
            by_cases d3 : 0 ≤ j2 ∧ j2 < (l0.length : Int)
            ·rw [if_pos d3] at AV
             have d2b : (j2 == (n : Int)) = false := beq_eq_false_iff_ne.mpr d2
             clear d1 d2
             obtain ⟨ad', Aj, cj, e', hq0, hq1, hq2, hq3, hq4, hq5, hq6, hq7, hq8, hq9, hq10, _, _⟩ := at_T80 HR0.out j2 d3.1 d3.2
             cases e'
             have hf1 := (HS.out.below.cell (World.block_lt_of_cell? w _ hq1)).trans hq1
             have hf3 := (HS.out.below.cell (World.block_lt_of_cell? w _ hq3)).trans hq3
             have hf4 := (HS.out.below.cell (World.block_lt_of_cell? w _ hq4)).trans hq4
             have hf5 := (HS.out.below.cell (World.block_lt_of_cell? w _ hq5)).trans hq5
             have hf6 := (HS.out.below.cell (World.block_lt_of_cell? w _ hq6)).trans hq6
             have hf7 := (HS.out.below.cell (World.block_lt_of_cell? w _ hq7)).trans hq7
             have hf8 := (HS.out.below.cell (World.block_lt_of_cell? w _ hq8)).trans hq8
             have hf9 := (HS.out.below.cell (World.block_lt_of_cell? w _ hq9)).trans hq9
             have hg3 := blk_cell HS.out.blk 3
             have hg4 := blk_cell HS.out.blk 4
             have hg5 := blk_cell HS.out.blk 5
             have hg6 := blk_cell HS.out.blk 6
             have hg7 := blk_cell HS.out.blk 7
             have hg8 := blk_cell HS.out.blk 8
             have hg9 := blk_cell HS.out.blk 9
             clear hq0 hq1 hq2 hq3 hq4 hq5 hq6 hq7 hq8 hq9 hq10
             have d3a := eq_true d3.1
             have d3b := eq_true d3.2
             clear d3
             generalize hy : rd_T80 l0 j2 = y at *
             clear hy
             by_cases d4 : y.f1 = 1
             ·rw [if_pos d4] at AV
              obtain rfl := Option.some.inj AV
              have d4b : (y.f1 != 1) = false := bne_eq_false_iff_eq.mpr d4
              have d4c : (y.f1 == 1) = true := beq_iff_eq.mpr d4
              clear d4 AV
              cases hm : creelref_EntriesFault.meta y x with
              | true =>
               have d5 : ((y.f3).f0 == (x.f3).f0 && ((y.f3).f1 == (x.f3).f1 && ((y.f3).f2 == (x.f3).f2 && ((y.f3).f3.toList == (x.f3).f3.toList && ((y.f3).f4.toList == (x.f3).f4.toList && ((y.f3).f5 == (x.f3).f5 && ((y.f3).f6 == (x.f3).f6))))))) = true := hm
               rw [hm] at HAS
               clear hm
               have AS := HAS.out
               rw [if_neg (by decide)] at AS
               obtain rfl := Option.some.inj AS
               have H := HH.out
               rw [if_pos rfl] at H
               have H' := Aside0.mk H
               clear H AS HH HAS
               go_wp2
               go_quiet (fail)
               go_wp2
               go_roundg k1
               case measure => have := HK1.out; omega
               case rel => exact ⟨n + 1, by go_num, ⟨HLT.out⟩, H', ⟨by have := HK1.out; omega⟩, ⟨(HS.out.drewN _).below⟩⟩
              | false =>
               have d5 : ((y.f3).f0 == (x.f3).f0 && ((y.f3).f1 == (x.f3).f1 && ((y.f3).f2 == (x.f3).f2 && ((y.f3).f3.toList == (x.f3).f3.toList && ((y.f3).f4.toList == (x.f3).f4.toList && ((y.f3).f5 == (x.f3).f5 && ((y.f3).f6 == (x.f3).f6))))))) = false := hm
               rw [hm] at HAS
               clear hm
               have AS := HAS.out
               rw [if_pos (by decide)] at AS
               obtain rfl := Option.some.inj AS
               have H := HH.out
               rw [if_neg (by decide)] at H
               obtain rfl := Option.some.inj H
               clear H AS HH HAS
               go_wp2
               go_quiet (fail)
               go_wp2
               go_ret
               exact ⟨rfl, (HS.out.drewN _).below⟩
             ·rw [if_neg d4] at AV
              obtain rfl := Option.some.inj AV
              have d4b : (y.f1 != 1) = true := bne_iff_ne.mpr d4
              have d4c : (y.f1 == 1) = false := beq_eq_false_iff_ne.mpr d4
              clear d4 AV
              have AS := HAS.out
              rw [if_pos (by decide)] at AS
              obtain rfl := Option.some.inj AS
              have H := HH.out
              rw [if_neg (by decide)] at H
              obtain rfl := Option.some.inj H
              clear H AS HH HAS
              go_wp2
              go_quiet (fail)
              go_wp2
              go_ret
              exact ⟨rfl, (HS.out.drewN _).below⟩
            ·rw [if_neg d3] at AV
             cases AV
          ·rw [if_neg d1] at AV
           obtain rfl := Option.some.inj AV
           have d1b : (x.f1 == 4) = false := beq_eq_false_iff_ne.mpr d1
           clear d1 AV
           have AS := HAS.out
           rw [if_neg (by decide)] at AS
           obtain rfl := Option.some.inj AS
           have H := HH.out
           rw [if_pos rfl] at H
           have H' := Aside0.mk H
           clear H AS HH HAS
           go_wp2
           go_quiet (fail)
           go_wp2
           go_roundg k1
           case measure => have := HK1.out; omega
           case rel => exact ⟨n + 1, by go_num, ⟨HLT.out⟩, H', ⟨by have := HK1.out; omega⟩, ⟨(HS.out.drewN _).below⟩⟩
     ·rw [if_neg c6] at AS
      obtain rfl := Option.some.inj AS
      rw [if_neg c6] at H
      obtain rfl := Option.some.inj H
      have c6a : (e1 == 0) = false := beq_eq_false_iff_ne.mpr c6
      have c6b : (e1 != 0) = true := bne_iff_ne.mpr c6
      clear c6 H
      go_wp2_with (first | ((with_reducible refine gate_dst (N := 19) rfl ?_); refine load_event (ad := ad.add (n * 11)) rfl rfl hu80 rfl rfl (cs := [.string (x).f0, .int .i64 (x).f1, .string (x).f2, .int .i64 (x).f3.f0, .int .i64 (x).f3.f1, .int .i64 (x).f3.f2, .string (x).f3.f3, .string (x).f3.f4, .int .i64 (x).f3.f5, .int .i64 (x).f3.f6, .slice A10 (x).f4.length c10]) sz80 (fun j v hv => (HB.out.cell (World.block_lt_of_cell? w _ (HXC.out j v hv))).trans (HXC.out j v hv)) ?_) | ((with_reducible refine gate_dst (N := 4) rfl ?_); refine box_event ?hg (N := 4) ?hd (cs := #[.string (⟨#[]⟩ : ByteArray), .int .i64 0, .string (⟨#[]⟩ : ByteArray), .int .i64 0, .int .i64 0, .int .i64 0, .string (⟨#[]⟩ : ByteArray), .string (⟨#[]⟩ : ByteArray), .int .i64 0, .int .i64 0, .slice none 0 0]) (t := 80) ?hr ?_; (case hd => rfl); (case hg => rfl); (case hr => first | (go_simp; done) | (go_simp; rfl)); intro gb hg w2 hbox hb2; have HS := Aside0.mk (Held.box HB.out hg hbox hb2); clear hg hbox hb2 HB) | ((with_reducible refine gate_store (t := 80) (p := 4) rfl ?_); refine put_event rfl rfl rfl rfl rfl HS.out.blk sz80 rfl rfl ?_; intro w3 hk3 hg3; have HS3 := Aside0.mk (HS.out.put hk3 hg3); clear HS hk3 hg3; have HS := HS3; clear HS3) | ((with_reducible refine gate_dst (N := 20) rfl ?_); refine load_event rfl rfl hu80 rfl rfl (cs := [.string (x).f0, .int .i64 (x).f1, .string (x).f2, .int .i64 (x).f3.f0, .int .i64 (x).f3.f1, .int .i64 (x).f3.f2, .string (x).f3.f3, .string (x).f3.f4, .int .i64 (x).f3.f5, .int .i64 (x).f3.f6, .slice A10 (x).f4.length c10]) sz80 (cells_of_blk HS.out.blk) ?_) | (go_at_call 51; refine (creelref_EntryFault.calls k1 (x).f0 (x).f1 (x).f2 (x).f3.f0 (x).f3.f1 (x).f3.f2 (x).f3.f3 (x).f3.f4 (x).f3.f5 (x).f3.f6 A10 c10 (x).f4 e1 _ (Kd.C_below HX.out HS.out.below) HL.out HAR.out).mono ?_; rintro e w3 ⟨rfl, hb3⟩; have HS3 := Aside0.mk (HS.out.step hb3); clear HS hb3; have HS := HS3; clear HS3))
      go_ret
      exact ⟨rfl, HS.out.below⟩
    ·rw [if_neg c3] at H
     obtain rfl := Option.some.inj H
     have c3b : decide ((n : Int) < (l0.length : Int)) = false := decide_eq_false (by omega)
     have c3c : decide (n < l0.length) = false := decide_eq_false c3
     have c3d := eq_false c3
     clear c3 H
     go_wp2
     go_ret
     exact ⟨rfl, HB.out⟩


end Go.Proofs.YtgkofpjeiogafaaDoor.All
end
section
namespace Go.Proofs.YtgkofpjeiogafaaDoor.All
open Go.RowKit Go.Proofs.YtgkofpjeiogafaaDoorW.PrintWords Go.Proofs.YtgkofpjeiogafaaDoorW.PrintLast Go.Proofs.YtgkofpjeiogafaaDoorW.PrintMore
open Go.Proofs.YtgkofpjeiogafaaDoorW.Mine
attribute [local go_sem] gtr_string leq_string geq_string
attribute [local go_sem] max2_int min2_int max_two min_two max_three min_three max_four min_four   -- for this text's walks alone
set_option linter.unusedVariables false
set_option linter.unusedSimpArgs false

/-! ### creelref_FaultFirst: function 19 -/
def creelref_FaultFirst.l0 : Nat → List (S80) → Int → List (S40) → Int → Int → ByteArray → Int → Option (ByteArray × Int × Int × Int)
 | 0, _, _, _, _, _, _, _ => none
 | k + 1, x0, x9, x29, x30, x31, x105000, x105001 => if x31 < x30 then (if 0 ≤ x31 then (if x31 < (x29.length : Int) then ((creelref_EntryAt.f k x0 ((rd_T40 x29 x31).f0)).bind fun t107 => (if t107 < x9 then (if 0 ≤ t107 then (if t107 < (x0.length : Int) then (if ((rd_T80 x0 t107).f1) = 1 then (creelref_FaultFirst.l0 k x0 t107 x29 x30 (wrap64 (x31 + 1)) ((rd_T40 x29 x31).f0) ((rd_T40 x29 x31).f1)) else (creelref_FaultFirst.l0 k x0 x9 x29 x30 (wrap64 (x31 + 1)) x105000 x105001)) else (none)) else (none)) else (creelref_FaultFirst.l0 k x0 x9 x29 x30 (wrap64 (x31 + 1)) x105000 x105001))) else (none)) else (none)) else (if x9 = (x0.length : Int) then (some ((⟨#[]⟩ : ByteArray), 0, 0, 5)) else (some (x105000, x105001, x9, 0)))
def creelref_FaultFirst.f (k : Nat) (l0 : List (S80)) (l1 : List (S40)) : Option (ByteArray × Int × Int × Int) := (creelref_EntriesFault.f k l0).bind fun t102 => (if t102 = 0 then ((creelref_FaultsFault.f k l1).bind fun t103 => (if t103 = 0 then (creelref_FaultFirst.l0 k l0 (l0.length : Int) l1 (l1.length : Int) 0 (⟨#[]⟩ : ByteArray) 0) else (some ((⟨#[]⟩ : ByteArray), 0, 0, t103)))) else (some ((⟨#[]⟩ : ByteArray), 0, 0, t102)))
theorem creelref_FaultFirst.mono_l : ∀ k, (∀ y0 y1 y2 y3 y4 y5 y6, LeO (creelref_FaultFirst.l0 k y0 y1 y2 y3 y4 y5 y6) (creelref_FaultFirst.l0 (k + 1) y0 y1 y2 y3 y4 y5 y6))
 | 0 => fun _ _ _ _ _ _ _ r h => by simp [creelref_FaultFirst.l0] at h
 | k + 1 => by
  have ih0 := creelref_FaultFirst.mono_l k
  ·intro y0 y1 y2 y3 y4 y5 y6
   unfold creelref_FaultFirst.l0
   repeat' first
   | (with_reducible exact ih0 _ _ _ _ _ _ _)
   | (with_reducible exact creelref_EntriesFault.mono _ _)
   | (with_reducible exact creelref_EntryAt.mono _ _ _)
   | (with_reducible exact creelref_FaultsFault.mono _ _)
   | (with_reducible exact LeO.refl _)
   | (with_reducible exact LeO.none _)
   | (with_reducible refine LeO.ite ?_ ?_)
   | (with_reducible refine LeO.bind ?_ (fun _ => ?_))
   | exact ih0 _ _ _ _ _ _ _
   | exact creelref_EntriesFault.mono _ _
   | exact creelref_EntryAt.mono _ _ _
   | exact creelref_FaultsFault.mono _ _
   | exact LeO.none _
   | refine LeO.ite ?_ ?_
   | refine LeO.bind ?_ (fun _ => ?_)
theorem creelref_FaultFirst.mono : ∀ a0 a1 k, LeO (creelref_FaultFirst.f k a0 a1) (creelref_FaultFirst.f (k + 1) a0 a1) := by
 intro a0 a1 k
 have ih0 := creelref_FaultFirst.mono_l k
 unfold creelref_FaultFirst.f
 repeat' first
   | (with_reducible exact ih0 _ _ _ _ _ _ _)
   | (with_reducible exact creelref_EntriesFault.mono _ _)
   | (with_reducible exact creelref_EntryAt.mono _ _ _)
   | (with_reducible exact creelref_FaultsFault.mono _ _)
   | (with_reducible exact LeO.refl _)
   | (with_reducible exact LeO.none _)
   | (with_reducible refine LeO.ite ?_ ?_)
   | (with_reducible refine LeO.bind ?_ (fun _ => ?_))
   | exact ih0 _ _ _ _ _ _ _
   | exact creelref_EntriesFault.mono _ _
   | exact creelref_EntryAt.mono _ _ _
   | exact creelref_FaultsFault.mono _ _
   | exact LeO.none _
   | refine LeO.ite ?_ ?_
   | refine LeO.bind ?_ (fun _ => ?_)
set_option maxHeartbeats 8000000 in
set_option maxRecDepth 100000 in
theorem creelref_FaultFirst.calls (k : Nat) (A0 : Option Addr) (c0 : Nat) (l0 : List (S80)) (A1 : Option Addr) (c1 : Nat) (l1 : List (S40)) (r1 : ByteArray) (r2 : Int) (r3 : Int) (r4 : Int) (w : World) (hr0 : Kd.C k80 w A0 l0.length l0) (hc0 : l0.length ≤ c0) (hr1 : Kd.C k40 w A1 l1.length l1) (hc1 : l1.length ≤ c1) (h : creelref_FaultFirst.f k l0 l1 = some (r1, r2, r3, r4)) :
  Calls Tryd.prog 19 #[.slice A0 l0.length c0, .slice A1 l1.length c1] w fun e w' => e = .returned (.tuple #[.agg #[.string r1, .int .i64 r2], .int .i64 r3, .int .i64 r4]) ∧ Below w.heap.size w w' := by
 have hu40 := Tryd.underlying40
 have HR0 := Aside0.mk hr0
 have HC0 := Aside0.mk hc0
 clear hr0 hc0
 have HR1 := Aside0.mk hr1
 have HC1 := Aside0.mk hc1
 clear hr1 hc1
 have HB := Aside0.mk (Below.refl w.heap.size w)
 have H : ((creelref_EntriesFault.f k l0).bind fun t102 => (if t102 = 0 then ((creelref_FaultsFault.f k l1).bind fun t103 => (if t103 = 0 then (creelref_FaultFirst.l0 k l0 (l0.length : Int) l1 (l1.length : Int) 0 (⟨#[]⟩ : ByteArray) 0) else (some ((⟨#[]⟩ : ByteArray), 0, 0, t103)))) else (some ((⟨#[]⟩ : ByteArray), 0, 0, t102)))) = some (r1, r2, r3, r4) := h
 clear h
 replace H := Option.bind_eq_some_iff.mp H
 obtain ⟨t102, A30, H⟩ := H
 replace H : (if t102 = 0 then ((creelref_FaultsFault.f k l1).bind fun t103 => (if t103 = 0 then (creelref_FaultFirst.l0 k l0 (l0.length : Int) l1 (l1.length : Int) 0 (⟨#[]⟩ : ByteArray) 0) else (some ((⟨#[]⟩ : ByteArray), 0, 0, t103)))) else (some ((⟨#[]⟩ : ByteArray), 0, 0, t102))) = some (r1, r2, r3, r4) := H
 have A3 := Aside0.mk A30
 clear A30
 by_cases c4 : t102 = 0
 ·rw [if_pos c4] at H
  have c4b0 : (t102 == 0) = true := beq_iff_eq.mpr c4
  have c4b1 : (t102 != 0) = false := bne_eq_false_iff_eq.mpr c4
  clear c4
  replace H := Option.bind_eq_some_iff.mp H
  obtain ⟨t103, A50, H⟩ := H
  replace H : (if t103 = 0 then (creelref_FaultFirst.l0 k l0 (l0.length : Int) l1 (l1.length : Int) 0 (⟨#[]⟩ : ByteArray) 0) else (some ((⟨#[]⟩ : ByteArray), 0, 0, t103))) = some (r1, r2, r3, r4) := H
  have A5 := Aside0.mk A50
  clear A50
  by_cases c6 : t103 = 0
  ·rw [if_pos c6] at H
   have c6b0 : (t103 == 0) = true := beq_iff_eq.mpr c6
   have c6b1 : (t103 != 0) = false := bne_eq_false_iff_eq.mpr c6
   clear c6
   have H' := Aside0.mk H
   clear H
   go_enter Tryd.func19, Tryd.ntmps19
   go_wp2_with (first | ((with_reducible refine gate_dst (N := 4) rfl ?_); refine box_event ?hg (N := 4) ?hd (cs := #[.string (⟨#[]⟩ : ByteArray), .int .i64 0]) (t := 40) ?hr ?_; (case hd => rfl); (case hg => rfl); (case hr => first | (go_simp; done) | (go_simp; rfl)); intro gb101 hg w7 hbox hb; have n0_ := Aside0.mk (below_step (by repeat (first | (with_reducible first | exact HB.out | apply below_alloc | apply pw_below_drewN | apply below_drew1) | exact HB.out)) hb); have n1_ := Aside0.mk (hbox); have n2_ := Aside0.mk ((by rw [hg]; exact (below_size (by repeat (first | (with_reducible first | exact HB.out | apply below_alloc | apply pw_below_drewN | apply below_drew1) | exact HB.out))) : w.heap.size ≤ gb101)); have n3_ := Aside0.mk ((by rw [hg]; exact (below_size (by repeat (first | (with_reducible first | exact HB.out | apply below_alloc | apply pw_below_drewN | apply below_drew1) | exact HB.out))) : w.heap.size ≤ gb101)); clear HB; have HB := n0_; have BK101 := n1_; have GW101 := n2_; have GE101 := n3_; clear n0_ n1_ n2_ n3_; clear hb hbox hg) | ((with_reducible refine gate_callee (f := 15) rfl ?_); refine goesL_ (some 15) rfl rfl Tryd.func15 (by kernel_rfl) rfl #[.slice A0 l0.length c0] rfl (by (try simp only [List.map_toArray, List.map_cons, List.map_nil]); first | done | rfl | (simp only [List.length_drop, List.length_take]; rfl)) ?_; (with_reducible refine (creelref_EntriesFault.calls k _ _ l0 t102 _ ?side1 ?side2 A3.out).mono ?_); (case side1 => repeat (first | exact (Kd.C_below HR0.out HB.out) | (with_reducible refine Kd.C_alloc ?_ _) | (with_reducible refine Kd.C_drewN ?_ _) | (with_reducible refine Kd.C_drew ?_))); (case side2 => exact HC0.out); rintro e w8 ⟨rfl, hb⟩; refine ⟨_, rfl, ?_⟩; have n0_ := Aside0.mk (blk_below (g := gb101) (o := .cells #[.string (⟨#[]⟩ : ByteArray), .int .i64 0] 40 (0, 0)) (by (with_reducible repeat (first | refine blk_drewN ?_ _ | refine blk_drew ?_ | refine blk_alloc ?_ _)); exact BK101.out) hb); have n1_ := Aside0.mk (below_step (by repeat (first | (with_reducible first | exact HB.out | apply below_alloc | apply pw_below_drewN | apply below_drew1 | refine below_set ?_ GE101.out) | exact HB.out)) hb); clear BK101; clear HB; have BK101 := n0_; have HB := n1_; clear n0_ n1_; (try clear hb); (try clear hb2); (try clear hk); (try clear hi)) | ((with_reducible refine gate_callee (f := 18) rfl ?_); refine goesL_ (some 21) rfl rfl Tryd.func18 (by kernel_rfl) rfl #[.slice A1 l1.length c1] rfl (by (try simp only [List.map_toArray, List.map_cons, List.map_nil]); first | done | rfl | (simp only [List.length_drop, List.length_take]; rfl)) ?_; (with_reducible refine (creelref_FaultsFault.calls k _ _ l1 t103 _ ?side1 ?side2 A5.out).mono ?_); (case side1 => repeat (first | exact (Kd.C_below HR1.out HB.out) | (with_reducible refine Kd.C_alloc ?_ _) | (with_reducible refine Kd.C_drewN ?_ _) | (with_reducible refine Kd.C_drew ?_))); (case side2 => exact HC1.out); rintro e w9 ⟨rfl, hb⟩; refine ⟨_, rfl, ?_⟩; have n0_ := Aside0.mk (blk_below (g := gb101) (o := .cells #[.string (⟨#[]⟩ : ByteArray), .int .i64 0] 40 (0, 0)) (by (with_reducible repeat (first | refine blk_drewN ?_ _ | refine blk_drew ?_ | refine blk_alloc ?_ _)); exact BK101.out) hb); have n1_ := Aside0.mk (below_step (by repeat (first | (with_reducible first | exact HB.out | apply below_alloc | apply pw_below_drewN | apply below_drew1 | refine below_set ?_ GE101.out) | exact HB.out)) hb); clear BK101; clear HB; have BK101 := n0_; have HB := n1_; clear n0_ n1_; (try clear hb); (try clear hb2); (try clear hk); (try clear hi)) | ((with_reducible refine gate_dst (N := 10) rfl ?_); refine box_event ?hg (N := 10) ?hd (cs := #[.string (⟨#[]⟩ : ByteArray), .int .i64 0]) (t := 40) ?hr ?_; (case hd => rfl); (case hg => rfl); (case hr => first | (go_simp; done) | (go_simp; rfl)); intro gb104 hg w10 hbox hb; have n0_ := Aside0.mk (blk_below (g := gb101) (o := .cells #[.string (⟨#[]⟩ : ByteArray), .int .i64 0] 40 (0, 0)) (by (with_reducible repeat (first | refine blk_drewN ?_ _ | refine blk_drew ?_ | refine blk_alloc ?_ _)); exact BK101.out) hb); have n1_ := Aside0.mk (below_step (by repeat (first | (with_reducible first | exact HB.out | apply below_alloc | apply pw_below_drewN | apply below_drew1 | refine below_set ?_ GE101.out) | exact HB.out)) hb); have n2_ := Aside0.mk (hbox); have n3_ := Aside0.mk ((by rw [hg]; exact (below_size (by repeat (first | (with_reducible first | exact HB.out | apply below_alloc | apply pw_below_drewN | apply below_drew1 | refine below_set ?_ GE101.out) | exact HB.out))) : w.heap.size ≤ gb104)); have n4_ := Aside0.mk ((by rw [hg]; exact (below_size (by repeat (first | (with_reducible first | exact HB.out | apply below_alloc | apply pw_below_drewN | apply below_drew1 | refine below_set ?_ GE101.out) | exact HB.out))) : w.heap.size ≤ gb104)); have n5_ := Aside0.mk ((by rw [hg]; exact Nat.ne_of_lt (blk_lt (g := gb101) (o := .cells #[.string (⟨#[]⟩ : ByteArray), .int .i64 0] 40 (0, 0)) (by (with_reducible repeat (first | refine blk_drewN ?_ _ | refine blk_drew ?_ | refine blk_alloc ?_ _)); exact BK101.out)) : gb101 ≠ gb104)); have n6_ := Aside0.mk ((by rw [hg]; exact Nat.ne_of_gt (blk_lt (g := gb101) (o := .cells #[.string (⟨#[]⟩ : ByteArray), .int .i64 0] 40 (0, 0)) (by (with_reducible repeat (first | refine blk_drewN ?_ _ | refine blk_drew ?_ | refine blk_alloc ?_ _)); exact BK101.out)) : gb104 ≠ gb101)); clear BK101; clear HB; have BK101 := n0_; have HB := n1_; have BK104 := n2_; have GW104 := n3_; have GE104 := n4_; have NB101_104 := n5_; have NB104_101 := n6_; clear n0_ n1_ n2_ n3_ n4_ n5_ n6_; clear hb hbox hg; have hnb11 := NB104_101.out; have hnc11 := NB101_104.out; have hcz12_0 : w10.cell? ⟨gb104, 0, none⟩ = some (.string (⟨#[]⟩ : ByteArray)) := (blk_cell BK104.out 0).trans rfl; have hcz12_1 : w10.cell? ⟨gb104, 1, none⟩ = some (.int .i64 0) := (blk_cell BK104.out 1).trans rfl; have hfz12_0 := blk_frozen BK104.out 0; have hfz12_1 := blk_frozen BK104.out 1))
   go_loopg [9, 31] k (fun kq v9 v31 w' => ∃ (x9_1 : Int) (x31_1 : Int) (x105000_1 : ByteArray) (x105001_1 : Int), v9 = .int .i64 x9_1 ∧ v31 = .int .i64 x31_1 ∧ Aside0 (creelref_FaultFirst.l0 kq l0 x9_1 l1 (l1.length : Int) x31_1 x105000_1 x105001_1 = some (r1, r2, r3, r4)) ∧ Aside0 (kq ≤ k) ∧ Aside0 (w'.heap[gb101]? = some (.cells #[.string (⟨#[]⟩ : ByteArray), .int .i64 0] 40 (0, 0))) ∧ Aside0 (w'.heap[gb104]? = some (.cells #[.string x105000_1, .int .i64 x105001_1] 40 (0, 0))) ∧ Aside0 (Below w.heap.size w w'))
   case atStart => exact ⟨((l0.length : Int)), (0), ((⟨#[]⟩ : ByteArray)), (0), (by first | rfl | (simp; done) | (simp [*]; done)), (by first | rfl | (simp; done) | (simp [*]; done)), H', ⟨Nat.le_refl _⟩, ⟨by (with_reducible repeat (first | refine blk_drewN ?_ _ | refine blk_drew ?_ | refine blk_alloc ?_ _)); refine blk_far ?_ NB101_104.out _; (with_reducible repeat (first | refine blk_drewN ?_ _ | refine blk_drew ?_ | refine blk_alloc ?_ _)); refine blk_far ?_ NB101_104.out _; (with_reducible repeat (first | refine blk_drewN ?_ _ | refine blk_drew ?_ | refine blk_alloc ?_ _)); exact BK101.out⟩, ⟨by (with_reducible repeat (first | refine blk_drewN ?_ _ | refine blk_drew ?_ | refine blk_alloc ?_ _)); refine blk_put (cs := #[.string (⟨#[]⟩ : ByteArray), .int .i64 0]) ?_ 1 _ rfl; (with_reducible repeat (first | refine blk_drewN ?_ _ | refine blk_drew ?_ | refine blk_alloc ?_ _)); refine blk_put (cs := #[.string (⟨#[]⟩ : ByteArray), .int .i64 0]) ?_ 0 _ rfl; (with_reducible repeat (first | refine blk_drewN ?_ _ | refine blk_drew ?_ | refine blk_alloc ?_ _)); exact BK104.out⟩, ⟨by repeat (first | (with_reducible first | exact HB.out | apply below_alloc | apply pw_below_drewN | apply below_drew1 | refine below_set ?_ GE101.out | refine below_set ?_ GE104.out) | exact HB.out)⟩⟩
   case round =>
    clear H'
    try clear c1
    try clear p2
    try clear c4
    try clear c4b0
    try clear c4b1
    try clear c6
    try clear c6b0
    try clear c6b1
    try clear c11
    try clear hcz12_0
    try clear hcz12_1
    try clear hfz12_0
    try clear hfz12_1
    obtain ⟨x9_1, x31_1, x105000_1, x105001_1, rfl, rfl, HA, HK1, BK101, BK104, HB⟩ := hrel
    cases gk with
    | zero => exact absurd HA.out (by simp [creelref_FaultFirst.l0])
    | succ k1 =>
     have H := HA.out
     clear HA
     simp only [creelref_FaultFirst.l0] at H
     by_cases c13 : x31_1 < (l1.length : Int)
     ·rw [if_pos c13] at H
      have c13b0 : decide (x31_1 < (l1.length : Int)) = true := decide_eq_true c13
      clear c13
      by_cases c14 : 0 ≤ x31_1
      ·rw [if_pos c14] at H
       have c14b0 : decide (0 ≤ x31_1) = true := decide_eq_true c14
       clear c14
       by_cases c15 : x31_1 < (l1.length : Int)
       ·rw [if_pos c15] at H
        have c15b0 : decide (x31_1 < (l1.length : Int)) = true := decide_eq_true c15
        clear c15
        replace H := Option.bind_eq_some_iff.mp H
        obtain ⟨t107, A160, H⟩ := H
        replace H : (if t107 < x9_1 then (if 0 ≤ t107 then (if t107 < (l0.length : Int) then (if ((rd_T80 l0 t107).f1) = 1 then (creelref_FaultFirst.l0 k1 l0 t107 l1 (l1.length : Int) (wrap64 (x31_1 + 1)) ((rd_T40 l1 x31_1).f0) ((rd_T40 l1 x31_1).f1)) else (creelref_FaultFirst.l0 k1 l0 x9_1 l1 (l1.length : Int) (wrap64 (x31_1 + 1)) x105000_1 x105001_1)) else (none)) else (none)) else (creelref_FaultFirst.l0 k1 l0 x9_1 l1 (l1.length : Int) (wrap64 (x31_1 + 1)) x105000_1 x105001_1)) = some (r1, r2, r3, r4) := H
        have A16 := Aside0.mk A160
        clear A160
        by_cases c17 : t107 < x9_1
        ·rw [if_pos c17] at H
         have c17b0 : decide (t107 < x9_1) = true := decide_eq_true c17
         clear c17
         by_cases c18 : 0 ≤ t107
         ·rw [if_pos c18] at H
          have c18b0 : decide (0 ≤ t107) = true := decide_eq_true c18
          clear c18
          by_cases c19 : t107 < (l0.length : Int)
          ·rw [if_pos c19] at H
           have c19b0 : decide (t107 < (l0.length : Int)) = true := decide_eq_true c19
           clear c19
           by_cases c20 : ((rd_T80 l0 t107).f1) = 1
           ·rw [if_pos c20] at H
            have c20b0 : (((rd_T80 l0 t107).f1) == 1) = true := beq_iff_eq.mpr c20
            have c20b1 : (((rd_T80 l0 t107).f1) != 1) = false := bne_eq_false_iff_eq.mpr c20
            clear c20
            have H' := Aside0.mk H
            clear H
            have p105 : 0 ≤ (x31_1 : Int) := of_decide_eq_true (by first | (with_reducible assumption) | assumption)
            have q105 : x31_1 < (l1.length : Int) := of_decide_eq_true (by first | (with_reducible assumption) | assumption)
            obtain ⟨ad105, e105, hx105_0, hx105_1⟩ := at_T40 HR1.out x31_1 p105 q105
            cases e105
            replace hx105_0 := (HB.out.cell (World.block_lt_of_cell? w _ hx105_0)).trans hx105_0
            replace hx105_1 := (HB.out.cell (World.block_lt_of_cell? w _ hx105_1)).trans hx105_1
            replace p105 := eq_true p105
            replace q105 := eq_true q105
            go_wp2_with (first | ((with_reducible refine gate_dst (N := 12) rfl ?_); refine box_event ?hg (N := 12) ?hd (cs := #[.string (⟨#[]⟩ : ByteArray), .int .i64 0]) (t := 40) ?hr ?_; (case hd => rfl); (case hg => rfl); (case hr => first | (go_simp; done) | (go_simp; rfl)); intro gb106 hg w21 hbox hb; have n0_ := Aside0.mk (blk_below (g := gb101) (o := .cells #[.string (⟨#[]⟩ : ByteArray), .int .i64 0] 40 (0, 0)) (by (with_reducible repeat (first | refine blk_drewN ?_ _ | refine blk_drew ?_ | refine blk_alloc ?_ _)); exact BK101.out) hb); have n1_ := Aside0.mk (blk_below (g := gb104) (o := .cells #[.string x105000_1, .int .i64 x105001_1] 40 (0, 0)) (by (with_reducible repeat (first | refine blk_drewN ?_ _ | refine blk_drew ?_ | refine blk_alloc ?_ _)); exact BK104.out) hb); have n2_ := Aside0.mk (below_step (by repeat (first | (with_reducible first | exact HB.out | apply below_alloc | apply pw_below_drewN | apply below_drew1 | refine below_set ?_ GE101.out | refine below_set ?_ GE104.out) | exact HB.out)) hb); have n3_ := Aside0.mk (hbox); have n4_ := Aside0.mk ((by rw [hg]; exact (below_size (by repeat (first | (with_reducible first | exact HB.out | apply below_alloc | apply pw_below_drewN | apply below_drew1 | refine below_set ?_ GE101.out | refine below_set ?_ GE104.out) | exact HB.out))) : w.heap.size ≤ gb106)); have n5_ := Aside0.mk ((by rw [hg]; exact (below_size (by repeat (first | (with_reducible first | exact HB.out | apply below_alloc | apply pw_below_drewN | apply below_drew1 | refine below_set ?_ GE101.out | refine below_set ?_ GE104.out) | exact HB.out))) : w.heap.size ≤ gb106)); have n6_ := Aside0.mk ((by rw [hg]; exact Nat.ne_of_lt (blk_lt (g := gb101) (o := .cells #[.string (⟨#[]⟩ : ByteArray), .int .i64 0] 40 (0, 0)) (by (with_reducible repeat (first | refine blk_drewN ?_ _ | refine blk_drew ?_ | refine blk_alloc ?_ _)); exact BK101.out)) : gb101 ≠ gb106)); have n7_ := Aside0.mk ((by rw [hg]; exact Nat.ne_of_gt (blk_lt (g := gb101) (o := .cells #[.string (⟨#[]⟩ : ByteArray), .int .i64 0] 40 (0, 0)) (by (with_reducible repeat (first | refine blk_drewN ?_ _ | refine blk_drew ?_ | refine blk_alloc ?_ _)); exact BK101.out)) : gb106 ≠ gb101)); have n8_ := Aside0.mk ((by rw [hg]; exact Nat.ne_of_lt (blk_lt (g := gb104) (o := .cells #[.string x105000_1, .int .i64 x105001_1] 40 (0, 0)) (by (with_reducible repeat (first | refine blk_drewN ?_ _ | refine blk_drew ?_ | refine blk_alloc ?_ _)); exact BK104.out)) : gb104 ≠ gb106)); have n9_ := Aside0.mk ((by rw [hg]; exact Nat.ne_of_gt (blk_lt (g := gb104) (o := .cells #[.string x105000_1, .int .i64 x105001_1] 40 (0, 0)) (by (with_reducible repeat (first | refine blk_drewN ?_ _ | refine blk_drew ?_ | refine blk_alloc ?_ _)); exact BK104.out)) : gb106 ≠ gb104)); clear BK101; clear BK104; clear HB; have BK101 := n0_; have BK104 := n1_; have HB := n2_; have BK106 := n3_; have GW106 := n4_; have GE106 := n5_; have NB101_106 := n6_; have NB106_101 := n7_; have NB104_106 := n8_; have NB106_104 := n9_; clear n0_ n1_ n2_ n3_ n4_ n5_ n6_ n7_ n8_ n9_; clear hb hbox hg; have hnb22 := NB106_101.out; have hnc22 := NB101_106.out; have hnb23 := NB106_104.out; have hnc23 := NB104_106.out; have hcz24_0 : w21.cell? ⟨gb106, 0, none⟩ = some (.string (⟨#[]⟩ : ByteArray)) := (blk_cell BK106.out 0).trans rfl; have hcz24_1 : w21.cell? ⟨gb106, 1, none⟩ = some (.int .i64 0) := (blk_cell BK106.out 1).trans rfl; have hfz24_0 := blk_frozen BK106.out 0; have hfz24_1 := blk_frozen BK106.out 1) | ((with_reducible refine gate_callee (f := 52) rfl ?_); refine goesL_ (some 38) rfl rfl Tryd.func52 (by kernel_rfl) rfl #[.slice A0 l0.length c0, .string ((rd_T40 l1 x31_1).f0)] rfl (by (try simp only [List.map_toArray, List.map_cons, List.map_nil]); first | done | rfl | (simp only [List.length_drop, List.length_take]; rfl)) ?_; (with_reducible refine (creelref_EntryAt.calls k1 _ _ l0 ((rd_T40 l1 x31_1).f0) t107 _ ?side1 ?side2 A16.out).mono ?_); (case side1 => exact Kd.C_below HR0.out (by repeat (first | (with_reducible first | exact HB.out | apply below_alloc | apply pw_below_drewN | apply below_drew1 | refine below_set ?_ GE101.out | refine below_set ?_ GE104.out | refine below_set ?_ GE106.out) | exact HB.out))); (case side2 => exact HC0.out); rintro e w' ⟨rfl, ⟨nd, rfl⟩⟩; refine ⟨_, rfl, ?_⟩; have p108 : 0 ≤ (t107 : Int) := of_decide_eq_true (by first | (with_reducible assumption) | assumption); have q108 : t107 < (l0.length : Int) := of_decide_eq_true (by first | (with_reducible assumption) | assumption); obtain ⟨ad108, A108_10, c108_10, e108, hx108_0, hx108_1, hx108_2, hx108_3, hx108_4, hx108_5, hx108_6, hx108_7, hx108_8, hx108_9, hx108_10, hl108_10, hi108_10⟩ := at_T80 HR0.out t107 p108 q108; cases e108; have hn108_0 : ad108.block ≠ gb106 := Nat.ne_of_lt (Nat.lt_of_lt_of_le (by have := World.block_lt_of_cell? _ _ hx108_0; first | rwa [add_block] at this | exact this) GW106.out); have hn108_1 : ad108.block ≠ gb106 := Nat.ne_of_lt (Nat.lt_of_lt_of_le (by have := World.block_lt_of_cell? _ _ hx108_0; first | rwa [add_block] at this | exact this) GW106.out); replace hx108_0 := (HB.out.cell (World.block_lt_of_cell? w _ hx108_0)).trans hx108_0; replace hx108_1 := (HB.out.cell (World.block_lt_of_cell? w _ hx108_1)).trans hx108_1; replace hx108_2 := (HB.out.cell (World.block_lt_of_cell? w _ hx108_2)).trans hx108_2; replace hx108_3 := (HB.out.cell (World.block_lt_of_cell? w _ hx108_3)).trans hx108_3; replace hx108_4 := (HB.out.cell (World.block_lt_of_cell? w _ hx108_4)).trans hx108_4; replace hx108_5 := (HB.out.cell (World.block_lt_of_cell? w _ hx108_5)).trans hx108_5; replace hx108_6 := (HB.out.cell (World.block_lt_of_cell? w _ hx108_6)).trans hx108_6; replace hx108_7 := (HB.out.cell (World.block_lt_of_cell? w _ hx108_7)).trans hx108_7; replace hx108_8 := (HB.out.cell (World.block_lt_of_cell? w _ hx108_8)).trans hx108_8; replace hx108_9 := (HB.out.cell (World.block_lt_of_cell? w _ hx108_9)).trans hx108_9; replace hx108_10 := (HB.out.cell (World.block_lt_of_cell? w _ hx108_10)).trans hx108_10; have HR108_10 := Aside0.mk hi108_10; have HC108_10 := Aside0.mk hl108_10; clear hi108_10 hl108_10; replace hx108_0 := (cell_far (p := ⟨gb106, 0, none⟩) (by first | (rw [add_block]; exact hn108_0) | (show (Addr.add _ _).block ≠ _; rw [add_block]; exact hn108_0) | exact hn108_0) (.string ((rd_T40 l1 x31_1).f0))).trans hx108_0; replace hx108_1 := (cell_far (p := ⟨gb106, 0, none⟩) (by first | (rw [add_block]; exact hn108_0) | (show (Addr.add _ _).block ≠ _; rw [add_block]; exact hn108_0) | exact hn108_0) (.string ((rd_T40 l1 x31_1).f0))).trans hx108_1; replace hx108_2 := (cell_far (p := ⟨gb106, 0, none⟩) (by first | (rw [add_block]; exact hn108_0) | (show (Addr.add _ _).block ≠ _; rw [add_block]; exact hn108_0) | exact hn108_0) (.string ((rd_T40 l1 x31_1).f0))).trans hx108_2; replace hx108_3 := (cell_far (p := ⟨gb106, 0, none⟩) (by first | (rw [add_block]; exact hn108_0) | (show (Addr.add _ _).block ≠ _; rw [add_block]; exact hn108_0) | exact hn108_0) (.string ((rd_T40 l1 x31_1).f0))).trans hx108_3; replace hx108_4 := (cell_far (p := ⟨gb106, 0, none⟩) (by first | (rw [add_block]; exact hn108_0) | (show (Addr.add _ _).block ≠ _; rw [add_block]; exact hn108_0) | exact hn108_0) (.string ((rd_T40 l1 x31_1).f0))).trans hx108_4; replace hx108_5 := (cell_far (p := ⟨gb106, 0, none⟩) (by first | (rw [add_block]; exact hn108_0) | (show (Addr.add _ _).block ≠ _; rw [add_block]; exact hn108_0) | exact hn108_0) (.string ((rd_T40 l1 x31_1).f0))).trans hx108_5; replace hx108_6 := (cell_far (p := ⟨gb106, 0, none⟩) (by first | (rw [add_block]; exact hn108_0) | (show (Addr.add _ _).block ≠ _; rw [add_block]; exact hn108_0) | exact hn108_0) (.string ((rd_T40 l1 x31_1).f0))).trans hx108_6; replace hx108_7 := (cell_far (p := ⟨gb106, 0, none⟩) (by first | (rw [add_block]; exact hn108_0) | (show (Addr.add _ _).block ≠ _; rw [add_block]; exact hn108_0) | exact hn108_0) (.string ((rd_T40 l1 x31_1).f0))).trans hx108_7; replace hx108_8 := (cell_far (p := ⟨gb106, 0, none⟩) (by first | (rw [add_block]; exact hn108_0) | (show (Addr.add _ _).block ≠ _; rw [add_block]; exact hn108_0) | exact hn108_0) (.string ((rd_T40 l1 x31_1).f0))).trans hx108_8; replace hx108_9 := (cell_far (p := ⟨gb106, 0, none⟩) (by first | (rw [add_block]; exact hn108_0) | (show (Addr.add _ _).block ≠ _; rw [add_block]; exact hn108_0) | exact hn108_0) (.string ((rd_T40 l1 x31_1).f0))).trans hx108_9; replace hx108_10 := (cell_far (p := ⟨gb106, 0, none⟩) (by first | (rw [add_block]; exact hn108_0) | (show (Addr.add _ _).block ≠ _; rw [add_block]; exact hn108_0) | exact hn108_0) (.string ((rd_T40 l1 x31_1).f0))).trans hx108_10; replace hx108_0 := (cell_far (p := ⟨gb106, 1, none⟩) (by first | (rw [add_block]; exact hn108_1) | (show (Addr.add _ _).block ≠ _; rw [add_block]; exact hn108_1) | exact hn108_1) (.int .i64 ((rd_T40 l1 x31_1).f1))).trans hx108_0; replace hx108_1 := (cell_far (p := ⟨gb106, 1, none⟩) (by first | (rw [add_block]; exact hn108_1) | (show (Addr.add _ _).block ≠ _; rw [add_block]; exact hn108_1) | exact hn108_1) (.int .i64 ((rd_T40 l1 x31_1).f1))).trans hx108_1; replace hx108_2 := (cell_far (p := ⟨gb106, 1, none⟩) (by first | (rw [add_block]; exact hn108_1) | (show (Addr.add _ _).block ≠ _; rw [add_block]; exact hn108_1) | exact hn108_1) (.int .i64 ((rd_T40 l1 x31_1).f1))).trans hx108_2; replace hx108_3 := (cell_far (p := ⟨gb106, 1, none⟩) (by first | (rw [add_block]; exact hn108_1) | (show (Addr.add _ _).block ≠ _; rw [add_block]; exact hn108_1) | exact hn108_1) (.int .i64 ((rd_T40 l1 x31_1).f1))).trans hx108_3; replace hx108_4 := (cell_far (p := ⟨gb106, 1, none⟩) (by first | (rw [add_block]; exact hn108_1) | (show (Addr.add _ _).block ≠ _; rw [add_block]; exact hn108_1) | exact hn108_1) (.int .i64 ((rd_T40 l1 x31_1).f1))).trans hx108_4; replace hx108_5 := (cell_far (p := ⟨gb106, 1, none⟩) (by first | (rw [add_block]; exact hn108_1) | (show (Addr.add _ _).block ≠ _; rw [add_block]; exact hn108_1) | exact hn108_1) (.int .i64 ((rd_T40 l1 x31_1).f1))).trans hx108_5; replace hx108_6 := (cell_far (p := ⟨gb106, 1, none⟩) (by first | (rw [add_block]; exact hn108_1) | (show (Addr.add _ _).block ≠ _; rw [add_block]; exact hn108_1) | exact hn108_1) (.int .i64 ((rd_T40 l1 x31_1).f1))).trans hx108_6; replace hx108_7 := (cell_far (p := ⟨gb106, 1, none⟩) (by first | (rw [add_block]; exact hn108_1) | (show (Addr.add _ _).block ≠ _; rw [add_block]; exact hn108_1) | exact hn108_1) (.int .i64 ((rd_T40 l1 x31_1).f1))).trans hx108_7; replace hx108_8 := (cell_far (p := ⟨gb106, 1, none⟩) (by first | (rw [add_block]; exact hn108_1) | (show (Addr.add _ _).block ≠ _; rw [add_block]; exact hn108_1) | exact hn108_1) (.int .i64 ((rd_T40 l1 x31_1).f1))).trans hx108_8; replace hx108_9 := (cell_far (p := ⟨gb106, 1, none⟩) (by first | (rw [add_block]; exact hn108_1) | (show (Addr.add _ _).block ≠ _; rw [add_block]; exact hn108_1) | exact hn108_1) (.int .i64 ((rd_T40 l1 x31_1).f1))).trans hx108_9; replace hx108_10 := (cell_far (p := ⟨gb106, 1, none⟩) (by first | (rw [add_block]; exact hn108_1) | (show (Addr.add _ _).block ≠ _; rw [add_block]; exact hn108_1) | exact hn108_1) (.int .i64 ((rd_T40 l1 x31_1).f1))).trans hx108_10; clear hn108_0; clear hn108_1; replace p108 := eq_true p108; replace q108 := eq_true q108; have hnb25 := NB104_101.out; have hnc25 := NB101_104.out; have hcz26_0 : w21.cell? ⟨gb104, 0, none⟩ = some (.string x105000_1) := (blk_cell BK104.out 0).trans rfl; have hcz26_1 : w21.cell? ⟨gb104, 1, none⟩ = some (.int .i64 x105001_1) := (blk_cell BK104.out 1).trans rfl; have hfz26_0 := blk_frozen BK104.out 0; have hfz26_1 := blk_frozen BK104.out 1))
            go_roundg k1
            case measure => have := HK1.out; omega
            case rel => exact ⟨(t107), (wrap64 (x31_1 + 1)), ((rd_T40 l1 x31_1).f0), ((rd_T40 l1 x31_1).f1), (by first | rfl | (simp; done) | (simp [*]; done)), (by first | rfl | (simp; done) | (simp [*]; done)), H', ⟨by have := HK1.out; omega⟩, ⟨by (with_reducible repeat (first | refine blk_drewN ?_ _ | refine blk_drew ?_ | refine blk_alloc ?_ _)); refine blk_far ?_ NB101_104.out _; (with_reducible repeat (first | refine blk_drewN ?_ _ | refine blk_drew ?_ | refine blk_alloc ?_ _)); refine blk_far ?_ NB101_104.out _; (with_reducible repeat (first | refine blk_drewN ?_ _ | refine blk_drew ?_ | refine blk_alloc ?_ _)); refine blk_far ?_ NB101_106.out _; (with_reducible repeat (first | refine blk_drewN ?_ _ | refine blk_drew ?_ | refine blk_alloc ?_ _)); refine blk_far ?_ NB101_106.out _; (with_reducible repeat (first | refine blk_drewN ?_ _ | refine blk_drew ?_ | refine blk_alloc ?_ _)); exact BK101.out⟩, ⟨by (with_reducible repeat (first | refine blk_drewN ?_ _ | refine blk_drew ?_ | refine blk_alloc ?_ _)); refine blk_put (cs := #[.string ((rd_T40 l1 x31_1).f0), .int .i64 x105001_1]) ?_ 1 _ rfl; (with_reducible repeat (first | refine blk_drewN ?_ _ | refine blk_drew ?_ | refine blk_alloc ?_ _)); refine blk_put (cs := #[.string x105000_1, .int .i64 x105001_1]) ?_ 0 _ rfl; (with_reducible repeat (first | refine blk_drewN ?_ _ | refine blk_drew ?_ | refine blk_alloc ?_ _)); refine blk_far ?_ NB104_106.out _; (with_reducible repeat (first | refine blk_drewN ?_ _ | refine blk_drew ?_ | refine blk_alloc ?_ _)); refine blk_far ?_ NB104_106.out _; (with_reducible repeat (first | refine blk_drewN ?_ _ | refine blk_drew ?_ | refine blk_alloc ?_ _)); exact BK104.out⟩, ⟨by repeat (first | (with_reducible first | exact HB.out | apply below_alloc | apply pw_below_drewN | apply below_drew1 | refine below_set ?_ GE101.out | refine below_set ?_ GE104.out | refine below_set ?_ GE106.out) | exact HB.out)⟩⟩
           ·rw [if_neg c20] at H
            have c20b0 : (((rd_T80 l0 t107).f1) == 1) = false := beq_eq_false_iff_ne.mpr c20
            have c20b1 : (((rd_T80 l0 t107).f1) != 1) = true := bne_iff_ne.mpr c20
            have H' := Aside0.mk H
            clear H
            have p105 : 0 ≤ (x31_1 : Int) := of_decide_eq_true (by first | (with_reducible assumption) | assumption)
            have q105 : x31_1 < (l1.length : Int) := of_decide_eq_true (by first | (with_reducible assumption) | assumption)
            obtain ⟨ad105, e105, hx105_0, hx105_1⟩ := at_T40 HR1.out x31_1 p105 q105
            cases e105
            replace hx105_0 := (HB.out.cell (World.block_lt_of_cell? w _ hx105_0)).trans hx105_0
            replace hx105_1 := (HB.out.cell (World.block_lt_of_cell? w _ hx105_1)).trans hx105_1
            replace p105 := eq_true p105
            replace q105 := eq_true q105
            go_wp2_with (first | ((with_reducible refine gate_dst (N := 12) rfl ?_); refine box_event ?hg (N := 12) ?hd (cs := #[.string (⟨#[]⟩ : ByteArray), .int .i64 0]) (t := 40) ?hr ?_; (case hd => rfl); (case hg => rfl); (case hr => first | (go_simp; done) | (go_simp; rfl)); intro gb106 hg w27 hbox hb; have n0_ := Aside0.mk (blk_below (g := gb101) (o := .cells #[.string (⟨#[]⟩ : ByteArray), .int .i64 0] 40 (0, 0)) (by (with_reducible repeat (first | refine blk_drewN ?_ _ | refine blk_drew ?_ | refine blk_alloc ?_ _)); exact BK101.out) hb); have n1_ := Aside0.mk (blk_below (g := gb104) (o := .cells #[.string x105000_1, .int .i64 x105001_1] 40 (0, 0)) (by (with_reducible repeat (first | refine blk_drewN ?_ _ | refine blk_drew ?_ | refine blk_alloc ?_ _)); exact BK104.out) hb); have n2_ := Aside0.mk (below_step (by repeat (first | (with_reducible first | exact HB.out | apply below_alloc | apply pw_below_drewN | apply below_drew1 | refine below_set ?_ GE101.out | refine below_set ?_ GE104.out) | exact HB.out)) hb); have n3_ := Aside0.mk (hbox); have n4_ := Aside0.mk ((by rw [hg]; exact (below_size (by repeat (first | (with_reducible first | exact HB.out | apply below_alloc | apply pw_below_drewN | apply below_drew1 | refine below_set ?_ GE101.out | refine below_set ?_ GE104.out) | exact HB.out))) : w.heap.size ≤ gb106)); have n5_ := Aside0.mk ((by rw [hg]; exact (below_size (by repeat (first | (with_reducible first | exact HB.out | apply below_alloc | apply pw_below_drewN | apply below_drew1 | refine below_set ?_ GE101.out | refine below_set ?_ GE104.out) | exact HB.out))) : w.heap.size ≤ gb106)); have n6_ := Aside0.mk ((by rw [hg]; exact Nat.ne_of_lt (blk_lt (g := gb101) (o := .cells #[.string (⟨#[]⟩ : ByteArray), .int .i64 0] 40 (0, 0)) (by (with_reducible repeat (first | refine blk_drewN ?_ _ | refine blk_drew ?_ | refine blk_alloc ?_ _)); exact BK101.out)) : gb101 ≠ gb106)); have n7_ := Aside0.mk ((by rw [hg]; exact Nat.ne_of_gt (blk_lt (g := gb101) (o := .cells #[.string (⟨#[]⟩ : ByteArray), .int .i64 0] 40 (0, 0)) (by (with_reducible repeat (first | refine blk_drewN ?_ _ | refine blk_drew ?_ | refine blk_alloc ?_ _)); exact BK101.out)) : gb106 ≠ gb101)); have n8_ := Aside0.mk ((by rw [hg]; exact Nat.ne_of_lt (blk_lt (g := gb104) (o := .cells #[.string x105000_1, .int .i64 x105001_1] 40 (0, 0)) (by (with_reducible repeat (first | refine blk_drewN ?_ _ | refine blk_drew ?_ | refine blk_alloc ?_ _)); exact BK104.out)) : gb104 ≠ gb106)); have n9_ := Aside0.mk ((by rw [hg]; exact Nat.ne_of_gt (blk_lt (g := gb104) (o := .cells #[.string x105000_1, .int .i64 x105001_1] 40 (0, 0)) (by (with_reducible repeat (first | refine blk_drewN ?_ _ | refine blk_drew ?_ | refine blk_alloc ?_ _)); exact BK104.out)) : gb106 ≠ gb104)); clear BK101; clear BK104; clear HB; have BK101 := n0_; have BK104 := n1_; have HB := n2_; have BK106 := n3_; have GW106 := n4_; have GE106 := n5_; have NB101_106 := n6_; have NB106_101 := n7_; have NB104_106 := n8_; have NB106_104 := n9_; clear n0_ n1_ n2_ n3_ n4_ n5_ n6_ n7_ n8_ n9_; clear hb hbox hg; have hnb28 := NB106_101.out; have hnc28 := NB101_106.out; have hnb29 := NB106_104.out; have hnc29 := NB104_106.out; have hcz30_0 : w27.cell? ⟨gb106, 0, none⟩ = some (.string (⟨#[]⟩ : ByteArray)) := (blk_cell BK106.out 0).trans rfl; have hcz30_1 : w27.cell? ⟨gb106, 1, none⟩ = some (.int .i64 0) := (blk_cell BK106.out 1).trans rfl; have hfz30_0 := blk_frozen BK106.out 0; have hfz30_1 := blk_frozen BK106.out 1) | ((with_reducible refine gate_callee (f := 52) rfl ?_); refine goesL_ (some 38) rfl rfl Tryd.func52 (by kernel_rfl) rfl #[.slice A0 l0.length c0, .string ((rd_T40 l1 x31_1).f0)] rfl (by (try simp only [List.map_toArray, List.map_cons, List.map_nil]); first | done | rfl | (simp only [List.length_drop, List.length_take]; rfl)) ?_; (with_reducible refine (creelref_EntryAt.calls k1 _ _ l0 ((rd_T40 l1 x31_1).f0) t107 _ ?side1 ?side2 A16.out).mono ?_); (case side1 => exact Kd.C_below HR0.out (by repeat (first | (with_reducible first | exact HB.out | apply below_alloc | apply pw_below_drewN | apply below_drew1 | refine below_set ?_ GE101.out | refine below_set ?_ GE104.out | refine below_set ?_ GE106.out) | exact HB.out))); (case side2 => exact HC0.out); rintro e w' ⟨rfl, ⟨nd, rfl⟩⟩; refine ⟨_, rfl, ?_⟩; have p108 : 0 ≤ (t107 : Int) := of_decide_eq_true (by first | (with_reducible assumption) | assumption); have q108 : t107 < (l0.length : Int) := of_decide_eq_true (by first | (with_reducible assumption) | assumption); obtain ⟨ad108, A108_10, c108_10, e108, hx108_0, hx108_1, hx108_2, hx108_3, hx108_4, hx108_5, hx108_6, hx108_7, hx108_8, hx108_9, hx108_10, hl108_10, hi108_10⟩ := at_T80 HR0.out t107 p108 q108; cases e108; have hn108_0 : ad108.block ≠ gb106 := Nat.ne_of_lt (Nat.lt_of_lt_of_le (by have := World.block_lt_of_cell? _ _ hx108_0; first | rwa [add_block] at this | exact this) GW106.out); have hn108_1 : ad108.block ≠ gb106 := Nat.ne_of_lt (Nat.lt_of_lt_of_le (by have := World.block_lt_of_cell? _ _ hx108_0; first | rwa [add_block] at this | exact this) GW106.out); replace hx108_0 := (HB.out.cell (World.block_lt_of_cell? w _ hx108_0)).trans hx108_0; replace hx108_1 := (HB.out.cell (World.block_lt_of_cell? w _ hx108_1)).trans hx108_1; replace hx108_2 := (HB.out.cell (World.block_lt_of_cell? w _ hx108_2)).trans hx108_2; replace hx108_3 := (HB.out.cell (World.block_lt_of_cell? w _ hx108_3)).trans hx108_3; replace hx108_4 := (HB.out.cell (World.block_lt_of_cell? w _ hx108_4)).trans hx108_4; replace hx108_5 := (HB.out.cell (World.block_lt_of_cell? w _ hx108_5)).trans hx108_5; replace hx108_6 := (HB.out.cell (World.block_lt_of_cell? w _ hx108_6)).trans hx108_6; replace hx108_7 := (HB.out.cell (World.block_lt_of_cell? w _ hx108_7)).trans hx108_7; replace hx108_8 := (HB.out.cell (World.block_lt_of_cell? w _ hx108_8)).trans hx108_8; replace hx108_9 := (HB.out.cell (World.block_lt_of_cell? w _ hx108_9)).trans hx108_9; replace hx108_10 := (HB.out.cell (World.block_lt_of_cell? w _ hx108_10)).trans hx108_10; have HR108_10 := Aside0.mk hi108_10; have HC108_10 := Aside0.mk hl108_10; clear hi108_10 hl108_10; replace hx108_0 := (cell_far (p := ⟨gb106, 0, none⟩) (by first | (rw [add_block]; exact hn108_0) | (show (Addr.add _ _).block ≠ _; rw [add_block]; exact hn108_0) | exact hn108_0) (.string ((rd_T40 l1 x31_1).f0))).trans hx108_0; replace hx108_1 := (cell_far (p := ⟨gb106, 0, none⟩) (by first | (rw [add_block]; exact hn108_0) | (show (Addr.add _ _).block ≠ _; rw [add_block]; exact hn108_0) | exact hn108_0) (.string ((rd_T40 l1 x31_1).f0))).trans hx108_1; replace hx108_2 := (cell_far (p := ⟨gb106, 0, none⟩) (by first | (rw [add_block]; exact hn108_0) | (show (Addr.add _ _).block ≠ _; rw [add_block]; exact hn108_0) | exact hn108_0) (.string ((rd_T40 l1 x31_1).f0))).trans hx108_2; replace hx108_3 := (cell_far (p := ⟨gb106, 0, none⟩) (by first | (rw [add_block]; exact hn108_0) | (show (Addr.add _ _).block ≠ _; rw [add_block]; exact hn108_0) | exact hn108_0) (.string ((rd_T40 l1 x31_1).f0))).trans hx108_3; replace hx108_4 := (cell_far (p := ⟨gb106, 0, none⟩) (by first | (rw [add_block]; exact hn108_0) | (show (Addr.add _ _).block ≠ _; rw [add_block]; exact hn108_0) | exact hn108_0) (.string ((rd_T40 l1 x31_1).f0))).trans hx108_4; replace hx108_5 := (cell_far (p := ⟨gb106, 0, none⟩) (by first | (rw [add_block]; exact hn108_0) | (show (Addr.add _ _).block ≠ _; rw [add_block]; exact hn108_0) | exact hn108_0) (.string ((rd_T40 l1 x31_1).f0))).trans hx108_5; replace hx108_6 := (cell_far (p := ⟨gb106, 0, none⟩) (by first | (rw [add_block]; exact hn108_0) | (show (Addr.add _ _).block ≠ _; rw [add_block]; exact hn108_0) | exact hn108_0) (.string ((rd_T40 l1 x31_1).f0))).trans hx108_6; replace hx108_7 := (cell_far (p := ⟨gb106, 0, none⟩) (by first | (rw [add_block]; exact hn108_0) | (show (Addr.add _ _).block ≠ _; rw [add_block]; exact hn108_0) | exact hn108_0) (.string ((rd_T40 l1 x31_1).f0))).trans hx108_7; replace hx108_8 := (cell_far (p := ⟨gb106, 0, none⟩) (by first | (rw [add_block]; exact hn108_0) | (show (Addr.add _ _).block ≠ _; rw [add_block]; exact hn108_0) | exact hn108_0) (.string ((rd_T40 l1 x31_1).f0))).trans hx108_8; replace hx108_9 := (cell_far (p := ⟨gb106, 0, none⟩) (by first | (rw [add_block]; exact hn108_0) | (show (Addr.add _ _).block ≠ _; rw [add_block]; exact hn108_0) | exact hn108_0) (.string ((rd_T40 l1 x31_1).f0))).trans hx108_9; replace hx108_10 := (cell_far (p := ⟨gb106, 0, none⟩) (by first | (rw [add_block]; exact hn108_0) | (show (Addr.add _ _).block ≠ _; rw [add_block]; exact hn108_0) | exact hn108_0) (.string ((rd_T40 l1 x31_1).f0))).trans hx108_10; replace hx108_0 := (cell_far (p := ⟨gb106, 1, none⟩) (by first | (rw [add_block]; exact hn108_1) | (show (Addr.add _ _).block ≠ _; rw [add_block]; exact hn108_1) | exact hn108_1) (.int .i64 ((rd_T40 l1 x31_1).f1))).trans hx108_0; replace hx108_1 := (cell_far (p := ⟨gb106, 1, none⟩) (by first | (rw [add_block]; exact hn108_1) | (show (Addr.add _ _).block ≠ _; rw [add_block]; exact hn108_1) | exact hn108_1) (.int .i64 ((rd_T40 l1 x31_1).f1))).trans hx108_1; replace hx108_2 := (cell_far (p := ⟨gb106, 1, none⟩) (by first | (rw [add_block]; exact hn108_1) | (show (Addr.add _ _).block ≠ _; rw [add_block]; exact hn108_1) | exact hn108_1) (.int .i64 ((rd_T40 l1 x31_1).f1))).trans hx108_2; replace hx108_3 := (cell_far (p := ⟨gb106, 1, none⟩) (by first | (rw [add_block]; exact hn108_1) | (show (Addr.add _ _).block ≠ _; rw [add_block]; exact hn108_1) | exact hn108_1) (.int .i64 ((rd_T40 l1 x31_1).f1))).trans hx108_3; replace hx108_4 := (cell_far (p := ⟨gb106, 1, none⟩) (by first | (rw [add_block]; exact hn108_1) | (show (Addr.add _ _).block ≠ _; rw [add_block]; exact hn108_1) | exact hn108_1) (.int .i64 ((rd_T40 l1 x31_1).f1))).trans hx108_4; replace hx108_5 := (cell_far (p := ⟨gb106, 1, none⟩) (by first | (rw [add_block]; exact hn108_1) | (show (Addr.add _ _).block ≠ _; rw [add_block]; exact hn108_1) | exact hn108_1) (.int .i64 ((rd_T40 l1 x31_1).f1))).trans hx108_5; replace hx108_6 := (cell_far (p := ⟨gb106, 1, none⟩) (by first | (rw [add_block]; exact hn108_1) | (show (Addr.add _ _).block ≠ _; rw [add_block]; exact hn108_1) | exact hn108_1) (.int .i64 ((rd_T40 l1 x31_1).f1))).trans hx108_6; replace hx108_7 := (cell_far (p := ⟨gb106, 1, none⟩) (by first | (rw [add_block]; exact hn108_1) | (show (Addr.add _ _).block ≠ _; rw [add_block]; exact hn108_1) | exact hn108_1) (.int .i64 ((rd_T40 l1 x31_1).f1))).trans hx108_7; replace hx108_8 := (cell_far (p := ⟨gb106, 1, none⟩) (by first | (rw [add_block]; exact hn108_1) | (show (Addr.add _ _).block ≠ _; rw [add_block]; exact hn108_1) | exact hn108_1) (.int .i64 ((rd_T40 l1 x31_1).f1))).trans hx108_8; replace hx108_9 := (cell_far (p := ⟨gb106, 1, none⟩) (by first | (rw [add_block]; exact hn108_1) | (show (Addr.add _ _).block ≠ _; rw [add_block]; exact hn108_1) | exact hn108_1) (.int .i64 ((rd_T40 l1 x31_1).f1))).trans hx108_9; replace hx108_10 := (cell_far (p := ⟨gb106, 1, none⟩) (by first | (rw [add_block]; exact hn108_1) | (show (Addr.add _ _).block ≠ _; rw [add_block]; exact hn108_1) | exact hn108_1) (.int .i64 ((rd_T40 l1 x31_1).f1))).trans hx108_10; clear hn108_0; clear hn108_1; replace p108 := eq_true p108; replace q108 := eq_true q108))
            go_roundg k1
            case measure => have := HK1.out; omega
            case rel => exact ⟨(x9_1), (wrap64 (x31_1 + 1)), (x105000_1), (x105001_1), (by first | rfl | (simp; done) | (simp [*]; done)), (by first | rfl | (simp; done) | (simp [*]; done)), H', ⟨by have := HK1.out; omega⟩, ⟨by (with_reducible repeat (first | refine blk_drewN ?_ _ | refine blk_drew ?_ | refine blk_alloc ?_ _)); refine blk_far ?_ NB101_106.out _; (with_reducible repeat (first | refine blk_drewN ?_ _ | refine blk_drew ?_ | refine blk_alloc ?_ _)); refine blk_far ?_ NB101_106.out _; (with_reducible repeat (first | refine blk_drewN ?_ _ | refine blk_drew ?_ | refine blk_alloc ?_ _)); exact BK101.out⟩, ⟨by (with_reducible repeat (first | refine blk_drewN ?_ _ | refine blk_drew ?_ | refine blk_alloc ?_ _)); refine blk_far ?_ NB104_106.out _; (with_reducible repeat (first | refine blk_drewN ?_ _ | refine blk_drew ?_ | refine blk_alloc ?_ _)); refine blk_far ?_ NB104_106.out _; (with_reducible repeat (first | refine blk_drewN ?_ _ | refine blk_drew ?_ | refine blk_alloc ?_ _)); exact BK104.out⟩, ⟨by repeat (first | (with_reducible first | exact HB.out | apply below_alloc | apply pw_below_drewN | apply below_drew1 | refine below_set ?_ GE101.out | refine below_set ?_ GE104.out | refine below_set ?_ GE106.out) | exact HB.out)⟩⟩
          ·rw [if_neg c19] at H
           exact absurd H (by simp)
         ·rw [if_neg c18] at H
          exact absurd H (by simp)
        ·rw [if_neg c17] at H
         have c17b0 : decide (t107 < x9_1) = false := decide_eq_false c17
         clear c17
         have H' := Aside0.mk H
         clear H
         have p105 : 0 ≤ (x31_1 : Int) := of_decide_eq_true (by first | (with_reducible assumption) | assumption)
         have q105 : x31_1 < (l1.length : Int) := of_decide_eq_true (by first | (with_reducible assumption) | assumption)
         obtain ⟨ad105, e105, hx105_0, hx105_1⟩ := at_T40 HR1.out x31_1 p105 q105
         cases e105
         replace hx105_0 := (HB.out.cell (World.block_lt_of_cell? w _ hx105_0)).trans hx105_0
         replace hx105_1 := (HB.out.cell (World.block_lt_of_cell? w _ hx105_1)).trans hx105_1
         replace p105 := eq_true p105
         replace q105 := eq_true q105
         go_wp2_with (first | ((with_reducible refine gate_dst (N := 12) rfl ?_); refine box_event ?hg (N := 12) ?hd (cs := #[.string (⟨#[]⟩ : ByteArray), .int .i64 0]) (t := 40) ?hr ?_; (case hd => rfl); (case hg => rfl); (case hr => first | (go_simp; done) | (go_simp; rfl)); intro gb106 hg w31 hbox hb; have n0_ := Aside0.mk (blk_below (g := gb101) (o := .cells #[.string (⟨#[]⟩ : ByteArray), .int .i64 0] 40 (0, 0)) (by (with_reducible repeat (first | refine blk_drewN ?_ _ | refine blk_drew ?_ | refine blk_alloc ?_ _)); exact BK101.out) hb); have n1_ := Aside0.mk (blk_below (g := gb104) (o := .cells #[.string x105000_1, .int .i64 x105001_1] 40 (0, 0)) (by (with_reducible repeat (first | refine blk_drewN ?_ _ | refine blk_drew ?_ | refine blk_alloc ?_ _)); exact BK104.out) hb); have n2_ := Aside0.mk (below_step (by repeat (first | (with_reducible first | exact HB.out | apply below_alloc | apply pw_below_drewN | apply below_drew1 | refine below_set ?_ GE101.out | refine below_set ?_ GE104.out) | exact HB.out)) hb); have n3_ := Aside0.mk (hbox); have n4_ := Aside0.mk ((by rw [hg]; exact (below_size (by repeat (first | (with_reducible first | exact HB.out | apply below_alloc | apply pw_below_drewN | apply below_drew1 | refine below_set ?_ GE101.out | refine below_set ?_ GE104.out) | exact HB.out))) : w.heap.size ≤ gb106)); have n5_ := Aside0.mk ((by rw [hg]; exact (below_size (by repeat (first | (with_reducible first | exact HB.out | apply below_alloc | apply pw_below_drewN | apply below_drew1 | refine below_set ?_ GE101.out | refine below_set ?_ GE104.out) | exact HB.out))) : w.heap.size ≤ gb106)); have n6_ := Aside0.mk ((by rw [hg]; exact Nat.ne_of_lt (blk_lt (g := gb101) (o := .cells #[.string (⟨#[]⟩ : ByteArray), .int .i64 0] 40 (0, 0)) (by (with_reducible repeat (first | refine blk_drewN ?_ _ | refine blk_drew ?_ | refine blk_alloc ?_ _)); exact BK101.out)) : gb101 ≠ gb106)); have n7_ := Aside0.mk ((by rw [hg]; exact Nat.ne_of_gt (blk_lt (g := gb101) (o := .cells #[.string (⟨#[]⟩ : ByteArray), .int .i64 0] 40 (0, 0)) (by (with_reducible repeat (first | refine blk_drewN ?_ _ | refine blk_drew ?_ | refine blk_alloc ?_ _)); exact BK101.out)) : gb106 ≠ gb101)); have n8_ := Aside0.mk ((by rw [hg]; exact Nat.ne_of_lt (blk_lt (g := gb104) (o := .cells #[.string x105000_1, .int .i64 x105001_1] 40 (0, 0)) (by (with_reducible repeat (first | refine blk_drewN ?_ _ | refine blk_drew ?_ | refine blk_alloc ?_ _)); exact BK104.out)) : gb104 ≠ gb106)); have n9_ := Aside0.mk ((by rw [hg]; exact Nat.ne_of_gt (blk_lt (g := gb104) (o := .cells #[.string x105000_1, .int .i64 x105001_1] 40 (0, 0)) (by (with_reducible repeat (first | refine blk_drewN ?_ _ | refine blk_drew ?_ | refine blk_alloc ?_ _)); exact BK104.out)) : gb106 ≠ gb104)); clear BK101; clear BK104; clear HB; have BK101 := n0_; have BK104 := n1_; have HB := n2_; have BK106 := n3_; have GW106 := n4_; have GE106 := n5_; have NB101_106 := n6_; have NB106_101 := n7_; have NB104_106 := n8_; have NB106_104 := n9_; clear n0_ n1_ n2_ n3_ n4_ n5_ n6_ n7_ n8_ n9_; clear hb hbox hg; have hnb32 := NB106_101.out; have hnc32 := NB101_106.out; have hnb33 := NB106_104.out; have hnc33 := NB104_106.out; have hcz34_0 : w31.cell? ⟨gb106, 0, none⟩ = some (.string (⟨#[]⟩ : ByteArray)) := (blk_cell BK106.out 0).trans rfl; have hcz34_1 : w31.cell? ⟨gb106, 1, none⟩ = some (.int .i64 0) := (blk_cell BK106.out 1).trans rfl; have hfz34_0 := blk_frozen BK106.out 0; have hfz34_1 := blk_frozen BK106.out 1) | ((with_reducible refine gate_callee (f := 52) rfl ?_); refine goesL_ (some 38) rfl rfl Tryd.func52 (by kernel_rfl) rfl #[.slice A0 l0.length c0, .string ((rd_T40 l1 x31_1).f0)] rfl (by (try simp only [List.map_toArray, List.map_cons, List.map_nil]); first | done | rfl | (simp only [List.length_drop, List.length_take]; rfl)) ?_; (with_reducible refine (creelref_EntryAt.calls k1 _ _ l0 ((rd_T40 l1 x31_1).f0) t107 _ ?side1 ?side2 A16.out).mono ?_); (case side1 => exact Kd.C_below HR0.out (by repeat (first | (with_reducible first | exact HB.out | apply below_alloc | apply pw_below_drewN | apply below_drew1 | refine below_set ?_ GE101.out | refine below_set ?_ GE104.out | refine below_set ?_ GE106.out) | exact HB.out))); (case side2 => exact HC0.out); rintro e w' ⟨rfl, ⟨nd, rfl⟩⟩; refine ⟨_, rfl, ?_⟩))
         go_roundg k1
         case measure => have := HK1.out; omega
         case rel => exact ⟨(x9_1), (wrap64 (x31_1 + 1)), (x105000_1), (x105001_1), (by first | rfl | (simp; done) | (simp [*]; done)), (by first | rfl | (simp; done) | (simp [*]; done)), H', ⟨by have := HK1.out; omega⟩, ⟨by (with_reducible repeat (first | refine blk_drewN ?_ _ | refine blk_drew ?_ | refine blk_alloc ?_ _)); refine blk_far ?_ NB101_106.out _; (with_reducible repeat (first | refine blk_drewN ?_ _ | refine blk_drew ?_ | refine blk_alloc ?_ _)); refine blk_far ?_ NB101_106.out _; (with_reducible repeat (first | refine blk_drewN ?_ _ | refine blk_drew ?_ | refine blk_alloc ?_ _)); exact BK101.out⟩, ⟨by (with_reducible repeat (first | refine blk_drewN ?_ _ | refine blk_drew ?_ | refine blk_alloc ?_ _)); refine blk_far ?_ NB104_106.out _; (with_reducible repeat (first | refine blk_drewN ?_ _ | refine blk_drew ?_ | refine blk_alloc ?_ _)); refine blk_far ?_ NB104_106.out _; (with_reducible repeat (first | refine blk_drewN ?_ _ | refine blk_drew ?_ | refine blk_alloc ?_ _)); exact BK104.out⟩, ⟨by repeat (first | (with_reducible first | exact HB.out | apply below_alloc | apply pw_below_drewN | apply below_drew1 | refine below_set ?_ GE101.out | refine below_set ?_ GE104.out | refine below_set ?_ GE106.out) | exact HB.out)⟩⟩
       ·rw [if_neg c15] at H
        exact absurd H (by simp)
      ·rw [if_neg c14] at H
       exact absurd H (by simp)
     ·rw [if_neg c13] at H
      have c13b0 : decide (x31_1 < (l1.length : Int)) = false := decide_eq_false c13
      clear c13
      by_cases c35 : x9_1 = (l0.length : Int)
      ·rw [if_pos c35] at H
       have c35b0 : (x9_1 == (l0.length : Int)) = true := beq_iff_eq.mpr c35
       have c35b1 : (x9_1 != (l0.length : Int)) = false := bne_eq_false_iff_eq.mpr c35
       clear c35
       simp only [Option.some.injEq, Prod.mk.injEq] at H
       obtain ⟨rfl, rfl, rfl, rfl⟩ := H
       have hnb36 := NB101_104.out
       have hnc36 := NB104_101.out
       have hcz37_0 : wr.cell? ⟨gb101, 0, none⟩ = some (.string (⟨#[]⟩ : ByteArray)) := (blk_cell BK101.out 0).trans rfl
       have hcz37_1 : wr.cell? ⟨gb101, 1, none⟩ = some (.int .i64 0) := (blk_cell BK101.out 1).trans rfl
       have hfz37_0 := blk_frozen BK101.out 0
       have hfz37_1 := blk_frozen BK101.out 1
       go_wp2
       refine bodyPost_ret (results_ctt rfl _ _ gb101 40 #[.string (⟨#[]⟩ : ByteArray), .int .i64 0] (0, 0) _ rfl (by (with_reducible repeat (first | refine blk_drewN ?_ _ | refine blk_drew ?_ | refine blk_alloc ?_ _)); refine blk_put (cs := #[.string (⟨#[]⟩ : ByteArray), .int .i64 0]) ?_ 1 _ rfl; (with_reducible repeat (first | refine blk_drewN ?_ _ | refine blk_drew ?_ | refine blk_alloc ?_ _)); refine blk_put (cs := #[.string (⟨#[]⟩ : ByteArray), .int .i64 0]) ?_ 0 _ rfl; (with_reducible repeat (first | refine blk_drewN ?_ _ | refine blk_drew ?_ | refine blk_alloc ?_ _)); exact BK101.out) Tryd.underlying40 rfl (by kernel_rfl)) rfl ?_
       exact ⟨by first | rfl | (simp [errW_none, errW_some] <;> rfl) | (simp [*, errW_none, errW_some] <;> rfl), by repeat (first | (with_reducible first | exact HB.out | apply below_alloc | apply pw_below_drewN | apply below_drew1 | refine below_set ?_ GE101.out | refine below_set ?_ GE104.out) | exact HB.out)⟩
      ·rw [if_neg c35] at H
       have c35b0 : (x9_1 == (l0.length : Int)) = false := beq_eq_false_iff_ne.mpr c35
       have c35b1 : (x9_1 != (l0.length : Int)) = true := bne_iff_ne.mpr c35
       simp only [Option.some.injEq, Prod.mk.injEq] at H
       obtain ⟨rfl, rfl, rfl, rfl⟩ := H
       have hnb38 := NB104_101.out
       have hnc38 := NB101_104.out
       have hcz39_0 : wr.cell? ⟨gb104, 0, none⟩ = some (.string x105000_1) := (blk_cell BK104.out 0).trans rfl
       have hcz39_1 : wr.cell? ⟨gb104, 1, none⟩ = some (.int .i64 x105001_1) := (blk_cell BK104.out 1).trans rfl
       have hfz39_0 := blk_frozen BK104.out 0
       have hfz39_1 := blk_frozen BK104.out 1
       have hcz40_0 : wr.cell? ⟨gb101, 0, none⟩ = some (.string (⟨#[]⟩ : ByteArray)) := (blk_cell BK101.out 0).trans rfl
       have hcz40_1 : wr.cell? ⟨gb101, 1, none⟩ = some (.int .i64 0) := (blk_cell BK101.out 1).trans rfl
       have hfz40_0 := blk_frozen BK101.out 0
       have hfz40_1 := blk_frozen BK101.out 1
       go_wp2
       refine bodyPost_ret (results_ctt rfl _ _ gb101 40 #[.string x105000_1, .int .i64 x105001_1] (0, 0) _ rfl (by (with_reducible repeat (first | refine blk_drewN ?_ _ | refine blk_drew ?_ | refine blk_alloc ?_ _)); refine blk_put (cs := #[.string x105000_1, .int .i64 0]) ?_ 1 _ rfl; (with_reducible repeat (first | refine blk_drewN ?_ _ | refine blk_drew ?_ | refine blk_alloc ?_ _)); refine blk_put (cs := #[.string (⟨#[]⟩ : ByteArray), .int .i64 0]) ?_ 0 _ rfl; (with_reducible repeat (first | refine blk_drewN ?_ _ | refine blk_drew ?_ | refine blk_alloc ?_ _)); exact BK101.out) Tryd.underlying40 rfl (by kernel_rfl)) rfl ?_
       exact ⟨by first | rfl | (simp [errW_none, errW_some] <;> rfl) | (simp [*, errW_none, errW_some] <;> rfl), by repeat (first | (with_reducible first | exact HB.out | apply below_alloc | apply pw_below_drewN | apply below_drew1 | refine below_set ?_ GE101.out | refine below_set ?_ GE104.out) | exact HB.out)⟩
  ·rw [if_neg c6] at H
   have c6b0 : (t103 == 0) = false := beq_eq_false_iff_ne.mpr c6
   have c6b1 : (t103 != 0) = true := bne_iff_ne.mpr c6
   simp only [Option.some.injEq, Prod.mk.injEq] at H
   obtain ⟨rfl, rfl, rfl, rfl⟩ := H
   go_enter Tryd.func19, Tryd.ntmps19
   go_wp2_with (first | ((with_reducible refine gate_dst (N := 4) rfl ?_); refine box_event ?hg (N := 4) ?hd (cs := #[.string (⟨#[]⟩ : ByteArray), .int .i64 0]) (t := 40) ?hr ?_; (case hd => rfl); (case hg => rfl); (case hr => first | (go_simp; done) | (go_simp; rfl)); intro gb101 hg w41 hbox hb; have n0_ := Aside0.mk (below_step (by repeat (first | (with_reducible first | exact HB.out | apply below_alloc | apply pw_below_drewN | apply below_drew1) | exact HB.out)) hb); have n1_ := Aside0.mk (hbox); have n2_ := Aside0.mk ((by rw [hg]; exact (below_size (by repeat (first | (with_reducible first | exact HB.out | apply below_alloc | apply pw_below_drewN | apply below_drew1) | exact HB.out))) : w.heap.size ≤ gb101)); have n3_ := Aside0.mk ((by rw [hg]; exact (below_size (by repeat (first | (with_reducible first | exact HB.out | apply below_alloc | apply pw_below_drewN | apply below_drew1) | exact HB.out))) : w.heap.size ≤ gb101)); clear HB; have HB := n0_; have BK101 := n1_; have GW101 := n2_; have GE101 := n3_; clear n0_ n1_ n2_ n3_; clear hb hbox hg) | ((with_reducible refine gate_callee (f := 15) rfl ?_); refine goesL_ (some 15) rfl rfl Tryd.func15 (by kernel_rfl) rfl #[.slice A0 l0.length c0] rfl (by (try simp only [List.map_toArray, List.map_cons, List.map_nil]); first | done | rfl | (simp only [List.length_drop, List.length_take]; rfl)) ?_; (with_reducible refine (creelref_EntriesFault.calls k _ _ l0 t102 _ ?side1 ?side2 A3.out).mono ?_); (case side1 => repeat (first | exact (Kd.C_below HR0.out HB.out) | (with_reducible refine Kd.C_alloc ?_ _) | (with_reducible refine Kd.C_drewN ?_ _) | (with_reducible refine Kd.C_drew ?_))); (case side2 => exact HC0.out); rintro e w42 ⟨rfl, hb⟩; refine ⟨_, rfl, ?_⟩; have n0_ := Aside0.mk (blk_below (g := gb101) (o := .cells #[.string (⟨#[]⟩ : ByteArray), .int .i64 0] 40 (0, 0)) (by (with_reducible repeat (first | refine blk_drewN ?_ _ | refine blk_drew ?_ | refine blk_alloc ?_ _)); exact BK101.out) hb); have n1_ := Aside0.mk (below_step (by repeat (first | (with_reducible first | exact HB.out | apply below_alloc | apply pw_below_drewN | apply below_drew1 | refine below_set ?_ GE101.out) | exact HB.out)) hb); clear BK101; clear HB; have BK101 := n0_; have HB := n1_; clear n0_ n1_; (try clear hb); (try clear hb2); (try clear hk); (try clear hi)) | ((with_reducible refine gate_callee (f := 18) rfl ?_); refine goesL_ (some 21) rfl rfl Tryd.func18 (by kernel_rfl) rfl #[.slice A1 l1.length c1] rfl (by (try simp only [List.map_toArray, List.map_cons, List.map_nil]); first | done | rfl | (simp only [List.length_drop, List.length_take]; rfl)) ?_; (with_reducible refine (creelref_FaultsFault.calls k _ _ l1 t103 _ ?side1 ?side2 A5.out).mono ?_); (case side1 => repeat (first | exact (Kd.C_below HR1.out HB.out) | (with_reducible refine Kd.C_alloc ?_ _) | (with_reducible refine Kd.C_drewN ?_ _) | (with_reducible refine Kd.C_drew ?_))); (case side2 => exact HC1.out); rintro e w43 ⟨rfl, hb⟩; refine ⟨_, rfl, ?_⟩; have n0_ := Aside0.mk (blk_below (g := gb101) (o := .cells #[.string (⟨#[]⟩ : ByteArray), .int .i64 0] 40 (0, 0)) (by (with_reducible repeat (first | refine blk_drewN ?_ _ | refine blk_drew ?_ | refine blk_alloc ?_ _)); exact BK101.out) hb); have n1_ := Aside0.mk (below_step (by repeat (first | (with_reducible first | exact HB.out | apply below_alloc | apply pw_below_drewN | apply below_drew1 | refine below_set ?_ GE101.out) | exact HB.out)) hb); clear BK101; clear HB; have BK101 := n0_; have HB := n1_; clear n0_ n1_; (try clear hb); (try clear hb2); (try clear hk); (try clear hi); have hcz44_0 : w43.cell? ⟨gb101, 0, none⟩ = some (.string (⟨#[]⟩ : ByteArray)) := (blk_cell BK101.out 0).trans rfl; have hcz44_1 : w43.cell? ⟨gb101, 1, none⟩ = some (.int .i64 0) := (blk_cell BK101.out 1).trans rfl; have hfz44_0 := blk_frozen BK101.out 0; have hfz44_1 := blk_frozen BK101.out 1))
   refine bodyPost_ret (results_ctt rfl _ _ gb101 40 #[.string (⟨#[]⟩ : ByteArray), .int .i64 0] (0, 0) _ rfl (by (with_reducible repeat (first | refine blk_drewN ?_ _ | refine blk_drew ?_ | refine blk_alloc ?_ _)); refine blk_put (cs := #[.string (⟨#[]⟩ : ByteArray), .int .i64 0]) ?_ 1 _ rfl; (with_reducible repeat (first | refine blk_drewN ?_ _ | refine blk_drew ?_ | refine blk_alloc ?_ _)); refine blk_put (cs := #[.string (⟨#[]⟩ : ByteArray), .int .i64 0]) ?_ 0 _ rfl; (with_reducible repeat (first | refine blk_drewN ?_ _ | refine blk_drew ?_ | refine blk_alloc ?_ _)); exact BK101.out) Tryd.underlying40 rfl (by kernel_rfl)) rfl ?_
   exact ⟨by first | rfl | (simp [errW_none, errW_some] <;> rfl) | (simp [*, errW_none, errW_some] <;> rfl), by repeat (first | (with_reducible first | exact HB.out | apply below_alloc | apply pw_below_drewN | apply below_drew1 | refine below_set ?_ GE101.out) | exact HB.out)⟩
 ·rw [if_neg c4] at H
  have c4b0 : (t102 == 0) = false := beq_eq_false_iff_ne.mpr c4
  have c4b1 : (t102 != 0) = true := bne_iff_ne.mpr c4
  simp only [Option.some.injEq, Prod.mk.injEq] at H
  obtain ⟨rfl, rfl, rfl, rfl⟩ := H
  go_enter Tryd.func19, Tryd.ntmps19
  go_wp2_with (first | ((with_reducible refine gate_dst (N := 4) rfl ?_); refine box_event ?hg (N := 4) ?hd (cs := #[.string (⟨#[]⟩ : ByteArray), .int .i64 0]) (t := 40) ?hr ?_; (case hd => rfl); (case hg => rfl); (case hr => first | (go_simp; done) | (go_simp; rfl)); intro gb101 hg w45 hbox hb; have n0_ := Aside0.mk (below_step (by repeat (first | (with_reducible first | exact HB.out | apply below_alloc | apply pw_below_drewN | apply below_drew1) | exact HB.out)) hb); have n1_ := Aside0.mk (hbox); have n2_ := Aside0.mk ((by rw [hg]; exact (below_size (by repeat (first | (with_reducible first | exact HB.out | apply below_alloc | apply pw_below_drewN | apply below_drew1) | exact HB.out))) : w.heap.size ≤ gb101)); have n3_ := Aside0.mk ((by rw [hg]; exact (below_size (by repeat (first | (with_reducible first | exact HB.out | apply below_alloc | apply pw_below_drewN | apply below_drew1) | exact HB.out))) : w.heap.size ≤ gb101)); clear HB; have HB := n0_; have BK101 := n1_; have GW101 := n2_; have GE101 := n3_; clear n0_ n1_ n2_ n3_; clear hb hbox hg) | ((with_reducible refine gate_callee (f := 15) rfl ?_); refine goesL_ (some 15) rfl rfl Tryd.func15 (by kernel_rfl) rfl #[.slice A0 l0.length c0] rfl (by (try simp only [List.map_toArray, List.map_cons, List.map_nil]); first | done | rfl | (simp only [List.length_drop, List.length_take]; rfl)) ?_; (with_reducible refine (creelref_EntriesFault.calls k _ _ l0 t102 _ ?side1 ?side2 A3.out).mono ?_); (case side1 => repeat (first | exact (Kd.C_below HR0.out HB.out) | (with_reducible refine Kd.C_alloc ?_ _) | (with_reducible refine Kd.C_drewN ?_ _) | (with_reducible refine Kd.C_drew ?_))); (case side2 => exact HC0.out); rintro e w46 ⟨rfl, hb⟩; refine ⟨_, rfl, ?_⟩; have n0_ := Aside0.mk (blk_below (g := gb101) (o := .cells #[.string (⟨#[]⟩ : ByteArray), .int .i64 0] 40 (0, 0)) (by (with_reducible repeat (first | refine blk_drewN ?_ _ | refine blk_drew ?_ | refine blk_alloc ?_ _)); exact BK101.out) hb); have n1_ := Aside0.mk (below_step (by repeat (first | (with_reducible first | exact HB.out | apply below_alloc | apply pw_below_drewN | apply below_drew1 | refine below_set ?_ GE101.out) | exact HB.out)) hb); clear BK101; clear HB; have BK101 := n0_; have HB := n1_; clear n0_ n1_; (try clear hb); (try clear hb2); (try clear hk); (try clear hi); have hcz47_0 : w46.cell? ⟨gb101, 0, none⟩ = some (.string (⟨#[]⟩ : ByteArray)) := (blk_cell BK101.out 0).trans rfl; have hcz47_1 : w46.cell? ⟨gb101, 1, none⟩ = some (.int .i64 0) := (blk_cell BK101.out 1).trans rfl; have hfz47_0 := blk_frozen BK101.out 0; have hfz47_1 := blk_frozen BK101.out 1))
  refine bodyPost_ret (results_ctt rfl _ _ gb101 40 #[.string (⟨#[]⟩ : ByteArray), .int .i64 0] (0, 0) _ rfl (by (with_reducible repeat (first | refine blk_drewN ?_ _ | refine blk_drew ?_ | refine blk_alloc ?_ _)); refine blk_put (cs := #[.string (⟨#[]⟩ : ByteArray), .int .i64 0]) ?_ 1 _ rfl; (with_reducible repeat (first | refine blk_drewN ?_ _ | refine blk_drew ?_ | refine blk_alloc ?_ _)); refine blk_put (cs := #[.string (⟨#[]⟩ : ByteArray), .int .i64 0]) ?_ 0 _ rfl; (with_reducible repeat (first | refine blk_drewN ?_ _ | refine blk_drew ?_ | refine blk_alloc ?_ _)); exact BK101.out) Tryd.underlying40 rfl (by kernel_rfl)) rfl ?_
  exact ⟨by first | rfl | (simp [errW_none, errW_some] <;> rfl) | (simp [*, errW_none, errW_some] <;> rfl), by repeat (first | (with_reducible first | exact HB.out | apply below_alloc | apply pw_below_drewN | apply below_drew1 | refine below_set ?_ GE101.out) | exact HB.out)⟩

end Go.Proofs.YtgkofpjeiogafaaDoor.All
end
