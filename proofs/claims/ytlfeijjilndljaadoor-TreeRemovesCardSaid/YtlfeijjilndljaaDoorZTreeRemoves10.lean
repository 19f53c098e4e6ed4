/- Made by programs of the prover: walks of Go functions, the words that they use, and plain laws, each text in a section of its own; no condition of its own. -/
import Derived.Deep.Slices
import Derived.SizedLaws
import Derived.ChangeSlices
import Derived.ChangeArms
import Derived.ChangeSame
import Derived.ProofKit
import Derived.Test.YtlfeijjilndljaaDoorZTreeRemoves1
import Derived.Test.YtlfeijjilndljaaDoorZTreeRemoves2
import Derived.Test.YtlfeijjilndljaaDoorZTreeRemoves3
import Derived.Test.YtlfeijjilndljaaDoorZTreeRemoves6
import Derived.Test.YtlfeijjilndljaaDoorZTreeRemoves7
import Derived.Test.YtlfeijjilndljaaDoorZTreeRemoves9
section
namespace Go.Proofs.YtlfeijjilndljaaDoor.All
open Go.RowKit Go.Proofs.YtlfeijjilndljaaDoorW.PrintWords Go.Proofs.YtlfeijjilndljaaDoorW.PrintLast Go.Proofs.YtlfeijjilndljaaDoorW.PrintMore
open Go.Proofs.YtlfeijjilndljaaDoorW.Mine
attribute [local go_sem] gtr_string leq_string geq_string
attribute [local go_sem] max2_int min2_int max_two min_two max_three min_three max_four min_four   -- for this text's walks alone
set_option linter.unusedVariables false
set_option linter.unusedSimpArgs false

/-! ### creelref_TreeFault: function 41 -/
open Go.Proofs.YtlfeijjilndljaaDoorW.MapOwn
attribute [local go_sem high] eqK32
def creelref_TreeFault.right (k : Nat) (x : S56) : Option Int := creelref_NodeFault.f k (x).f0 (x).f1 (x).f2 (x).f3 (x).f4.f0 (x).f4.f1 (x).f4.f2 (x).f4.f3 (x).f4.f4 (x).f4.f5 (x).f4.f6 (x).f5
/-- is the path behind the last one no greater? -/
def creelref_TreeFault.two (k : Nat) (l : List S56) (x : S56) (n : Nat) : Option Bool := if 0 < n then (creelref_PathOrder.f k (rd_T56 l ((n - 1 : Nat) : Int)).f0 x.f0).bind fun c => some (c != -1) else some false
/-- is what it is in no directory ahead of it? -/
def creelref_TreeFault.up (k : Nat) (l : List S56) (x : S56) (n : Nat) : Option Bool := (creelref_PathSplit.f k x.f0).bind fun p => (creelref_TreeFind.f k (l.take n) p.1).bind fun j => if p.1.toList = ([] : List UInt8) then some false else if j = (n : Int) then some true else if 0 ≤ j ∧ j < (l.length : Int) then some ((rd_T56 l j).f1 != 2) else none
def creelref_TreeFault.meta (y x : S56) : Bool := ((y.f4).f0 == (x.f4).f0 && ((y.f4).f1 == (x.f4).f1 && ((y.f4).f2 == (x.f4).f2 && ((y.f4).f3.toList == (x.f4).f3.toList && ((y.f4).f4.toList == (x.f4).f4.toList && ((y.f4).f5 == (x.f4).f5 && ((y.f4).f6 == (x.f4).f6)))))))
def creelref_TreeFault.data (y x : S56) : Bool := (strOfNums y.f5).toList == (strOfNums x.f5).toList
/-- the files ahead that are said to be this one -/
def creelref_TreeFault.l1 : Nat → List S56 → S56 → Nat → Nat → Option Int
 | 0, _, _, _, _ => none
 | k + 1, l, x, n, j => if j < n then (if (rd_T56 l (j : Int)).f2 = x.f2 then (if creelref_TreeFault.meta (rd_T56 l (j : Int)) x = true then (if creelref_TreeFault.data (rd_T56 l (j : Int)) x = true then creelref_TreeFault.l1 k l x n (j + 1) else some 11) else some 11) else creelref_TreeFault.l1 k l x n (j + 1)) else some 0
def creelref_TreeFault.step (k : Nat) (l : List S56) (x : S56) (n : Nat) : Option Int := (creelref_TreeFault.right k x).bind fun e => if e = 0 then ((creelref_TreeFault.two k l x n).bind fun t => if t = true then some 6 else (creelref_TreeFault.up k l x n).bind fun u => if u = true then some 10 else if x.f2 = 0 then some 0 else creelref_TreeFault.l1 k l x n 0) else some e
def creelref_TreeFault.l0 : Nat → List S56 → Nat → Option Int
 | 0, _, _ => none
 | k + 1, l, n => if n < l.length then (creelref_TreeFault.step k l (rd_T56 l (n : Int)) n).bind fun e => if e = 0 then creelref_TreeFault.l0 k l (n + 1) else some e else some 0
def creelref_TreeFault.f (k : Nat) (l0 : List S56) : Option Int := if 40 < l0.length then some 1 else creelref_TreeFault.l0 k l0 0
theorem creelref_TreeFault.mono_two : ∀ l x n k, LeO (creelref_TreeFault.two k l x n) (creelref_TreeFault.two (k + 1) l x n) := by
 intro l x n k
 unfold creelref_TreeFault.two
 repeat' first
   | (with_reducible exact LeO.refl _)
   | (with_reducible exact LeO.none _)
   | (with_reducible refine LeO.ite ?_ ?_)
   | (with_reducible refine LeO.bind ?_ (fun _ => ?_))
   | exact creelref_PathOrder.mono _ _ _
theorem creelref_TreeFault.mono_up : ∀ l x n k, LeO (creelref_TreeFault.up k l x n) (creelref_TreeFault.up (k + 1) l x n) := by
 intro l x n k
 unfold creelref_TreeFault.up
 repeat' first
   | (with_reducible exact LeO.refl _)
   | (with_reducible exact LeO.none _)
   | (with_reducible refine LeO.ite ?_ ?_)
   | (with_reducible refine LeO.bind ?_ (fun _ => ?_))
   | exact creelref_PathSplit.mono _ _
   | exact creelref_TreeFind.mono _ _ _
theorem creelref_TreeFault.mono_l1 : ∀ k, (∀ y0 y1 y2 y3, LeO (creelref_TreeFault.l1 k y0 y1 y2 y3) (creelref_TreeFault.l1 (k + 1) y0 y1 y2 y3))
 | 0 => fun _ _ _ _ r h => by simp [creelref_TreeFault.l1] at h
 | k + 1 => by
  have ih0 := creelref_TreeFault.mono_l1 k
  intro y0 y1 y2 y3
  unfold creelref_TreeFault.l1
  repeat' first
    | (with_reducible exact ih0 _ _ _ _)
    | (with_reducible exact LeO.refl _)
    | (with_reducible exact LeO.none _)
    | (with_reducible refine LeO.ite ?_ ?_)
    | (with_reducible refine LeO.bind ?_ (fun _ => ?_))
theorem creelref_TreeFault.mono_step : ∀ l x n k, LeO (creelref_TreeFault.step k l x n) (creelref_TreeFault.step (k + 1) l x n) := by
 intro l x n k
 unfold creelref_TreeFault.step creelref_TreeFault.right
 repeat' first
   | (with_reducible exact creelref_TreeFault.mono_l1 _ _ _ _ _)
   | (with_reducible exact LeO.refl _)
   | (with_reducible exact LeO.none _)
   | (with_reducible refine LeO.ite ?_ ?_)
   | (with_reducible refine LeO.bind ?_ (fun _ => ?_))
   | exact creelref_TreeFault.mono_two _ _ _ _
   | exact creelref_TreeFault.mono_up _ _ _ _
   | exact creelref_NodeFault.mono _ _ _ _ _ _ _ _ _ _ _ _ _
theorem creelref_TreeFault.mono_l : ∀ k, (∀ y0 y1, LeO (creelref_TreeFault.l0 k y0 y1) (creelref_TreeFault.l0 (k + 1) y0 y1))
 | 0 => fun _ _ r h => by simp [creelref_TreeFault.l0] at h
 | k + 1 => by
  have ih0 := creelref_TreeFault.mono_l k
  intro y0 y1
  unfold creelref_TreeFault.l0
  repeat' first
    | (with_reducible exact ih0 _ _)
    | (with_reducible exact LeO.refl _)
    | (with_reducible exact LeO.none _)
    | (with_reducible refine LeO.ite ?_ ?_)
    | (with_reducible refine LeO.bind ?_ (fun _ => ?_))
    | exact creelref_TreeFault.mono_step _ _ _ _
theorem creelref_TreeFault.mono : ∀ a0 k, LeO (creelref_TreeFault.f k a0) (creelref_TreeFault.f (k + 1) a0) := by
 intro a0 k
 have ih0 := creelref_TreeFault.mono_l k
 unfold creelref_TreeFault.f
 repeat' first
   | (with_reducible exact ih0 _ _)
   | (with_reducible exact LeO.refl _)
   | (with_reducible exact LeO.none _)
   | (with_reducible refine LeO.ite ?_ ?_)
   | (with_reducible refine LeO.bind ?_ (fun _ => ?_))
theorem creelref_TreeFault.conv {W : World} {A : Option Addr} {n : Nat} {xs : List Int} (h : (Kd.int .u8).C W A n xs) (c : Nat) : ∀ q, (convert 33 9 (.slice A n c)).run Tryd.prog (W.drewN q) = .ok (.string (strOfNums xs)) (W.drewN q) := fun q => Kd.C_string Tryd.underlying33 Tryd.underlying5 Tryd.underlying9 (Kd.C_drewN h q)
set_option maxHeartbeats 8000000 in
set_option maxRecDepth 100000 in
theorem creelref_TreeFault.calls (k : Nat) (A0 : Option Addr) (c0 : Nat) (l0 : List (S56)) (r : Int) (w : World) (hr0 : Kd.C k56 w A0 l0.length l0) (hc0 : l0.length ≤ c0) (h : creelref_TreeFault.f k l0 = some r) :
  Calls Tryd.prog 41 #[.slice A0 l0.length c0] w fun e w' => e = .returned (.int .i64 r) ∧ Below w.heap.size w w' := by
 have hu56 := Tryd.underlying56
 have hu32 := Tryd.underlying32
 have HR0 := Aside0.mk hr0
 have HC0 := Aside0.mk hc0
 clear hr0 hc0
 by_cases c1 : 40 < l0.length
 ·have H : (if 40 < l0.length then some 1 else creelref_TreeFault.l0 k l0 0) = some r := h
  rw [if_pos c1] at H
  obtain rfl := Option.some.inj H
  clear h H
  have c1b : decide ((40 : Int) < (l0.length : Int)) = true := decide_eq_true (by omega)
  clear c1
  go_enter Tryd.func41, Tryd.ntmps41
  go_wp2
  go_ret
  exact ⟨rfl, by first | exact Below.refl _ _ | exact below_drew1 (Below.refl _ _)⟩
 ·have H : (if 40 < l0.length then some 1 else creelref_TreeFault.l0 k l0 0) = some r := h
  rw [if_neg c1] at H
  have H' := Aside0.mk H
  have HN := Aside0.mk (Nat.not_lt.1 c1)
  have HB0 := Aside0.mk (Below.refl w.heap.size w)
  have c1b : decide ((40 : Int) < (l0.length : Int)) = false := decide_eq_false (by omega)
  clear h H c1
  go_enter Tryd.func41, Tryd.ntmps41
  go_wp2
  go_loopg [3] k (fun kq v3 wx => ∃ (n : Nat), v3 = .int .i64 (n : Int) ∧ Aside0 (n ≤ l0.length) ∧ Aside0 (creelref_TreeFault.l0 kq l0 n = some r) ∧ Aside0 (kq ≤ k) ∧ Aside0 (Below w.heap.size w wx))
  case atStart => exact ⟨0, rfl, ⟨Nat.zero_le _⟩, H', ⟨Nat.le_refl _⟩, HB0⟩
  case round =>
   clear H' HB0
   obtain ⟨n, rfl, HN1, HA, HK1, HB⟩ := hrel
   cases gk with
   | zero => exact absurd HA.out (by simp [creelref_TreeFault.l0])
   | succ k1 =>
    have H := HA.out
    clear HA
    simp only [creelref_TreeFault.l0] at H
    by_cases c3 : n < l0.length
    ·rw [if_pos c3] at H
     have c3b : decide ((n : Int) < (l0.length : Int)) = true := decide_eq_true (by omega)
     replace H := Option.bind_eq_some_iff.mp H
     obtain ⟨e0, AS, H⟩ := H
     obtain ⟨ad, A11, c11, e, hx, hl11, hi11⟩ := elem56 HR0.out n c3
     cases e
     have HXC := Aside0.mk hx
     clear hx
     have p3 : ((n : Int) < (l0.length : Int)) = True := eq_true (by omega)
     have p4 : (0 ≤ (n : Int)) = True := eq_true (by omega)
     have HX := Aside0.mk hi11
     have HL := Aside0.mk hl11
     have HLT := Aside0.mk c3
     clear hi11 hl11 c3
     generalize hx : rd_T56 l0 (n : Int) = x at *
     clear hx
     obtain ⟨e1, AR, AS⟩ := Option.bind_eq_some_iff.mp (show ((creelref_TreeFault.right k1 x).bind fun e => if e = 0 then ((creelref_TreeFault.two k1 l0 x n).bind fun t => if t = true then some 6 else (creelref_TreeFault.up k1 l0 x n).bind fun u => if u = true then some 10 else if x.f2 = 0 then some 0 else creelref_TreeFault.l1 k1 l0 x n 0) else some e) = some e0 from AS)
     have HAR := Aside0.mk (show creelref_NodeFault.f k1 (x).f0 (x).f1 (x).f2 (x).f3 (x).f4.f0 (x).f4.f1 (x).f4.f2 (x).f4.f3 (x).f4.f4 (x).f4.f5 (x).f4.f6 (x).f5 = some e1 from AR)
     clear AR
     by_cases c6 : e1 = 0
     ·rw [if_pos c6] at AS
      obtain ⟨t, AT, AS⟩ := Option.bind_eq_some_iff.mp AS
      have HAT := Aside0.mk AT
      have HQ := Aside0.mk AS
      have HH := Aside0.mk H
      have c6a : (e1 == 0) = true := beq_iff_eq.mpr c6
      have c6b : (e1 != 0) = false := bne_eq_false_iff_eq.mpr c6
      clear AS H AT c6
      go_upto_region 10 with (first | ((with_reducible refine gate_dst (N := 22) rfl ?_); refine load_event (ad := ad.add (n * 12)) rfl rfl hu56 rfl rfl (cs := [.string (x).f0, .int .i64 (x).f1, .int .i64 (x).f2, .string (x).f3, .int .i64 (x).f4.f0, .int .i64 (x).f4.f1, .int .i64 (x).f4.f2, .string (x).f4.f3, .string (x).f4.f4, .int .i64 (x).f4.f5, .int .i64 (x).f4.f6, .slice A11 (x).f5.length c11]) sz56 (fun j v hv => (HB.out.cell (World.block_lt_of_cell? w _ (HXC.out j v hv))).trans (HXC.out j v hv)) ?_) | ((with_reducible refine gate_dst (N := 4) rfl ?_); refine box_event ?hg (N := 4) ?hd (cs := #[.string (⟨#[]⟩ : ByteArray), .int .i64 0, .int .i64 0, .string (⟨#[]⟩ : ByteArray), .int .i64 0, .int .i64 0, .int .i64 0, .string (⟨#[]⟩ : ByteArray), .string (⟨#[]⟩ : ByteArray), .int .i64 0, .int .i64 0, .slice none 0 0]) (t := 56) ?hr ?_; (case hd => rfl); (case hg => rfl); (case hr => first | (go_simp; done) | (go_simp; rfl)); intro gb hg w2 hbox hb2; have HS := Aside0.mk (Held.box HB.out hg hbox hb2); clear hg hbox hb2 HB) | ((with_reducible refine gate_store (t := 56) (p := 4) rfl ?_); refine put_event rfl rfl rfl rfl rfl HS.out.blk sz56 rfl rfl ?_; intro w3 hk3 hg3; have HS3 := Aside0.mk (HS.out.put hk3 hg3); clear HS hk3 hg3; have HS := HS3; clear HS3) | ((with_reducible refine gate_dst (N := 23) rfl ?_); refine load_event rfl rfl hu56 rfl rfl (cs := [.string (x).f0, .int .i64 (x).f1, .int .i64 (x).f2, .string (x).f3, .int .i64 (x).f4.f0, .int .i64 (x).f4.f1, .int .i64 (x).f4.f2, .string (x).f4.f3, .string (x).f4.f4, .int .i64 (x).f4.f5, .int .i64 (x).f4.f6, .slice A11 (x).f5.length c11]) sz56 (cells_of_blk HS.out.blk) ?_) | (go_at_call 77; refine (creelref_NodeFault.calls k1 (x).f0 (x).f1 (x).f2 (x).f3 (x).f4.f0 (x).f4.f1 (x).f4.f2 (x).f4.f3 (x).f4.f4 (x).f4.f5 (x).f4.f6 A11 c11 (x).f5 e1 _ (Kd.C_below HX.out HS.out.below) HL.out HAR.out).mono ?_; rintro e w3 ⟨rfl, hb3⟩; have HS3 := Aside0.mk (HS.out.step hb3); clear HS hb3; have HS := HS3; clear HS3))
      (try simp only [Act.put, List.setIfInBounds_toArray, List.set_cons_zero, List.set_cons_succ])
      go_cut [41] (fun v41 wc => v41 = .bool t ∧ Aside0 (Held w wc gb 56 #[.string (x).f0, .int .i64 (x).f1, .int .i64 (x).f2, .string (x).f3, .int .i64 (x).f4.f0, .int .i64 (x).f4.f1, .int .i64 (x).f4.f2, .string (x).f4.f3, .string (x).f4.f4, .int .i64 (x).f4.f5, .int .i64 (x).f4.f6, .slice A11 (x).f5.length c11]))
      case first =>
       by_cases c7 : 0 < n
       ·have AT := HAT.out
        clear HAT
        unfold creelref_TreeFault.two at AT
        rw [if_pos c7] at AT
        obtain ⟨c, AC, AT⟩ := Option.bind_eq_some_iff.mp AT
        obtain rfl := Option.some.inj AT
        have HAC := Aside0.mk AC
        clear AC AT
        obtain ⟨ad', A11', c11', e', hx', _, _⟩ := elem56 HR0.out (n - 1) (by have := HN1.out; omega)
        cases e'
        have h0 : w.cell? (ad.add ((n - 1) * 12)) = some (.string (rd_T56 l0 ((n - 1 : Nat) : Int)).f0) := hx' 0 _ rfl
        have hc0 := (HS.out.below.cell (World.block_lt_of_cell? w _ h0)).trans h0
        clear hx' h0
        have hw : IntKind.i64.wrap ((n : Int) - 1) = ((n - 1 : Nat) : Int) := by have := HN.out; have := HN1.out; rw [IntWalk.i64_in _ (by omega)]; omega
        have hn' : ((n - 1 : Nat) : Int) < (l0.length : Int) := by have := HN1.out; omega
        have hc1 := blk_cell HS.out.blk 0
        have hg0 : decide ((0 : Int) < (n : Int)) = true := decide_eq_true (by omega)
        have hg1 : (0 < n) = True := eq_true c7
        go_region_held3 (fun w' => w'.cell? (ad.add ((n - 1) * 12)) = some (.string (rd_T56 l0 ((n - 1 : Nat) : Int)).f0) ∧ w'.cell? ⟨gb, 0, none⟩ = some (.string x.f0)) (first | go_keep | (go_split_ands; exact ⟨(hb3.cell (World.block_lt_of_cell? _ _ (by assumption))).trans (by assumption), (hb3.cell (World.block_lt_of_cell? _ _ (by assumption))).trans (by assumption)⟩)) ((go_at_call 58; refine (creelref_PathOrder.calls k1 _ _ c _ HAC.out).mono ?_; rintro e w3 ⟨rfl, hb3⟩))
        go_wp2
        go_meet
        case rel => exact ⟨rfl, ⟨by first | exact HS.out.step hb3 | exact (HS.out.drewN _).step hb3 | exact HS.out.drew.step hb3⟩⟩
       ·have AT := HAT.out
        clear HAT
        unfold creelref_TreeFault.two at AT
        rw [if_neg c7] at AT
        obtain rfl := Option.some.inj AT
        clear AT
        have hg0 : decide ((0 : Int) < (n : Int)) = false := decide_eq_false (by omega)
        have hg1 : (0 < n) = False := eq_false c7
        go_quiet (fail)
        go_wp2
        go_meet
        case rel => exact ⟨rfl, ⟨by first | exact HS.out | exact HS.out.drewN _ | exact HS.out.drew⟩⟩
      case rest =>
       obtain ⟨rfl, HS⟩ := hcut
       cases t with
       | true =>
        have AS := HQ.out
        have H := HH.out
        rw [if_pos rfl] at AS
        obtain rfl := Option.some.inj AS
        rw [if_neg (by decide)] at H
        obtain rfl := Option.some.inj H
        clear HQ HH H HAT
        go_wp2
        go_ret
        exact ⟨rfl, HS.out.below⟩
       | false =>
        have AS := HQ.out
        rw [if_neg (by decide)] at AS
        obtain ⟨u, AU, AS⟩ := Option.bind_eq_some_iff.mp AS
        have HQ2 := Aside0.mk AS
        obtain ⟨⟨up, last⟩, AP, AU⟩ := Option.bind_eq_some_iff.mp (show ((creelref_PathSplit.f k1 x.f0).bind fun p => (creelref_TreeFind.f k1 (l0.take n) p.1).bind fun j => if p.1.toList = ([] : List UInt8) then some false else if j = (n : Int) then some true else if 0 ≤ j ∧ j < (l0.length : Int) then some ((rd_T56 l0 j).f1 != 2) else none) = some u from AU)
        obtain ⟨j1, AF, AU⟩ := Option.bind_eq_some_iff.mp AU
        have HAP := Aside0.mk AP
        have HAU := Aside0.mk AU
        have HF : Aside0 (∀ W, Below w.heap.size w W → Calls Tryd.prog 42 #[.slice (some ad) n c0, .string up] W fun e w' => e = .returned (.int .i64 j1) ∧ Below W.heap.size W w') := ⟨fun W hb => by
         have hlen : (l0.take n).length = n := by have := HN1.out; simp; omega
         have := creelref_TreeFind.calls k1 (some ad) c0 (l0.take n) up j1 W (Kd.C_below (Kd.C_take HR0.out HN1.out) hb) (by have := HC0.out; have := HN1.out; omega) AF
         rw [hlen] at this
         exact this.mono (by rintro e w' ⟨rfl, nd, rfl⟩; exact ⟨rfl, pw_below_drewN (Below.refl _ _) nd⟩)⟩
        have hnc : (n : Int) ≤ (c0 : Int) := by have := HC0.out; have := HN1.out; omega
        have hnc' : n ≤ c0 := by omega
        clear AS AU AP AF HQ HAT
        have hc0 := blk_cell HS.out.blk 0
        go_upto_region 14 with (first | (go_at_call 70; refine (creelref_PathSplit.calls k1 x.f0 up last _ HAP.out).mono ?_; rintro e w4 ⟨rfl, hb4⟩; have HS4 := Aside0.mk (HS.out.step hb4); clear HS hb4; have HS := HS4; clear HS4) | (go_at_call 42; refine (HF.out _ HS.out.below).mono ?_; rintro e w5 ⟨rfl, hb5⟩; have HS5 := Aside0.mk (HS.out.step hb5); clear HS hb5; have HS := HS5; clear HS5))
        (try simp only [Act.put, List.setIfInBounds_toArray, List.set_cons_zero, List.set_cons_succ])
        go_cut [67] (fun v67 wc => v67 = .bool u ∧ Aside0 (Held w wc gb 56 #[.string (x).f0, .int .i64 (x).f1, .int .i64 (x).f2, .string (x).f3, .int .i64 (x).f4.f0, .int .i64 (x).f4.f1, .int .i64 (x).f4.f2, .string (x).f4.f3, .string (x).f4.f4, .int .i64 (x).f4.f5, .int .i64 (x).f4.f6, .slice A11 (x).f5.length c11]))
        case first =>
         have AU := HAU.out
         by_cases c8 : up.toList = ([] : List UInt8)
         ·rw [if_pos c8] at AU
          obtain rfl := Option.some.inj AU
          have c8a : up.toList.isEmpty = true := by rw [c8]; rfl
          have c8b : (!up.toList.isEmpty) = false := by rw [c8]; rfl
          clear AU c8
          go_wp2
          go_meet
          case rel => exact ⟨rfl, ⟨by first | exact HS.out | exact HS.out.drewN _ | exact HS.out.drew⟩⟩
         ·rw [if_neg c8] at AU
          have c8a : up.toList.isEmpty = false := by cases h : up.toList with | nil => exact absurd h c8 | cons a b => rfl
          have c8b : (!up.toList.isEmpty) = true := by rw [c8a]; rfl
          clear c8
          by_cases c9 : j1 = (n : Int)
          ·rw [if_pos c9] at AU
           obtain rfl := Option.some.inj AU
           have c9a : (j1 == (n : Int)) = true := beq_iff_eq.mpr c9
           clear AU c9
           go_wp2
           go_meet
           case rel => exact ⟨rfl, ⟨by first | exact HS.out | exact HS.out.drewN _ | exact HS.out.drew⟩⟩
          ·rw [if_neg c9] at AU
           by_cases c10 : 0 ≤ j1 ∧ j1 < (l0.length : Int)
           ·rw [if_pos c10] at AU
            obtain rfl := Option.some.inj AU
            have c9a : (j1 == (n : Int)) = false := beq_eq_false_iff_ne.mpr c9
            clear AU c9
            obtain ⟨ad', A11', c11', e', hq0, hq1, hq2, hq3, hq4, hq5, hq6, hq7, hq8, hq9, hq10, hq11, _, _⟩ := at_T56 HR0.out j1 c10.1 c10.2
            cases e'
            have hf1 := (HS.out.below.cell (World.block_lt_of_cell? w _ hq1)).trans hq1
            clear hq0 hq1 hq2 hq3 hq4 hq5 hq6 hq7 hq8 hq9 hq10 hq11
            have c10a := eq_true c10.1
            have c10b := eq_true c10.2
            clear c10
            go_wp2
            go_meet
            case rel => exact ⟨rfl, ⟨by first | exact HS.out | exact HS.out.drewN _ | exact HS.out.drew⟩⟩
           ·rw [if_neg c10] at AU
            cases AU
        case rest =>
         obtain ⟨rfl, HS⟩ := hcut
         have AS := HQ2.out
         have H := HH.out
         clear HQ2 HH HAU
         cases u with
         | true =>
          rw [if_pos rfl] at AS
          obtain rfl := Option.some.inj AS
          rw [if_neg (by decide)] at H
          obtain rfl := Option.some.inj H
          clear H
          go_wp2
          go_ret
          exact ⟨rfl, HS.out.below⟩
         | false =>
          rw [if_neg (by decide)] at AS
          have hc2 := blk_cell HS.out.blk 2
          have h40 : (n : Int) < 40 := by have := HLT.out; have := HN.out; omega
          by_cases c12 : x.f2 = 0
          ·rw [if_pos c12] at AS
           obtain rfl := Option.some.inj AS
           rw [if_pos rfl] at H
           have H' := Aside0.mk H
           have c12b : (x.f2 == 0) = true := beq_iff_eq.mpr c12
           clear H c12
           go_wp2
           go_roundg k1
           case measure => have := HK1.out; omega
           case rel => exact ⟨n + 1, by go_num, ⟨HLT.out⟩, H', ⟨by have := HK1.out; omega⟩, ⟨(by first | exact HS.out.below | exact HS.out.drew.below)⟩⟩
          ·rw [if_neg c12] at AS
           have HAS := Aside0.mk AS
           have HH := Aside0.mk H
           have c12b : (x.f2 == 0) = false := beq_eq_false_iff_ne.mpr c12
           clear H AS c12
           go_wp2
           go_loopg [9] k1 (fun kq v9 wx => ∃ (j : Nat), v9 = .int .i64 (j : Int) ∧ Aside0 (j ≤ n) ∧ Aside0 (creelref_TreeFault.l1 kq l0 x n j = some e0) ∧ Aside0 (kq ≤ k1) ∧ Aside0 (Held w wx gb 56 #[.string (x).f0, .int .i64 (x).f1, .int .i64 (x).f2, .string (x).f3, .int .i64 (x).f4.f0, .int .i64 (x).f4.f1, .int .i64 (x).f4.f2, .string (x).f4.f3, .string (x).f4.f4, .int .i64 (x).f4.f5, .int .i64 (x).f4.f6, .slice A11 (x).f5.length c11]))
           case atStart => exact ⟨0, rfl, ⟨Nat.zero_le _⟩, HAS, ⟨Nat.le_refl _⟩, HS⟩
           case round =>
            clear HAS HS hc2
            obtain ⟨j, rfl, HJ1, HA, HK2, HS⟩ := hrel
            cases gk with
            | zero => exact absurd HA.out (by simp [creelref_TreeFault.l1])
            | succ k2 =>
             have AS := HA.out
             clear HA
             simp only [creelref_TreeFault.l1] at AS
             by_cases c13 : j < n
             ·rw [if_pos c13] at AS
              have c13b : decide ((j : Int) < (n : Int)) = true := decide_eq_true (by omega)
              have c13c := eq_true c13
              obtain ⟨ad', Aj, cj, e', hq0, hq1, hq2, hq3, hq4, hq5, hq6, hq7, hq8, hq9, hq10, hq11, hl, hi⟩ := at_T56 HR0.out (j : Int) (Int.natCast_nonneg _) (by have := HLT.out; omega)
              cases e'
              simp only [Int.toNat_natCast] at hq0 hq1 hq2 hq3 hq4 hq5 hq6 hq7 hq8 hq9 hq10 hq11
              have hf2 := (HS.out.below.cell (World.block_lt_of_cell? w _ hq2)).trans hq2
              have hg2 := blk_cell HS.out.blk 2
              have hf4 := (HS.out.below.cell (World.block_lt_of_cell? w _ hq4)).trans hq4
              have hg4 := blk_cell HS.out.blk 4
              have hf5 := (HS.out.below.cell (World.block_lt_of_cell? w _ hq5)).trans hq5
              have hg5 := blk_cell HS.out.blk 5
              have hf6 := (HS.out.below.cell (World.block_lt_of_cell? w _ hq6)).trans hq6
              have hg6 := blk_cell HS.out.blk 6
              have hf7 := (HS.out.below.cell (World.block_lt_of_cell? w _ hq7)).trans hq7
              have hg7 := blk_cell HS.out.blk 7
              have hf8 := (HS.out.below.cell (World.block_lt_of_cell? w _ hq8)).trans hq8
              have hg8 := blk_cell HS.out.blk 8
              have hf9 := (HS.out.below.cell (World.block_lt_of_cell? w _ hq9)).trans hq9
              have hg9 := blk_cell HS.out.blk 9
              have hf10 := (HS.out.below.cell (World.block_lt_of_cell? w _ hq10)).trans hq10
              have hg10 := blk_cell HS.out.blk 10
              have hf11 := (HS.out.below.cell (World.block_lt_of_cell? w _ hq11)).trans hq11
              have hg11 := blk_cell HS.out.blk 11
              clear hq0 hq1 hq2 hq3 hq4 hq5 hq6 hq7 hq8 hq9 hq10 hq11
              have p5 : (0 ≤ (j : Int)) = True := eq_true (by omega)
              have p6 : ((j : Int) < (l0.length : Int)) = True := eq_true (by have := HLT.out; omega)
              have HJL := Aside0.mk c13
              have HI := Aside0.mk hi
              have j40 : (j : Int) < 40 := by omega
              clear hi hl c13
              generalize hy : rd_T56 l0 (j : Int) = y at *
              clear hy
              by_cases c14 : y.f2 = x.f2
              ·rw [if_pos c14] at AS
               have c14b : (y.f2 == x.f2) = true := beq_iff_eq.mpr c14
               clear c14
               by_cases c15 : creelref_TreeFault.meta y x = true
               ·rw [if_pos c15] at AS
                have c15b : ((y.f4).f0 == (x.f4).f0 && ((y.f4).f1 == (x.f4).f1 && ((y.f4).f2 == (x.f4).f2 && ((y.f4).f3.toList == (x.f4).f3.toList && ((y.f4).f4.toList == (x.f4).f4.toList && ((y.f4).f5 == (x.f4).f5 && ((y.f4).f6 == (x.f4).f6))))))) = true := c15
                have hcv1 := creelref_TreeFault.conv (Kd.C_below HI.out HS.out.below) cj
                have hcv2 := creelref_TreeFault.conv (Kd.C_below HX.out HS.out.below) c11
                clear c15
                by_cases c16 : creelref_TreeFault.data y x = true
                ·rw [if_pos c16] at AS
                 have HA' := Aside0.mk AS
                 have c16b : ((strOfNums y.f5).toList == (strOfNums x.f5).toList) = true := c16
                 have c16c : ((strOfNums y.f5).toList != (strOfNums x.f5).toList) = false := by rw [bne, c16b]; rfl
                 clear AS c16
                 go_wp2
                 go_quiet (fail)
                 go_wp2
                 go_roundg k2
                 case measure => have := HK2.out; omega
                 case rel => exact ⟨j + 1, by go_num, ⟨HJL.out⟩, HA', ⟨by have := HK2.out; omega⟩, ⟨HS.out.drewN _⟩⟩
                ·rw [if_neg c16] at AS
                 have c16b : ((strOfNums y.f5).toList == (strOfNums x.f5).toList) = false := by cases h : ((strOfNums y.f5).toList == (strOfNums x.f5).toList) with | true => exact absurd h c16 | false => rfl
                 have c16c : ((strOfNums y.f5).toList != (strOfNums x.f5).toList) = true := by rw [bne, c16b]; rfl
                 clear c16
                 have H := HH.out
                 obtain rfl := Option.some.inj AS
                 rw [if_neg (by decide)] at H
                 obtain rfl := Option.some.inj H
                 clear H AS
                 go_wp2
                 go_quiet (fail)
                 go_wp2
                 go_ret
                 exact ⟨rfl, (HS.out.drewN _).below⟩
               ·rw [if_neg c15] at AS
                have c15b : ((y.f4).f0 == (x.f4).f0 && ((y.f4).f1 == (x.f4).f1 && ((y.f4).f2 == (x.f4).f2 && ((y.f4).f3.toList == (x.f4).f3.toList && ((y.f4).f4.toList == (x.f4).f4.toList && ((y.f4).f5 == (x.f4).f5 && ((y.f4).f6 == (x.f4).f6))))))) = false := by cases h : ((y.f4).f0 == (x.f4).f0 && ((y.f4).f1 == (x.f4).f1 && ((y.f4).f2 == (x.f4).f2 && ((y.f4).f3.toList == (x.f4).f3.toList && ((y.f4).f4.toList == (x.f4).f4.toList && ((y.f4).f5 == (x.f4).f5 && ((y.f4).f6 == (x.f4).f6))))))) with | true => exact absurd h c15 | false => rfl
                clear c15
                have H := HH.out
                obtain rfl := Option.some.inj AS
                rw [if_neg (by decide)] at H
                obtain rfl := Option.some.inj H
                clear H AS
                go_wp2
                go_quiet (fail)
                go_wp2
                go_ret
                exact ⟨rfl, (HS.out.drewN _).below⟩
              ·rw [if_neg c14] at AS
               have c14b : (y.f2 == x.f2) = false := beq_eq_false_iff_ne.mpr c14
               have HA' := Aside0.mk AS
               clear c14 AS
               go_wp2
               go_quiet (fail)
               go_wp2
               go_roundg k2
               case measure => have := HK2.out; omega
               case rel => exact ⟨j + 1, by go_num, ⟨HJL.out⟩, HA', ⟨by have := HK2.out; omega⟩, ⟨HS.out.drewN _⟩⟩
             ·rw [if_neg c13] at AS
              obtain rfl := Option.some.inj AS
              have c13b : decide ((j : Int) < (n : Int)) = false := decide_eq_false (by omega)
              have c13c := eq_false c13
              have H := HH.out
              rw [if_pos rfl] at H
              have H' := Aside0.mk H
              clear H AS c13
              go_wp2
              go_roundg k1
              case measure => have := HK1.out; omega
              case rel => exact ⟨n + 1, by go_num, ⟨HLT.out⟩, H', ⟨by have := HK1.out; omega⟩, ⟨HS.out.below⟩⟩
     ·rw [if_neg c6] at AS
      obtain rfl := Option.some.inj AS
      rw [if_neg c6] at H
      obtain rfl := Option.some.inj H
      have c6a : (e1 == 0) = false := beq_eq_false_iff_ne.mpr c6
      have c6b : (e1 != 0) = true := bne_iff_ne.mpr c6
      clear c6 H
      go_wp2_with (first | ((with_reducible refine gate_dst (N := 22) rfl ?_); refine load_event (ad := ad.add (n * 12)) rfl rfl hu56 rfl rfl (cs := [.string (x).f0, .int .i64 (x).f1, .int .i64 (x).f2, .string (x).f3, .int .i64 (x).f4.f0, .int .i64 (x).f4.f1, .int .i64 (x).f4.f2, .string (x).f4.f3, .string (x).f4.f4, .int .i64 (x).f4.f5, .int .i64 (x).f4.f6, .slice A11 (x).f5.length c11]) sz56 (fun j v hv => (HB.out.cell (World.block_lt_of_cell? w _ (HXC.out j v hv))).trans (HXC.out j v hv)) ?_) | ((with_reducible refine gate_dst (N := 4) rfl ?_); refine box_event ?hg (N := 4) ?hd (cs := #[.string (⟨#[]⟩ : ByteArray), .int .i64 0, .int .i64 0, .string (⟨#[]⟩ : ByteArray), .int .i64 0, .int .i64 0, .int .i64 0, .string (⟨#[]⟩ : ByteArray), .string (⟨#[]⟩ : ByteArray), .int .i64 0, .int .i64 0, .slice none 0 0]) (t := 56) ?hr ?_; (case hd => rfl); (case hg => rfl); (case hr => first | (go_simp; done) | (go_simp; rfl)); intro gb hg w2 hbox hb2; have HS := Aside0.mk (Held.box HB.out hg hbox hb2); clear hg hbox hb2 HB) | ((with_reducible refine gate_store (t := 56) (p := 4) rfl ?_); refine put_event rfl rfl rfl rfl rfl HS.out.blk sz56 rfl rfl ?_; intro w3 hk3 hg3; have HS3 := Aside0.mk (HS.out.put hk3 hg3); clear HS hk3 hg3; have HS := HS3; clear HS3) | ((with_reducible refine gate_dst (N := 23) rfl ?_); refine load_event rfl rfl hu56 rfl rfl (cs := [.string (x).f0, .int .i64 (x).f1, .int .i64 (x).f2, .string (x).f3, .int .i64 (x).f4.f0, .int .i64 (x).f4.f1, .int .i64 (x).f4.f2, .string (x).f4.f3, .string (x).f4.f4, .int .i64 (x).f4.f5, .int .i64 (x).f4.f6, .slice A11 (x).f5.length c11]) sz56 (cells_of_blk HS.out.blk) ?_) | (go_at_call 77; refine (creelref_NodeFault.calls k1 (x).f0 (x).f1 (x).f2 (x).f3 (x).f4.f0 (x).f4.f1 (x).f4.f2 (x).f4.f3 (x).f4.f4 (x).f4.f5 (x).f4.f6 A11 c11 (x).f5 e1 _ (Kd.C_below HX.out HS.out.below) HL.out HAR.out).mono ?_; rintro e w3 ⟨rfl, hb3⟩; have HS3 := Aside0.mk (HS.out.step hb3); clear HS hb3; have HS := HS3; clear HS3))
      go_ret
      exact ⟨rfl, HS.out.below⟩
    ·rw [if_neg c3] at H
     obtain rfl := Option.some.inj H
     have c3b : decide ((n : Int) < (l0.length : Int)) = false := decide_eq_false (by omega)
     have c3c : decide (n < l0.length) = false := decide_eq_false c3
     have c3d := eq_false c3
     clear c3 H
     go_wp2
     go_ret
     exact ⟨rfl, HB.out⟩


end Go.Proofs.YtlfeijjilndljaaDoor.All
end
section
namespace Go.Proofs.YtlfeijjilndljaaDoor.All
open Go.RowKit Go.Proofs.YtlfeijjilndljaaDoorW.PrintWords Go.Proofs.YtlfeijjilndljaaDoorW.PrintLast Go.Proofs.YtlfeijjilndljaaDoorW.PrintMore
open Go.Proofs.YtlfeijjilndljaaDoorW.Mine
attribute [local go_sem] gtr_string leq_string geq_string
attribute [local go_sem] max2_int min2_int max_two min_two max_three min_three max_four min_four   -- for this text's walks alone
set_option linter.unusedVariables false
set_option linter.unusedSimpArgs false

/-! ### creelref_PathIn: function 43 -/
def creelref_PathIn.f (a0 a1 : ByteArray) : Option Bool := some (if a1.toList = ([] : List UInt8) then !a0.toList.isEmpty else if a1.size < a0.size then (if (a0.extract 0 a1.size).toList = a1.toList then bt a0 (a1.size : Int) == 47 else false) else false)
set_option maxHeartbeats 1000000 in
theorem creelref_PathIn.calls (a0 : ByteArray) (a1 : ByteArray) (r : Bool) (w : World) (h : creelref_PathIn.f a0 a1 = some r) :
  Calls Tryd.prog 43 #[.string a0, .string a1] w fun e w' => e = .returned (.bool r) ∧ Drawn0 w w' := by
 unfold creelref_PathIn.f at h
 obtain rfl := Option.some.inj h
 clear h
 by_cases c1 : a1.toList = ([] : List UInt8)
 ·rw [if_pos c1]
  have c1a : (a1.toList == ([] : List UInt8)) = true := beq_iff_eq.2 c1
  clear c1
  go_enter Tryd.func43, Tryd.ntmps43
  go_wp2
  go_ret
  exact ⟨by first | rfl | simp, Drawn0.refl _⟩
 ·rw [if_neg c1]
  have c1a : (a1.toList == ([] : List UInt8)) = false := beq_eq_false_iff_ne.2 c1
  have c1b : a1.toList.isEmpty = false := by simpa using c1
  clear c1
  by_cases c2 : a1.size < a0.size
  ·rw [if_pos c2]
   have c2a : decide ((a1.size : Int) < (a0.size : Int)) = true := decide_eq_true (by omega)
   have c2b : decide (a1.size < a0.size) = true := decide_eq_true c2
   have c2c : (a1.size : Int) ≤ a0.size := by omega
   have c2d : a1.size ≤ a0.size := by omega
   by_cases c3 : (a0.extract 0 a1.size).toList = a1.toList
   ·rw [if_pos c3]
    have c3a : ((a0.extract 0 a1.size).toList == a1.toList) = true := beq_iff_eq.2 c3
    clear c3
    have hb := bt_at a0 (a1.size : Int) (by simpa using c2)
    have hb2 : ((a0[a1.size]'c2).toNat : Int) = bt a0 (a1.size : Int) := hb
    obtain ⟨B, hB⟩ : ∃ B, bt a0 (a1.size : Int) = B := ⟨_, rfl⟩
    rw [hB] at hb2 ⊢
    clear hb hB
    go_enter Tryd.func43, Tryd.ntmps43
    go_wp2
    all_goals go_ret
    all_goals exact ⟨by first | rfl | (simp [hb2]; done) | simp_all, Drawn0.refl _⟩
   ·rw [if_neg c3]
    have c3a : ((a0.extract 0 a1.size).toList == a1.toList) = false := beq_eq_false_iff_ne.2 c3
    clear c3
    go_enter Tryd.func43, Tryd.ntmps43
    go_wp2
    all_goals go_ret
    all_goals exact ⟨by first | rfl | simp_all, Drawn0.refl _⟩
  ·rw [if_neg c2]
   have c2a : decide ((a1.size : Int) < (a0.size : Int)) = false := decide_eq_false (by omega)
   have c2b : decide (a1.size < a0.size) = false := decide_eq_false c2
   go_enter Tryd.func43, Tryd.ntmps43
   go_wp2
   all_goals go_ret
   all_goals exact ⟨by first | rfl | simp_all, Drawn0.refl _⟩


end Go.Proofs.YtlfeijjilndljaaDoor.All
end
section
namespace Go.Proofs.YtlfeijjilndljaaDoor.All
open Go.RowKit Go.Proofs.YtlfeijjilndljaaDoorW.PrintWords Go.Proofs.YtlfeijjilndljaaDoorW.PrintLast Go.Proofs.YtlfeijjilndljaaDoorW.PrintMore
open Go.Proofs.YtlfeijjilndljaaDoorW.Mine
attribute [local go_sem] gtr_string leq_string geq_string
attribute [local go_sem] max2_int min2_int max_two min_two max_three min_three max_four min_four   -- for this text's walks alone
set_option linter.unusedVariables false
set_option linter.unusedSimpArgs false

/-! ### creelref_TreeRemove: function 14 -/
-- SH 0:0 N:0
open Go.Proofs.YtlfeijjilndljaaDoorW.MapOwn
theorem creelref_TreeRemove.elemV56 {w : World} {ok : Nat → Prop} {A : Option Addr} {c base : Nat} {l : List (S56)} (h : Kd.V k56 56 w base ok (.slice A l.length c) l) (n : Nat) (hn : n < l.length) : ∃ ad Ax cx, A = some ad ∧ (∀ j v, ([.string (rd_T56 l (n : Int)).f0, .int .i64 (rd_T56 l (n : Int)).f1, .int .i64 (rd_T56 l (n : Int)).f2, .string (rd_T56 l (n : Int)).f3, .int .i64 (rd_T56 l (n : Int)).f4.f0, .int .i64 (rd_T56 l (n : Int)).f4.f1, .int .i64 (rd_T56 l (n : Int)).f4.f2, .string (rd_T56 l (n : Int)).f4.f3, .string (rd_T56 l (n : Int)).f4.f4, .int .i64 (rd_T56 l (n : Int)).f4.f5, .int .i64 (rd_T56 l (n : Int)).f4.f6, .slice Ax (rd_T56 l (n : Int)).f5.length cx] : List Value)[j]? = some v → w.cell? ((ad.add (n * 12)).add j) = some v) ∧ Kd.FK k56 w ok (rd_T56 l (n : Int)) [.string (rd_T56 l (n : Int)).f0, .int .i64 (rd_T56 l (n : Int)).f1, .int .i64 (rd_T56 l (n : Int)).f2, .string (rd_T56 l (n : Int)).f3, .int .i64 (rd_T56 l (n : Int)).f4.f0, .int .i64 (rd_T56 l (n : Int)).f4.f1, .int .i64 (rd_T56 l (n : Int)).f4.f2, .string (rd_T56 l (n : Int)).f4.f3, .string (rd_T56 l (n : Int)).f4.f4, .int .i64 (rd_T56 l (n : Int)).f4.f5, .int .i64 (rd_T56 l (n : Int)).f4.f6, .slice Ax (rd_T56 l (n : Int)).f5.length cx] := by
 obtain ⟨ad, cs, e, hcl, hK, hcc, _⟩ := Kd.F_get (Kd.V_F h) z56 (n : Int) (by omega) (by omega)
 obtain ⟨Ax, cx, rfl, lx, hF⟩ := k56_openF hK
 refine ⟨ad, Ax, cx, e, fun j v hv => ?_, hK⟩
 have := hcc j v hv
 rw [Int.toNat_natCast] at this
 rw [← this]
 congr 1
 show (ad.add (n * 12)).add j = ad.add (n * 12 + j)
 exact Go.Proofs.YtlfeijjilndljaaDoorW.MapOwn.add_add ad (n * 12) j
def creelref_TreeRemove.l0 : Nat → ByteArray → List (S56) → List (S56) → Int → Int → Option ((List (S56)) × Int)
 | 0, _, _, _, _, _ => none
 | k + 1, x1, x7, x21, x22, x23 => if x23 < x22 then (if 0 ≤ x23 then (if x23 < (x21.length : Int) then (if ((rd_T56 x21 x23).f0).toList = x1.toList then (creelref_TreeRemove.l0 k x1 x7 x21 x22 (wrap64 (x23 + 1))) else ((creelref_PathIn.f ((rd_T56 x21 x23).f0) x1).bind fun b => (if b = true then (creelref_TreeRemove.l0 k x1 x7 x21 x22 (wrap64 (x23 + 1))) else (if x7.length < 977343669134 then (creelref_TreeRemove.l0 k x1 (x7 ++ [rd_T56 x21 x23]) x21 x22 (wrap64 (x23 + 1))) else none)))) else none) else none) else ((creelref_TreeCopy.f k x7).bind fun q => some (q, 0))
def creelref_TreeRemove.f (k : Nat) (l0 : List (S56)) (a1 : ByteArray) : Option ((List (S56)) × Int) := (creelref_TreeFault.f k l0).bind fun e => (if e = 0 then ((creelref_TreeFind.f k l0 a1).bind fun i => (if i = (l0.length : Int) then (some (([] : List (S56)), 5)) else (creelref_TreeRemove.l0 k a1 ([] : List (S56)) l0 (l0.length : Int) 0))) else (some (([] : List (S56)), e)))
theorem creelref_TreeRemove.mono_l : ∀ k, (∀ y0 y1 y2 y3 y4, LeO (creelref_TreeRemove.l0 k y0 y1 y2 y3 y4) (creelref_TreeRemove.l0 (k + 1) y0 y1 y2 y3 y4))
 | 0 => fun _ _ _ _ _ r h => by simp [creelref_TreeRemove.l0] at h
 | k + 1 => by
  have ih0 := creelref_TreeRemove.mono_l k
  intro y0 y1 y2 y3 y4
  unfold creelref_TreeRemove.l0
  exact LeO.ite (LeO.ite (LeO.ite (LeO.ite (ih0 _ _ _ _ _) (LeO.bind (LeO.refl _) (fun _ => LeO.ite (ih0 _ _ _ _ _) (LeO.ite (ih0 _ _ _ _ _) (LeO.refl _))))) (LeO.refl _)) (LeO.refl _)) (LeO.bind (creelref_TreeCopy.mono _ _) (fun _ => LeO.refl _))
theorem creelref_TreeRemove.mono : ∀ a0 a1 k, LeO (creelref_TreeRemove.f k a0 a1) (creelref_TreeRemove.f (k + 1) a0 a1) := by
 intro a0 a1 k
 unfold creelref_TreeRemove.f
 exact LeO.bind (creelref_TreeFault.mono _ _) (fun _ => LeO.ite (LeO.bind (creelref_TreeFind.mono _ _ _) (fun _ => LeO.ite (LeO.refl _) (creelref_TreeRemove.mono_l k _ _ _ _ _))) (LeO.refl _))
set_option maxHeartbeats 16000000 in
set_option maxRecDepth 100000 in
theorem creelref_TreeRemove.calls (k : Nat) (P0_ : Nat → Prop) (A0 : Option Addr) (c0 : Nat) (l0 : List (S56)) (a1 : ByteArray) (r1 : List (S56)) (r2 : Int) (w : World) (hs0 : Kd.V k56 56 w w.heap.size (fun k_ => P0_ k_) (.slice A0 l0.length c0) l0) (h : creelref_TreeRemove.f k l0 a1 = some (r1, r2)) :
  Calls Tryd.prog 14 #[.slice A0 l0.length c0, .string a1] w fun e w' => ∃ v0_ : Value, e = .returned (.tuple #[v0_, .int .i64 r2]) ∧ Kd.N k56 56 w' w.heap.size (fun k_ => (P0_ k_ ∨ w.heap.size ≤ k_)) v0_ r1 ∧ Below w.heap.size w w' := by
 have hu56 := Tryd.underlying56
 have HV0 := Aside0.mk hs0
 have HR0 := Aside0.mk (Kd.V_reads' hs0).2.2
 have HC0 := Aside0.mk (Kd.V_reads' hs0).2.1
 clear hs0
 unfold creelref_TreeRemove.f at h
 obtain ⟨e1, h1, hq⟩ := Option.bind_eq_some_iff.1 h
 clear h
 have h := hq
 clear hq
 have H1 := Aside0.mk h1
 clear h1
 by_cases c1' : e1 = 0
 ·subst c1'
  rw [if_pos rfl] at h
  obtain ⟨q, h2, hq⟩ := Option.bind_eq_some_iff.1 h
  clear h
  have h := hq
  clear hq
  have H2 := Aside0.mk h2
  clear h2
  by_cases c2 : q = (l0.length : Int)
  ·rw [if_pos c2] at h
   obtain ⟨rfl, rfl⟩ := Prod.mk.inj (Option.some.inj h)
   have c2b : (q == (l0.length : Int)) = true := beq_iff_eq.mpr c2
   clear c2 h
   go_enter Tryd.func14, Tryd.ntmps14
   go_wp2_with (first | (go_at_call 41; refine (creelref_TreeFault.calls k A0 c0 l0 0 _ HR0.out HC0.out H1.out).mono ?_; rintro e w1 ⟨rfl, hb1⟩; have HB1 := Aside0.mk hb1; have HB0 := Aside0.mk hb1; clear hb1) | (go_at_call 42; refine (creelref_TreeFind.calls k A0 c0 l0 a1 q _ (Kd.C_below HR0.out HB1.out) HC0.out H2.out).mono ?_; rintro e w2 ⟨rfl, ⟨nd, rfl⟩⟩; have HB2 := Aside0.mk (pw_below_drewN HB1.out nd); clear HB1; have HB1 := HB2; clear HB2))
   go_ret2
   exact ⟨_, rfl, Kd.N_nil _ _ _ _ _, HB1.out⟩
  rw [if_neg c2] at h
  have c2b : (q == (l0.length : Int)) = false := beq_eq_false_iff_ne.mpr c2
  have H3 := Aside0.mk h
  clear h c2
  go_enter Tryd.func14, Tryd.ntmps14
  go_wp2_with (first | (go_at_call 41; refine (creelref_TreeFault.calls k A0 c0 l0 0 _ HR0.out HC0.out H1.out).mono ?_; rintro e w1 ⟨rfl, hb1⟩; have HB1 := Aside0.mk hb1; have HB0 := Aside0.mk hb1; clear hb1) | (go_at_call 42; refine (creelref_TreeFind.calls k A0 c0 l0 a1 q _ (Kd.C_below HR0.out HB1.out) HC0.out H2.out).mono ?_; rintro e w2 ⟨rfl, ⟨nd, rfl⟩⟩; have HB2 := Aside0.mk (pw_below_drewN HB1.out nd); clear HB1; have HB1 := HB2; clear HB2))
  have HO := Aside0.mk (show Kd.N k56 56 w1 w1.heap.size (fun k_ => P0_ k_ ∨ w.heap.size ≤ k_) (.slice none 0 0) [] from Kd.N_nil _ _ _ _ _)
  have HB := Aside0.mk (pw_below_drewN (Below.refl w1.heap.size w1) nd)
  have HO2 := Aside0.mk (Kd.N_drewN HO.out nd)
  clear HO
  have HO := HO2
  clear HO2
  have HB2 := HB1
  clear HB1
  have HB1 : Aside0 (Below w.heap.size w w1) := HB0
  clear HB2 HB0
  go_loopg [7, 23] k (fun kq v7 v23 wx => ∃ (z : Int) (o : List (S56)), v23 = .int .i64 z ∧ Aside0 (creelref_TreeRemove.l0 kq a1 o l0 (l0.length : Int) z = some (r1, r2)) ∧ Aside0 (Kd.N k56 56 wx w1.heap.size (fun k_ => P0_ k_ ∨ w.heap.size ≤ k_) v7 o) ∧ Aside0 (Below w1.heap.size w1 wx))
  case atStart => exact ⟨0, [], rfl, H3, HO, HB⟩
  case round =>
   clear H3 HO HB
   obtain ⟨z, o, rfl, HA, HO, HB⟩ := hrel
   cases gk with
   | zero => exact absurd HA.out (by simp [creelref_TreeRemove.l0])
   | succ k1 =>
    have H := HA.out
    clear HA
    simp only [creelref_TreeRemove.l0] at H
    by_cases c3 : z < (l0.length : Int)
    ·rw [if_pos c3] at H
     by_cases c4 : 0 ≤ z
     ·rw [if_pos c4, if_pos c3] at H
      obtain ⟨i, rfl⟩ := Int.eq_ofNat_of_zero_le c4
      have c3b : decide ((i : Int) < (l0.length : Int)) = true := decide_eq_true c3
      have p3 : ((i : Int) < (l0.length : Int)) = True := eq_true (by omega)
      have p4 : (0 ≤ (i : Int)) = True := eq_true (by omega)
      obtain ⟨ad, A11, c11, e, hx, hfk⟩ := creelref_TreeRemove.elemV56 HV0.out i (by omega)
      cases e
      have HXC := Aside0.mk hx
      have HFK := Aside0.mk (Kd.FK_bound hfk)
      clear hx hfk c3 c4
      generalize hx : rd_T56 l0 (i : Int) = x at *
      clear hx
      by_cases d1 : x.f0.toList = a1.toList
      ·rw [if_pos d1] at H
       have d1b : (x.f0.toList == a1.toList) = true := beq_iff_eq.mpr d1
       have H' := Aside0.mk H
       clear H d1
       have HPI := Aside0.mk True.intro
       go_wp2_with (first | ((with_reducible refine gate_dst (N := 26) rfl ?_); refine load_event (ad := ad.add (i * 12)) rfl rfl hu56 rfl rfl (cs := [.string (x).f0, .int .i64 (x).f1, .int .i64 (x).f2, .string (x).f3, .int .i64 (x).f4.f0, .int .i64 (x).f4.f1, .int .i64 (x).f4.f2, .string (x).f4.f3, .string (x).f4.f4, .int .i64 (x).f4.f5, .int .i64 (x).f4.f6, .slice A11 (x).f5.length c11]) sz56 (fun j v hv => ((below_step HB1.out HB.out).cell (World.block_lt_of_cell? w _ (HXC.out j v hv))).trans (HXC.out j v hv)) ?_) | ((with_reducible refine gate_dst (N := 9) rfl ?_); refine box_event ?hg (N := 9) ?hd (cs := #[.string (⟨#[]⟩ : ByteArray), .int .i64 0, .int .i64 0, .string (⟨#[]⟩ : ByteArray), .int .i64 0, .int .i64 0, .int .i64 0, .string (⟨#[]⟩ : ByteArray), .string (⟨#[]⟩ : ByteArray), .int .i64 0, .int .i64 0, .slice none 0 0]) (t := 56) ?hr ?_; (case hd => rfl); (case hg => rfl); (case hr => first | (go_simp; done) | (go_simp; rfl)); intro gb hg w2 hbox hb2; have HX2 := Aside0.mk hb2; have HGE := Aside0.mk hg; have HK := Aside0.mk hbox; clear hg hbox hb2) | ((with_reducible refine gate_store (t := 56) (p := 9) rfl ?_); refine put_event rfl rfl rfl rfl rfl HK.out sz56 rfl rfl ?_; intro w3 hk3 hg3; have HX3 := Aside0.mk (below_grown HX2.out hg3 (Nat.le_of_eq HGE.out.symm) (blk_lt HK.out)); have HO3 := Aside0.mk (Kd.N_below HO.out HX3.out); have HB3 := Aside0.mk (below_step HB.out HX3.out); have HK3 := Aside0.mk hk3; clear HO HB HK HX2 HGE HX3; have HO := HO3; have HB := HB3; have HK := HK3; clear HO3 HB3 HK3; have hc0 := blk_cell HK.out 0; clear hk3 hg3))
       go_roundg k1
       case measure => exact Nat.lt_succ_self _
       case rel => exact ⟨wrap64 ((i : Int) + 1), _, rfl, H', HO, HB⟩
      ·rw [if_neg d1] at H
       have d1b : (x.f0.toList == a1.toList) = false := beq_eq_false_iff_ne.mpr d1
       clear d1
       obtain ⟨b, hb0, hq⟩ := Option.bind_eq_some_iff.1 H
       clear H
       have H := hq
       clear hq
       have HPI := Aside0.mk hb0
       clear hb0
       by_cases d2 : b = true
       ·subst d2
        rw [if_pos rfl] at H
        have H' := Aside0.mk H
        clear H
        go_wp2_with (first | ((with_reducible refine gate_dst (N := 26) rfl ?_); refine load_event (ad := ad.add (i * 12)) rfl rfl hu56 rfl rfl (cs := [.string (x).f0, .int .i64 (x).f1, .int .i64 (x).f2, .string (x).f3, .int .i64 (x).f4.f0, .int .i64 (x).f4.f1, .int .i64 (x).f4.f2, .string (x).f4.f3, .string (x).f4.f4, .int .i64 (x).f4.f5, .int .i64 (x).f4.f6, .slice A11 (x).f5.length c11]) sz56 (fun j v hv => ((below_step HB1.out HB.out).cell (World.block_lt_of_cell? w _ (HXC.out j v hv))).trans (HXC.out j v hv)) ?_) | ((with_reducible refine gate_dst (N := 9) rfl ?_); refine box_event ?hg (N := 9) ?hd (cs := #[.string (⟨#[]⟩ : ByteArray), .int .i64 0, .int .i64 0, .string (⟨#[]⟩ : ByteArray), .int .i64 0, .int .i64 0, .int .i64 0, .string (⟨#[]⟩ : ByteArray), .string (⟨#[]⟩ : ByteArray), .int .i64 0, .int .i64 0, .slice none 0 0]) (t := 56) ?hr ?_; (case hd => rfl); (case hg => rfl); (case hr => first | (go_simp; done) | (go_simp; rfl)); intro gb hg w2 hbox hb2; have HX2 := Aside0.mk hb2; have HGE := Aside0.mk hg; have HK := Aside0.mk hbox; clear hg hbox hb2) | ((with_reducible refine gate_store (t := 56) (p := 9) rfl ?_); refine put_event rfl rfl rfl rfl rfl HK.out sz56 rfl rfl ?_; intro w3 hk3 hg3; have HX3 := Aside0.mk (below_grown HX2.out hg3 (Nat.le_of_eq HGE.out.symm) (blk_lt HK.out)); have HO3 := Aside0.mk (Kd.N_below HO.out HX3.out); have HB3 := Aside0.mk (below_step HB.out HX3.out); have HK3 := Aside0.mk hk3; clear HO HB HK HX2 HGE HX3; have HO := HO3; have HB := HB3; have HK := HK3; clear HO3 HB3 HK3; have hc0 := blk_cell HK.out 0; clear hk3 hg3) | (go_at_call 43; (with_reducible refine (creelref_PathIn.calls x.f0 a1 _ _ HPI.out).mono ?_); rintro e w5 ⟨rfl, ⟨nd, rfl⟩⟩; have HO5 := Aside0.mk (Kd.N_drewN HO.out nd); have HB5 := Aside0.mk (pw_below_drewN HB.out nd); have HK5 := Aside0.mk (blk_drewN HK.out nd); clear HO HB HK; have HO := HO5; have HB := HB5; have HK := HK5; clear HO5 HB5 HK5))
        go_roundg k1
        case measure => exact Nat.lt_succ_self _
        case rel => exact ⟨wrap64 ((i : Int) + 1), _, rfl, H', HO, HB⟩
       ·obtain rfl : b = false := Bool.eq_false_iff.mpr d2
        rw [if_neg d2] at H
        clear d2
        by_cases c5 : o.length < 977343669134
        ·rw [if_pos c5] at H
         have HOL := Aside0.mk c5
         have H' := Aside0.mk H
         clear H c5
         go_wp2_with (first | ((with_reducible refine gate_dst (N := 26) rfl ?_); refine load_event (ad := ad.add (i * 12)) rfl rfl hu56 rfl rfl (cs := [.string (x).f0, .int .i64 (x).f1, .int .i64 (x).f2, .string (x).f3, .int .i64 (x).f4.f0, .int .i64 (x).f4.f1, .int .i64 (x).f4.f2, .string (x).f4.f3, .string (x).f4.f4, .int .i64 (x).f4.f5, .int .i64 (x).f4.f6, .slice A11 (x).f5.length c11]) sz56 (fun j v hv => ((below_step HB1.out HB.out).cell (World.block_lt_of_cell? w _ (HXC.out j v hv))).trans (HXC.out j v hv)) ?_) | ((with_reducible refine gate_dst (N := 9) rfl ?_); refine box_event ?hg (N := 9) ?hd (cs := #[.string (⟨#[]⟩ : ByteArray), .int .i64 0, .int .i64 0, .string (⟨#[]⟩ : ByteArray), .int .i64 0, .int .i64 0, .int .i64 0, .string (⟨#[]⟩ : ByteArray), .string (⟨#[]⟩ : ByteArray), .int .i64 0, .int .i64 0, .slice none 0 0]) (t := 56) ?hr ?_; (case hd => rfl); (case hg => rfl); (case hr => first | (go_simp; done) | (go_simp; rfl)); intro gb hg w2 hbox hb2; have HX2 := Aside0.mk hb2; have HGE := Aside0.mk hg; have HK := Aside0.mk hbox; clear hg hbox hb2) | ((with_reducible refine gate_store (t := 56) (p := 9) rfl ?_); refine put_event rfl rfl rfl rfl rfl HK.out sz56 rfl rfl ?_; intro w3 hk3 hg3; have HX3 := Aside0.mk (below_grown HX2.out hg3 (Nat.le_of_eq HGE.out.symm) (blk_lt HK.out)); have HO3 := Aside0.mk (Kd.N_below HO.out HX3.out); have HB3 := Aside0.mk (below_step HB.out HX3.out); have HK3 := Aside0.mk hk3; clear HO HB HK HX2 HGE HX3; have HO := HO3; have HB := HB3; have HK := HK3; clear HO3 HB3 HK3; have hc0 := blk_cell HK.out 0; clear hk3 hg3) | (go_at_call 43; (with_reducible refine (creelref_PathIn.calls x.f0 a1 _ _ HPI.out).mono ?_); rintro e w5 ⟨rfl, ⟨nd, rfl⟩⟩; have HO5 := Aside0.mk (Kd.N_drewN HO.out nd); have HB5 := Aside0.mk (pw_below_drewN HB.out nd); have HK5 := Aside0.mk (blk_drewN HK.out nd); clear HO HB HK; have HO := HO5; have HB := HB5; have HK := HK5; clear HO5 HB5 HK5) | ((with_reducible refine gate_dst (N := 39) rfl ?_); refine load_event rfl rfl hu56 rfl rfl (cs := [.string (x).f0, .int .i64 (x).f1, .int .i64 (x).f2, .string (x).f3, .int .i64 (x).f4.f0, .int .i64 (x).f4.f1, .int .i64 (x).f4.f2, .string (x).f4.f3, .string (x).f4.f4, .int .i64 (x).f4.f5, .int .i64 (x).f4.f6, .slice A11 (x).f5.length c11]) sz56 (cells_of_blk (cs := [.string (x).f0, .int .i64 (x).f1, .int .i64 (x).f2, .string (x).f3, .int .i64 (x).f4.f0, .int .i64 (x).f4.f1, .int .i64 (x).f4.f2, .string (x).f4.f3, .string (x).f4.f4, .int .i64 (x).f4.f5, .int .i64 (x).f4.f6, .slice A11 (x).f5.length c11]) HK.out) ?_) | ((with_reducible refine gate_builtin (b := .append) (xs := #[.tmp 38, .tmp 40]) rfl ?_); at_builtin; refine Kd.N_append k56 (w0 := w1) w1.heap.size rfl (.tmp 38) (.tmp 40) 23 56 (.agg #[.string (⟨#[]⟩ : ByteArray), .int .i64 0, .int .i64 0, .string (⟨#[]⟩ : ByteArray), .int .i64 0, .int .i64 0, .int .i64 0, .string (⟨#[]⟩ : ByteArray), .string (⟨#[]⟩ : ByteArray), .int .i64 0, .int .i64 0, .slice none 0 0]) 144 rfl Tryd.underlying23 info56 rfl (by decide) (by omega) u7 o x [.string (x).f0, .int .i64 (x).f1, .int .i64 (x).f2, .string (x).f3, .int .i64 (x).f4.f0, .int .i64 (x).f4.f1, .int .i64 (x).f4.f2, .string (x).f4.f3, .string (x).f4.f4, .int .i64 (x).f4.f5, .int .i64 (x).f4.f6, .slice A11 (x).f5.length c11] (fun k_ => P0_ k_ ∨ w.heap.size ≤ k_) (fun k_ => P0_ k_ ∧ k_ < w.heap.size) rfl (by first | (go_simp; done) | (go_simp; rfl)) (Kd.FK_below HFK.out (below_step HB1.out HB.out)) (fun k_ hk => ⟨Or.inl hk.1, fun h => by have h1 := Kd.N_base HO.out k_ h.symm; have h2 := hk.2; have h3 := below_size HB1.out; omega⟩) (fun k_ hk => Or.inr (Nat.le_trans (below_size (below_step HB1.out HB.out)) hk)) HO.out HB.out (below_size HB.out) (by have := HOL.out; omega) ?_; intro v9 w9 ho hb hg hat; have HO9 := Aside0.mk ho; have HB9 := Aside0.mk hb; clear HO HB ho hb hg hat; have HO := HO9; have HB := HB9; clear HO9 HB9))
         go_roundg k1
         case measure => exact Nat.lt_succ_self _
         case rel => exact ⟨wrap64 ((i : Int) + 1), _, rfl, H', HO, HB⟩
        ·rw [if_neg c5] at H; cases H
     ·rw [if_neg c4] at H; cases H
    ·rw [if_neg c3] at H
     have c3b : decide (z < (l0.length : Int)) = false := decide_eq_false c3
     clear c3
     obtain ⟨cp, h5, hq⟩ := Option.bind_eq_some_iff.1 H
     clear H
     have H := hq
     clear hq
     obtain ⟨rfl, rfl⟩ := Prod.mk.inj (Option.some.inj H)
     have H5 := Aside0.mk h5
     clear H h5
     obtain ⟨Ao, co, rfl⟩ := Kd.N_slice HO.out
     go_wp2_with (go_at_call 33; refine (creelref_TreeCopy.calls k1 (fun k_ => P0_ k_ ∨ w.heap.size ≤ k_) Ao co o cp _ (Kd.N_V HO.out) H5.out).mono ?_; rintro e w6 ⟨v6, rfl, hN6, hb6⟩; have HN6 := Aside0.mk (Kd.N_lower (Kd.N_mono hN6 (fun k_ hk => hk.elim id (fun h => Or.inr (Nat.le_trans (below_size (below_step HB1.out HB.out)) h)))) (below_size (below_step HB1.out HB.out))); have HB6 := Aside0.mk (below_step (below_step HB1.out HB.out) hb6); clear hN6 hb6)
     go_ret2
     exact ⟨_, rfl, HN6.out, HB6.out⟩
 ·rw [if_neg c1'] at h
  obtain ⟨rfl, rfl⟩ := Prod.mk.inj (Option.some.inj h)
  have c1b : (e1 != 0) = true := bne_iff_ne.mpr c1'
  clear c1' h
  go_enter Tryd.func14, Tryd.ntmps14
  go_wp2_with (first | (go_at_call 41; refine (creelref_TreeFault.calls k A0 c0 l0 e1 _ HR0.out HC0.out H1.out).mono ?_; rintro e w1 ⟨rfl, hb1⟩; have HB1 := Aside0.mk hb1; have HB0 := Aside0.mk hb1; clear hb1))
  go_ret2
  exact ⟨_, rfl, Kd.N_nil _ _ _ _ _, HB1.out⟩


end Go.Proofs.YtlfeijjilndljaaDoor.All
end
section
namespace Go.Proofs.YtlfeijjilndljaaDoor.All
open Go.RowKit Go.Proofs.YtlfeijjilndljaaDoorW.PrintWords Go.Proofs.YtlfeijjilndljaaDoorW.PrintLast Go.Proofs.YtlfeijjilndljaaDoorW.PrintMore
open Go.Proofs.YtlfeijjilndljaaDoorW.Mine
attribute [local go_sem] gtr_string leq_string geq_string
attribute [local go_sem] max2_int min2_int max_two min_two max_three min_three max_four min_four   -- for this text's walks alone
set_option linter.unusedVariables false
set_option linter.unusedSimpArgs false

/-! ### creellaw_TreeRemoves: function 4 -/
def creellaw_TreeRemoves.f (k : Nat) (l0 : List (S56)) (a1 : ByteArray) : Option (Bool) := (tree_Remove.f k l0 a1).bind fun bt101 => ((creelref_TreeRemove.f k l0 a1).bind fun bt105 => ((creellaw_sameTree.f bt101.1 bt105.1).bind fun t109 => (if t109 = true then (some (bt101.2 == bt105.2)) else (some false))))
theorem creellaw_TreeRemoves.mono : ∀ a0 a1 k, LeO (creellaw_TreeRemoves.f k a0 a1) (creellaw_TreeRemoves.f (k + 1) a0 a1) := by
 intro a0 a1 k
 unfold creellaw_TreeRemoves.f
 repeat' first
   | (with_reducible exact creelref_TreeRemove.mono _ _ _)
   | (with_reducible exact tree_Remove.mono _ _ _)
   | (with_reducible exact LeO.refl _)
   | (with_reducible exact LeO.none _)
   | (with_reducible refine LeO.ite ?_ ?_)
   | (with_reducible refine LeO.bind ?_ (fun _ => ?_))
   | exact creelref_TreeRemove.mono _ _ _
   | exact tree_Remove.mono _ _ _
   | exact LeO.none _
   | refine LeO.ite ?_ ?_
   | refine LeO.bind ?_ (fun _ => ?_)
set_option maxHeartbeats 8000000 in
set_option maxRecDepth 100000 in
theorem creellaw_TreeRemoves.calls (k : Nat) (A0 : Option Addr) (c0 : Nat) (l0 : List (S56)) (a1 : ByteArray) (r : Bool) (w : World) (hr0 : Kd.C k56 w A0 l0.length l0) (hc0 : l0.length ≤ c0) (h : creellaw_TreeRemoves.f k l0 a1 = some r) :
  Calls Tryd.prog 4 #[.slice A0 l0.length c0, .string a1] w fun e w' => e = .returned (.bool r) ∧ Below w.heap.size w w' := by
 have HR0 := Aside0.mk hr0
 have HC0 := Aside0.mk hc0
 clear hr0 hc0
 have HB := Aside0.mk (Below.refl w.heap.size w)
 have H : ((tree_Remove.f k l0 a1).bind fun bt101 => ((creelref_TreeRemove.f k l0 a1).bind fun bt105 => ((creellaw_sameTree.f bt101.1 bt105.1).bind fun t109 => (if t109 = true then (some (bt101.2 == bt105.2)) else (some false))))) = some r := h
 clear h
 replace H := Option.bind_eq_some_iff.mp H
 obtain ⟨⟨t101, t104⟩, A30, H⟩ := H
 replace H : ((creelref_TreeRemove.f k l0 a1).bind fun bt105 => ((creellaw_sameTree.f t101 bt105.1).bind fun t109 => (if t109 = true then (some (t104 == bt105.2)) else (some false)))) = some r := H
 have A3 := Aside0.mk A30
 clear A30
 replace H := Option.bind_eq_some_iff.mp H
 obtain ⟨⟨t105, t108⟩, A40, H⟩ := H
 replace H : ((creellaw_sameTree.f t101 t105).bind fun t109 => (if t109 = true then (some (t104 == t108)) else (some false))) = some r := H
 have A4 := Aside0.mk A40
 clear A40
 replace H := Option.bind_eq_some_iff.mp H
 obtain ⟨t109, A50, H⟩ := H
 replace H : (if t109 = true then (some (t104 == t108)) else (some false)) = some r := H
 have A5 := Aside0.mk A50
 clear A50
 by_cases c6 : t109 = true
 ·subst c6
  have H1 : (some (t104 == t108)) = some r := by rw [if_pos rfl] at H; exact H
  clear H
  have H := H1
  clear H1
  obtain rfl := Option.some.inj H
  go_enter Tryd.func4, Tryd.ntmps4
  go_wp2_with (first | ((with_reducible refine gate_callee (f := 13) rfl ?_); refine goesL_ (some 12) rfl rfl Tryd.func13 (by kernel_rfl) rfl #[.slice A0 l0.length c0, .string a1] rfl (by (try simp only [List.map_toArray, List.map_cons, List.map_nil]); first | done | rfl | (simp only [List.length_drop, List.length_take]; rfl)) ?_; (with_reducible refine (tree_Remove.calls k _ _ l0 a1 t101 t104 _ ?side1 ?side2 A3.out).mono ?_); (case side1 => repeat (first | exact HR0.out | (with_reducible refine Kd.C_alloc ?_ _) | (with_reducible refine Kd.C_drewN ?_ _) | (with_reducible refine Kd.C_drew ?_))); (case side2 => exact HC0.out); rintro e w7 ⟨v102, rfl, ho0, hb⟩; refine ⟨_, rfl, ?_⟩; have n0_ := Aside0.mk (Kd.N_lower (Kd.N_mono (ok' := fun k_ => True) ho0 (fun k_ hk_ => trivial)) (below_size (by repeat (first | (with_reducible first | exact HB.out | apply below_alloc | apply pw_below_drewN | apply below_drew1) | exact HB.out)))); have n1_ := Aside0.mk (below_step (by repeat (first | (with_reducible first | exact HB.out | apply below_alloc | apply pw_below_drewN | apply below_drew1) | exact HB.out)) hb); clear HB; have HO103 := n0_; have HB := n1_; clear n0_ n1_; (try clear hb); (try clear hb2); (try clear hk); (try clear hi); (try clear ho0)) | ((with_reducible refine gate_callee (f := 14) rfl ?_); refine goesL_ (some 18) rfl rfl Tryd.func14 (by kernel_rfl) rfl #[.slice A0 l0.length c0, .string a1] rfl (by (try simp only [List.map_toArray, List.map_cons, List.map_nil]); first | done | rfl | (simp only [List.length_drop, List.length_take]; rfl)) ?_; (with_reducible refine (creelref_TreeRemove.calls k (fun k_ => k_ < w.heap.size) _ _ l0 a1 t105 t108 _ ?side1 A4.out).mono ?_); (case side1 => exact Kd.V_mk HC0.out (Kd.F_below (Kd.C_F k56_heap HR0.out) (by repeat (first | (with_reducible first | exact HB.out | apply below_alloc | apply pw_below_drewN | apply below_drew1) | exact HB.out)))); rintro e w8 ⟨v106, rfl, ho0, hb⟩; refine ⟨_, rfl, ?_⟩; have n0_ := Aside0.mk (Kd.N_elder' (by (with_reducible repeat (first | apply Kd.N_alloc | apply Kd.N_drewN | apply Kd.N_drew)); exact HO103.out) (Kd.N_base ho0) hb); have n1_ := Aside0.mk (Kd.N_lower (Kd.N_mono (ok' := fun k_ => some k_ ≠ (v102 : Value).ownBlock) ho0 (fun k_ hk_ => Or.elim hk_ (fun hs_ => fun e_ => Nat.not_le.2 hs_ (Kd.N_base HO103.out k_ e_.symm)) (fun hn_ => (Kd.fresh' (Kd.N_lt (by (with_reducible repeat (first | apply Kd.N_alloc | apply Kd.N_drewN | apply Kd.N_drew)); exact HO103.out)) k_ hn_)))) (below_size (by repeat (first | (with_reducible first | exact HB.out | apply below_alloc | apply pw_below_drewN | apply below_drew1) | exact HB.out)))); have n2_ := Aside0.mk (below_step (by repeat (first | (with_reducible first | exact HB.out | apply below_alloc | apply pw_below_drewN | apply below_drew1) | exact HB.out)) hb); clear HO103; clear HB; have HO103 := n0_; have HO107 := n1_; have HB := n2_; clear n0_ n1_ n2_; (try clear hb); (try clear hb2); (try clear hk); (try clear hi); (try clear ho0); obtain ⟨Ao9, co9, eo9⟩ := Kd.N_slice HO103.out; subst eo9; obtain ⟨Ao10, co10, eo10⟩ := Kd.N_slice HO107.out; subst eo10) | ((with_reducible refine gate_callee (f := 12) rfl ?_); refine goesL_ (some 23) rfl rfl Tryd.func12 (by kernel_rfl) rfl #[.slice Ao9 t101.length co9, .slice Ao10 t105.length co10] rfl (by (try simp only [List.map_toArray, List.map_cons, List.map_nil]); first | done | rfl | (simp only [List.length_drop, List.length_take]; rfl)) ?_; (with_reducible refine (creellaw_sameTree.calls _ _ t101 _ _ t105 true _ ?side1 ?side2 ?side3 ?side4 A5.out).mono ?_); (case side1 => repeat (first | exact (Kd.N_reads' HO103.out).2.2 | (with_reducible refine Kd.C_alloc ?_ _) | (with_reducible refine Kd.C_drewN ?_ _) | (with_reducible refine Kd.C_drew ?_))); (case side2 => exact (Kd.N_reads' HO103.out).2.1); (case side3 => repeat (first | exact (Kd.N_reads' HO107.out).2.2 | (with_reducible refine Kd.C_alloc ?_ _) | (with_reducible refine Kd.C_drewN ?_ _) | (with_reducible refine Kd.C_drew ?_))); (case side4 => exact (Kd.N_reads' HO107.out).2.1); rintro e w11 ⟨rfl, hb⟩; refine ⟨_, rfl, ?_⟩; have n0_ := Aside0.mk (Kd.N_below (by (with_reducible repeat (first | apply Kd.N_alloc | apply Kd.N_drewN | apply Kd.N_drew)); exact HO103.out) hb); have n1_ := Aside0.mk (Kd.N_below (by (with_reducible repeat (first | apply Kd.N_alloc | apply Kd.N_drewN | apply Kd.N_drew)); exact HO107.out) hb); have n2_ := Aside0.mk (below_step (by repeat (first | (with_reducible first | exact HB.out | apply below_alloc | apply pw_below_drewN | apply below_drew1) | exact HB.out)) hb); clear HO103; clear HO107; clear HB; have HO103 := n0_; have HO107 := n1_; have HB := n2_; clear n0_ n1_ n2_; (try clear hb); (try clear hb2); (try clear hk); (try clear hi)))
  go_ret
  exact ⟨by first | rfl | (simp [errW_none, errW_some] <;> rfl) | (simp [*, errW_none, errW_some] <;> rfl), by repeat (first | (with_reducible first | exact HB.out | apply below_alloc | apply pw_below_drewN | apply below_drew1) | exact HB.out)⟩
 ·replace c6 := Bool.eq_false_iff.mpr c6
  subst c6
  have H1 : (some false) = some r := by rw [if_neg (show ¬ (false = true) by decide)] at H; exact H
  clear H
  have H := H1
  clear H1
  obtain rfl := Option.some.inj H
  go_enter Tryd.func4, Tryd.ntmps4
  go_wp2_with (first | ((with_reducible refine gate_callee (f := 13) rfl ?_); refine goesL_ (some 12) rfl rfl Tryd.func13 (by kernel_rfl) rfl #[.slice A0 l0.length c0, .string a1] rfl (by (try simp only [List.map_toArray, List.map_cons, List.map_nil]); first | done | rfl | (simp only [List.length_drop, List.length_take]; rfl)) ?_; (with_reducible refine (tree_Remove.calls k _ _ l0 a1 t101 t104 _ ?side1 ?side2 A3.out).mono ?_); (case side1 => repeat (first | exact HR0.out | (with_reducible refine Kd.C_alloc ?_ _) | (with_reducible refine Kd.C_drewN ?_ _) | (with_reducible refine Kd.C_drew ?_))); (case side2 => exact HC0.out); rintro e w12 ⟨v102, rfl, ho0, hb⟩; refine ⟨_, rfl, ?_⟩; have n0_ := Aside0.mk (Kd.N_lower (Kd.N_mono (ok' := fun k_ => True) ho0 (fun k_ hk_ => trivial)) (below_size (by repeat (first | (with_reducible first | exact HB.out | apply below_alloc | apply pw_below_drewN | apply below_drew1) | exact HB.out)))); have n1_ := Aside0.mk (below_step (by repeat (first | (with_reducible first | exact HB.out | apply below_alloc | apply pw_below_drewN | apply below_drew1) | exact HB.out)) hb); clear HB; have HO103 := n0_; have HB := n1_; clear n0_ n1_; (try clear hb); (try clear hb2); (try clear hk); (try clear hi); (try clear ho0)) | ((with_reducible refine gate_callee (f := 14) rfl ?_); refine goesL_ (some 18) rfl rfl Tryd.func14 (by kernel_rfl) rfl #[.slice A0 l0.length c0, .string a1] rfl (by (try simp only [List.map_toArray, List.map_cons, List.map_nil]); first | done | rfl | (simp only [List.length_drop, List.length_take]; rfl)) ?_; (with_reducible refine (creelref_TreeRemove.calls k (fun k_ => k_ < w.heap.size) _ _ l0 a1 t105 t108 _ ?side1 A4.out).mono ?_); (case side1 => exact Kd.V_mk HC0.out (Kd.F_below (Kd.C_F k56_heap HR0.out) (by repeat (first | (with_reducible first | exact HB.out | apply below_alloc | apply pw_below_drewN | apply below_drew1) | exact HB.out)))); rintro e w13 ⟨v106, rfl, ho0, hb⟩; refine ⟨_, rfl, ?_⟩; have n0_ := Aside0.mk (Kd.N_elder' (by (with_reducible repeat (first | apply Kd.N_alloc | apply Kd.N_drewN | apply Kd.N_drew)); exact HO103.out) (Kd.N_base ho0) hb); have n1_ := Aside0.mk (Kd.N_lower (Kd.N_mono (ok' := fun k_ => some k_ ≠ (v102 : Value).ownBlock) ho0 (fun k_ hk_ => Or.elim hk_ (fun hs_ => fun e_ => Nat.not_le.2 hs_ (Kd.N_base HO103.out k_ e_.symm)) (fun hn_ => (Kd.fresh' (Kd.N_lt (by (with_reducible repeat (first | apply Kd.N_alloc | apply Kd.N_drewN | apply Kd.N_drew)); exact HO103.out)) k_ hn_)))) (below_size (by repeat (first | (with_reducible first | exact HB.out | apply below_alloc | apply pw_below_drewN | apply below_drew1) | exact HB.out)))); have n2_ := Aside0.mk (below_step (by repeat (first | (with_reducible first | exact HB.out | apply below_alloc | apply pw_below_drewN | apply below_drew1) | exact HB.out)) hb); clear HO103; clear HB; have HO103 := n0_; have HO107 := n1_; have HB := n2_; clear n0_ n1_ n2_; (try clear hb); (try clear hb2); (try clear hk); (try clear hi); (try clear ho0); obtain ⟨Ao14, co14, eo14⟩ := Kd.N_slice HO103.out; subst eo14; obtain ⟨Ao15, co15, eo15⟩ := Kd.N_slice HO107.out; subst eo15) | ((with_reducible refine gate_callee (f := 12) rfl ?_); refine goesL_ (some 23) rfl rfl Tryd.func12 (by kernel_rfl) rfl #[.slice Ao14 t101.length co14, .slice Ao15 t105.length co15] rfl (by (try simp only [List.map_toArray, List.map_cons, List.map_nil]); first | done | rfl | (simp only [List.length_drop, List.length_take]; rfl)) ?_; (with_reducible refine (creellaw_sameTree.calls _ _ t101 _ _ t105 false _ ?side1 ?side2 ?side3 ?side4 A5.out).mono ?_); (case side1 => repeat (first | exact (Kd.N_reads' HO103.out).2.2 | (with_reducible refine Kd.C_alloc ?_ _) | (with_reducible refine Kd.C_drewN ?_ _) | (with_reducible refine Kd.C_drew ?_))); (case side2 => exact (Kd.N_reads' HO103.out).2.1); (case side3 => repeat (first | exact (Kd.N_reads' HO107.out).2.2 | (with_reducible refine Kd.C_alloc ?_ _) | (with_reducible refine Kd.C_drewN ?_ _) | (with_reducible refine Kd.C_drew ?_))); (case side4 => exact (Kd.N_reads' HO107.out).2.1); rintro e w16 ⟨rfl, hb⟩; refine ⟨_, rfl, ?_⟩; have n0_ := Aside0.mk (Kd.N_below (by (with_reducible repeat (first | apply Kd.N_alloc | apply Kd.N_drewN | apply Kd.N_drew)); exact HO103.out) hb); have n1_ := Aside0.mk (Kd.N_below (by (with_reducible repeat (first | apply Kd.N_alloc | apply Kd.N_drewN | apply Kd.N_drew)); exact HO107.out) hb); have n2_ := Aside0.mk (below_step (by repeat (first | (with_reducible first | exact HB.out | apply below_alloc | apply pw_below_drewN | apply below_drew1) | exact HB.out)) hb); clear HO103; clear HO107; clear HB; have HO103 := n0_; have HO107 := n1_; have HB := n2_; clear n0_ n1_ n2_; (try clear hb); (try clear hb2); (try clear hk); (try clear hi)))
  go_ret
  exact ⟨by first | rfl | (simp [errW_none, errW_some] <;> rfl) | (simp [*, errW_none, errW_some] <;> rfl), by repeat (first | (with_reducible first | exact HB.out | apply below_alloc | apply pw_below_drewN | apply below_drew1) | exact HB.out)⟩

end Go.Proofs.YtlfeijjilndljaaDoor.All
end
section
namespace Go.Proofs.YtlfeijjilndljaaDoorW.Opens
open Go.RowKit Go.ChangeShapes Go.WideShapes Go.Proofs.YtlfeijjilndljaaDoorW.PrintWords

/-- Whatever reads as a datum of type t is a y of kind d, and good. -/
def Opens {α : Type} (P : Program) (t : TypeId) (d : Kd α) (g : α → Prop) : Prop :=
  ∀ (H : Type) (enc : TypeId × Value → H) (w : World) (fuel : Nat) (cs : List Value) (x : DataW H × List MemPlace),
    DataW.trod enc P w 0 (fun _ => true) true fuel t cs = some x → (∀ n ∈ x.1.weights P t, n ≤ reachBytes) → ∃ y, d.K w y cs ∧ g y

theorem opens_int {P : Program} {t : TypeId} {k : IntKind} (ht : P.underlying t = some (.int k)) : Opens P t (Kd.int k) (fun a => (Lit.int k a).wf = true) := by
  intro H enc w fuel cs x h _
  obtain ⟨a, e, _, wa⟩ := DataW.trod_int ht h
  exact ⟨a, e, wa⟩
theorem opens_string {P : Program} {t : TypeId} (ht : P.underlying t = some .string) : Opens P t Kd.string (fun s => s.size ≤ 140737488351232) := by
  intro H enc w fuel cs x h hw
  obtain ⟨a, e, hx, _⟩ := DataW.trod_string ht h
  refine ⟨a, e, ?_⟩
  have := hw a.data.toList.length (by rw [hx]; simp [DataW.weights])
  rw [Array.length_toList] at this
  exact this

theorem list_of {α : Type} {p : Nat → α → Prop} : ∀ (n : Nat), (∀ i, i < n → ∃ y, p i y) → ∃ l : List α, l.length = n ∧ ∀ i y, l[i]? = some y → p i y
  | 0, _ => ⟨[], rfl, fun i y h => by simp at h⟩
  | n + 1, h => by
    obtain ⟨l, hl, hp⟩ := list_of n (fun i hi => h i (by omega))
    obtain ⟨y, hy⟩ := h n (by omega)
    refine ⟨l ++ [y], by simp [hl], fun i z hz => ?_⟩
    by_cases hi : i < n
    · exact hp i z (by rwa [List.getElem?_append_left (by omega)] at hz)
    · rw [List.getElem?_append_right (by omega), hl] at hz
      have e0 : i - n = 0 := by
        rcases Nat.eq_zero_or_pos (i - n) with e | e
        · exact e
        · rw [List.getElem?_eq_none (by simp; omega)] at hz
          simp at hz
      rw [e0] at hz
      have : i = n := by omega
      subst this
      simp at hz
      subst hz
      exact hy

theorem mem_weightsAll {H : Type} {P : Program} {e : TypeId} {d : DataW H} : ∀ {l : List (DataW H)}, d ∈ l → ∀ n ∈ d.weights P e, n ∈ DataW.weightsAll P e l
  | a :: l, h, n, hn => by
    simp only [DataW.weightsAll, List.mem_append]
    rcases List.mem_cons.1 h with rfl | h
    · exact .inl hn
    · exact .inr (mem_weightsAll h n hn)
  | [], h, _, _ => by simp at h

theorem opens_slice {α : Type} {P : Program} {t e : TypeId} {B : Nat} {d : Kd α} {g : α → Prop} (ht : P.underlying t = some (.slice e)) (hc : P.cellsOf e = d.sz) (hB : P.bytesOf e = B) (ho : Opens P e d g) :
    Opens P t (Kd.slice e d) (fun l => l.length * B ≤ 140737488351232 ∧ ∀ y ∈ l, g y) := by
  intro H enc w fuel cs x h hw
  rcases Go.Deep.open_slice ht h with ⟨rfl, rfl⟩ | ⟨a, len, cap, m, n, D, Pl, rfl, _, hl, hm, hmm, rfl, hel⟩
  · exact ⟨[], ⟨none, 0, rfl, Nat.le_refl _, rfl, by simp, fun h => absurd h (by simp)⟩, by simp, by simp⟩
  · have hml : len ≤ m := by
      rw [hmm]
      simp only [if_true]
      exact hl
    have key : ∀ i, i < len → ∃ y, (∃ c, c.length = d.sz ∧ d.K w y c ∧ ∀ j u, c[j]? = some u → w.cell? (a.add (i * d.sz + j)) = some u) ∧ g y := by
      intro i hi
      obtain ⟨c, h1, h2⟩ := hel i (by omega)
      rw [hc] at h1
      obtain ⟨_, hlen, hcell⟩ := World.cells?_some h1
      obtain ⟨y, hK, hg⟩ := ho H enc w n c (D i, Pl i) h2 (fun q hq => hw q (by
        simp only [DataW.weights, ht, List.mem_cons, List.mem_append]
        exact .inr (.inl (mem_weightsAll (List.mem_map.2 ⟨i, List.mem_range.2 hi, rfl⟩) q hq))))
      refine ⟨y, ⟨c, hlen, hK, fun j u hu => ?_⟩, hg⟩
      have hj : j < d.sz := by
        rw [← hlen]
        exact (List.getElem?_eq_some_iff.1 hu).1
      rw [← Go.Deep.add_add, hcell j hj, hu]
    obtain ⟨l, hlen, hp⟩ := list_of len key
    subst hlen
    refine ⟨l, ⟨some a, cap, rfl, hl, rfl, ?_, fun _ => ⟨a, rfl, fun j p hj => ?_⟩⟩, ?_, ?_⟩
    · unfold maxLen at hm
      omega
    · obtain ⟨⟨c, h1, h2, h3⟩, _⟩ := hp j p hj
      exact ⟨c, h1, h2, h3⟩
    · have := hw ((l.length + (m - l.length)) * P.bytesOf e) (by simp [DataW.weights, ht])
      rw [hB] at this
      exact Nat.le_trans (Nat.mul_le_mul_right _ (by omega)) this
    · intro y hy
      obtain ⟨i, hi⟩ := List.mem_iff_getElem?.1 hy
      exact (hp i y hi).2

/-- The fields of a struct, from one of them on. -/
def OpensF {α : Type} (P : Program) (fs : List Field) (off : Nat) (d : Kd α) (g : α → Prop) : Prop :=
  ∀ (H : Type) (enc : TypeId × Value → H) (w : World) (n : Nat) (cs : List Value) (xs : List (DataW H × List MemPlace)),
    cs.length = off + d.sz → xs.length = fs.length → (∀ (i : Nat) (f : Field), fs[i]? = some f → DataW.trod enc P w 0 (fun _ => true) true n f.type ((cs.drop f.offset).take (P.cellsOf f.type)) = xs[i]?) →
    (∀ m ∈ DataW.weightsEach P (fs.map (·.type)) (xs.map (·.1)), m ≤ reachBytes) → ∃ y, d.K w y (cs.drop off) ∧ g y

theorem opensF_one {α : Type} {P : Program} {f : Field} {off : Nat} {d : Kd α} {g : α → Prop} (hoff : f.offset = off) (hc : P.cellsOf f.type = d.sz) (ho : Opens P f.type d g) : OpensF P [f] off d g := by
  intro H enc w n cs xs hl hx hf hw
  match xs, hx with
  | [x], _ =>
    have h := hf 0 f rfl
    rw [hoff, hc, List.take_of_length_le (by rw [List.length_drop]; omega)] at h
    exact ho H enc w n (cs.drop off) x h (fun m hm => hw m (by simp only [List.map_cons, List.map_nil, DataW.weightsEach, List.append_nil]; exact hm))

theorem opensF_cons {α β : Type} {P : Program} {f : Field} {fs : List Field} {off off2 : Nat} {d1 : Kd α} {d2 : Kd β} {g1 : α → Prop} {g2 : β → Prop} (hoff : f.offset = off) (hc : P.cellsOf f.type = d1.sz) (ho : Opens P f.type d1 g1)
    (h2 : off + d1.sz = off2) (hr : OpensF P fs off2 d2 g2) : OpensF P (f :: fs) off (Kd.pair d1 d2) (fun p => g1 p.1 ∧ g2 p.2) := by
  intro H enc w n cs xs hl hx hf hw
  match xs, hx with
  | x :: xs, hx =>
    subst h2
    have hl' : cs.length = off + (d1.sz + d2.sz) := hl
    have h := hf 0 f rfl
    rw [hoff, hc] at h
    obtain ⟨y1, k1, q1⟩ := ho H enc w n _ x h (fun m hm => hw m (by simp only [List.map_cons, DataW.weightsEach, List.mem_append]; exact .inl hm))
    obtain ⟨y2, k2, q2⟩ := hr H enc w n cs xs (by omega) (by simpa using hx) (fun i f' hi => by simpa using hf (i + 1) f' (by simpa using hi)) (fun m hm => hw m (by simp only [List.map_cons, DataW.weightsEach, List.mem_append]; exact .inr hm))
    refine ⟨(y1, y2), ⟨_, _, ?_, k1, k2⟩, q1, q2⟩
    rw [← List.drop_drop, List.take_append_drop]

theorem opens_struct {α : Type} {P : Program} {t : TypeId} {fs : Array Field} {d : Kd α} {g : α → Prop} (ht : P.underlying t = some (.struct fs)) (hc : P.cellsOf t = d.sz) (hF : OpensF P fs.toList 0 d g) : Opens P t d g := by
  intro H enc w fuel cs x h hw
  obtain ⟨xs, n, _, rfl, hl, hlen, hf⟩ := DataW.trod_struct ht h
  have := hF H enc w n cs xs (by omega) (by simpa using hlen) (fun i f hi => hf i f (by simpa using hi)) (fun m hm => hw m (by simpa only [DataW.weights, ht] using hm))
  simpa using this

theorem opens_iso {α β : Type} {P : Program} {t : TypeId} {d : Kd α} {g : α → Prop} {f : β → α} (inv : α → β) (hinv : ∀ y, f (inv y) = y) (ho : Opens P t d g) : Opens P t (Kd.iso d f) (fun x => g (f x)) := by
  intro H enc w fuel cs x h hw
  obtain ⟨y, hK, hg⟩ := ho H enc w fuel cs x h hw
  exact ⟨inv y, by show d.K w (f (inv y)) cs; rw [hinv]; exact hK, by show g (f (inv y)); rw [hinv]; exact hg⟩

/-- At a row's place. -/
theorem opens_at {α : Type} {P : Program} {t : TypeId} {d : Kd α} {g : α → Prop} (ho : Opens P t d g) {H : Type} {enc : TypeId × Value → H} {w : World} {v : Value} {x : DataW H} {ps : List MemPlace} {ts : List TypeId} {ds : List (DataW H)} {j : Nat}
    (hsz : (DataW.weightsEach P ts ds).all (· ≤ reachBytes) = true) (ht : ts[j]? = some t) (hd : ds[j]? = some x) (h : DataW.Trod enc P w 0 (fun _ => true) true t v x ps) : ∃ y, d.K w y v.cells.toList ∧ g y := by
  obtain ⟨fuel, hf⟩ := h
  exact ho H enc w fuel _ (x, ps) hf (fun n hn => by simpa using List.all_eq_true.1 hsz n (DataW.weights_mem_each ht hd n hn))
end Go.Proofs.YtlfeijjilndljaaDoorW.Opens
end
