/- Made by programs of the prover: walks of Go functions, the words that they use, and plain laws, each text in a section of its own; no condition of its own. -/
import Derived.Lib.Bytealg
import Derived.Lib.IndexAny
import Derived.Lib.IndexLaws
import Derived.Test.YtodeblpanooomacDoorZPipeChecks1
import Derived.Test.YtodeblpanooomacDoorZPipeChecks2
import Derived.Test.YtodeblpanooomacDoorZPipeChecks3
import Derived.Test.YtodeblpanooomacDoorZPipeChecks4
import Derived.Test.YtodeblpanooomacDoorZPipeChecks5
import Derived.Test.YtodeblpanooomacDoorZPipeChecks6
section
namespace Go.Proofs.YtodeblpanooomacDoor.GPipeChecks
open Go.RowKit Go.Proofs.YtodeblpanooomacDoor.All Go.Proofs.YtodeblpanooomacDoorW.PrintWords Go.Proofs.YtodeblpanooomacDoorW.PrintLast Go.Proofs.YtodeblpanooomacDoorW.Opens
set_option linter.unusedVariables false
/-! #### struct type 39 -/
structure S39 where
  f0 : Int
  f1 : Int
  f2 : (List S58)
  f3 : (List S95)
def z39 : S39 := ⟨(0 : Int), (0 : Int), ([] : List S58), ([] : List S95)⟩
def k39 : Kd S39 := Kd.iso (Kd.pair (Kd.int .i64) (Kd.pair (Kd.int .i64) (Kd.pair (Kd.slice 58 k58) (Kd.slice 95 k95)))) (fun x : S39 => (x.f0, x.f1, x.f2, x.f3))
theorem k39_open {w : World} {x : S39} {cs : List Value} (h : k39.K w x cs) : ∃ A2 c2 A3 c3, cs = [.int .i64 x.f0, .int .i64 x.f1, .slice A2 x.f2.length c2, .slice A3 x.f3.length c3] ∧ x.f2.length ≤ c2 ∧ k58.C w A2 x.f2.length x.f2 ∧ x.f3.length ≤ c3 ∧ k95.C w A3 x.f3.length x.f3 := by
  obtain ⟨_, _, rfl, rfl, ⟨_, _, rfl, rfl, ⟨_, _, rfl, ⟨A2, c2, rfl, l2, g2⟩, ⟨A3, c3, rfl, l3, g3⟩⟩⟩⟩ := h
  exact ⟨A2, c2, A3, c3, rfl, l2, g2, l3, g3⟩
theorem k39_openM {w : World} {base : Nat} {ok : Nat → Prop} {x : S39} {cs : List Value} (h : k39.M w base ok x cs) : ∃ v2 v3, cs = [.int .i64 x.f0, .int .i64 x.f1, v2, v3] ∧ k58.R 58 w base ok v2 x.f2 ∧ k95.R 95 w base ok v3 x.f3 := by
  obtain ⟨_, _, rfl, rfl, ⟨_, _, rfl, rfl, ⟨_, _, rfl, ⟨v2, rfl, g2⟩, ⟨v3, rfl, g3⟩⟩⟩⟩ := h
  exact ⟨v2, v3, rfl, g2, g3⟩
theorem k39_mk (w : World) (x : S39) {A2 : Option Addr} {c2 : Nat} (l2 : x.f2.length ≤ c2) (g2 : k58.C w A2 x.f2.length x.f2) {A3 : Option Addr} {c3 : Nat} (l3 : x.f3.length ≤ c3) (g3 : k95.C w A3 x.f3.length x.f3) : k39.K w x [.int .i64 x.f0, .int .i64 x.f1, .slice A2 x.f2.length c2, .slice A3 x.f3.length c3] := ⟨[.int .i64 x.f0], [.int .i64 x.f1, .slice A2 x.f2.length c2, .slice A3 x.f3.length c3], rfl, rfl, ⟨[.int .i64 x.f1], [.slice A2 x.f2.length c2, .slice A3 x.f3.length c3], rfl, rfl, ⟨[.slice A2 x.f2.length c2], [.slice A3 x.f3.length c3], rfl, ⟨A2, c2, rfl, l2, g2⟩, ⟨A3, c3, rfl, l3, g3⟩⟩⟩⟩
theorem k39_mkM (w : World) (base : Nat) (ok : Nat → Prop) (x : S39) {v2 : Value} (g2 : k58.R 58 w base ok v2 x.f2) {v3 : Value} (g3 : k95.R 95 w base ok v3 x.f3) : k39.M w base ok x [.int .i64 x.f0, .int .i64 x.f1, v2, v3] := ⟨[.int .i64 x.f0], [.int .i64 x.f1, v2, v3], rfl, rfl, ⟨[.int .i64 x.f1], [v2, v3], rfl, rfl, ⟨[v2], [v3], rfl, ⟨v2, rfl, g2⟩, ⟨v3, rfl, g3⟩⟩⟩⟩
def rd_T39 (xs : List S39) (i : Int) : S39 := xs.getD i.toNat z39
theorem at_T39 {w : World} {A : Option Addr} {n : Nat} {xs : List S39} (h : Kd.C k39 w A n xs) (i : Int) (h0 : 0 ≤ i) (h1 : i < n) : ∃ ad A2 c2 A3 c3, A = some ad ∧ w.cell? (ad.add (i.toNat * 4)) = some (.int .i64 (rd_T39 xs i).f0) ∧ w.cell? ⟨(ad.add (i.toNat * 4)).block, (ad.add (i.toNat * 4)).off + 1, none⟩ = some (.int .i64 (rd_T39 xs i).f1) ∧ w.cell? ⟨(ad.add (i.toNat * 4)).block, (ad.add (i.toNat * 4)).off + 2, none⟩ = some (.slice A2 (rd_T39 xs i).f2.length c2) ∧ w.cell? ⟨(ad.add (i.toNat * 4)).block, (ad.add (i.toNat * 4)).off + 3, none⟩ = some (.slice A3 (rd_T39 xs i).f3.length c3) ∧ (rd_T39 xs i).f2.length ≤ c2 ∧ k58.C w A2 (rd_T39 xs i).f2.length (rd_T39 xs i).f2 ∧ (rd_T39 xs i).f3.length ≤ c3 ∧ k95.C w A3 (rd_T39 xs i).f3.length (rd_T39 xs i).f3 := by
  obtain ⟨ad, c, e, _, hK, hc0⟩ := Kd.C_get h z39 i h0 h1
  have hc : ∀ j u, c[j]? = some u → w.cell? (ad.add (i.toNat * 4 + j)) = some u := hc0
  obtain ⟨A2, c2, A3, c3, rfl, l2, g2, l3, g3⟩ := k39_open hK
  exact ⟨ad, A2, c2, A3, c3, e, hc 0 _ rfl, by rw [← add_field _ _ 1 (by omega)]; exact hc 1 _ rfl, by rw [← add_field _ _ 2 (by omega)]; exact hc 2 _ rfl, by rw [← add_field _ _ 3 (by omega)]; exact hc 3 _ rfl, l2, g2, l3, g3⟩

def good58 (x : S58) : Prop := (True) ∧ (x.f1.size ≤ 140737488351232)
theorem opens58 : Opens Tryd.prog 58 k58 good58 := opens_iso (f := (fun x : S58 => (x.f0, x.f1))) (fun p => ⟨p.1, p.2⟩) (fun _ => rfl) (opens_struct Tryd.underlying58 (by kernel_rfl) (opensF_cons (off2 := 1) rfl (by kernel_rfl) (opens_bool Tryd.underlying4) rfl (opensF_one rfl (by kernel_rfl) (opens_string Tryd.underlying9))))

def good95 (x : S95) : Prop := (x.f0.size ≤ 140737488351232) ∧ ((Lit.int .i64 x.f1).wf = true)
theorem opens95 : Opens Tryd.prog 95 k95 good95 := opens_iso (f := (fun x : S95 => (x.f0, x.f1))) (fun p => ⟨p.1, p.2⟩) (fun _ => rfl) (opens_struct Tryd.underlying95 (by kernel_rfl) (opensF_cons (off2 := 1) rfl (by kernel_rfl) (opens_string Tryd.underlying9) rfl (opensF_one rfl (by kernel_rfl) (opens_int Tryd.underlying3))))

def good39 (x : S39) : Prop := ((Lit.int .i64 x.f0).wf = true) ∧ ((Lit.int .i64 x.f1).wf = true) ∧ (x.f2.length * 24 ≤ 140737488351232 ∧ ∀ y ∈ x.f2, good58 y) ∧ (x.f3.length * 24 ≤ 140737488351232 ∧ ∀ y ∈ x.f3, good95 y)
theorem opens39 : Opens Tryd.prog 39 k39 good39 := opens_iso (f := (fun x : S39 => (x.f0, x.f1, x.f2, x.f3))) (fun p => ⟨p.1, p.2.1, p.2.2.1, p.2.2.2⟩) (fun _ => rfl) (opens_struct Tryd.underlying39 (by kernel_rfl) (opensF_cons (off2 := 1) rfl (by kernel_rfl) (opens_int Tryd.underlying3) rfl (opensF_cons (off2 := 2) rfl (by kernel_rfl) (opens_int Tryd.underlying3) rfl (opensF_cons (off2 := 3) rfl (by kernel_rfl) (opens_slice (B := 24) Tryd.underlying28 (by kernel_rfl) (by kernel_rfl) opens58) rfl (opensF_one rfl (by kernel_rfl) (opens_slice (B := 24) Tryd.underlying37 (by kernel_rfl) (by kernel_rfl) opens95))))))

/-- What is to be proved of the plain functions. -/
def Pure : Prop := ∀ (a0 : S39), (good39 a0) → ∃ k, creellaw_PipeChecks.f k a0.f0 a0.f1 a0.f2 a0.f3 = some true
theorem walk (P : Pure) (a0 : S39) (w : World) (g0 : good39 a0) {B0_2 : Option Addr} {d0_2 : Nat} (r0_2 : Kd.C k58 w B0_2 a0.f2.length a0.f2) (hc0_2 : a0.f2.length ≤ d0_2) {B0_3 : Option Addr} {d0_3 : Nat} (r0_3 : Kd.C k95 w B0_3 a0.f3.length a0.f3) (hc0_3 : a0.f3.length ≤ d0_3) :
    Calls Tryd.prog 7 #[.agg #[.int .i64 a0.f0, .int .i64 a0.f1, .slice B0_2 a0.f2.length d0_2, .slice B0_3 a0.f3.length d0_3]] w fun e w' => e = .returned (.bool true) ∧ Below w.heap.size w w' := by
  obtain ⟨k, h⟩ := P a0 g0
  refine (creellaw_PipeChecks.calls k a0.f0 a0.f1 B0_2 d0_2 a0.f2 B0_3 d0_3 a0.f3 true w r0_2 hc0_2 r0_3 hc0_3 h).mono ?_
  rintro e w' ⟨rfl, hd⟩
  exact ⟨rfl, hd⟩
end Go.Proofs.YtodeblpanooomacDoor.GPipeChecks
end
section
namespace Go.Proofs.YtodeblpanooomacDoorW.PureBase
open Go.RowKit Go.Proofs.YtodeblpanooomacDoorW.PrintWords

theorem wrap_is {x : Int} (h0 : -9223372036854775808 ≤ x) (h : x ≤ 9223372036854775807) : wrap64 x = x := by unfold wrap64; omega
theorem toList_data (s : ByteArray) : s.toList = s.data.toList := ByteArray.toList_eq s

/-- The byte at a place, as a list's. -/
theorem bt_get (s : ByteArray) (i : Nat) (h : i < s.size) : bt s i = ((s.data.toList[i]'(by simpa using h)).toNat : Int) := by
  unfold bt
  rw [dif_pos (by simpa using h)]
  simp
  rfl
theorem bt_eq_iff (s : ByteArray) (i : Nat) (h : i < s.size) (c : Int) (c0 : 0 ≤ c) (c1 : c ≤ 255) : bt s i = c ↔ s.data.toList[i]? = some c.toNat.toUInt8 := by
  rw [bt_get s i h, List.getElem?_eq_getElem (by simpa using h)]
  simp only [Option.some.injEq]
  constructor
  · intro e
    rw [← e]
    simp
  · intro e
    rw [e]
    simp
    omega
theorem size_list (s : ByteArray) : s.data.toList.length = s.size := by simp
theorem of_list (s : ByteArray) : (⟨s.data.toList.toArray⟩ : ByteArray) = s := by simp
theorem ext_list {s t : ByteArray} (h : s.data.toList = t.data.toList) : s = t := by
  rw [← of_list s, ← of_list t, h]
/-- Is a byte among a string's bytes? -/
theorem mem_bt (s : ByteArray) (c : Int) (c0 : 0 ≤ c) (c1 : c ≤ 255) : (∃ j : Int, 0 ≤ j ∧ j < s.size ∧ bt s j = c) ↔ s.data.toList.contains c.toNat.toUInt8 = true := by
  rw [List.contains_iff_mem]
  constructor
  · rintro ⟨j, h0, h1, h2⟩
    obtain ⟨i, rfl⟩ := Int.eq_ofNat_of_zero_le h0
    have := (bt_eq_iff s i (by omega) c c0 c1).1 h2
    exact List.mem_of_getElem? this
  · intro h
    obtain ⟨i, hi, he⟩ := List.mem_iff_getElem.1 h
    have hs : i < s.size := by simpa using hi
    refine ⟨i, by omega, by omega, ?_⟩
    rw [bt_eq_iff s i hs c c0 c1, List.getElem?_eq_getElem hi, he]

theorem index_ge (l : List UInt8) (c : UInt8) : decide (Lib.indexByte l c ≥ 0) = l.contains c := by
  rw [Lib.contains_iff_indexByte]

/-- Rounds: what is told at some number of rounds and is kept by more. -/
theorem Ev.at_ {α : Type} {g : Nat → Option α} {r : α} (h : Ev g r) : ∃ K, ∀ k, K ≤ k → g k = some r := h
theorem Ev.const {α : Type} {o : Option α} {r : α} (h : o = some r) : Ev (fun _ => o) r := ⟨0, fun _ _ => h⟩
theorem Ev.ifp {α : Type} {c : Prop} [Decidable c] {g f : Nat → Option α} {r : α} (hc : c) (h : Ev g r) : Ev (fun k => if c then g k else f k) r := by
  obtain ⟨K, hk⟩ := h
  exact ⟨K, fun k h => (if_pos hc).trans (hk k h)⟩
theorem Ev.ifn {α : Type} {c : Prop} [Decidable c] {g f : Nat → Option α} {r : α} (hc : ¬ c) (h : Ev f r) : Ev (fun k => if c then g k else f k) r := by
  obtain ⟨K, hk⟩ := h
  exact ⟨K, fun k h => (if_neg hc).trans (hk k h)⟩
end Go.Proofs.YtodeblpanooomacDoorW.PureBase
end
section
namespace Go.Proofs.YtodeblpanooomacDoor.All
open Go.RowKit Go.Proofs.YtodeblpanooomacDoorW.PrintWords Go.Proofs.YtodeblpanooomacDoorW.PrintLast Go.Proofs.YtodeblpanooomacDoorW.PrintMore
open Go.Proofs.YtodeblpanooomacDoorW.Mine
attribute [local go_sem] gtr_string leq_string geq_string
attribute [local go_sem] max2_int min2_int max_two min_two max_three min_three max_four min_four   -- for this text's walks alone
set_option linter.unusedVariables false
set_option linter.unusedSimpArgs false

/-! ### strings_LastIndexByte: function 69 -/
def strings_LastIndexByte.f (a0 : ByteArray) (a1 : Int) : Option Int := if a0.size < 4611686018427387904 then some (Lib.lastIndexByte a0 a1) else none
theorem strings_LastIndexByte.calls (a0 : ByteArray) (a1 : Int) (r : Int) (w : World) (h : strings_LastIndexByte.f a0 a1 = some r) :
  Calls Tryd.prog 69 #[.string a0, .int .u8 a1] w fun e w' => e = .returned (.int .i64 r) ∧ Drawn0 w w' := by
 unfold strings_LastIndexByte.f at h
 split at h
 ·rename_i hc
  obtain rfl := Option.some.inj h
  exact (Tryd.strings_LastIndexByte a0 a1 hc w).mono fun e w' ⟨he, hw⟩ => ⟨he, by rw [hw]; exact Drawn0.refl _⟩
 ·cases h


end Go.Proofs.YtodeblpanooomacDoor.All
end
section
namespace Go.Proofs.YtodeblpanooomacDoor.All
open Go.RowKit Go.Proofs.YtodeblpanooomacDoorW.PrintWords Go.Proofs.YtodeblpanooomacDoorW.PrintLast Go.Proofs.YtodeblpanooomacDoorW.PrintMore
open Go.Proofs.YtodeblpanooomacDoorW.Mine
attribute [local go_sem] gtr_string leq_string geq_string
attribute [local go_sem] max2_int min2_int max_two min_two max_three min_three max_four min_four   -- for this text's walks alone
set_option linter.unusedVariables false
set_option linter.unusedSimpArgs false

/-! ### creelref_PathParts: function 88 -/
def creelref_PathParts.f (k : Nat) (a0 : ByteArray) : Option (List ByteArray) := if a0.toList = ([] : List UInt8) then (some ([] : List ByteArray)) else ((creelref_parts.f k a0 47).bind fun t101 => (some t101))
theorem creelref_PathParts.mono : ∀ a0 k, LeO (creelref_PathParts.f k a0) (creelref_PathParts.f (k + 1) a0) := by
 intro a0 k
 unfold creelref_PathParts.f
 repeat' first
   | (with_reducible exact creelref_parts.mono _ _ _)
   | (with_reducible exact LeO.refl _)
   | (with_reducible exact LeO.none _)
   | (with_reducible refine LeO.ite ?_ ?_)
   | (with_reducible refine LeO.bind ?_ (fun _ => ?_))
   | exact creelref_parts.mono _ _ _
   | exact LeO.none _
   | refine LeO.ite ?_ ?_
   | refine LeO.bind ?_ (fun _ => ?_)
set_option maxHeartbeats 8000000 in
set_option maxRecDepth 100000 in
theorem creelref_PathParts.calls (k : Nat) (a0 : ByteArray) (r : List ByteArray) (w : World) (h : creelref_PathParts.f k a0 = some r) :
  Calls Tryd.prog 88 #[.string a0] w fun e w' => ∃ v0_ : Value, e = .returned (v0_) ∧ Kd.R Kd.string 9 w' w.heap.size (fun _ => True) v0_ r ∧ Below w.heap.size w w' := by
 have HB := Aside0.mk (Below.refl w.heap.size w)
 have H : (if a0.toList = ([] : List UInt8) then (some ([] : List ByteArray)) else ((creelref_parts.f k a0 47).bind fun t101 => (some t101))) = some r := h
 clear h
 by_cases c2 : a0.toList = ([] : List UInt8)
 ·rw [if_pos c2] at H
  have c2b0 : (a0.toList == ([] : List UInt8)) = true := beq_iff_eq.mpr c2
  have c2b1 : (a0.toList != ([] : List UInt8)) = false := bne_eq_false_iff_eq.mpr c2
  clear c2
  obtain rfl := Option.some.inj H
  go_enter Tryd.func88, Tryd.ntmps88
  go_wp2
  go_ret
  exact ⟨_, by first | rfl | (simp [errW_none, errW_some] <;> rfl) | (simp [*, errW_none, errW_some] <;> rfl), by first | exact Kd.R_nil _ _ _ _ _ | exact Kd.N_nil _ _ _ _ _ | exact Kd.V_nil _ _ _ _ _ | exact Kd.Q_nil _ _ _ _ _ | exact Kd.S_nil _ _ _ _ _, by repeat (first | (with_reducible first | exact HB.out | apply below_alloc | apply pw_below_drewN | apply below_drew1) | exact HB.out)⟩
 ·rw [if_neg c2] at H
  have c2b0 : (a0.toList == ([] : List UInt8)) = false := beq_eq_false_iff_ne.mpr c2
  have c2b1 : (a0.toList != ([] : List UInt8)) = true := bne_iff_ne.mpr c2
  replace H := Option.bind_eq_some_iff.mp H
  obtain ⟨t101, A30, H⟩ := H
  replace H : (some t101) = some r := H
  have A3 := Aside0.mk A30
  clear A30
  obtain rfl := Option.some.inj H
  go_enter Tryd.func88, Tryd.ntmps88
  go_wp2_with (first | ((with_reducible refine gate_callee (f := 26) rfl ?_); refine goesL_ (some 6) rfl rfl Tryd.func26 (by kernel_rfl) rfl #[.string a0, .int .u8 47] rfl (by (try simp only [List.map_toArray, List.map_cons, List.map_nil]); first | done | rfl | (simp only [List.length_drop, List.length_take]; rfl)) ?_; (with_reducible refine (creelref_parts.calls k a0 47 t101 _ A3.out).mono ?_); rintro e w4 ⟨v102, rfl, ho0, hb⟩; refine ⟨_, rfl, ?_⟩; have n0_ := Aside0.mk (Kd.R_lower ho0 (below_size (by repeat (first | (with_reducible first | exact HB.out | apply below_alloc | apply pw_below_drewN | apply below_drew1) | exact HB.out)))); have n1_ := Aside0.mk (below_step (by repeat (first | (with_reducible first | exact HB.out | apply below_alloc | apply pw_below_drewN | apply below_drew1) | exact HB.out)) hb); clear HB; have HO103 := n0_; have HB := n1_; clear n0_ n1_; (try clear hb); (try clear hb2); (try clear hk); (try clear hi); (try clear ho0)))
  go_ret
  exact ⟨_, by first | rfl | (simp [errW_none, errW_some] <;> rfl) | (simp [*, errW_none, errW_some] <;> rfl), by (with_reducible repeat (first | apply Kd.R_alloc | apply Kd.R_drewN | apply Kd.R_drew)); exact HO103.out, by repeat (first | (with_reducible first | exact HB.out | apply below_alloc | apply pw_below_drewN | apply below_drew1) | exact HB.out)⟩

end Go.Proofs.YtodeblpanooomacDoor.All
end
section
namespace Go.Proofs.YtodeblpanooomacDoor.All
open Go.RowKit Go.Proofs.YtodeblpanooomacDoorW.PrintWords Go.Proofs.YtodeblpanooomacDoorW.PrintLast Go.Proofs.YtodeblpanooomacDoorW.PrintMore
open Go.Proofs.YtodeblpanooomacDoorW.Mine
attribute [local go_sem] gtr_string leq_string geq_string
attribute [local go_sem] max2_int min2_int max_two min_two max_three min_three max_four min_four   -- for this text's walks alone
set_option linter.unusedVariables false
set_option linter.unusedSimpArgs false

/-! ### creelref_PathSplit: function 43 -/
def creelref_PathSplit.l0 : Nat → List ByteArray → ByteArray → Int → Option (ByteArray × ByteArray)
 | 0, _, _, _ => none
 | k + 1, x4, x5, x6 => if x6 < (wrap64 ((x4.length : Int) - 1)) then (if x6 > 0 then (if x5.size + 1 ≤ 9223372036854775807 then (if 0 ≤ x6 then (if x6 < (x4.length : Int) then (if (x5 ++ (⟨#[47]⟩ : ByteArray)).size + (rdOf ByteArray.empty x4 x6).size ≤ 9223372036854775807 then (creelref_PathSplit.l0 k x4 ((x5 ++ (⟨#[47]⟩ : ByteArray)) ++ (rdOf ByteArray.empty x4 x6)) (wrap64 (x6 + 1))) else (none)) else (none)) else (none)) else (none)) else (if 0 ≤ x6 then (if x6 < (x4.length : Int) then (if x5.size + (rdOf ByteArray.empty x4 x6).size ≤ 9223372036854775807 then (creelref_PathSplit.l0 k x4 (x5 ++ (rdOf ByteArray.empty x4 x6)) (wrap64 (x6 + 1))) else (none)) else (none)) else (none))) else (if 0 ≤ (wrap64 ((x4.length : Int) - 1)) then (if (wrap64 ((x4.length : Int) - 1)) < (x4.length : Int) then (some (x5, rdOf ByteArray.empty x4 (wrap64 ((x4.length : Int) - 1)))) else (none)) else (none))
def creelref_PathSplit.f (k : Nat) (a0 : ByteArray) : Option (ByteArray × ByteArray) := (creelref_parts.f k a0 47).bind fun t101 => (creelref_PathSplit.l0 k t101 (⟨#[]⟩ : ByteArray) 0)
theorem creelref_PathSplit.mono_l : ∀ k, (∀ y0 y1 y2, LeO (creelref_PathSplit.l0 k y0 y1 y2) (creelref_PathSplit.l0 (k + 1) y0 y1 y2))
 | 0 => fun _ _ _ r h => by simp [creelref_PathSplit.l0] at h
 | k + 1 => by
  have ih0 := creelref_PathSplit.mono_l k
  ·intro y0 y1 y2
   unfold creelref_PathSplit.l0
   repeat' first
   | (with_reducible exact ih0 _ _ _)
   | (with_reducible exact creelref_parts.mono _ _ _)
   | (with_reducible exact LeO.refl _)
   | (with_reducible exact LeO.none _)
   | (with_reducible refine LeO.ite ?_ ?_)
   | (with_reducible refine LeO.bind ?_ (fun _ => ?_))
   | exact ih0 _ _ _
   | exact creelref_parts.mono _ _ _
   | exact LeO.none _
   | refine LeO.ite ?_ ?_
   | refine LeO.bind ?_ (fun _ => ?_)
theorem creelref_PathSplit.mono : ∀ a0 k, LeO (creelref_PathSplit.f k a0) (creelref_PathSplit.f (k + 1) a0) := by
 intro a0 k
 have ih0 := creelref_PathSplit.mono_l k
 unfold creelref_PathSplit.f
 repeat' first
   | (with_reducible exact ih0 _ _ _)
   | (with_reducible exact creelref_parts.mono _ _ _)
   | (with_reducible exact LeO.refl _)
   | (with_reducible exact LeO.none _)
   | (with_reducible refine LeO.ite ?_ ?_)
   | (with_reducible refine LeO.bind ?_ (fun _ => ?_))
   | exact ih0 _ _ _
   | exact creelref_parts.mono _ _ _
   | exact LeO.none _
   | refine LeO.ite ?_ ?_
   | refine LeO.bind ?_ (fun _ => ?_)
set_option maxHeartbeats 8000000 in
set_option maxRecDepth 100000 in
theorem creelref_PathSplit.calls (k : Nat) (a0 : ByteArray) (r1 : ByteArray) (r2 : ByteArray) (w : World) (h : creelref_PathSplit.f k a0 = some (r1, r2)) :
  Calls Tryd.prog 43 #[.string a0] w fun e w' => e = .returned (.tuple #[.string r1, .string r2]) ∧ Below w.heap.size w w' := by
 have HB := Aside0.mk (Below.refl w.heap.size w)
 have H : ((creelref_parts.f k a0 47).bind fun t101 => (creelref_PathSplit.l0 k t101 (⟨#[]⟩ : ByteArray) 0)) = some (r1, r2) := h
 clear h
 replace H := Option.bind_eq_some_iff.mp H
 obtain ⟨t101, A20, H⟩ := H
 replace H : (creelref_PathSplit.l0 k t101 (⟨#[]⟩ : ByteArray) 0) = some (r1, r2) := H
 have A2 := Aside0.mk A20
 clear A20
 have H' := Aside0.mk H
 clear H
 go_enter Tryd.func43, Tryd.ntmps43
 go_wp2_with (first | (go_at_call 26; (with_reducible refine (creelref_parts.calls k a0 47 t101 _ A2.out).mono ?_); rintro e w3 ⟨v102, rfl, ho0, hb⟩; have n0_ := Aside0.mk (Kd.R_lower ho0 (below_size (by repeat (first | (with_reducible first | exact HB.out | apply below_alloc | apply pw_below_drewN | apply below_drew1) | exact HB.out)))); have n1_ := Aside0.mk (below_step (by repeat (first | (with_reducible first | exact HB.out | apply below_alloc | apply pw_below_drewN | apply below_drew1) | exact HB.out)) hb); clear HB; have HO103 := n0_; have HB := n1_; clear n0_ n1_; (try clear hb); (try clear hb2); (try clear hk); (try clear hi); (try clear ho0)))
 repeat (go_quiet (first | (go_at_call 26; (with_reducible refine (creelref_parts.calls k a0 47 t101 _ A2.out).mono ?_); rintro e w3 ⟨v102, rfl, ho0, hb⟩; have n0_ := Aside0.mk (Kd.R_lower ho0 (below_size (by repeat (first | (with_reducible first | exact HB.out | apply below_alloc | apply pw_below_drewN | apply below_drew1) | exact HB.out)))); have n1_ := Aside0.mk (below_step (by repeat (first | (with_reducible first | exact HB.out | apply below_alloc | apply pw_below_drewN | apply below_drew1) | exact HB.out)) hb); clear HB; have HO103 := n0_; have HB := n1_; clear n0_ n1_; (try clear hb); (try clear hb2); (try clear hk); (try clear hi); (try clear ho0))); try go_wp2_with (first | (go_at_call 26; (with_reducible refine (creelref_parts.calls k a0 47 t101 _ A2.out).mono ?_); rintro e w3 ⟨v102, rfl, ho0, hb⟩; have n0_ := Aside0.mk (Kd.R_lower ho0 (below_size (by repeat (first | (with_reducible first | exact HB.out | apply below_alloc | apply pw_below_drewN | apply below_drew1) | exact HB.out)))); have n1_ := Aside0.mk (below_step (by repeat (first | (with_reducible first | exact HB.out | apply below_alloc | apply pw_below_drewN | apply below_drew1) | exact HB.out)) hb); clear HB; have HO103 := n0_; have HB := n1_; clear n0_ n1_; (try clear hb); (try clear hb2); (try clear hk); (try clear hi); (try clear ho0))))
 go_loopg [5, 6] k (fun kq v5 v6 w' => ∃ (x5_1 : ByteArray) (x6_1 : Int), v5 = .string x5_1 ∧ v6 = .int .i64 x6_1 ∧ Aside0 (creelref_PathSplit.l0 kq t101 x5_1 x6_1 = some (r1, r2)) ∧ Aside0 (kq ≤ k) ∧ Aside0 (Kd.R Kd.string 9 w' w.heap.size (fun _ => True) v102 t101) ∧ Aside0 (Below w.heap.size w w'))
 case atStart => exact ⟨((⟨#[]⟩ : ByteArray)), (0), (by first | rfl | (simp; done) | (simp [*]; done)), (by first | rfl | (simp; done) | (simp [*]; done)), H', ⟨Nat.le_refl _⟩, ⟨by (with_reducible repeat (first | apply Kd.R_alloc | apply Kd.R_drewN | apply Kd.R_drew)); exact HO103.out⟩, ⟨by repeat (first | (with_reducible first | exact HB.out | apply below_alloc | apply pw_below_drewN | apply below_drew1) | exact HB.out)⟩⟩
 case round =>
  clear H'
  try clear p2
  obtain ⟨x5_1, x6_1, rfl, rfl, HA, HK1, HO_4, HB⟩ := hrel
  cases gk with
  | zero => exact absurd HA.out (by simp [creelref_PathSplit.l0])
  | succ k1 =>
   have H := HA.out
   clear HA
   simp only [creelref_PathSplit.l0] at H
   by_cases c4 : x6_1 < (wrap64 ((t101.length : Int) - 1))
   ·rw [if_pos c4] at H
    have c4b0 : decide (x6_1 < (wrap64 ((t101.length : Int) - 1))) = true := decide_eq_true c4
    clear c4
    by_cases c5 : x6_1 > 0
    ·rw [if_pos c5] at H
     have c5b0 : decide (0 < x6_1) = true := decide_eq_true c5
     clear c5
     by_cases c6 : x5_1.size + 1 ≤ 9223372036854775807
     ·rw [if_pos c6] at H
      have c6b0 := eq_true c6
      have c6b1 : decide (x5_1.size + 1 ≤ 9223372036854775807) = true := decide_eq_true c6
      try have c6b2 : (9223372036854775807 < x5_1.size + 1) = False := eq_false (Nat.not_lt.2 c6)
      by_cases c7 : 0 ≤ x6_1
      ·rw [if_pos c7] at H
       have c7b0 : decide (0 ≤ x6_1) = true := decide_eq_true c7
       clear c7
       by_cases c8 : x6_1 < (t101.length : Int)
       ·rw [if_pos c8] at H
        have c8b0 : decide (x6_1 < (t101.length : Int)) = true := decide_eq_true c8
        clear c8
        by_cases c9 : (x5_1 ++ (⟨#[47]⟩ : ByteArray)).size + (rdOf ByteArray.empty t101 x6_1).size ≤ 9223372036854775807
        ·rw [if_pos c9] at H
         have c9b0 := eq_true c9
         have c9b1 : decide ((x5_1 ++ (⟨#[47]⟩ : ByteArray)).size + (rdOf ByteArray.empty t101 x6_1).size ≤ 9223372036854775807) = true := decide_eq_true c9
         try have c9b2 : (9223372036854775807 < (x5_1 ++ (⟨#[47]⟩ : ByteArray)).size + (rdOf ByteArray.empty t101 x6_1).size) = False := eq_false (Nat.not_lt.2 c9)
         have H' := Aside0.mk H
         clear H
         obtain ⟨Ao10, co10, eo10⟩ := Kd.R_slice HO_4.out
         subst eo10
         have p104 : 0 ≤ (x6_1 : Int) := of_decide_eq_true (by first | (with_reducible assumption) | assumption)
         have q104 : x6_1 < (t101.length : Int) := of_decide_eq_true (by first | (with_reducible assumption) | assumption)
         obtain ⟨ad104, e104, hx104_0⟩ := Kd.at_string (Kd.R_reads' HO_4.out).2.2 x6_1 p104 q104
         cases e104
         replace p104 := eq_true p104
         replace q104 := eq_true q104
         go_wp2
         repeat (go_quiet (fail); try go_wp2)
         go_roundg k1
         case measure => have := HK1.out; omega
         case rel => exact ⟨((x5_1 ++ (⟨#[47]⟩ : ByteArray)) ++ (rdOf ByteArray.empty t101 x6_1)), (wrap64 (x6_1 + 1)), (by first | rfl | (simp; done) | (simp [*]; done)), (by first | rfl | (simp; done) | (simp [*]; done)), H', ⟨by have := HK1.out; omega⟩, ⟨by (with_reducible repeat (first | apply Kd.R_alloc | apply Kd.R_drewN | apply Kd.R_drew)); exact HO_4.out⟩, ⟨by repeat (first | (with_reducible first | exact HB.out | apply below_alloc | apply pw_below_drewN | apply below_drew1) | exact HB.out)⟩⟩
        ·rw [if_neg c9] at H
         exact absurd H (by simp)
       ·rw [if_neg c8] at H
        exact absurd H (by simp)
      ·rw [if_neg c7] at H
       exact absurd H (by simp)
     ·rw [if_neg c6] at H
      exact absurd H (by simp)
    ·rw [if_neg c5] at H
     have c5b0 : decide (0 < x6_1) = false := decide_eq_false c5
     clear c5
     by_cases c11 : 0 ≤ x6_1
     ·rw [if_pos c11] at H
      have c11b0 : decide (0 ≤ x6_1) = true := decide_eq_true c11
      clear c11
      by_cases c12 : x6_1 < (t101.length : Int)
      ·rw [if_pos c12] at H
       have c12b0 : decide (x6_1 < (t101.length : Int)) = true := decide_eq_true c12
       clear c12
       by_cases c13 : x5_1.size + (rdOf ByteArray.empty t101 x6_1).size ≤ 9223372036854775807
       ·rw [if_pos c13] at H
        have c13b0 := eq_true c13
        have c13b1 : decide (x5_1.size + (rdOf ByteArray.empty t101 x6_1).size ≤ 9223372036854775807) = true := decide_eq_true c13
        try have c13b2 : (9223372036854775807 < x5_1.size + (rdOf ByteArray.empty t101 x6_1).size) = False := eq_false (Nat.not_lt.2 c13)
        have H' := Aside0.mk H
        clear H
        obtain ⟨Ao14, co14, eo14⟩ := Kd.R_slice HO_4.out
        subst eo14
        have p105 : 0 ≤ (x6_1 : Int) := of_decide_eq_true (by first | (with_reducible assumption) | assumption)
        have q105 : x6_1 < (t101.length : Int) := of_decide_eq_true (by first | (with_reducible assumption) | assumption)
        obtain ⟨ad105, e105, hx105_0⟩ := Kd.at_string (Kd.R_reads' HO_4.out).2.2 x6_1 p105 q105
        cases e105
        replace p105 := eq_true p105
        replace q105 := eq_true q105
        go_wp2
        repeat (go_quiet (fail); try go_wp2)
        go_roundg k1
        case measure => have := HK1.out; omega
        case rel => exact ⟨(x5_1 ++ (rdOf ByteArray.empty t101 x6_1)), (wrap64 (x6_1 + 1)), (by first | rfl | (simp; done) | (simp [*]; done)), (by first | rfl | (simp; done) | (simp [*]; done)), H', ⟨by have := HK1.out; omega⟩, ⟨by (with_reducible repeat (first | apply Kd.R_alloc | apply Kd.R_drewN | apply Kd.R_drew)); exact HO_4.out⟩, ⟨by repeat (first | (with_reducible first | exact HB.out | apply below_alloc | apply pw_below_drewN | apply below_drew1) | exact HB.out)⟩⟩
       ·rw [if_neg c13] at H
        exact absurd H (by simp)
      ·rw [if_neg c12] at H
       exact absurd H (by simp)
     ·rw [if_neg c11] at H
      exact absurd H (by simp)
   ·rw [if_neg c4] at H
    have c4b0 : decide (x6_1 < (wrap64 ((t101.length : Int) - 1))) = false := decide_eq_false c4
    clear c4
    obtain ⟨ji15, hji15⟩ : ∃ j_ : Int, (wrap64 ((t101.length : Int) - 1)) = j_ := ⟨_, rfl⟩
    replace H : (if 0 ≤ (ji15) then (if (ji15) < (t101.length : Int) then (some (x5_1, rdOf ByteArray.empty t101 (ji15))) else (none)) else (none)) = some (r1, r2) := by first | (rw [hji15] at H; exact H) | (simp only [hji15] at H ⊢; exact H)
    (try rw [hji15] at c4b0)
    have hji15w : (IntKind.i64.wrap ((t101.length : Int) - 1)) = ji15 := (i64_w _).trans hji15
    by_cases c16 : 0 ≤ (ji15)
    ·rw [if_pos c16] at H
     have c16b0 : decide (0 ≤ (ji15)) = true := decide_eq_true c16
     clear c16
     by_cases c17 : (ji15) < (t101.length : Int)
     ·rw [if_pos c17] at H
      have c17b0 : decide ((ji15) < (t101.length : Int)) = true := decide_eq_true c17
      clear c17
      simp only [Option.some.injEq, Prod.mk.injEq] at H
      obtain ⟨rfl, rfl⟩ := H
      obtain ⟨Ao18, co18, eo18⟩ := Kd.R_slice HO_4.out
      subst eo18
      have p106 : 0 ≤ ((ji15) : Int) := of_decide_eq_true (by first | (with_reducible assumption) | assumption)
      have q106 : (ji15) < (t101.length : Int) := of_decide_eq_true (by first | (with_reducible assumption) | assumption)
      obtain ⟨ad106, e106, hx106_0⟩ := Kd.at_string (Kd.R_reads' HO_4.out).2.2 (ji15) p106 q106
      cases e106
      replace p106 := eq_true p106
      replace q106 := eq_true q106
      go_wp2
      repeat (go_quiet (fail); try go_wp2)
      go_ret2
      exact ⟨by first | rfl | (simp [errW_none, errW_some] <;> rfl) | (simp only [← hji15]; first | rfl | (simp [errW_none, errW_some] <;> rfl)) | (simp [*, errW_none, errW_some] <;> rfl), by repeat (first | (with_reducible first | exact HB.out | apply below_alloc | apply pw_below_drewN | apply below_drew1) | exact HB.out)⟩
     ·rw [if_neg c17] at H
      exact absurd H (by simp)
    ·rw [if_neg c16] at H
     exact absurd H (by simp)

end Go.Proofs.YtodeblpanooomacDoor.All
end
section
namespace Go.Proofs.YtodeblpanooomacDoor.All
open Go.RowKit Go.Proofs.YtodeblpanooomacDoorW.PrintWords Go.Proofs.YtodeblpanooomacDoorW.PrintLast Go.Proofs.YtodeblpanooomacDoorW.PrintMore
open Go.Proofs.YtodeblpanooomacDoorW.Mine
attribute [local go_sem] gtr_string leq_string geq_string
attribute [local go_sem] max2_int min2_int max_two min_two max_three min_three max_four min_four   -- for this text's walks alone
set_option linter.unusedVariables false
set_option linter.unusedSimpArgs false

/-! ### path_Parts: function 30 -/
def path_Parts.f (a0 : ByteArray) : Option (List ByteArray) := if a0.toList = ([] : List UInt8) then (some ([] : List ByteArray)) else ((strings_Split.f a0 (⟨#[47]⟩ : ByteArray)).bind fun t101 => (some t101))
set_option maxHeartbeats 8000000 in
set_option maxRecDepth 100000 in
theorem path_Parts.calls (a0 : ByteArray) (r : List ByteArray) (w : World) (h : path_Parts.f a0 = some r) :
  Calls Tryd.prog 30 #[.string a0] w fun e w' => ∃ v0_ : Value, e = .returned (v0_) ∧ Kd.R Kd.string 9 w' w.heap.size (fun _ => True) v0_ r ∧ Below w.heap.size w w' := by
 have HB := Aside0.mk (Below.refl w.heap.size w)
 have H : (if a0.toList = ([] : List UInt8) then (some ([] : List ByteArray)) else ((strings_Split.f a0 (⟨#[47]⟩ : ByteArray)).bind fun t101 => (some t101))) = some r := h
 clear h
 by_cases c2 : a0.toList = ([] : List UInt8)
 ·rw [if_pos c2] at H
  have c2b0 : (a0.toList == ([] : List UInt8)) = true := beq_iff_eq.mpr c2
  have c2b1 : (a0.toList != ([] : List UInt8)) = false := bne_eq_false_iff_eq.mpr c2
  clear c2
  obtain rfl := Option.some.inj H
  go_enter Tryd.func30, Tryd.ntmps30
  go_wp2
  go_ret
  exact ⟨_, by first | rfl | (simp [errW_none, errW_some] <;> rfl) | (simp [*, errW_none, errW_some] <;> rfl), by first | exact Kd.R_nil _ _ _ _ _ | exact Kd.N_nil _ _ _ _ _ | exact Kd.V_nil _ _ _ _ _ | exact Kd.Q_nil _ _ _ _ _ | exact Kd.S_nil _ _ _ _ _, by repeat (first | (with_reducible first | exact HB.out | apply below_alloc | apply pw_below_drewN | apply below_drew1) | exact HB.out)⟩
 ·rw [if_neg c2] at H
  have c2b0 : (a0.toList == ([] : List UInt8)) = false := beq_eq_false_iff_ne.mpr c2
  have c2b1 : (a0.toList != ([] : List UInt8)) = true := bne_iff_ne.mpr c2
  replace H := Option.bind_eq_some_iff.mp H
  obtain ⟨t101, A30, H⟩ := H
  replace H : (some t101) = some r := H
  have A3 := Aside0.mk A30
  clear A30
  obtain rfl := Option.some.inj H
  go_enter Tryd.func30, Tryd.ntmps30
  go_wp2_with (first | ((with_reducible refine gate_callee (f := 24) rfl ?_); refine goesL_ (some 6) rfl rfl Tryd.func24 (by kernel_rfl) rfl #[.string a0, .string (⟨#[47]⟩ : ByteArray)] rfl (by (try simp only [List.map_toArray, List.map_cons, List.map_nil]); first | done | rfl | (simp only [List.length_drop, List.length_take]; rfl)) ?_; (with_reducible refine (strings_Split.calls a0 (⟨#[47]⟩ : ByteArray) t101 _ A3.out).mono ?_); rintro e w4 ⟨v102, rfl, ho0, hb⟩; refine ⟨_, rfl, ?_⟩; have n0_ := Aside0.mk (Kd.R_lower ho0 (below_size (by repeat (first | (with_reducible first | exact HB.out | apply below_alloc | apply pw_below_drewN | apply below_drew1) | exact HB.out)))); have n1_ := Aside0.mk (below_step (by repeat (first | (with_reducible first | exact HB.out | apply below_alloc | apply pw_below_drewN | apply below_drew1) | exact HB.out)) hb); clear HB; have HO103 := n0_; have HB := n1_; clear n0_ n1_; (try clear hb); (try clear hb2); (try clear hk); (try clear hi); (try clear ho0)))
  go_ret
  exact ⟨_, by first | rfl | (simp [errW_none, errW_some] <;> rfl) | (simp [*, errW_none, errW_some] <;> rfl), by (with_reducible repeat (first | apply Kd.R_alloc | apply Kd.R_drewN | apply Kd.R_drew)); exact HO103.out, by repeat (first | (with_reducible first | exact HB.out | apply below_alloc | apply pw_below_drewN | apply below_drew1) | exact HB.out)⟩

end Go.Proofs.YtodeblpanooomacDoor.All
end
section
namespace Go.Proofs.YtodeblpanooomacDoor.All
open Go.RowKit Go.Proofs.YtodeblpanooomacDoorW.PrintWords Go.Proofs.YtodeblpanooomacDoorW.PrintLast Go.Proofs.YtodeblpanooomacDoorW.PrintMore
open Go.Proofs.YtodeblpanooomacDoorW.Mine
attribute [local go_sem] gtr_string leq_string geq_string
attribute [local go_sem] max2_int min2_int max_two min_two max_three min_three max_four min_four   -- for this text's walks alone
set_option linter.unusedVariables false
set_option linter.unusedSimpArgs false

/-! ### path_Up: function 40 -/
def path_Up.f (a0 : ByteArray) : Option (ByteArray) := (strings_LastIndexByte.f a0 47).bind fun t101 => (if t101 < 0 then (some (⟨#[]⟩ : ByteArray)) else (if 0 ≤ t101 then (if t101 ≤ (a0.size : Int) then (some (a0.extract 0 (t101 : Int).toNat)) else (none)) else (none)))
set_option maxHeartbeats 8000000 in
set_option maxRecDepth 100000 in
theorem path_Up.calls (a0 : ByteArray) (r : ByteArray) (w : World) (h : path_Up.f a0 = some r) :
  Calls Tryd.prog 40 #[.string a0] w fun e w' => e = .returned (.string r) ∧ Drawn0 w w' := by
 have H : ((strings_LastIndexByte.f a0 47).bind fun t101 => (if t101 < 0 then (some (⟨#[]⟩ : ByteArray)) else (if 0 ≤ t101 then (if t101 ≤ (a0.size : Int) then (some (a0.extract 0 (t101 : Int).toNat)) else (none)) else (none)))) = some r := h
 clear h
 replace H := Option.bind_eq_some_iff.mp H
 obtain ⟨t101, A20, H⟩ := H
 replace H : (if t101 < 0 then (some (⟨#[]⟩ : ByteArray)) else (if 0 ≤ t101 then (if t101 ≤ (a0.size : Int) then (some (a0.extract 0 (t101 : Int).toNat)) else (none)) else (none))) = some r := H
 have A2 := Aside0.mk A20
 clear A20
 by_cases c3 : t101 < 0
 ·rw [if_pos c3] at H
  have c3b0 : decide (t101 < 0) = true := decide_eq_true c3
  clear c3
  obtain rfl := Option.some.inj H
  go_enter Tryd.func40, Tryd.ntmps40
  go_wp2_with (first | ((with_reducible refine gate_callee (f := 69) rfl ?_); refine goesL_ (some 5) rfl rfl Tryd.func69 (by kernel_rfl) rfl #[.string a0, .int .u8 47] rfl (by (try simp only [List.map_toArray, List.map_cons, List.map_nil]); first | done | rfl | (simp only [List.length_drop, List.length_take]; rfl)) ?_; (with_reducible refine (strings_LastIndexByte.calls a0 47 t101 _ A2.out).mono ?_); rintro e w' ⟨rfl, ⟨nd, rfl⟩⟩; refine ⟨_, rfl, ?_⟩))
  go_ret
  exact ⟨by first | rfl | (simp; done) | (simp [*]; done), by repeat (first | exact Drawn0.refl _ | apply Drawn0.step)⟩
 ·rw [if_neg c3] at H
  have c3b0 : decide (t101 < 0) = false := decide_eq_false c3
  clear c3
  by_cases c4 : 0 ≤ t101
  ·rw [if_pos c4] at H
   have c4b0 := eq_true c4
   have c4b1 : decide (0 ≤ t101) = true := decide_eq_true c4
   clear c4
   by_cases c5 : t101 ≤ (a0.size : Int)
   ·rw [if_pos c5] at H
    have c5b0 := eq_true c5
    have c5b1 : decide (t101 ≤ (a0.size : Int)) = true := decide_eq_true c5
    clear c5
    obtain rfl := Option.some.inj H
    go_enter Tryd.func40, Tryd.ntmps40
    go_wp2_with (first | ((with_reducible refine gate_callee (f := 69) rfl ?_); refine goesL_ (some 5) rfl rfl Tryd.func69 (by kernel_rfl) rfl #[.string a0, .int .u8 47] rfl (by (try simp only [List.map_toArray, List.map_cons, List.map_nil]); first | done | rfl | (simp only [List.length_drop, List.length_take]; rfl)) ?_; (with_reducible refine (strings_LastIndexByte.calls a0 47 t101 _ A2.out).mono ?_); rintro e w' ⟨rfl, ⟨nd, rfl⟩⟩; refine ⟨_, rfl, ?_⟩))
    go_ret
    exact ⟨by first | rfl | (simp; done) | (simp [*]; done), by repeat (first | exact Drawn0.refl _ | apply Drawn0.step)⟩
   ·rw [if_neg c5] at H
    exact absurd H (by simp)
  ·rw [if_neg c4] at H
   exact absurd H (by simp)

end Go.Proofs.YtodeblpanooomacDoor.All
end
section
namespace Go.Proofs.YtodeblpanooomacDoor.Q
set_option linter.unusedVariables false
set_option linter.unusedSimpArgs false
open Go.RowKit Go.Proofs.YtodeblpanooomacDoor.All Go.Proofs.YtodeblpanooomacDoorW.PrintWords Go.Proofs.YtodeblpanooomacDoorW.PrintLast Go.Proofs.YtodeblpanooomacDoorW.PrintMore Go.Proofs.YtodeblpanooomacDoorW.PureBase

-- FN creelref_has
theorem has_from (s : ByteArray) (c : Int) (hb : s.size ≤ 140737488351232) (d : Nat) : ∀ (k : Nat) (i : Int), 0 ≤ i → i ≤ s.size → (s.size : Int) - i = d → d < k →
    ∃ b, creelref_has.l0 k s c i = some b ∧ (b = true ↔ ∃ j : Int, i ≤ j ∧ j < s.size ∧ bt s j = c) := by
  induction d with
  | zero =>
    intro k i h0 h1 hd hk
    obtain ⟨k, rfl⟩ : ∃ m, k = m + 1 := ⟨k - 1, by omega⟩
    refine ⟨false, ?_, ?_⟩
    · simp only [creelref_has.l0]; rw [if_neg (by omega)]
    · constructor
      · intro h; cases h
      · rintro ⟨j, h1, h2, _⟩; omega
  | succ d ih =>
    intro k i h0 h1 hd hk
    obtain ⟨k, rfl⟩ : ∃ m, k = m + 1 := ⟨k - 1, by omega⟩
    have hlt : i < (s.size : Int) := by omega
    have hw : wrap64 (i + 1) = i + 1 := by unfold wrap64; omega
    by_cases e : bt s i = c
    · refine ⟨true, ?_, ?_⟩
      · simp only [creelref_has.l0]; rw [if_pos hlt, if_pos h0, if_pos e]
      · exact ⟨fun _ => ⟨i, by omega, hlt, e⟩, fun _ => rfl⟩
    · obtain ⟨b, hb1, hb2⟩ := ih k (i + 1) (by omega) (by omega) (by omega) (by omega)
      refine ⟨b, ?_, ?_⟩
      · simp only [creelref_has.l0]; rw [if_pos hlt, if_pos h0, hw, if_neg e]; exact hb1
      · rw [hb2]
        constructor
        · rintro ⟨j, h1, h2, h3⟩; exact ⟨j, by omega, h2, h3⟩
        · rintro ⟨j, h1, h2, h3⟩
          have : j ≠ i := by rintro rfl; exact e h3
          exact ⟨j, by omega, h2, h3⟩
theorem has_ev (s : ByteArray) (c : Int) (c0 : 0 ≤ c) (c1 : c ≤ 255) (hb : s.size ≤ 140737488351232) : Ev (fun k => creelref_has.f k s c) (s.data.toList.contains c.toNat.toUInt8) := by
  refine ⟨s.size + 1, fun k hk => ?_⟩
  obtain ⟨b, h1, h2⟩ := has_from s c hb s.size k 0 (by omega) (by omega) (by omega) (by omega)
  show creelref_has.l0 k s c 0 = _
  rw [h1]
  congr 1
  rw [Bool.eq_iff_iff, h2]
  exact mem_bt s c c0 c1
end Go.Proofs.YtodeblpanooomacDoor.Q
end
section
namespace Go.Proofs.YtodeblpanooomacDoor.Q
set_option linter.unusedVariables false
set_option linter.unusedSimpArgs false
open Go.RowKit Go.Proofs.YtodeblpanooomacDoor.All Go.Proofs.YtodeblpanooomacDoorW.PrintWords Go.Proofs.YtodeblpanooomacDoorW.PrintLast Go.Proofs.YtodeblpanooomacDoorW.PrintMore Go.Proofs.YtodeblpanooomacDoorW.PureBase

-- USES Has
-- FN strings_IndexByte strings_Split strings_LastIndexByte creelref_parts creelref_PathFault creelref_PathParts creelref_PathSplit path_Check path_Parts path_Up path_Base
/-- The parts of a list of bytes between a byte. -/
def sp (c : UInt8) : List UInt8 → List (List UInt8)
  | [] => [[]]
  | b :: l => if b = c then [] :: sp c l else match sp c l with
    | p :: ps => (b :: p) :: ps
    | [] => [[b]]
theorem sp_ne (c : UInt8) (l : List UInt8) : sp c l ≠ [] := by
  cases l with
  | nil => simp [sp]
  | cons b l =>
    simp only [sp]
    split
    · simp
    · split <;> simp
/-- The same from the front: a first part that is under way. -/
theorem sp_go (c : UInt8) : ∀ (l p : List UInt8), c ∉ p → sp c (p ++ l) = (match sp c l with | q :: qs => (p ++ q) :: qs | [] => [p])
  | l, [], _ => by
    cases h : sp c l with
    | nil => exact absurd h (sp_ne c l)
    | cons q qs => simp [h]
  | l, a :: p, hp => by
    have ha : ¬ a = c := fun e => hp (by simp [e])
    have ih := sp_go c l p (fun h => hp (List.mem_cons_of_mem _ h))
    simp only [List.cons_append, sp]
    rw [if_neg ha, ih]
    cases h : sp c l with
    | nil => exact absurd h (sp_ne c l)
    | cons q qs => simp
theorem sp_cut (c : UInt8) (p l : List UInt8) (hp : c ∉ p) : sp c (p ++ c :: l) = p :: sp c l := by
  rw [sp_go c (c :: l) p hp]
  simp [sp]
theorem sp_whole (c : UInt8) (p : List UInt8) (hp : c ∉ p) : sp c p = [p] := by
  have := sp_go c [] p hp
  simpa [sp] using this
theorem sp_len_le (c : UInt8) (l : List UInt8) : (sp c l).length ≤ l.length + 1 := by
  induction l with
  | nil => simp [sp]
  | cons b l ih =>
    simp only [sp]
    split
    · simp; omega
    · split
      · rename_i h; rw [h] at ih; simp at ih ⊢; omega
      · simp

def mk (l : List UInt8) : ByteArray := ⟨l.toArray⟩
theorem mk_of (s : ByteArray) : mk s.data.toList = s := of_list s
theorem mk_size (l : List UInt8) : (mk l).size = l.length := rfl
/-- A path's parts. -/
def pp (s : ByteArray) : List ByteArray := (sp 47 s.data.toList).map mk

theorem index_one_none {l : List UInt8} {c : UInt8} (h : Lib.index l [c] = -1) : c ∉ l := by
  rw [Lib.index_one] at h
  intro hm
  obtain ⟨i, hi, he⟩ := List.mem_iff_getElem.1 hm
  exact Lib.indexByte_none h i (by rw [List.getElem?_eq_getElem hi, he])
theorem index_one_some {l : List UInt8} {c : UInt8} {o : Nat} (h : Lib.index l [c] = (o : Int)) : o < l.length ∧ c ∉ l.take o ∧ l = l.take o ++ c :: l.drop (o + 1) := by
  rw [Lib.index_one] at h
  obtain ⟨h1, h2⟩ := Lib.indexByte_some h
  have hlt := (List.getElem?_eq_some_iff.1 h1).1
  have he := (List.getElem?_eq_some_iff.1 h1).2
  refine ⟨hlt, ?_, ?_⟩
  · intro hm
    obtain ⟨i, hi, hie⟩ := List.mem_iff_getElem.1 hm
    rw [List.length_take] at hi
    rw [List.getElem_take] at hie
    exact h2 i (by omega) (by rw [List.getElem?_eq_getElem (by omega), hie])
  · conv => lhs; rw [← List.take_append_drop o l]
    rw [List.drop_eq_getElem_cons hlt, he]
theorem split_sp (c : UInt8) : ∀ (k : Nat) (l : List UInt8), Lib.count l [c] ≤ k → Lib.splitK [c] 0 k l = sp c l
  | 0, l, h => by
    rw [Lib.count_one] at h
    have : c ∉ l := by
      intro hm
      have := List.count_pos_iff.2 hm
      omega
    rw [sp_whole c l this]; rfl
  | k + 1, l, h => by
    unfold Lib.splitK
    by_cases hi : Lib.index l [c] = -1
    · rw [if_pos (by simpa using hi), sp_whole c l (index_one_none hi)]
    · rw [if_neg (by simpa using hi)]
      have hge := Lib.indexByte_ge l c
      rw [← Lib.index_one] at hge
      obtain ⟨o, ho⟩ := Int.eq_ofNat_of_zero_le (show 0 ≤ Lib.index l [c] by omega)
      obtain ⟨h1, h2, h3⟩ := index_one_some ho
      rw [ho]
      simp only [Int.toNat_natCast, Nat.add_zero, List.length_singleton]
      have hc : Lib.count (l.drop (o + 1)) [c] ≤ k := by
        rw [Lib.count_one] at h ⊢
        rw [h3, List.count_append, List.count_cons_self] at h
        omega
      rw [split_sp c k _ hc]
      conv => rhs; rw [h3]
      rw [sp_cut c _ _ h2]
theorem split_is (s : ByteArray) (hs : s.size < 4294967281) : strings_Split.f s ⟨#[47]⟩ = some (pp s) := by
  unfold strings_Split.f
  simp only
  rw [if_pos hs]
  congr 1
  have h := Lib.splitB_data ⟨#[47]⟩ 0 (Lib.countB s ⟨#[47]⟩) s
  rw [show (⟨#[47]⟩ : ByteArray).data.toList = [47] from rfl, split_sp 47 _ _ (Nat.le_refl _)] at h
  unfold pp
  rw [← h, List.map_map]
  conv => lhs; rw [← List.map_id (Lib.splitB ⟨#[47]⟩ 0 (Lib.countB s ⟨#[47]⟩) s)]
  apply List.map_congr_left
  intro x _
  exact (mk_of x).symm

theorem drop_cons (s : ByteArray) (i : Nat) (h : i < s.size) : ∃ b : UInt8, s.data.toList.drop i = b :: s.data.toList.drop (i + 1) ∧ (b.toNat : Int) = bt s (i : Int) ∧ s.extract i (i + 1) = mk [b] := by
  have hl : i < s.data.toList.length := by rw [size_list]; exact h
  refine ⟨s.data.toList[i], List.drop_eq_getElem_cons hl, (bt_get s i h).symm, ?_⟩
  apply ext_list
  rw [Lib.extract_data, List.drop_eq_getElem_cons hl, show i + 1 - i = 1 from by omega]
  rfl
theorem byte_eq (b : UInt8) (c : Int) (h : (b.toNat : Int) = c) (n : UInt8) : c = (n.toNat : Int) ↔ b = n := by
  rw [← h]
  constructor
  · intro e
    apply UInt8.toNat_inj.1
    omega
  · intro e
    rw [e]
theorem parts_loop (s : ByteArray) (d : Nat) : ∀ (k i : Nat) (done : List ByteArray) (cur : List UInt8), s.size - i = d → i ≤ s.size → d < k → done.length + d < 8796093022207 → cur.length + d ≤ 4611686018427387904 → s.size ≤ 4611686018427387904 →
    creelref_parts.l0 k s 47 (done ++ [mk cur]) (i : Int) = some (done ++ (match sp 47 (s.data.toList.drop i) with | q :: qs => mk (cur ++ q) :: qs.map mk | [] => [mk cur])) := by
  induction d with
  | zero =>
    intro k i done cur hd hi hk hn hc hs
    obtain ⟨k, rfl⟩ : ∃ m, k = m + 1 := ⟨k - 1, by omega⟩
    simp only [creelref_parts.l0]
    rw [if_neg (by omega), List.drop_eq_nil_of_le (by rw [size_list]; omega)]
    simp [sp]
  | succ d ih =>
    intro k i done cur hd hi hk hn hc hs
    obtain ⟨k, rfl⟩ : ∃ m, k = m + 1 := ⟨k - 1, by omega⟩
    have hlt : i < s.size := by omega
    obtain ⟨b, h1, h2, h3⟩ := drop_cons s i hlt
    have hw : wrap64 ((i : Int) + 1) = ((i + 1 : Nat) : Int) := by rw [wrap_is (by omega) (by omega)]; omega
    have hlen : (done ++ [mk cur]).length = done.length + 1 := by simp
    simp only [creelref_parts.l0]
    rw [if_pos (by omega), if_pos (show (0 : Int) ≤ i by omega), h1, hw, hlen]
    simp only [sp]
    have h47 : bt s (i : Int) = 47 ↔ b = 47 := byte_eq b _ h2 47
    by_cases e : b = 47
    · rw [if_pos (h47.2 e), if_pos (by omega), if_pos e]
      have := ih k (i + 1) (done ++ [mk cur]) [] (by omega) (by omega) (by omega) (by simp only [List.length_append, List.length_singleton]; omega) (by simp only [List.length_nil]; omega) hs
      rw [show (⟨#[]⟩ : ByteArray) = mk [] from rfl, this]
      cases hsp : sp 47 (s.data.toList.drop (i + 1)) with
      | nil => exact absurd hsp (sp_ne _ _)
      | cons q qs => simp
    · have hne : ¬ bt s (i : Int) = 47 := fun h => e (h47.1 h)
      have hw2 : wrap64 (((done.length + 1 : Nat) : Int) - 1) = (done.length : Int) := by rw [wrap_is (by omega) (by omega)]; omega
      have hrd : rdOf ByteArray.empty (done ++ [mk cur]) (done.length : Int) = mk cur := by
        unfold rdOf
        rw [Int.toNat_natCast, List.getD_eq_getElem?_getD, List.getElem?_append_right (Nat.le_refl _), Nat.sub_self]; rfl
      have hex : s.extract ((i : Int)).toNat (((i + 1 : Nat) : Int)).toNat = mk [b] := by rw [Int.toNat_natCast, Int.toNat_natCast, h3]
      have happ : mk cur ++ mk [b] = mk (cur ++ [b]) := by apply ext_list; simp [mk]
      have hset : (done ++ [mk cur]).set done.length (mk (cur ++ [b])) = done ++ [mk (cur ++ [b])] := by
        rw [List.set_append_right _ _ (Nat.le_refl _), Nat.sub_self]; rfl
      rw [if_neg hne, hw2, hrd, hex, if_pos (by omega), if_pos (by omega), if_pos (by omega), if_pos (by omega), if_pos (by rw [mk_size, mk_size]; simp only [List.length_singleton]; omega), happ, Int.toNat_natCast, hset, if_neg e]
      rw [ih k (i + 1) done (cur ++ [b]) (by omega) (by omega) (by omega) (by omega) (by simp only [List.length_append, List.length_singleton]; omega) hs]
      cases hsp : sp 47 (s.data.toList.drop (i + 1)) with
      | nil => exact absurd hsp (sp_ne _ _)
      | cons q qs => simp
theorem parts_is (s : ByteArray) (k : Nat) (hs : s.size ≤ 4294967296) (hk : s.size < k) : creelref_parts.f k s 47 = some (pp s) := by
  unfold creelref_parts.f
  have := parts_loop s s.size k 0 [] [] (by omega) (by omega) hk (by simp only [List.length_nil]; omega) (by simp only [List.length_nil]; omega) (by omega)
  rw [show ([(⟨#[]⟩ : ByteArray)] : List ByteArray) = [] ++ [mk []] from rfl]
  rw [show ((0 : Nat) : Int) = 0 from rfl] at this
  rw [this]
  unfold pp
  rw [List.drop_zero]
  cases hsp : sp 47 s.data.toList with
  | nil => exact absurd hsp (sp_ne _ _)
  | cons q qs => simp
theorem pp_len (s : ByteArray) : (pp s).length ≤ s.size + 1 := by
  unfold pp
  rw [List.length_map]
  have := sp_len_le 47 s.data.toList
  rw [size_list] at this
  exact this

/-- A part that may not be. -/
def bad (p : ByteArray) : Bool := decide (p.toList = []) || decide (p.toList = [46]) || decide (p.toList = [46, 46])
/-- What is wrong with a path. -/
def pathR (s : ByteArray) : Int := if s.size < 1 ∨ 400 < s.size then 1 else if s.data.toList.contains 0 = true then 3 else if (pp s).any bad = true then 9 else 0

theorem check_loop (l : List ByteArray) (hl : l.length ≤ 4294967297) (d : Nat) : ∀ (k i : Nat), l.length - i = d → i ≤ l.length → d < k →
    path_Check.l0 k l (l.length : Int) (i : Int) = some (if (l.drop i).any bad = true then 9 else 0) ∧ creelref_PathFault.l0 k l (l.length : Int) (i : Int) = some (if (l.drop i).any bad = true then 9 else 0) := by
  induction d with
  | zero =>
    intro k i hd hi hk
    obtain ⟨k, rfl⟩ : ∃ m, k = m + 1 := ⟨k - 1, by omega⟩
    simp only [path_Check.l0, creelref_PathFault.l0]
    have hge : ¬ (i : Int) < l.length := by omega
    rw [if_neg hge, if_neg hge, List.drop_eq_nil_of_le (by omega)]
    simp
  | succ d ih =>
    intro k i hd hi hk
    obtain ⟨k, rfl⟩ : ∃ m, k = m + 1 := ⟨k - 1, by omega⟩
    have hlt : i < l.length := by omega
    have hw : wrap64 ((i : Int) + 1) = ((i + 1 : Nat) : Int) := by rw [wrap_is (by omega) (by omega)]; omega
    have hrd : rdOf ByteArray.empty l (i : Int) = l[i] := by
      unfold rdOf
      rw [Int.toNat_natCast, List.getD_eq_getElem?_getD, List.getElem?_eq_getElem hlt]; rfl
    obtain ⟨h1, h2⟩ := ih k (i + 1) (by omega) (by omega) (by omega)
    simp only [path_Check.l0, creelref_PathFault.l0]
    rw [hw, hrd, h1, h2, List.drop_eq_getElem_cons hlt, List.any_cons]
    generalize l[i] = p
    have c1 : (i : Int) < l.length := by omega
    have c2 : (0 : Int) ≤ i := by omega
    simp only [if_pos c1, if_pos c2]
    unfold bad
    by_cases e1 : p.toList = []
    · simp [e1]
    · by_cases e2 : p.toList = [46]
      · simp [e2]
      · by_cases e3 : p.toList = [46, 46]
        · simp [e3]
        · simp [e1, e2, e3]
theorem empty_size (s : ByteArray) : s.toList = ([] : List UInt8) ↔ s.size = 0 := by
  rw [toList_data, ← size_list]
  exact List.length_eq_zero_iff.symm
theorem path_same (s : ByteArray) (hs : s.size ≤ 140737488351232) : Ev (fun k => path_Check.f k s) (pathR s) ∧ Ev (fun k => creelref_PathFault.f k s) (pathR s) := by
  obtain ⟨K, hK⟩ := has_ev s 0 (by omega) (by omega) hs
  replace hK : ∀ k, K ≤ k → creelref_has.f k s 0 = some (s.data.toList.contains 0) := hK
  have hi : (Lib.indexByte s.data.toList ((0 : Int).toNat.toUInt8) ≥ 0) ↔ s.data.toList.contains 0 = true := by
    have := index_ge s.data.toList ((0 : Int).toNat.toUInt8)
    rw [← decide_eq_true_iff (p := Lib.indexByte s.data.toList ((0 : Int).toNat.toUInt8) ≥ 0), this]; rfl
  by_cases c : s.size < 1 ∨ 400 < s.size
  · have e : pathR s = 1 := by unfold pathR; rw [if_pos c]
    rw [e]
    refine ⟨⟨1, fun k hk => ?_⟩, ⟨1, fun k hk => ?_⟩⟩
    · obtain ⟨k, rfl⟩ : ∃ m, k = m + 1 := ⟨k - 1, by omega⟩
      show path_Check.f (k + 1) s = _
      unfold path_Check.f
      by_cases h : (s.size : Int) < 1
      · rw [if_pos h]; simp [path_Check.j0]
      · rw [if_neg h, decide_eq_true (show (s.size : Int) > 400 by omega)]; simp [path_Check.j0]
    · obtain ⟨k, rfl⟩ : ∃ m, k = m + 1 := ⟨k - 1, by omega⟩
      show creelref_PathFault.f (k + 1) s = _
      unfold creelref_PathFault.f
      by_cases h : s.toList = ([] : List UInt8)
      · rw [if_pos h]; simp [creelref_PathFault.j0]
      · rw [if_neg h]
        rw [empty_size] at h
        rw [decide_eq_true (show (s.size : Int) > 400 by omega)]; simp [creelref_PathFault.j0]
  · have h0 : ¬ s.toList = ([] : List UInt8) := by rw [empty_size]; omega
    have hsp := split_is s (by omega)
    have hpl := pp_len s
    by_cases hz : s.data.toList.contains 0 = true
    · have e : pathR s = 3 := by unfold pathR; rw [if_neg c, if_pos hz]
      rw [e]
      refine ⟨⟨1, fun k hk => ?_⟩, ⟨K + 1, fun k hk => ?_⟩⟩
      · obtain ⟨k, rfl⟩ : ∃ m, k = m + 1 := ⟨k - 1, by omega⟩
        show path_Check.f (k + 1) s = _
        unfold path_Check.f
        rw [if_neg (show ¬ (s.size : Int) < 1 by omega), decide_eq_false (show ¬ (s.size : Int) > 400 by omega)]
        simp only [path_Check.j0, Bool.false_eq_true, if_false, strings_IndexByte.f, Option.bind_some]
        rw [if_pos (hi.2 hz)]
      · obtain ⟨k, rfl⟩ : ∃ m, k = m + 1 := ⟨k - 1, by omega⟩
        show creelref_PathFault.f (k + 1) s = _
        unfold creelref_PathFault.f
        rw [if_neg h0, decide_eq_false (show ¬ (s.size : Int) > 400 by omega)]
        simp only [creelref_PathFault.j0, Bool.false_eq_true, if_false]
        rw [hK k (by omega)]
        simp only [Option.bind_some, hz, if_true]
    · have hz' : s.data.toList.contains 0 = false := by simpa using hz
      have e : pathR s = (if (pp s).any bad = true then 9 else 0) := by unfold pathR; rw [if_neg c, if_neg hz]
      rw [e]
      refine ⟨⟨500, fun k hk => ?_⟩, ⟨K + 500, fun k hk => ?_⟩⟩
      · obtain ⟨k, rfl⟩ : ∃ m, k = m + 1 := ⟨k - 1, by omega⟩
        obtain ⟨h1, _⟩ := check_loop (pp s) (by omega) (pp s).length k 0 (by omega) (by omega) (by omega)
        show path_Check.f (k + 1) s = _
        unfold path_Check.f
        rw [if_neg (show ¬ (s.size : Int) < 1 by omega), decide_eq_false (show ¬ (s.size : Int) > 400 by omega)]
        simp only [path_Check.j0, Bool.false_eq_true, if_false, strings_IndexByte.f, Option.bind_some]
        rw [if_neg (fun h => hz (hi.1 h)), hsp]
        simp only [Option.bind_some]
        rw [List.drop_zero] at h1
        exact h1
      · obtain ⟨k, rfl⟩ : ∃ m, k = m + 1 := ⟨k - 1, by omega⟩
        obtain ⟨_, h2⟩ := check_loop (pp s) (by omega) (pp s).length k 0 (by omega) (by omega) (by omega)
        show creelref_PathFault.f (k + 1) s = _
        unfold creelref_PathFault.f
        rw [if_neg h0, decide_eq_false (show ¬ (s.size : Int) > 400 by omega)]
        simp only [creelref_PathFault.j0, Bool.false_eq_true, if_false]
        rw [hK k (by omega)]
        simp only [Option.bind_some, hz', Bool.false_eq_true, if_false]
        rw [parts_is s k (by omega) (by omega)]
        simp only [Option.bind_some]
        rw [List.drop_zero] at h2
        exact h2

/-! Of two lists of parts, and what a path is in. -/
def joinS : List (List UInt8) → List UInt8
  | [] => []
  | [p] => p
  | p :: q :: r => p ++ 47 :: joinS (q :: r)
end Go.Proofs.YtodeblpanooomacDoor.Q
end
section
namespace Go.Proofs.YtodeblpanooomacDoor.Q
set_option linter.unusedVariables false
set_option linter.unusedSimpArgs false
open Go.RowKit Go.Proofs.YtodeblpanooomacDoor.All Go.Proofs.YtodeblpanooomacDoorW.PrintWords Go.Proofs.YtodeblpanooomacDoorW.PrintLast Go.Proofs.YtodeblpanooomacDoorW.PrintMore Go.Proofs.YtodeblpanooomacDoorW.PureBase

-- USES Path
-- FN glob_Check glob_end creelref_GlobFault creelref_parts strings_Split strings_IndexByte strings_HasPrefix
/-- what is behind the first ']' -/
def aft : List UInt8 → Option (List UInt8)
  | [] => none
  | c :: r => if c = 93 then some r else aft r
def skp : List UInt8 → List UInt8
  | [] => []
  | c :: r => if c = 33 then r else c :: r
theorem aft_cons (c : UInt8) (r : List UInt8) : aft (c :: r) = if c = 93 then some r else aft r := rfl
theorem skp_cons (c : UInt8) (r : List UInt8) : skp (c :: r) = if c = 33 then r else c :: r := rfl
/-- what is behind a set, told what is behind its '[' -/
def clo (l : List UInt8) : Option (List UInt8) := match skp l with
  | [] => none
  | _ :: r => aft r
theorem aft_len : ∀ (l r : List UInt8), aft l = some r → r.length < l.length
  | [], r, h => by simp [aft] at h
  | c :: l, r, h => by
    unfold aft at h
    split at h
    · cases h; simp
    · have := aft_len l r h
      simp only [List.length_cons]; omega
theorem skp_len (l : List UInt8) : (skp l).length ≤ l.length := by
  cases l with
  | nil => simp [skp]
  | cons c r =>
    rw [skp_cons]
    split <;> simp
theorem clo_len (l r : List UInt8) (h : clo l = some r) : r.length < l.length := by
  unfold clo at h
  split at h
  · cases h
  · rename_i c q e
    have h1 := aft_len _ _ h
    have h2 := skp_len l
    rw [e] at h2
    simp only [List.length_cons] at h2
    omega
theorem aft_suf : ∀ (l r : List UInt8), aft l = some r → ∃ p, l = p ++ r
  | [], r, h => by simp [aft] at h
  | c :: l, r, h => by
    unfold aft at h
    split at h
    · cases h; exact ⟨[c], rfl⟩
    · obtain ⟨p, e⟩ := aft_suf l r h
      exact ⟨c :: p, by rw [e]; rfl⟩
theorem clo_suf (l r : List UInt8) (h : clo l = some r) : ∃ p, l = p ++ r := by
  unfold clo at h
  cases l with
  | nil => simp [skp] at h
  | cons c q =>
    by_cases hc : c = 33
    · rw [skp_cons, if_pos hc] at h
      cases q with
      | nil => cases h
      | cons d q2 =>
        obtain ⟨p, e⟩ := aft_suf q2 r h
        exact ⟨c :: d :: p, by rw [e]; rfl⟩
    · rw [skp_cons, if_neg hc] at h
      obtain ⟨p, e⟩ := aft_suf q r h
      exact ⟨c :: p, by rw [e]; rfl⟩
/-- may a part be? -/
inductive Res : List UInt8 → Bool → Prop
  | nil : Res [] true
  | sign (c : UInt8) (r : List UInt8) (b : Bool) (h : c ≠ 91) (hr : Res r b) : Res (c :: r) b
  | bad (r : List UInt8) (h : clo r = none) : Res (91 :: r) false
  | set (r q : List UInt8) (b : Bool) (h : clo r = some q) (hr : Res q b) : Res (91 :: r) b
theorem res_of (n : Nat) : ∀ u : List UInt8, u.length ≤ n → ∃ b, Res u b := by
  induction n with
  | zero =>
    intro u h
    have : u = [] := List.length_eq_zero_iff.mp (by omega)
    subst this
    exact ⟨true, .nil⟩
  | succ n ih =>
    intro u h
    cases u with
    | nil => exact ⟨true, .nil⟩
    | cons c r =>
      simp only [List.length_cons] at h
      by_cases hc : c = 91
      · subst hc
        cases e : clo r with
        | none => exact ⟨false, .bad r e⟩
        | some q =>
          have := clo_len r q e
          obtain ⟨b, hb⟩ := ih q (by omega)
          exact ⟨b, .set r q b e hb⟩
      · obtain ⟨b, hb⟩ := ih r (by omega)
        exact ⟨b, .sign c r b hc hb⟩
/-! ### the reference -/
theorem at_byte (s : ByteArray) (i : Nat) (c : UInt8) (r : List UInt8) (h : s.data.toList.drop i = c :: r) : i < s.size ∧ bt s (i : Int) = (c.toNat : Int) ∧ s.data.toList.drop (i + 1) = r := by
  have hi : i < s.size := by
    rcases Nat.lt_or_ge i s.size with h1 | h1
    · exact h1
    · rw [List.drop_of_length_le (by rw [size_list]; exact h1)] at h
      cases h
  obtain ⟨b, h1, h2, _⟩ := drop_cons s i hi
  rw [h] at h1
  injection h1 with h3 h4
  subst h3
  exact ⟨hi, h2.symm, h4.symm⟩
theorem at_end (s : ByteArray) (i : Nat) (h : s.data.toList.drop i = []) : s.size ≤ i := by
  have := List.drop_eq_nil_iff.mp h
  rw [size_list] at this
  exact this
theorem u8_ne (c n : UInt8) (h : c ≠ n) : (c.toNat : Int) ≠ (n.toNat : Int) := fun e => h (UInt8.toNat_inj.mp (by omega))
theorem l1_step (s : ByteArray) (hs : s.size ≤ 1000000) (m fr k : Nat) (x : List Bool) (c : UInt8) (r : List UInt8) (h : s.data.toList.drop k = c :: r) (hk : k = fr ∨ c ≠ 93) : ∃ x2 j, creelref_GlobFault.l1 (m + 1) s (fr : Int) x (k : Int) = creelref_GlobFault.l1 m s (fr : Int) x2 ((j : Nat) : Int) ∧ k < j ∧ j ≤ s.size ∧ aft (s.data.toList.drop j) = aft r := by
  obtain ⟨h1, h2, h3⟩ := at_byte s k c r h
  have w1 : wrap64 ((k : Int) + 1) = ((k + 1 : Nat) : Int) := by rw [wrap_is (by omega) (by omega)]; omega
  have w2 : wrap64 ((k : Int) + 2) = ((k + 2 : Nat) : Int) := by rw [wrap_is (by omega) (by omega)]; omega
  have w3 : wrap64 (((k + 2 : Nat) : Int) + 1) = ((k + 3 : Nat) : Int) := by rw [wrap_is (by omega) (by omega)]; omega
  have hc : (k : Int) = (fr : Int) ∨ bt s (k : Int) ≠ 93 := by
    rcases hk with e | e
    · left; omega
    · right; rw [h2]; exact u8_ne c 93 e
  simp only [creelref_GlobFault.l1]
  rw [if_pos (by omega), if_pos hc]
  cases ht : creelref_GlobFault.two s (k : Int) with
  | false =>
    refine ⟨_, k + 1, by unfold creelref_GlobFault.nx; rw [ht, if_neg (by decide), w1], by omega, by omega, by rw [h3]⟩
  | true =>
    have ht2 := ht
    unfold creelref_GlobFault.two at ht2
    rw [w1, w2, Bool.and_eq_true, Bool.and_eq_true, decide_eq_true_eq, beq_iff_eq, bne_iff_ne] at ht2
    obtain ⟨t1, t2, t3⟩ := ht2
    refine ⟨_, k + 3, by unfold creelref_GlobFault.nx; rw [ht, if_pos rfl, w2, w3], by omega, by omega, ?_⟩
    obtain ⟨a, a1, a2, _⟩ := drop_cons s (k + 1) (by omega)
    obtain ⟨b, b1, b2, _⟩ := drop_cons s (k + 1 + 1) (by omega)
    have ha : a ≠ 93 := fun e => by subst e; rw [t2] at a2; exact absurd a2 (by decide)
    have hb : b ≠ 93 := fun e => by subst e; exact t3 b2.symm
    rw [← h3, a1, b1, aft_cons, if_neg ha, aft_cons, if_neg hb]
theorem l1_run (s : ByteArray) (hs : s.size ≤ 1000000) (fr : Nat) : ∀ (m k : Nat) (x : List Bool), fr < k → k ≤ s.size → s.size - k < m → ∃ x' k', creelref_GlobFault.l1 m s (fr : Int) x (k : Int) = some (x', ((k' : Nat) : Int)) ∧ fr < k' ∧ ((∃ q, aft (s.data.toList.drop k) = some q ∧ k' < s.size ∧ s.data.toList.drop (k' + 1) = q) ∨ (aft (s.data.toList.drop k) = none ∧ s.size ≤ k')) := by
  intro m
  induction m with
  | zero => intro k x _ _ h; omega
  | succ m ih =>
    intro k x h1 h2 h3
    cases hv : s.data.toList.drop k with
    | nil =>
      have := at_end s k hv
      refine ⟨x, k, ?_, h1, Or.inr ⟨rfl, this⟩⟩
      simp only [creelref_GlobFault.l1]
      rw [if_neg (by omega)]
    | cons c r =>
      obtain ⟨g1, g2, g3⟩ := at_byte s k c r hv
      by_cases hc : c = 93
      · subst hc
        refine ⟨x, k, ?_, h1, Or.inl ⟨r, by rw [aft_cons, if_pos rfl], g1, g3⟩⟩
        simp only [creelref_GlobFault.l1]
        rw [if_pos (by omega), if_neg (fun h => h.elim (fun e => by omega) (fun e => e (by rw [g2]; rfl)))]
      · obtain ⟨x2, j, e1, e2, e3, e4⟩ := l1_step s hs m fr k x c r hv (Or.inr hc)
        obtain ⟨x', k', f1, f2, f3⟩ := ih j x2 (by omega) e3 (by omega)
        refine ⟨x', k', e1.trans f1, f2, ?_⟩
        rw [aft_cons, if_neg hc, ← e4]
        exact f3
theorem l1_all (s : ByteArray) (hs : s.size ≤ 1000000) (fr : Nat) (hf : fr ≤ s.size) (x : List Bool) : ∃ x' k', creelref_GlobFault.l1 (s.size + 1) s (fr : Int) x (fr : Int) = some (x', ((k' : Nat) : Int)) ∧ ((∃ c r q, s.data.toList.drop fr = c :: r ∧ aft r = some q ∧ k' < s.size ∧ k' ≠ fr ∧ s.data.toList.drop (k' + 1) = q) ∨ ((∀ c r, s.data.toList.drop fr = c :: r → aft r = none) ∧ (s.size ≤ k' ∨ k' = fr))) := by
  cases hv : s.data.toList.drop fr with
  | nil =>
    have := at_end s fr hv
    refine ⟨x, fr, ?_, Or.inr ⟨fun _ _ h => (by cases h), Or.inr rfl⟩⟩
    simp only [creelref_GlobFault.l1]
    rw [if_neg (by omega)]
  | cons c r =>
    obtain ⟨x2, j, e1, e2, e3, e4⟩ := l1_step s hs s.size fr fr x c r hv (Or.inl rfl)
    obtain ⟨x', k', f1, f2, f3⟩ := l1_run s hs fr s.size j x2 e2 e3 (by omega)
    refine ⟨x', k', e1.trans f1, ?_⟩
    rw [e4] at f3
    rcases f3 with ⟨q, g1, g2, g3⟩ | ⟨g1, g2⟩
    · exact Or.inl ⟨c, r, q, rfl, g1, g2, by omega, g3⟩
    · refine Or.inr ⟨fun c2 r2 h => ?_, Or.inl g2⟩
      injection h with _ h
      subst h
      exact g1
theorem nt_is (s : ByteArray) (hs : s.size ≤ 1000000) (i : Nat) (r : List UInt8) (h : s.data.toList.drop (i + 1) = r) (hi : i < s.size) : ∃ f, creelref_GlobFault.fr s (i : Int) = ((f : Nat) : Int) ∧ i < f ∧ f ≤ s.size ∧ s.data.toList.drop f = skp r := by
  have w1 : wrap64 ((i : Int) + 1) = ((i + 1 : Nat) : Int) := by rw [wrap_is (by omega) (by omega)]; omega
  have w2 : wrap64 (((i + 1 : Nat) : Int) + 1) = ((i + 2 : Nat) : Int) := by rw [wrap_is (by omega) (by omega)]; omega
  unfold creelref_GlobFault.fr creelref_GlobFault.nt
  rw [w1]
  cases r with
  | nil =>
    have := at_end s (i + 1) h
    refine ⟨i + 1, ?_, by omega, by omega, by rw [h]; rfl⟩
    rw [if_neg]
    rw [Bool.and_eq_true, decide_eq_true_eq]
    exact fun h => by omega
  | cons c q =>
    obtain ⟨g1, g2, g3⟩ := at_byte s (i + 1) c q h
    by_cases hc : c = 33
    · subst hc
      refine ⟨i + 2, ?_, by omega, by omega, by rw [g3]; rfl⟩
      rw [if_pos, w2]
      rw [Bool.and_eq_true, decide_eq_true_eq, beq_iff_eq, g2]
      exact ⟨by omega, rfl⟩
    · refine ⟨i + 1, ?_, by omega, by omega, by rw [h, skp_cons, if_neg hc]⟩
      rw [if_neg]
      rw [Bool.and_eq_true, beq_iff_eq, g2]
      exact fun h => u8_ne c 33 hc h.2
theorem ref_res (s : ByteArray) (hs : s.size ≤ 1000000) (u : List UInt8) (b : Bool) (hr : Res u b) : ∀ (i n : Nat) (acc : List (List Bool)), s.data.toList.drop i = u → i ≤ s.size → s.size - i < n → ∃ r, creelref_GlobFault.l0 n s acc (i : Int) = some r ∧ r.2 = b := by
  induction hr with
  | nil =>
    intro i n acc h hi hn
    obtain ⟨n, rfl⟩ : ∃ m, n = m + 1 := ⟨n - 1, by omega⟩
    have := at_end s i h
    refine ⟨(acc, true), ?_, rfl⟩
    simp only [creelref_GlobFault.l0]
    rw [if_neg (by omega)]
  | sign c r b hc hr ih =>
    intro i n acc h hi hn
    obtain ⟨n, rfl⟩ : ∃ m, n = m + 1 := ⟨n - 1, by omega⟩
    obtain ⟨g1, g2, g3⟩ := at_byte s i c r h
    have e : (i : Int) + 1 = ((i + 1 : Nat) : Int) := by omega
    simp only [creelref_GlobFault.l0]
    rw [if_pos (by omega), e]
    by_cases q : bt s (i : Int) = 63
    · rw [if_pos q]
      exact ih (i + 1) n _ g3 (by omega) (by omega)
    · rw [if_neg q, if_neg (by rw [g2]; exact u8_ne c 91 hc)]
      exact ih (i + 1) n _ g3 (by omega) (by omega)
  | bad r hc =>
    intro i n acc h hi hn
    obtain ⟨n, rfl⟩ : ∃ m, n = m + 1 := ⟨n - 1, by omega⟩
    obtain ⟨g1, g2, g3⟩ := at_byte s i 91 r h
    obtain ⟨f, f1, f2, f3, f4⟩ := nt_is s hs i r g3 g1
    obtain ⟨x', k', k1, k2⟩ := l1_all s hs f f3 (creelref_GlobFault.x0 s (i : Int))
    refine ⟨([], false), ?_, rfl⟩
    simp only [creelref_GlobFault.l0]
    rw [if_pos (by omega), if_neg (by rw [g2]; decide), if_pos (by rw [g2]; rfl), f1, k1]
    simp only [Option.bind_some]
    rw [if_pos]
    unfold clo at hc
    rw [← f4] at hc
    rcases k2 with ⟨c, r2, q, q1, q2, _⟩ | ⟨_, q2⟩
    · rw [q1] at hc
      have hc2 : aft r2 = none := hc
      rw [hc2] at q2
      cases q2
    · rcases q2 with q2 | q2
      · left; omega
      · right; omega
  | set r q b hc hr ih =>
    intro i n acc h hi hn
    obtain ⟨n, rfl⟩ : ∃ m, n = m + 1 := ⟨n - 1, by omega⟩
    obtain ⟨g1, g2, g3⟩ := at_byte s i 91 r h
    obtain ⟨f, f1, f2, f3, f4⟩ := nt_is s hs i r g3 g1
    obtain ⟨x', k', k1, k2⟩ := l1_all s hs f f3 (creelref_GlobFault.x0 s (i : Int))
    simp only [creelref_GlobFault.l0]
    rw [if_pos (by omega), if_neg (by rw [g2]; decide), if_pos (by rw [g2]; rfl), f1, k1]
    simp only [Option.bind_some]
    unfold clo at hc
    rw [← f4] at hc
    rcases k2 with ⟨c, r2, q2, q1, q3, q4, q5, q6⟩ | ⟨q1, _⟩
    · rw [q1] at hc
      have e2 : q2 = q := Option.some.inj (q3.symm.trans hc)
      subst e2
      rw [if_neg (by omega), show ((k' : Int) + 1) = ((k' + 1 : Nat) : Int) by omega]
      have hk : i < k' := by
        rcases Nat.lt_or_ge i k' with h1 | h1
        · exact h1
        · have a1 : (s.data.toList.drop (k' + 1)).length = s.size - (k' + 1) := by rw [List.length_drop, size_list]
          have a2 : (s.data.toList.drop f).length = s.size - f := by rw [List.length_drop, size_list]
          rw [q1] at a2
          rw [q6] at a1
          have := aft_len _ _ q3
          simp only [List.length_cons] at a2
          omega
      exact ih (k' + 1) n _ q6 (by omega) (by omega)
    · cases e : s.data.toList.drop f with
      | nil => rw [e] at hc; cases hc
      | cons c r2 =>
        rw [e] at hc
        have := q1 c r2 e
        rw [show aft r2 = some q from hc] at this
        cases this
theorem tok_res (s : ByteArray) (hs : s.size ≤ 1000000) (b : Bool) (hr : Res s.data.toList b) : ∃ l, creelref_GlobFault.tok s = some (l, b) := by
  obtain ⟨r, h1, h2⟩ := ref_res s hs _ b hr 0 (s.size + 1) [] (List.drop_zero ..) (by omega) (by omega)
  refine ⟨r.1, ?_⟩
  unfold creelref_GlobFault.tok
  rw [if_pos hs, show creelref_GlobFault.l0 (s.size + 1) s [] 0 = _ from h1, ← h2]
/-! ### the program -/
theorem aft_index : ∀ l : List UInt8, (Lib.indexByte l 93 = -1 ∧ aft l = none) ∨ ∃ o : Nat, Lib.indexByte l 93 = (o : Int) ∧ o < l.length ∧ aft l = some (l.drop (o + 1))
  | [] => Or.inl ⟨rfl, rfl⟩
  | c :: l => by
    unfold Lib.indexByte aft
    by_cases hc : c = 93
    · subst hc
      exact Or.inr ⟨0, by simp, by simp, by simp⟩
    · rcases aft_index l with ⟨h1, h2⟩ | ⟨o, h1, h2, h3⟩
      · left
        rw [if_neg hc, h2]
        refine ⟨?_, rfl⟩
        simp [hc, h1]
      · right
        refine ⟨o + 1, ?_, by simp; omega, by rw [if_neg hc, h3]; rfl⟩
        simp [hc, h1]
        try omega
def endR (x : ByteArray) (r : List UInt8) : Int := match clo r with
  | none => -1
  | some q => ((x.size - q.length : Nat) : Int)
theorem end_j0 (x : ByteArray) (hs : x.size ≤ 1000000) (r : List UInt8) (h : x.data.toList = 91 :: r) (d : Nat) (h1 : 1 ≤ d) (h2 : d ≤ x.size) (h3 : x.data.toList.drop d = skp r) : Ev (fun k => glob_end.j0 k x (d : Int)) (endR x r) := by
  refine Ev.step (f := fun _ => some (endR x r)) (fun k => ?_) (Ev.now _)
  have w : wrap64 ((d : Int) + 1) = ((d + 1 : Nat) : Int) := by rw [wrap_is (by omega) (by omega)]; omega
  simp only [glob_end.j0]
  unfold endR clo
  cases hv : skp r with
  | nil =>
    rw [hv] at h3
    have := at_end x d h3
    rw [if_neg (by omega), if_pos (by decide)]
  | cons c q =>
    rw [hv] at h3
    obtain ⟨g1, g2, g3⟩ := at_byte x d c q h3
    have hq : (x.extract (((d + 1 : Nat) : Int).toNat) x.size).data.toList = q := by rw [Int.toNat_natCast, Lib.extract_to_end]; exact g3
    have hlen : q.length = x.size - (d + 1) := by rw [← g3, List.length_drop, size_list]
    have hz : ∀ o, o < q.length → x.size - (q.drop (o + 1)).length = d + 1 + o + 1 := fun o ho => by clear w; rw [List.length_drop]; omega
    rw [if_pos (by omega), w, if_pos (by omega), if_pos (by omega)]
    unfold strings_IndexByte.f
    rw [hq]
    simp only [Option.bind_some]
    show (if Lib.indexByte q 93 < 0 then some (-1) else some (wrap64 (wrap64 (((d + 1 : Nat) : Int) + Lib.indexByte q 93) + 1))) = _
    rcases aft_index q with ⟨e1, e2⟩ | ⟨o, e1, e2, e3⟩
    · rw [e1, e2, if_pos (by decide)]
    · rw [e1, e3, if_neg (by omega)]
      have w2 : wrap64 (((d + 1 : Nat) : Int) + (o : Int)) = ((d + 1 + o : Nat) : Int) := by rw [wrap_is (by omega) (by omega)]; omega
      have w3 : wrap64 (((d + 1 + o : Nat) : Int) + 1) = ((d + 1 + o + 1 : Nat) : Int) := by rw [wrap_is (by omega) (by omega)]; omega
      rw [w2, w3]
      show some (((d + 1 + o + 1 : Nat) : Int)) = some (((x.size - (q.drop (o + 1)).length : Nat) : Int))
      rw [hz o e2]
theorem end_is (x : ByteArray) (hs : x.size ≤ 1000000) (r : List UInt8) (h : x.data.toList = 91 :: r) : Ev (fun k => glob_end.f k x) (endR x r) := by
  have hx1 : (x.extract 1 x.size).data.toList = r := by rw [Lib.extract_to_end, h]; rfl
  have hsz : x.size = r.length + 1 := by rw [← size_list, h]; simp
  unfold glob_end.f strings_HasPrefix.f
  refine Ev.ifp (by omega) ?_
  simp only [Option.bind_some]
  rw [hx1]
  cases r with
  | nil =>
    have hp : Lib.hasPrefix ([] : List UInt8) [33] = false := rfl
    refine Ev.ifn (by show ¬ Lib.hasPrefix ([] : List UInt8) [33] = true; rw [hp]; decide) ?_
    exact end_j0 x hs [] h 1 (by omega) (by omega) (by rw [h]; rfl)
  | cons c q =>
    simp only [List.length_cons] at hsz
    by_cases hc : c = 33
    · subst hc
      refine Ev.ifp (show Lib.hasPrefix (33 :: q) [33] = true by simp [Lib.hasPrefix, List.isPrefixOf]) ?_
      exact end_j0 x hs (33 :: q) h 2 (by omega) (by omega) (by rw [h]; rfl)
    · refine Ev.ifn (show ¬ Lib.hasPrefix (c :: q) [33] = true by simp [Lib.hasPrefix, List.isPrefixOf]; exact fun e => hc e.symm) ?_
      exact end_j0 x hs (c :: q) h 1 (by omega) (by omega) (by rw [h, skp_cons, if_neg hc]; rfl)
theorem res_plain (u : List UInt8) (b : Bool) (h : Res u b) : (∀ c ∈ u, c ≠ 91) → b = true := by
  induction h with
  | nil => intro _; rfl
  | sign c r b _ _ ih => intro hu; exact ih (fun d hd => hu d (List.mem_cons_of_mem _ hd))
  | bad r _ => intro hu; exact absurd rfl (hu 91 (List.mem_cons_self ..))
  | set r q b _ _ _ => intro hu; exact absurd rfl (hu 91 (List.mem_cons_self ..))
theorem prog_end (x : ByteArray) (l : List ByteArray) (L n r : Int) (H : Ev (fun k => glob_Check.l0 k l L (wrap64 (n + 1))) r) : Ev (fun k => glob_Check.j3 k x l L n false) r := by
  refine Ev.step (fun k => ?_) H
  simp only [glob_Check.j3]
  rw [if_neg (by decide)]
theorem prog_res (l : List ByteArray) (L n r : Int) (u : List UInt8) (b : Bool) (hr : Res u b) : ∀ (x : ByteArray), x.data.toList = u → x.size ≤ 1000000 → (b = true → Ev (fun k => glob_Check.l0 k l L (wrap64 (n + 1))) r) → (b = false → r = 3) → Ev (fun k => glob_Check.l1 k x l L n) r := by
  have stars : ∀ (x : ByteArray) (u : List UInt8) (b : Bool), Res u b → x.data.toList = u → (b = true → Ev (fun k => glob_Check.l0 k l L (wrap64 (n + 1))) r) → x.toList = ([42, 42] : List UInt8) → Ev (fun k => glob_Check.l1 k x l L n) r := by
    intro x u b hr hx H e
    rw [toList_data, hx] at e
    have hb := res_plain u b hr (fun c hc => by rw [e] at hc; simp at hc; subst hc; decide)
    refine Ev.step (fun k => ?_) (prog_end x l L n r (H hb))
    simp only [glob_Check.l1]
    rw [if_pos (by rw [toList_data, hx, e])]
  have go : ∀ (x : ByteArray) (c : UInt8) (q : List UInt8), x.data.toList = c :: q → ¬ x.toList = ([42, 42] : List UInt8) → Ev (fun k => glob_Check.j3 k x l L n true) r → Ev (fun k => glob_Check.l1 k x l L n) r := by
    intro x c q hx hn H
    refine Ev.step (fun k => ?_) H
    simp only [glob_Check.l1]
    rw [if_neg hn, show (x.toList != ([] : List UInt8)) = true by rw [toList_data, hx]; rfl]
  induction hr with
  | nil =>
    intro x hx hs H1 H2
    refine Ev.step (fun k => ?_) (prog_end x l L n r (H1 rfl))
    simp only [glob_Check.l1]
    rw [if_neg (by rw [toList_data, hx]; decide), show (x.toList != ([] : List UInt8)) = false by rw [toList_data, hx]; rfl]
  | sign c q b hc hr ih =>
    intro x hx hs H1 H2
    by_cases e : x.toList = ([42, 42] : List UInt8)
    · exact stars x _ b (.sign c q b hc hr) hx H1 e
    · obtain ⟨g1, g2, g3⟩ := at_byte x 0 c q hx
      have hx1 : (x.extract 1 x.size).data.toList = q := by rw [Lib.extract_to_end]; exact g3
      have hsz : (x.extract 1 x.size).size ≤ 1000000 := by rw [ByteArray.size_extract]; omega
      refine go x c q hx e (Ev.step (f := fun k => glob_Check.l1 k (x.extract 1 x.size) l L n) (fun k => ?_) (ih _ hx1 hsz H1 H2))
      simp only [glob_Check.j3, if_true]
      rw [if_pos (by omega), if_neg (show ¬ bt x 0 = 91 from fun e => u8_ne c 91 hc (g2.symm.trans e)), if_pos (by omega)]
  | bad q hc =>
    intro x hx hs H1 H2
    by_cases e : x.toList = ([42, 42] : List UInt8)
    · exact stars x _ false (.bad q hc) hx H1 e
    · obtain ⟨g1, g2, g3⟩ := at_byte x 0 91 q hx
      have he : Ev (fun k => glob_end.f k x) (-1) := by
        have he := end_is x hs q hx
        unfold endR at he
        rw [hc] at he
        exact he
      refine go x 91 q hx e ?_
      obtain rfl := H2 rfl
      refine Ev.step (f := fun k => (glob_end.f k x).bind fun t105 => (if t105 < 0 then (some 3) else (if 0 ≤ t105 then (if t105 ≤ (x.size : Int) then (glob_Check.l1 k (x.extract (t105 : Int).toNat x.size) l L n) else (none)) else (none)))) (fun k => ?_) (Ev.bind he (Ev.ifp (by decide) (Ev.now _)))
      simp only [glob_Check.j3, if_true]
      rw [if_pos (by omega), if_pos (show bt x 0 = 91 from g2.trans rfl)]
  | set q p b hc hr ih =>
    intro x hx hs H1 H2
    by_cases e : x.toList = ([42, 42] : List UInt8)
    · exact stars x _ b (.set q p b hc hr) hx H1 e
    · obtain ⟨g1, g2, g3⟩ := at_byte x 0 91 q hx
      have he : Ev (fun k => glob_end.f k x) ((x.size - p.length : Nat) : Int) := by
        have he := end_is x hs q hx
        unfold endR at he
        rw [hc] at he
        exact he
      refine go x 91 q hx e ?_
      have hx1 : (x.extract (((x.size - p.length : Nat) : Int).toNat) x.size).data.toList = p := by
        obtain ⟨pre, ep⟩ := clo_suf q p hc
        have hl : x.size = (91 :: pre).length + p.length := by rw [← size_list, hx, ep]; simp; omega
        rw [Int.toNat_natCast, Lib.extract_to_end, hl, Nat.add_sub_cancel, hx, ep]
        exact List.drop_left
      have hsz : (x.extract (((x.size - p.length : Nat) : Int).toNat) x.size).size ≤ 1000000 := by rw [ByteArray.size_extract]; omega
      refine Ev.step (f := fun k => (glob_end.f k x).bind fun t105 => (if t105 < 0 then (some 3) else (if 0 ≤ t105 then (if t105 ≤ (x.size : Int) then (glob_Check.l1 k (x.extract (t105 : Int).toNat x.size) l L n) else (none)) else (none)))) (fun k => ?_) (Ev.bind he (Ev.ifn (by omega) (Ev.ifp (by omega) (Ev.ifp (by omega) (ih _ hx1 hsz H1 H2)))))
      simp only [glob_Check.j3, if_true]
      rw [if_pos (by omega), if_pos (show bt x 0 = 91 from g2.trans rfl)]
theorem run_ends (l : List ByteArray) (hl : ∀ x ∈ l, x.size ≤ 1000000) : ∃ v, creelref_GlobFault.run l = some v := by
  induction l with
  | nil => exact ⟨0, rfl⟩
  | cons x xs ih =>
    obtain ⟨v, hv⟩ := ih (fun y hy => hl y (List.mem_cons_of_mem _ hy))
    unfold creelref_GlobFault.run
    by_cases h : x.toList = ([] : List UInt8)
    · rw [if_pos h]; exact ⟨9, rfl⟩
    · rw [if_neg h]
      obtain ⟨b, hb⟩ := res_of _ x.data.toList (Nat.le_refl _)
      obtain ⟨t, ht⟩ := tok_res x (hl x (List.mem_cons_self ..)) b hb
      rw [ht]
      cases b with
      | true => exact ⟨v, hv⟩
      | false => exact ⟨3, rfl⟩
theorem prog_parts (L : List ByteArray) (hL : L.length ≤ 1000000) (hs : ∀ x ∈ L, x.size ≤ 1000000) (d : Nat) : ∀ (n : Nat) (v : Int), L.length - n = d → n ≤ L.length → creelref_GlobFault.run (L.drop n) = some v → Ev (fun k => glob_Check.l0 k L (L.length : Int) (n : Int)) v := by
  induction d with
  | zero =>
    intro n v hd hn h
    have e : n = L.length := by omega
    subst e
    rw [List.drop_length] at h
    obtain rfl := Option.some.inj (show some 0 = some v from h)
    refine Ev.step (f := fun _ => some 0) (fun k => ?_) (Ev.now _)
    simp only [glob_Check.l0]
    rw [if_neg (by omega)]
  | succ d ih =>
    intro n v hd hn h
    have hn' : n < L.length := by omega
    have w : wrap64 ((n : Int) + 1) = ((n + 1 : Nat) : Int) := by rw [wrap_is (by omega) (by omega)]; omega
    rw [creelref_GlobFault.at_ L n hn'] at h
    have hm : rdOf ByteArray.empty L (n : Int) ∈ L := by
      unfold rdOf
      rw [Int.toNat_natCast, List.getD_eq_getElem?_getD, List.getElem?_eq_getElem hn']
      exact List.getElem_mem hn'
    have hx := hs _ hm
    unfold creelref_GlobFault.run at h
    by_cases c : (rdOf ByteArray.empty L (n : Int)).toList = ([] : List UInt8)
    · rw [if_pos c] at h
      obtain rfl := Option.some.inj h
      refine Ev.step (f := fun _ => some 9) (fun k => ?_) (Ev.now _)
      simp only [glob_Check.l0]
      rw [if_pos (by omega), if_pos (by omega), if_pos (by omega), if_pos c]
    · rw [if_neg c] at h
      obtain ⟨b, hb⟩ := res_of _ (rdOf ByteArray.empty L (n : Int)).data.toList (Nat.le_refl _)
      obtain ⟨t, ht⟩ := tok_res _ hx b hb
      rw [ht] at h
      have key : Ev (fun k => glob_Check.l1 k (rdOf ByteArray.empty L (n : Int)) L (L.length : Int) (n : Int)) v := by
        refine prog_res L _ _ v _ b hb _ rfl hx (fun e => ?_) (fun e => ?_)
        · subst e
          rw [w]
          exact ih (n + 1) v (by omega) (by omega) h
        · subst e
          exact (Option.some.inj (show some 3 = some v from h)).symm
      refine Ev.step (f := fun k => glob_Check.l1 k (rdOf ByteArray.empty L (n : Int)) L (L.length : Int) (n : Int)) (fun k => ?_) key
      simp only [glob_Check.l0]
      rw [if_pos (by omega), if_pos (by omega), if_pos (by omega), if_neg c]
theorem sp_mem (c : UInt8) : ∀ (l p : List UInt8), p ∈ sp c l → p.length ≤ l.length
  | [], p, h => by
    have : p = [] := by simpa [sp] using h
    rw [this]; simp
  | b :: l, p, h => by
    have ih := sp_mem c l
    unfold sp at h
    simp only [List.length_cons]
    split at h
    · rcases List.mem_cons.mp h with h | h
      · rw [h]; simp
      · have := ih p h; omega
    · split at h
      · rename_i q qs e
        rcases List.mem_cons.mp h with h | h
        · have := ih q (by rw [e]; exact List.mem_cons_self ..)
          rw [h]; simp only [List.length_cons]; omega
        · have := ih p (by rw [e]; exact List.mem_cons_of_mem _ h)
          omega
      · have : p = [b] := by simpa using h
        rw [this]; simp
theorem pp_mem (s x : ByteArray) (h : x ∈ pp s) : x.size ≤ s.size := by
  unfold pp at h
  obtain ⟨p, hp, rfl⟩ := List.mem_map.mp h
  have := sp_mem 47 _ p hp
  rw [size_list] at this
  rw [mk_size]
  exact this
theorem glob_both (s : ByteArray) (_hs : s.size ≤ 140737488351232) : ∃ v, Ev (fun k => glob_Check.f k s) v ∧ Ev (fun k => creelref_GlobFault.f k s) v := by
  unfold glob_Check.f creelref_GlobFault.f
  by_cases c1 : s.size = 0
  · refine ⟨1, Ev.ifp (by omega) (Ev.step (f := fun _ => some 1) (fun k => ?_) (Ev.now _)), Ev.ifp ((empty_size s).2 c1) (Ev.now _)⟩
    simp only [glob_Check.j0]
    rw [if_pos trivial]
  · have n1 : ¬ s.toList = ([] : List UInt8) := fun e => c1 ((empty_size s).1 e)
    by_cases c2 : 400 < s.size
    · refine ⟨1, Ev.ifn (by omega) (Ev.step (f := fun _ => some 1) (fun k => ?_) (Ev.now _)), Ev.ifn n1 (Ev.ifp c2 (Ev.now _))⟩
      simp only [glob_Check.j0]
      rw [if_pos (decide_eq_true (by omega))]
    · have hp := pp_len s
      have hm : ∀ x ∈ pp s, x.size ≤ 1000000 := fun x hx => by have := pp_mem s x hx; omega
      obtain ⟨v, hv⟩ := run_ends (pp s) hm
      have h1 := prog_parts (pp s) (by omega) hm (pp s).length 0 v (by omega) (by omega) (by rw [List.drop_zero]; exact hv)
      refine ⟨v, Ev.ifn (by omega) (Ev.step (f := fun k => glob_Check.l0 k (pp s) ((pp s).length : Int) 0) (fun k => ?_) h1), Ev.ifn n1 (Ev.ifn c2 (Ev.bind (show Ev (fun k => creelref_parts.f k s 47) (pp s) from ⟨s.size + 1, fun k hk => parts_is s k (by omega) (by omega)⟩) (Ev.ifp (by omega) (Ev.const hv))))⟩
      simp only [glob_Check.j0]
      rw [if_neg (by rw [decide_eq_true_eq]; omega), split_is s (by omega)]
      rfl
end Go.Proofs.YtodeblpanooomacDoor.Q
end
