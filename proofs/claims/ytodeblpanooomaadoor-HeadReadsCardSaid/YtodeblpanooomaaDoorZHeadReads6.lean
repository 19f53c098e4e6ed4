/- Made by programs of the prover: walks of Go functions, the words that they use, and plain laws, each text in a section of its own; no condition of its own. -/
import Derived.Deep.Slices
import Derived.SizedLaws
import Derived.ChangeSlices
import Derived.ChangeArms
import Derived.ChangeSame
import Derived.ProofKit
import Derived.Test.YtodeblpanooomaaDoorZHeadReads1
import Derived.Test.YtodeblpanooomaaDoorZHeadReads2
import Derived.Test.YtodeblpanooomaaDoorZHeadReads4
import Derived.Test.YtodeblpanooomaaDoorZHeadReads5
section
namespace Go.Proofs.YtodeblpanooomaaDoor.All
open Go.RowKit Go.Proofs.YtodeblpanooomaaDoorW.PrintWords Go.Proofs.YtodeblpanooomaaDoorW.PrintLast Go.Proofs.YtodeblpanooomaaDoorW.PrintMore
open Go.Proofs.YtodeblpanooomaaDoorW.Mine
attribute [local go_sem] gtr_string leq_string geq_string
attribute [local go_sem] max2_int min2_int max_two min_two max_three min_three max_four min_four   -- for this text's walks alone
set_option linter.unusedVariables false
set_option linter.unusedSimpArgs false

/-! ### creelref_HeadOf: function 10 -/
open Go.Proofs.YtodeblpanooomaaDoorW.MapOwn Go.Proofs.YtodeblpanooomaaDoorW.Blks
theorem creelref_HeadOf.run_store_func (P : Program) (w : World) (a : Addr) (f : Fn) (x y : Array Value) (m : Mode) : (store a (.func f x y) m).run P w = match w.cell? a with
  | some _ => if w.frozen? a then .halt (.unsupported (.unsafePointer "a write to bytes that a string shares")) w else .ok () (w.setCell a (.func f x y))
  | none => match w.farStore P a (.func f x y) (m == .atomic) with
    | .ok (w', _) => .ok () w'
    | .error h => .halt h w := run_store P w a (.func f x y) m rfl
attribute [local go_sem] creelref_HeadOf.run_store_func
def creelref_HeadOf.nt (a b : Int) : Int := if a = 0 then b else a
def creelref_HeadOf.js (s : ByteArray) (i : Int) (t : ByteArray) (e : Int) : Int := if (s.extract i.toNat (i + (t.size : Int)).toNat).toList = t.toList then e else creelref_HeadOf.nt e 3
def creelref_HeadOf.fin (x1 x15 x10 : ByteArray) (x2 x3 x4 x5 x6 x8 : Int) (x12 x13 : ByteArray) (e : Int) : Option (ByteArray × ByteArray × ByteArray × Int × Int × Int × Int × Int × Int × ByteArray × ByteArray × Int) := if e = 0 then some (x1, x15, x10, x2, x3, x4, x5, x6, x8, x12, x13, 0) else some ((⟨#[]⟩ : ByteArray), (⟨#[]⟩ : ByteArray), (⟨#[]⟩ : ByteArray), 0, 0, 0, 0, 0, 0, (⟨#[]⟩ : ByteArray), (⟨#[]⟩ : ByteArray), e)
def creelref_HeadOf.body (k : Nat) (a0 : ByteArray) : Option (ByteArray × ByteArray × ByteArray × Int × Int × Int × Int × Int × Int × ByteArray × ByteArray × Int) := (creelref_FieldOf.f k (a0.extract (0 : Int).toNat (100 : Int).toNat) true).bind fun c1 => (creelref_OctalOf.f k (a0.extract (100 : Int).toNat (108 : Int).toNat)).bind fun c2 => (creelref_OctalOf.f k (a0.extract (108 : Int).toNat (116 : Int).toNat)).bind fun c3 => (creelref_OctalOf.f k (a0.extract (116 : Int).toNat (124 : Int).toNat)).bind fun c4 => (creelref_OctalOf.f k (a0.extract (124 : Int).toNat (136 : Int).toNat)).bind fun c5 => (creelref_OctalOf.f k (a0.extract (136 : Int).toNat (148 : Int).toNat)).bind fun c6 => (creelref_has.f k (⟨#[48, 49, 50, 53, 120]⟩ : ByteArray) (bt a0 156)).bind fun b => (creelref_FieldOf.f k (a0.extract (157 : Int).toNat (257 : Int).toNat) true).bind fun c10 => (creelref_FieldOf.f k (a0.extract (265 : Int).toNat (297 : Int).toNat) false).bind fun c12 => (creelref_FieldOf.f k (a0.extract (297 : Int).toNat (329 : Int).toNat) false).bind fun c13 => (creelref_FieldOf.f k (a0.extract (345 : Int).toNat (500 : Int).toNat) true).bind fun c15 => (creelref_zeros.f k 12).bind fun z => if z.size ≤ 12 then creelref_HeadOf.fin c1.1 c15.1 c10.1 c2.1 c3.1 c4.1 c5.1 c6.1 (bt a0 156) c12.1 c13.1 (creelref_HeadOf.js a0 500 z (creelref_HeadOf.nt (creelref_HeadOf.js a0 329 (⟨#[48, 48, 48, 48, 48, 48, 48, 0, 48, 48, 48, 48, 48, 48, 48, 0]⟩ : ByteArray) (creelref_HeadOf.nt (creelref_HeadOf.nt (creelref_HeadOf.js a0 257 (⟨#[117, 115, 116, 97, 114, 0, 48, 48]⟩ : ByteArray) (creelref_HeadOf.nt (if b = true then (creelref_HeadOf.nt (creelref_HeadOf.nt (creelref_HeadOf.nt (creelref_HeadOf.nt (creelref_HeadOf.nt c1.2 c2.2) c3.2) c4.2) c5.2) c6.2) else creelref_HeadOf.nt (creelref_HeadOf.nt (creelref_HeadOf.nt (creelref_HeadOf.nt (creelref_HeadOf.nt (creelref_HeadOf.nt c1.2 c2.2) c3.2) c4.2) c5.2) c6.2) 3) c10.2)) c12.2) c13.2)) c15.2)) else none
def creelref_HeadOf.f (k : Nat) (a0 : ByteArray) : Option (ByteArray × ByteArray × ByteArray × Int × Int × Int × Int × Int × Int × ByteArray × ByteArray × Int) := (creelref_HeadSum.f k a0).bind fun b1 => if b1.2 = 0 then ((creelref_OctalText.f k b1.1 7).bind fun b2 => if 512 ≤ a0.size ∧ b2.1.size ≤ 1000 then (if (a0.extract (148 : Int).toNat (156 : Int).toNat).toList = (b2.1 ++ (⟨#[32]⟩ : ByteArray)).toList then creelref_HeadOf.body k a0 else some ((⟨#[]⟩ : ByteArray), (⟨#[]⟩ : ByteArray), (⟨#[]⟩ : ByteArray), 0, 0, 0, 0, 0, 0, (⟨#[]⟩ : ByteArray), (⟨#[]⟩ : ByteArray), 8)) else none) else some ((⟨#[]⟩ : ByteArray), (⟨#[]⟩ : ByteArray), (⟨#[]⟩ : ByteArray), 0, 0, 0, 0, 0, 0, (⟨#[]⟩ : ByteArray), (⟨#[]⟩ : ByteArray), b1.2)
theorem creelref_HeadOf.mono_b : ∀ a0 k, LeO (creelref_HeadOf.body k a0) (creelref_HeadOf.body (k + 1) a0) := by
  intro a0 k
  unfold creelref_HeadOf.body
  refine LeO.bind (creelref_FieldOf.mono _ _ _) (fun c1 => ?_)
  refine LeO.bind (creelref_OctalOf.mono _ _) (fun c2 => ?_)
  refine LeO.bind (creelref_OctalOf.mono _ _) (fun c3 => ?_)
  refine LeO.bind (creelref_OctalOf.mono _ _) (fun c4 => ?_)
  refine LeO.bind (creelref_OctalOf.mono _ _) (fun c5 => ?_)
  refine LeO.bind (creelref_OctalOf.mono _ _) (fun c6 => ?_)
  refine LeO.bind (creelref_has.mono _ _ _) (fun b => ?_)
  refine LeO.bind (creelref_FieldOf.mono _ _ _) (fun c10 => ?_)
  refine LeO.bind (creelref_FieldOf.mono _ _ _) (fun c12 => ?_)
  refine LeO.bind (creelref_FieldOf.mono _ _ _) (fun c13 => ?_)
  refine LeO.bind (creelref_FieldOf.mono _ _ _) (fun c15 => ?_)
  refine LeO.bind (creelref_zeros.mono _ _) (fun z => ?_)
  exact LeO.refl _
theorem creelref_HeadOf.mono : ∀ a0 k, LeO (creelref_HeadOf.f k a0) (creelref_HeadOf.f (k + 1) a0) := by
  intro a0 k
  unfold creelref_HeadOf.f
  refine LeO.bind (creelref_HeadSum.mono _ _) (fun b1 => LeO.ite (LeO.bind (creelref_OctalText.mono _ _ _) (fun b2 => LeO.ite (LeO.ite (creelref_HeadOf.mono_b _ _) (LeO.refl _)) (LeO.none _))) (LeO.refl _))
abbrev creelref_HeadOf.L (gs gr gw gn gh : Nat) (a0 : ByteArray) (H : Array Value) (e : Int) : List (Nat × Obj) := [(gh, .cells H 23 (0, 0)), (gn, .cells #[.func (.func 38) #[] #[.pointer (some ⟨gw, 0, none⟩)]] 62 (0, 0)), (gw, .cells #[.int .i64 e] 24 (0, 0)), (gr, .cells #[.string (⟨#[]⟩ : ByteArray), .string (⟨#[]⟩ : ByteArray), .string (⟨#[]⟩ : ByteArray), .int .i64 0, .int .i64 0, .int .i64 0, .int .i64 0, .int .i64 0, .int .u8 0, .string (⟨#[]⟩ : ByteArray), .string (⟨#[]⟩ : ByteArray)] 23 (0, 0)), (gs, .cells #[.string a0] 9 (0, 0))]
def creelref_HeadOf.St (w W : World) (gs gr gw gn gh : Nat) (a0 : ByteArray) (H : Array Value) (e : Int) : Prop := Blks w W (creelref_HeadOf.L gs gr gw gn gh a0 H e)
section
variable {w W W' : World} {gs gr gw gn gh : Nat} {a0 : ByteArray} {H H' : Array Value} {e : Int}
theorem creelref_HeadOf.St.drewN (h : creelref_HeadOf.St w W gs gr gw gn gh a0 H e) (q : Nat) : creelref_HeadOf.St w (W.drewN q) gs gr gw gn gh a0 H e := Blks.drewN h q
theorem creelref_HeadOf.St.step (h : creelref_HeadOf.St w W gs gr gw gn gh a0 H e) (hb : Below W.heap.size W W') : creelref_HeadOf.St w W' gs gr gw gn gh a0 H e := Blks.step h hb
theorem creelref_HeadOf.St.set (h : creelref_HeadOf.St w W gs gr gw gn gh a0 H e) (i : Nat) (v : Value) (he : H.setIfInBounds i v = H') : creelref_HeadOf.St w (W.setCell ⟨gh, i, none⟩ v) gs gr gw gn gh a0 H' e := Blks.set h 0 rfl i v he
theorem creelref_HeadOf.St.err (h : creelref_HeadOf.St w W gs gr gw gn gh a0 H e) (x : Int) : creelref_HeadOf.St w (W.setCell ⟨gw, 0, none⟩ (.int .i64 x)) gs gr gw gn gh a0 H x := Blks.set h 2 rfl 0 _ rfl
theorem creelref_HeadOf.St.ct (h : creelref_HeadOf.St w W gs gr gw gn gh a0 H e) : W.cell? ⟨gs, 0, none⟩ = some (.string a0) := Blks.cell h 4 rfl 0 rfl
theorem creelref_HeadOf.St.cf (h : creelref_HeadOf.St w W gs gr gw gn gh a0 H e) : W.cell? ⟨gn, 0, none⟩ = some (.func (.func 38) #[] #[.pointer (some ⟨gw, 0, none⟩)]) := Blks.cell h 1 rfl 0 rfl
theorem creelref_HeadOf.St.ce (h : creelref_HeadOf.St w W gs gr gw gn gh a0 H e) : W.cell? ⟨gw, 0, none⟩ = some (.int .i64 e) := Blks.cell h 2 rfl 0 rfl
theorem creelref_HeadOf.St.fe (h : creelref_HeadOf.St w W gs gr gw gn gh a0 H e) : W.frozen? ⟨gw, 0, none⟩ = false := Blks.fz h 2 rfl 0
theorem creelref_HeadOf.St.ch (h : creelref_HeadOf.St w W gs gr gw gn gh a0 H e) (i : Nat) : W.cell? ⟨gh, i, none⟩ = H[i]? := blk_cell (Blks.blk h (j := 0) rfl) i
theorem creelref_HeadOf.St.fh (h : creelref_HeadOf.St w W gs gr gw gn gh a0 H e) (i : Nat) : W.frozen? ⟨gh, i, none⟩ = false := Blks.fz h 0 rfl i
theorem creelref_HeadOf.St.bh (h : creelref_HeadOf.St w W gs gr gw gn gh a0 H e) : W.heap[gh]? = some (.cells H 23 (0, 0)) := Blks.blk h (j := 0) rfl
theorem creelref_HeadOf.St.br (h : creelref_HeadOf.St w W gs gr gw gn gh a0 H e) : W.heap[gr]? = some (.cells #[.string (⟨#[]⟩ : ByteArray), .string (⟨#[]⟩ : ByteArray), .string (⟨#[]⟩ : ByteArray), .int .i64 0, .int .i64 0, .int .i64 0, .int .i64 0, .int .i64 0, .int .u8 0, .string (⟨#[]⟩ : ByteArray), .string (⟨#[]⟩ : ByteArray)] 23 (0, 0)) := Blks.blk h (j := 3) rfl
theorem creelref_HeadOf.St.eb (h : creelref_HeadOf.St w W gs gr gw gn gh a0 H e) : Below w.heap.size w W := Blks.below h
theorem creelref_HeadOf.St.ger (h : creelref_HeadOf.St w W gs gr gw gn gh a0 H e) : w.heap.size ≤ gr := Blks.ge h (j := 3) rfl
theorem creelref_HeadOf.St.nr (h : creelref_HeadOf.St w W gs gr gw gn gh a0 H e) : gw ≠ gr := Blks.ne h (i := 2) (j := 3) rfl rfl (by decide)
end
set_option maxHeartbeats 2000000 in
set_option maxRecDepth 100000 in
theorem creelref_HeadOf.noteS (w W : World) (gs gr gw gn gh : Nat) (a0 : ByteArray) (H : Array Value) (e x : Int) (hS : creelref_HeadOf.St w W gs gr gw gn gh a0 H e) :
    Calls Tryd.prog 38 #[.int .i64 x, .pointer (some ⟨gw, 0, none⟩)] W fun e_ w' => e_ = .returned (.tuple #[]) ∧ creelref_HeadOf.St w w' gs gr gw gn gh a0 H (creelref_HeadOf.nt e x) := by
  have HS := Aside0.mk hS
  have hc := hS.ce
  have hf := hS.fe
  clear hS
  unfold creelref_HeadOf.nt
  by_cases he : e = 0
  · subst he
    rw [if_pos rfl]
    go_enter Tryd.func38, Tryd.ntmps38
    go_wp2
    go_end0
    exact ⟨rfl, HS.out.err x⟩
  · rw [if_neg he]
    have he0 : (e == 0) = false := beq_eq_false_iff_ne.2 he
    clear he
    go_enter Tryd.func38, Tryd.ntmps38
    go_wp2
    go_end0
    exact ⟨rfl, HS.out⟩
set_option maxHeartbeats 2000000 in
set_option maxRecDepth 100000 in
theorem creelref_HeadOf.textS (k : Nat) (w W : World) (gs gr gw gn gh : Nat) (a0 : ByteArray) (H : Array Value) (e : Int) (i j : Int) (whole : Bool) (x : ByteArray) (y : Int) (hS : creelref_HeadOf.St w W gs gr gw gn gh a0 H e) (h0 : 0 ≤ i) (h1 : i ≤ j) (h2 : j ≤ (a0.size : Int)) (hF : creelref_FieldOf.f k (a0.extract i.toNat j.toNat) whole = some (x, y)) :
    Calls Tryd.prog 39 #[.int .i64 i, .int .i64 j, .bool whole, .pointer (some ⟨gs, 0, none⟩), .pointer (some ⟨gn, 0, none⟩)] W fun e_ w' => e_ = .returned (.string x) ∧ creelref_HeadOf.St w w' gs gr gw gn gh a0 H (creelref_HeadOf.nt e y) := by
  have HS := Aside0.mk hS
  have HF := Aside0.mk hF
  have hc := hS.ct
  have hn := hS.cf
  clear hS hF
  go_enter Tryd.func39, Tryd.ntmps39
  go_wp2_with (first | (go_at_call 40; refine (creelref_FieldOf.calls k _ whole x y _ HF.out).mono ?_; rintro e_ w2 ⟨rfl, nd, rfl⟩; have HS8 := Aside0.mk (HS.out.drewN nd); clear HS; have HS := HS8; clear HS8) | (go_at_call 38; refine (creelref_HeadOf.noteS w _ gs gr gw gn gh a0 H e y HS.out).mono ?_; rintro e_ w9 ⟨rfl, hS9⟩; have HS9 := Aside0.mk hS9; clear HS hS9; have HS := HS9; clear HS9))
  go_ret
  exact ⟨rfl, HS.out⟩
set_option maxHeartbeats 2000000 in
set_option maxRecDepth 100000 in
theorem creelref_HeadOf.numberS (k : Nat) (w W : World) (gs gr gw gn gh : Nat) (a0 : ByteArray) (H : Array Value) (e : Int) (i j : Int) (x : Int) (y : Int) (hS : creelref_HeadOf.St w W gs gr gw gn gh a0 H e) (h0 : 0 ≤ i) (h1 : i ≤ j) (h2 : j ≤ (a0.size : Int)) (hF : creelref_OctalOf.f k (a0.extract i.toNat j.toNat) = some (x, y)) :
    Calls Tryd.prog 41 #[.int .i64 i, .int .i64 j, .pointer (some ⟨gs, 0, none⟩), .pointer (some ⟨gn, 0, none⟩)] W fun e_ w' => e_ = .returned (.int .i64 x) ∧ creelref_HeadOf.St w w' gs gr gw gn gh a0 H (creelref_HeadOf.nt e y) := by
  have HS := Aside0.mk hS
  have HF := Aside0.mk hF
  have hc := hS.ct
  have hn := hS.cf
  clear hS hF
  go_enter Tryd.func41, Tryd.ntmps41
  go_wp2_with (first | (go_at_call 42; refine (creelref_OctalOf.calls k _ x y _ HF.out).mono ?_; rintro e_ w2 ⟨rfl, nd, rfl⟩; have HS8 := Aside0.mk (HS.out.drewN nd); clear HS; have HS := HS8; clear HS8) | (go_at_call 38; refine (creelref_HeadOf.noteS w _ gs gr gw gn gh a0 H e y HS.out).mono ?_; rintro e_ w9 ⟨rfl, hS9⟩; have HS9 := Aside0.mk hS9; clear HS hS9; have HS := HS9; clear HS9))
  go_ret
  exact ⟨rfl, HS.out⟩
set_option maxHeartbeats 2000000 in
set_option maxRecDepth 100000 in
theorem creelref_HeadOf.justS (w W : World) (gs gr gw gn gh : Nat) (a0 : ByteArray) (H : Array Value) (e : Int) (i : Int) (t : ByteArray) (hS : creelref_HeadOf.St w W gs gr gw gn gh a0 H e) (h0 : 0 ≤ i) (h1 : i + (t.size : Int) ≤ (a0.size : Int)) (h2 : i ≤ 1000) (h3 : (t.size : Int) ≤ 1000) :
    Calls Tryd.prog 43 #[.int .i64 i, .string t, .pointer (some ⟨gs, 0, none⟩), .pointer (some ⟨gn, 0, none⟩)] W fun e_ w' => e_ = .returned (.tuple #[]) ∧ creelref_HeadOf.St w w' gs gr gw gn gh a0 H (creelref_HeadOf.js a0 i t e) := by
  have HS := Aside0.mk hS
  have hc := hS.ct
  have hn := hS.cf
  have h4 : i ≤ i + (t.size : Int) := by omega
  clear hS
  unfold creelref_HeadOf.js
  by_cases hx : (a0.extract i.toNat (i + (t.size : Int)).toNat).toList = t.toList
  · rw [if_pos hx]
    have hxa : ((a0.extract i.toNat (i + (t.size : Int)).toNat).toList == t.toList) = true := beq_iff_eq.mpr hx
    have hxb : ((a0.extract i.toNat (i + (t.size : Int)).toNat).toList != t.toList) = false := bne_eq_false_iff_eq.mpr hx
    clear hx
    go_enter Tryd.func43, Tryd.ntmps43
    go_wp2
    go_end0
    exact ⟨rfl, HS.out⟩
  · rw [if_neg hx]
    have hxa : ((a0.extract i.toNat (i + (t.size : Int)).toNat).toList == t.toList) = false := beq_eq_false_iff_ne.mpr hx
    have hxb : ((a0.extract i.toNat (i + (t.size : Int)).toNat).toList != t.toList) = true := bne_iff_ne.mpr hx
    clear hx
    go_enter Tryd.func43, Tryd.ntmps43
    go_wp2_with (go_at_call 38; refine (creelref_HeadOf.noteS w _ gs gr gw gn gh a0 H e 3 HS.out).mono ?_; rintro e_ w9 ⟨rfl, hS9⟩; have HS9 := Aside0.mk hS9; clear HS hS9; have HS := HS9; clear HS9)
    go_end0
    exact ⟨rfl, HS.out⟩
set_option maxHeartbeats 8000000 in
set_option maxRecDepth 100000 in
theorem creelref_HeadOf.calls (k : Nat) (a0 : ByteArray) (r1 : ByteArray) (r2 : ByteArray) (r3 : ByteArray) (r4 : Int) (r5 : Int) (r6 : Int) (r7 : Int) (r8 : Int) (r9 : Int) (r10 : ByteArray) (r11 : ByteArray) (r12 : Int) (w : World) (h : creelref_HeadOf.f k a0 = some (r1, r2, r3, r4, r5, r6, r7, r8, r9, r10, r11, r12)) :
    Calls Tryd.prog 10 #[.string a0] w fun e w' => e = .returned (.tuple #[.agg #[.string r1, .string r2, .string r3, .int .i64 r4, .int .i64 r5, .int .i64 r6, .int .i64 r7, .int .i64 r8, .int .u8 r9, .string r10, .string r11], .int .i64 r12]) ∧ Below w.heap.size w w' := by
  unfold creelref_HeadOf.f at h
  obtain ⟨⟨b1, b1e⟩, A1, h2⟩ := Option.bind_eq_some_iff.mp h
  clear h
  have h := h2
  clear h2
  try dsimp only at h
  have HA1 := Aside0.mk A1
  clear A1
  by_cases hb1 : b1e = 0
  · rw [if_pos hb1] at h
    have hb1a : (b1e == 0) = true := beq_iff_eq.mpr hb1
    have hb1b : (b1e != 0) = false := bne_eq_false_iff_eq.mpr hb1
    clear hb1
    obtain ⟨⟨b2, b2e⟩, A2, h2⟩ := Option.bind_eq_some_iff.mp h
    clear h
    have h := h2
    clear h2
    try dsimp only at h
    have HA2 := Aside0.mk A2
    clear A2
    by_cases hsz : 512 ≤ a0.size ∧ b2.size ≤ 1000
    · rw [if_pos hsz] at h
      have hi1 : (148 : Int) ≤ 156 := by decide
      have hi2 : (156 : Int) ≤ (a0.size : Int) := by omega
      have hi3 : (156 : Int) < (a0.size : Int) := by omega
      have hi4 : 156 < a0.size := by omega
      have hi5 : (9223372036854775807 < b2.size + 1) = False := eq_false (by omega)
      have hi6 : b2.size + 1 ≤ 9223372036854775807 := by omega
      have hx1 : ∀ h : 156 < a0.size, ((a0[156]'h).toNat : Int) = bt a0 156 := bt_at a0 156
      have hx2 := bt_at a0 156
      have HSZ := Aside0.mk hsz.1
      clear hsz
      by_cases hs1 : (a0.extract (148 : Int).toNat (156 : Int).toNat).toList = (b2 ++ (⟨#[32]⟩ : ByteArray)).toList
      · rw [if_pos hs1] at h
        have hs1a : ((a0.extract 148 156).toList == (b2 ++ (⟨#[32]⟩ : ByteArray)).toList) = true := beq_iff_eq.mpr hs1
        have hs1b : ((a0.extract 148 156).toList != (b2 ++ (⟨#[32]⟩ : ByteArray)).toList) = false := bne_eq_false_iff_eq.mpr hs1
        clear hs1
        unfold creelref_HeadOf.body at h
        obtain ⟨⟨x1, y1⟩, B1, h2⟩ := Option.bind_eq_some_iff.mp h
        clear h
        have h := h2
        clear h2
        try dsimp only at h
        have HC1 := Aside0.mk B1
        clear B1
        obtain ⟨⟨x2, y2⟩, B2, h2⟩ := Option.bind_eq_some_iff.mp h
        clear h
        have h := h2
        clear h2
        try dsimp only at h
        have HC2 := Aside0.mk B2
        clear B2
        obtain ⟨⟨x3, y3⟩, B3, h2⟩ := Option.bind_eq_some_iff.mp h
        clear h
        have h := h2
        clear h2
        try dsimp only at h
        have HA3 := Aside0.mk B3
        clear B3
        obtain ⟨⟨x4, y4⟩, B4, h2⟩ := Option.bind_eq_some_iff.mp h
        clear h
        have h := h2
        clear h2
        try dsimp only at h
        have HA4 := Aside0.mk B4
        clear B4
        obtain ⟨⟨x5, y5⟩, B5, h2⟩ := Option.bind_eq_some_iff.mp h
        clear h
        have h := h2
        clear h2
        try dsimp only at h
        have HA5 := Aside0.mk B5
        clear B5
        obtain ⟨⟨x6, y6⟩, B6, h2⟩ := Option.bind_eq_some_iff.mp h
        clear h
        have h := h2
        clear h2
        try dsimp only at h
        have HA6 := Aside0.mk B6
        clear B6
        obtain ⟨b, Ab, h2⟩ := Option.bind_eq_some_iff.mp h
        clear h
        have h := h2
        clear h2
        try dsimp only at h
        have HAb := Aside0.mk Ab
        clear Ab
        obtain ⟨⟨x10, y10⟩, A10, h2⟩ := Option.bind_eq_some_iff.mp h
        clear h
        have h := h2
        clear h2
        try dsimp only at h
        have HA10 := Aside0.mk A10
        clear A10
        obtain ⟨⟨x12, y12⟩, A12, h2⟩ := Option.bind_eq_some_iff.mp h
        clear h
        have h := h2
        clear h2
        try dsimp only at h
        have HA12 := Aside0.mk A12
        clear A12
        obtain ⟨⟨x13, y13⟩, A13, h2⟩ := Option.bind_eq_some_iff.mp h
        clear h
        have h := h2
        clear h2
        try dsimp only at h
        have HA13 := Aside0.mk A13
        clear A13
        obtain ⟨⟨x15, y15⟩, A15, h2⟩ := Option.bind_eq_some_iff.mp h
        clear h
        have h := h2
        clear h2
        try dsimp only at h
        have HA15 := Aside0.mk A15
        clear A15
        obtain ⟨z, Az, h2⟩ := Option.bind_eq_some_iff.mp h
        clear h
        have h := h2
        clear h2
        try dsimp only at h
        have HAz := Aside0.mk Az
        clear Az
        by_cases hz : z.size ≤ 12
        · rw [if_pos hz] at h
          have HZZ := Aside0.mk hz
          clear hz
          have HH := Aside0.mk h
          clear h
          go_enter Tryd.func10, Tryd.ntmps10
          go_upto_if 63 with (first | ((with_reducible refine gate_dst (N := 1) rfl ?_); refine box_event ?hg (N := 1) ?hd (cs := #[.string a0]) (t := 9) ?hr ?_; (case hd => rfl); (case hg => rfl); (case hr => first | (go_simp; done) | (go_simp; rfl)); intro gs hg w1 hbox hb1; have HS := Aside0.mk (show Blks w w1 [(gs, .cells #[.string a0] 9 (0, 0))] from (Blks.nil w).box hg hbox hb1); have hcs := Blks.cell HS.out 0 rfl 0 rfl; clear hg hbox hb1) | ((with_reducible refine gate_dst (N := 2) rfl ?_); refine box_event ?hg (N := 2) ?hd (cs := #[.string (⟨#[]⟩ : ByteArray), .string (⟨#[]⟩ : ByteArray), .string (⟨#[]⟩ : ByteArray), .int .i64 0, .int .i64 0, .int .i64 0, .int .i64 0, .int .i64 0, .int .u8 0, .string (⟨#[]⟩ : ByteArray), .string (⟨#[]⟩ : ByteArray)]) (t := 23) ?hr ?_; (case hd => rfl); (case hg => rfl); (case hr => first | (go_simp; done) | (go_simp; rfl)); intro gr hg w1 hbox hb1; have HS8 := Aside0.mk (show Blks w w1 [(gr, .cells #[.string (⟨#[]⟩ : ByteArray), .string (⟨#[]⟩ : ByteArray), .string (⟨#[]⟩ : ByteArray), .int .i64 0, .int .i64 0, .int .i64 0, .int .i64 0, .int .i64 0, .int .u8 0, .string (⟨#[]⟩ : ByteArray), .string (⟨#[]⟩ : ByteArray)] 23 (0, 0)), (gs, .cells #[.string a0] 9 (0, 0))] from HS.out.box hg hbox hb1); (try clear HS); have HS := HS8; clear HS8; have hcs := Blks.cell HS.out 1 rfl 0 rfl; clear hg hbox hb1) | (go_at_call 36; refine (creelref_HeadSum.calls k _ b1 b1e _ HA1.out).mono ?_; rintro e_ w2 ⟨rfl, nd, rfl⟩) | (go_at_call 37; refine (creelref_OctalText.calls k _ 7 b2 b2e _ HA2.out).mono ?_; rintro e_ w2 ⟨rfl, nd2, rfl⟩) | ((with_reducible refine gate_dst (N := 8) rfl ?_); refine box_event ?hg (N := 8) ?hd (cs := #[.int .i64 0]) (t := 24) ?hr ?_; (case hd => rfl); (case hg => rfl); (case hr => first | (go_simp; done) | (go_simp; rfl)); intro gw hg w1 hbox hb1; have HS8 := Aside0.mk (show Blks w w1 [(gw, .cells #[.int .i64 0] 24 (0, 0)), (gr, .cells #[.string (⟨#[]⟩ : ByteArray), .string (⟨#[]⟩ : ByteArray), .string (⟨#[]⟩ : ByteArray), .int .i64 0, .int .i64 0, .int .i64 0, .int .i64 0, .int .i64 0, .int .u8 0, .string (⟨#[]⟩ : ByteArray), .string (⟨#[]⟩ : ByteArray)] 23 (0, 0)), (gs, .cells #[.string a0] 9 (0, 0))] from (Blks.drewN HS.out _).box hg hbox hb1); (try clear HS); have HS := HS8; clear HS8; have hcw := Blks.cell HS.out 0 rfl 0 rfl; have hfw := Blks.fz HS.out 0 rfl 0; clear hg hbox hb1) | ((with_reducible refine gate_dst (N := 9) rfl ?_); refine box_event ?hg (N := 9) ?hd (cs := #[Value.nilFunc]) (t := 62) ?hr ?_; (case hd => rfl); (case hg => rfl); (case hr => first | (go_simp; done) | (go_simp; rfl)); intro gn hg w1 hbox hb1; have HS8 := Aside0.mk (show Blks w w1 [(gn, .cells #[Value.nilFunc] 62 (0, 0)), (gw, .cells #[.int .i64 0] 24 (0, 0)), (gr, .cells #[.string (⟨#[]⟩ : ByteArray), .string (⟨#[]⟩ : ByteArray), .string (⟨#[]⟩ : ByteArray), .int .i64 0, .int .i64 0, .int .i64 0, .int .i64 0, .int .i64 0, .int .u8 0, .string (⟨#[]⟩ : ByteArray), .string (⟨#[]⟩ : ByteArray)] 23 (0, 0)), (gs, .cells #[.string a0] 9 (0, 0))] from (show Blks w _ [(gw, .cells #[.int .i64 0] 24 (0, 0)), (gr, .cells #[.string (⟨#[]⟩ : ByteArray), .string (⟨#[]⟩ : ByteArray), .string (⟨#[]⟩ : ByteArray), .int .i64 0, .int .i64 0, .int .i64 0, .int .i64 0, .int .i64 0, .int .u8 0, .string (⟨#[]⟩ : ByteArray), .string (⟨#[]⟩ : ByteArray)] 23 (0, 0)), (gs, .cells #[.string a0] 9 (0, 0))] from HS.out.set 0 rfl 0 (.int .i64 0) rfl).box hg hbox hb1); (try clear HS); have HS := HS8; clear HS8; have hcn := Blks.cell HS.out 0 rfl 0 rfl; have hfn := Blks.fz HS.out 0 rfl 0; clear hg hbox hb1) | ((with_reducible refine gate_dst (N := 13) rfl ?_); refine box_event ?hg (N := 13) ?hd (cs := #[.string (⟨#[]⟩ : ByteArray), .string (⟨#[]⟩ : ByteArray), .string (⟨#[]⟩ : ByteArray), .int .i64 0, .int .i64 0, .int .i64 0, .int .i64 0, .int .i64 0, .int .u8 0, .string (⟨#[]⟩ : ByteArray), .string (⟨#[]⟩ : ByteArray)]) (t := 23) ?hr ?_; (case hd => rfl); (case hg => rfl); (case hr => first | (go_simp; done) | (go_simp; rfl)); intro gh hg w1 hbox hb1; have HS8 := Aside0.mk (show creelref_HeadOf.St w w1 gs gr gw gn gh a0 #[.string (⟨#[]⟩ : ByteArray), .string (⟨#[]⟩ : ByteArray), .string (⟨#[]⟩ : ByteArray), .int .i64 0, .int .i64 0, .int .i64 0, .int .i64 0, .int .i64 0, .int .u8 0, .string (⟨#[]⟩ : ByteArray), .string (⟨#[]⟩ : ByteArray)] 0 from Blks.box (show Blks w _ [(gn, .cells #[(.func (.func 38) #[] #[.pointer (some ⟨gw, 0, none⟩)])] 62 (0, 0)), (gw, .cells #[.int .i64 0] 24 (0, 0)), (gr, .cells #[.string (⟨#[]⟩ : ByteArray), .string (⟨#[]⟩ : ByteArray), .string (⟨#[]⟩ : ByteArray), .int .i64 0, .int .i64 0, .int .i64 0, .int .i64 0, .int .i64 0, .int .u8 0, .string (⟨#[]⟩ : ByteArray), .string (⟨#[]⟩ : ByteArray)] 23 (0, 0)), (gs, .cells #[.string a0] 9 (0, 0))] from HS.out.set 0 rfl 0 (.func (.func 38) #[] #[.pointer (some ⟨gw, 0, none⟩)]) rfl) hg hbox hb1); (try clear HS); have HS := HS8; clear HS8; clear hg hbox hb1) | ((with_reducible refine gate_store (t := 23) (p := 13) rfl ?_); refine put_event rfl rfl rfl rfl rfl HS.out.bh sz23 rfl rfl ?_; intro w3 hk3 hg3; have HS8 := Aside0.mk (show creelref_HeadOf.St w w3 gs gr gw gn gh a0 #[.string (⟨#[]⟩ : ByteArray), .string (⟨#[]⟩ : ByteArray), .string (⟨#[]⟩ : ByteArray), .int .i64 0, .int .i64 0, .int .i64 0, .int .i64 0, .int .i64 0, .int .u8 0, .string (⟨#[]⟩ : ByteArray), .string (⟨#[]⟩ : ByteArray)] 0 from Blks.put HS.out 0 rfl hk3 hg3); (try clear HS); have HS := HS8; clear HS8; clear hk3 hg3) | (go_at_call 39; (with_reducible refine (creelref_HeadOf.textS k w _ gs gr gw gn gh a0 #[.string (⟨#[]⟩ : ByteArray), .string (⟨#[]⟩ : ByteArray), .string (⟨#[]⟩ : ByteArray), .int .i64 0, .int .i64 0, .int .i64 0, .int .i64 0, .int .i64 0, .int .u8 0, .string (⟨#[]⟩ : ByteArray), .string (⟨#[]⟩ : ByteArray)] 0 0 100 true x1 y1 (HS.out) ?j0 ?j1 ?j2 HC1.out).mono ?_); (case j0 => decide); (case j1 => decide); (case j2 => have := HSZ.out; omega); rintro e_ w8 ⟨rfl, hS8⟩; have HS8 := Aside0.mk (show creelref_HeadOf.St w w8 gs gr gw gn gh a0 #[.string (⟨#[]⟩ : ByteArray), .string (⟨#[]⟩ : ByteArray), .string (⟨#[]⟩ : ByteArray), .int .i64 0, .int .i64 0, .int .i64 0, .int .i64 0, .int .i64 0, .int .u8 0, .string (⟨#[]⟩ : ByteArray), .string (⟨#[]⟩ : ByteArray)] y1 from hS8); (try clear HS); have HS := HS8; clear HS8; clear hS8; have hfh := HS.out.fh; have hv0 := HS.out.ch 0; have hv1 := HS.out.ch 1; have hv2 := HS.out.ch 2; have hv3 := HS.out.ch 3; have hv4 := HS.out.ch 4; have hv5 := HS.out.ch 5; have hv6 := HS.out.ch 6; have hv7 := HS.out.ch 7; have hv8 := HS.out.ch 8; have hv9 := HS.out.ch 9; have hv10 := HS.out.ch 10) | (go_at_call 41; (with_reducible refine (creelref_HeadOf.numberS k w _ gs gr gw gn gh a0 #[.string x1, .string (⟨#[]⟩ : ByteArray), .string (⟨#[]⟩ : ByteArray), .int .i64 0, .int .i64 0, .int .i64 0, .int .i64 0, .int .i64 0, .int .u8 0, .string (⟨#[]⟩ : ByteArray), .string (⟨#[]⟩ : ByteArray)] y1 100 108 x2 y2 (creelref_HeadOf.St.set (H' := #[.string x1, .string (⟨#[]⟩ : ByteArray), .string (⟨#[]⟩ : ByteArray), .int .i64 0, .int .i64 0, .int .i64 0, .int .i64 0, .int .i64 0, .int .u8 0, .string (⟨#[]⟩ : ByteArray), .string (⟨#[]⟩ : ByteArray)]) (HS.out) 0 (.string x1) rfl) ?j0 ?j1 ?j2 HC2.out).mono ?_); (case j0 => decide); (case j1 => decide); (case j2 => have := HSZ.out; omega); rintro e_ w8 ⟨rfl, hS8⟩; have HS8 := Aside0.mk (hS8); (try clear HS); have HS := HS8; clear HS8; clear hS8; have hfh := HS.out.fh; have hv0 := HS.out.ch 0; have hv1 := HS.out.ch 1; have hv2 := HS.out.ch 2; have hv3 := HS.out.ch 3; have hv4 := HS.out.ch 4; have hv5 := HS.out.ch 5; have hv6 := HS.out.ch 6; have hv7 := HS.out.ch 7; have hv8 := HS.out.ch 8; have hv9 := HS.out.ch 9; have hv10 := HS.out.ch 10) | (go_at_call 41; (with_reducible refine (creelref_HeadOf.numberS k w _ gs gr gw gn gh a0 #[.string x1, .string (⟨#[]⟩ : ByteArray), .string (⟨#[]⟩ : ByteArray), .int .i64 x2, .int .i64 0, .int .i64 0, .int .i64 0, .int .i64 0, .int .u8 0, .string (⟨#[]⟩ : ByteArray), .string (⟨#[]⟩ : ByteArray)] (creelref_HeadOf.nt y1 y2) 108 116 x3 y3 (creelref_HeadOf.St.set (H' := #[.string x1, .string (⟨#[]⟩ : ByteArray), .string (⟨#[]⟩ : ByteArray), .int .i64 x2, .int .i64 0, .int .i64 0, .int .i64 0, .int .i64 0, .int .u8 0, .string (⟨#[]⟩ : ByteArray), .string (⟨#[]⟩ : ByteArray)]) (HS.out) 3 (.int .i64 x2) rfl) ?j0 ?j1 ?j2 HA3.out).mono ?_); (case j0 => decide); (case j1 => decide); (case j2 => have := HSZ.out; omega); rintro e_ w8 ⟨rfl, hS8⟩; have HS8 := Aside0.mk (hS8); (try clear HS); have HS := HS8; clear HS8; clear hS8; have hfh := HS.out.fh; have hv0 := HS.out.ch 0; have hv1 := HS.out.ch 1; have hv2 := HS.out.ch 2; have hv3 := HS.out.ch 3; have hv4 := HS.out.ch 4; have hv5 := HS.out.ch 5; have hv6 := HS.out.ch 6; have hv7 := HS.out.ch 7; have hv8 := HS.out.ch 8; have hv9 := HS.out.ch 9; have hv10 := HS.out.ch 10) | (go_at_call 41; (with_reducible refine (creelref_HeadOf.numberS k w _ gs gr gw gn gh a0 #[.string x1, .string (⟨#[]⟩ : ByteArray), .string (⟨#[]⟩ : ByteArray), .int .i64 x2, .int .i64 x3, .int .i64 0, .int .i64 0, .int .i64 0, .int .u8 0, .string (⟨#[]⟩ : ByteArray), .string (⟨#[]⟩ : ByteArray)] (creelref_HeadOf.nt (creelref_HeadOf.nt y1 y2) y3) 116 124 x4 y4 (creelref_HeadOf.St.set (H' := #[.string x1, .string (⟨#[]⟩ : ByteArray), .string (⟨#[]⟩ : ByteArray), .int .i64 x2, .int .i64 x3, .int .i64 0, .int .i64 0, .int .i64 0, .int .u8 0, .string (⟨#[]⟩ : ByteArray), .string (⟨#[]⟩ : ByteArray)]) (HS.out) 4 (.int .i64 x3) rfl) ?j0 ?j1 ?j2 HA4.out).mono ?_); (case j0 => decide); (case j1 => decide); (case j2 => have := HSZ.out; omega); rintro e_ w8 ⟨rfl, hS8⟩; have HS8 := Aside0.mk (hS8); (try clear HS); have HS := HS8; clear HS8; clear hS8; have hfh := HS.out.fh; have hv0 := HS.out.ch 0; have hv1 := HS.out.ch 1; have hv2 := HS.out.ch 2; have hv3 := HS.out.ch 3; have hv4 := HS.out.ch 4; have hv5 := HS.out.ch 5; have hv6 := HS.out.ch 6; have hv7 := HS.out.ch 7; have hv8 := HS.out.ch 8; have hv9 := HS.out.ch 9; have hv10 := HS.out.ch 10) | (go_at_call 41; (with_reducible refine (creelref_HeadOf.numberS k w _ gs gr gw gn gh a0 #[.string x1, .string (⟨#[]⟩ : ByteArray), .string (⟨#[]⟩ : ByteArray), .int .i64 x2, .int .i64 x3, .int .i64 x4, .int .i64 0, .int .i64 0, .int .u8 0, .string (⟨#[]⟩ : ByteArray), .string (⟨#[]⟩ : ByteArray)] (creelref_HeadOf.nt (creelref_HeadOf.nt (creelref_HeadOf.nt y1 y2) y3) y4) 124 136 x5 y5 (creelref_HeadOf.St.set (H' := #[.string x1, .string (⟨#[]⟩ : ByteArray), .string (⟨#[]⟩ : ByteArray), .int .i64 x2, .int .i64 x3, .int .i64 x4, .int .i64 0, .int .i64 0, .int .u8 0, .string (⟨#[]⟩ : ByteArray), .string (⟨#[]⟩ : ByteArray)]) (HS.out) 5 (.int .i64 x4) rfl) ?j0 ?j1 ?j2 HA5.out).mono ?_); (case j0 => decide); (case j1 => decide); (case j2 => have := HSZ.out; omega); rintro e_ w8 ⟨rfl, hS8⟩; have HS8 := Aside0.mk (hS8); (try clear HS); have HS := HS8; clear HS8; clear hS8; have hfh := HS.out.fh; have hv0 := HS.out.ch 0; have hv1 := HS.out.ch 1; have hv2 := HS.out.ch 2; have hv3 := HS.out.ch 3; have hv4 := HS.out.ch 4; have hv5 := HS.out.ch 5; have hv6 := HS.out.ch 6; have hv7 := HS.out.ch 7; have hv8 := HS.out.ch 8; have hv9 := HS.out.ch 9; have hv10 := HS.out.ch 10) | (go_at_call 41; (with_reducible refine (creelref_HeadOf.numberS k w _ gs gr gw gn gh a0 #[.string x1, .string (⟨#[]⟩ : ByteArray), .string (⟨#[]⟩ : ByteArray), .int .i64 x2, .int .i64 x3, .int .i64 x4, .int .i64 x5, .int .i64 0, .int .u8 0, .string (⟨#[]⟩ : ByteArray), .string (⟨#[]⟩ : ByteArray)] (creelref_HeadOf.nt (creelref_HeadOf.nt (creelref_HeadOf.nt (creelref_HeadOf.nt y1 y2) y3) y4) y5) 136 148 x6 y6 (creelref_HeadOf.St.set (H' := #[.string x1, .string (⟨#[]⟩ : ByteArray), .string (⟨#[]⟩ : ByteArray), .int .i64 x2, .int .i64 x3, .int .i64 x4, .int .i64 x5, .int .i64 0, .int .u8 0, .string (⟨#[]⟩ : ByteArray), .string (⟨#[]⟩ : ByteArray)]) (HS.out) 6 (.int .i64 x5) rfl) ?j0 ?j1 ?j2 HA6.out).mono ?_); (case j0 => decide); (case j1 => decide); (case j2 => have := HSZ.out; omega); rintro e_ w8 ⟨rfl, hS8⟩; have HS8 := Aside0.mk (hS8); (try clear HS); have HS := HS8; clear HS8; clear hS8; have hfh := HS.out.fh; have hv0 := HS.out.ch 0; have hv1 := HS.out.ch 1; have hv2 := HS.out.ch 2; have hv3 := HS.out.ch 3; have hv4 := HS.out.ch 4; have hv5 := HS.out.ch 5; have hv6 := HS.out.ch 6; have hv7 := HS.out.ch 7; have hv8 := HS.out.ch 8; have hv9 := HS.out.ch 9; have hv10 := HS.out.ch 10; have hct : (w8.setCell ⟨gh, 7, none⟩ (.int .i64 x6)).cell? ⟨gs, 0, none⟩ = some (.string a0) := creelref_HeadOf.St.ct (creelref_HeadOf.St.set (H' := #[.string x1, .string (⟨#[]⟩ : ByteArray), .string (⟨#[]⟩ : ByteArray), .int .i64 x2, .int .i64 x3, .int .i64 x4, .int .i64 x5, .int .i64 x6, .int .u8 0, .string (⟨#[]⟩ : ByteArray), .string (⟨#[]⟩ : ByteArray)]) (HS.out) 7 (.int .i64 x6) rfl); have hc8 : ((w8.setCell ⟨gh, 7, none⟩ (.int .i64 x6)).setCell ⟨gh, 8, none⟩ (.int .u8 (bt a0 156))).cell? ⟨gh, 8, none⟩ = some (.int .u8 (bt a0 156)) := (creelref_HeadOf.St.ch (creelref_HeadOf.St.set (H' := #[.string x1, .string (⟨#[]⟩ : ByteArray), .string (⟨#[]⟩ : ByteArray), .int .i64 x2, .int .i64 x3, .int .i64 x4, .int .i64 x5, .int .i64 x6, .int .u8 (bt a0 156), .string (⟨#[]⟩ : ByteArray), .string (⟨#[]⟩ : ByteArray)]) (creelref_HeadOf.St.set (H' := #[.string x1, .string (⟨#[]⟩ : ByteArray), .string (⟨#[]⟩ : ByteArray), .int .i64 x2, .int .i64 x3, .int .i64 x4, .int .i64 x5, .int .i64 x6, .int .u8 0, .string (⟨#[]⟩ : ByteArray), .string (⟨#[]⟩ : ByteArray)]) (HS.out) 7 (.int .i64 x6) rfl) 8 (.int .u8 (bt a0 156)) rfl) 8).trans rfl; have hc8b : (w8.setCell ⟨gh, 7, none⟩ (.int .i64 x6)).cell? ⟨gh, 8, none⟩ = some (.int .u8 0) := (creelref_HeadOf.St.ch (creelref_HeadOf.St.set (H' := #[.string x1, .string (⟨#[]⟩ : ByteArray), .string (⟨#[]⟩ : ByteArray), .int .i64 x2, .int .i64 x3, .int .i64 x4, .int .i64 x5, .int .i64 x6, .int .u8 0, .string (⟨#[]⟩ : ByteArray), .string (⟨#[]⟩ : ByteArray)]) (HS.out) 7 (.int .i64 x6) rfl) 8).trans rfl; have hf8b : (w8.setCell ⟨gh, 7, none⟩ (.int .i64 x6)).frozen? ⟨gh, 8, none⟩ = false := creelref_HeadOf.St.fh (creelref_HeadOf.St.set (H' := #[.string x1, .string (⟨#[]⟩ : ByteArray), .string (⟨#[]⟩ : ByteArray), .int .i64 x2, .int .i64 x3, .int .i64 x4, .int .i64 x5, .int .i64 x6, .int .u8 0, .string (⟨#[]⟩ : ByteArray), .string (⟨#[]⟩ : ByteArray)]) (HS.out) 7 (.int .i64 x6) rfl) 8) | (go_at_call 44; refine (creelref_has.calls k _ _ b _ HAb.out).mono ?_; rintro e_ w2 ⟨rfl, nd8, rfl⟩; have HS8 := Aside0.mk (creelref_HeadOf.St.drewN (creelref_HeadOf.St.set (H' := #[.string x1, .string (⟨#[]⟩ : ByteArray), .string (⟨#[]⟩ : ByteArray), .int .i64 x2, .int .i64 x3, .int .i64 x4, .int .i64 x5, .int .i64 x6, .int .u8 (bt a0 156), .string (⟨#[]⟩ : ByteArray), .string (⟨#[]⟩ : ByteArray)]) (creelref_HeadOf.St.set (H' := #[.string x1, .string (⟨#[]⟩ : ByteArray), .string (⟨#[]⟩ : ByteArray), .int .i64 x2, .int .i64 x3, .int .i64 x4, .int .i64 x5, .int .i64 x6, .int .u8 0, .string (⟨#[]⟩ : ByteArray), .string (⟨#[]⟩ : ByteArray)]) (HS.out) 7 (.int .i64 x6) rfl) 8 (.int .u8 (bt a0 156)) rfl) nd8); (try clear HS); have HS := HS8; clear HS8; clear hct hc8 hc8b hf8b; have hcf := HS.out.cf))
          (try simp only [Act.put, List.setIfInBounds_toArray, List.set_cons_zero, List.set_cons_succ])
          go_cut [] (fun wc => Aside0 (creelref_HeadOf.St w wc gs gr gw gn gh a0 #[.string x1, .string (⟨#[]⟩ : ByteArray), .string (⟨#[]⟩ : ByteArray), .int .i64 x2, .int .i64 x3, .int .i64 x4, .int .i64 x5, .int .i64 x6, .int .u8 (bt a0 156), .string (⟨#[]⟩ : ByteArray), .string (⟨#[]⟩ : ByteArray)] (if b = true then (creelref_HeadOf.nt (creelref_HeadOf.nt (creelref_HeadOf.nt (creelref_HeadOf.nt (creelref_HeadOf.nt y1 y2) y3) y4) y5) y6) else creelref_HeadOf.nt (creelref_HeadOf.nt (creelref_HeadOf.nt (creelref_HeadOf.nt (creelref_HeadOf.nt (creelref_HeadOf.nt y1 y2) y3) y4) y5) y6) 3)))
          case first =>
            cases b with
            | true =>
              go_wp2
              go_meet
              case rel => exact ⟨by first | (rw [if_pos rfl]; exact HS.out) | (rw [if_pos trivial]; exact HS.out)⟩
            | false =>
              go_wp2_with (go_at_call 38; refine (creelref_HeadOf.noteS w _ gs gr gw gn gh a0 _ _ 3 HS.out).mono ?_; rintro e_ w9 ⟨rfl, hS9⟩; have HS8 := Aside0.mk (hS9); (try clear HS); have HS := HS8; clear HS8; clear hS9)
              go_meet
              case rel => exact ⟨by rw [if_neg (by decide)]; exact HS.out⟩
          case rest =>
            clear HS
            have HS := hcut
            clear hcut
            try clear hfh hv0 hv1 hv2 hv3 hv4 hv5 hv6 hv7 hv8 hv9 hv10
            generalize he8 : (if b = true then (creelref_HeadOf.nt (creelref_HeadOf.nt (creelref_HeadOf.nt (creelref_HeadOf.nt (creelref_HeadOf.nt y1 y2) y3) y4) y5) y6) else creelref_HeadOf.nt (creelref_HeadOf.nt (creelref_HeadOf.nt (creelref_HeadOf.nt (creelref_HeadOf.nt (creelref_HeadOf.nt y1 y2) y3) y4) y5) y6) 3) = e8 at *
            clear he8
            have hfh := HS.out.fh
            have hv0 := HS.out.ch 0
            have hv1 := HS.out.ch 1
            have hv2 := HS.out.ch 2
            have hv3 := HS.out.ch 3
            have hv4 := HS.out.ch 4
            have hv5 := HS.out.ch 5
            have hv6 := HS.out.ch 6
            have hv7 := HS.out.ch 7
            have hv8 := HS.out.ch 8
            have hv9 := HS.out.ch 9
            have hv10 := HS.out.ch 10
            have H := HH.out
            clear HH
            obtain ⟨e16, he16⟩ : ∃ e16, (creelref_HeadOf.js a0 500 z (creelref_HeadOf.nt (creelref_HeadOf.js a0 329 (⟨#[48, 48, 48, 48, 48, 48, 48, 0, 48, 48, 48, 48, 48, 48, 48, 0]⟩ : ByteArray) (creelref_HeadOf.nt (creelref_HeadOf.nt (creelref_HeadOf.js a0 257 (⟨#[117, 115, 116, 97, 114, 0, 48, 48]⟩ : ByteArray) (creelref_HeadOf.nt e8 y10)) y12) y13)) y15)) = e16 := ⟨_, rfl⟩
            rw [he16] at H
            unfold creelref_HeadOf.fin at H
            have HE := Aside0.mk he16
            clear he16
            have h := H
            clear H
            by_cases h16 : e16 = 0
            · rw [if_pos h16] at h
              simp only [Option.some.injEq, Prod.mk.injEq] at h
              obtain ⟨rfl, rfl, rfl, rfl, rfl, rfl, rfl, rfl, rfl, rfl, rfl, rfl⟩ := h
              have h16a : (e16 == 0) = true := beq_iff_eq.mpr h16
              have h16b : (e16 != 0) = false := bne_eq_false_iff_eq.mpr h16
              clear h16
              go_upto_region 31 with (first | (go_at_call 39; (with_reducible refine (creelref_HeadOf.textS k w _ gs gr gw gn gh a0 #[.string x1, .string (⟨#[]⟩ : ByteArray), .string (⟨#[]⟩ : ByteArray), .int .i64 x2, .int .i64 x3, .int .i64 x4, .int .i64 x5, .int .i64 x6, .int .u8 (bt a0 156), .string (⟨#[]⟩ : ByteArray), .string (⟨#[]⟩ : ByteArray)] e8 157 257 true x10 y10 (HS.out) ?j0 ?j1 ?j2 HA10.out).mono ?_); (case j0 => decide); (case j1 => decide); (case j2 => have := HSZ.out; omega); rintro e_ w8 ⟨rfl, hS8⟩; have HS8 := Aside0.mk (hS8); (try clear HS); have HS := HS8; clear HS8; clear hS8; have hfh := HS.out.fh; have hv0 := HS.out.ch 0; have hv1 := HS.out.ch 1; have hv2 := HS.out.ch 2; have hv3 := HS.out.ch 3; have hv4 := HS.out.ch 4; have hv5 := HS.out.ch 5; have hv6 := HS.out.ch 6; have hv7 := HS.out.ch 7; have hv8 := HS.out.ch 8; have hv9 := HS.out.ch 9; have hv10 := HS.out.ch 10) | (go_at_call 43; (with_reducible refine (creelref_HeadOf.justS w _ gs gr gw gn gh a0 #[.string x1, .string (⟨#[]⟩ : ByteArray), .string x10, .int .i64 x2, .int .i64 x3, .int .i64 x4, .int .i64 x5, .int .i64 x6, .int .u8 (bt a0 156), .string (⟨#[]⟩ : ByteArray), .string (⟨#[]⟩ : ByteArray)] (creelref_HeadOf.nt e8 y10) 257 (⟨#[117, 115, 116, 97, 114, 0, 48, 48]⟩ : ByteArray) (creelref_HeadOf.St.set (H' := #[.string x1, .string (⟨#[]⟩ : ByteArray), .string x10, .int .i64 x2, .int .i64 x3, .int .i64 x4, .int .i64 x5, .int .i64 x6, .int .u8 (bt a0 156), .string (⟨#[]⟩ : ByteArray), .string (⟨#[]⟩ : ByteArray)]) (HS.out) 2 (.string x10) rfl) ?j0 ?j1 ?j2 ?j3).mono ?_); (case j0 => decide); (case j1 => have := HSZ.out; show (257 : Int) + (8 : Int) ≤ _; omega); (case j2 => decide); (case j3 => decide); rintro e_ w8 ⟨rfl, hS8⟩; have HS8 := Aside0.mk (hS8); (try clear HS); have HS := HS8; clear HS8; clear hS8; have hfh := HS.out.fh; have hv0 := HS.out.ch 0; have hv1 := HS.out.ch 1; have hv2 := HS.out.ch 2; have hv3 := HS.out.ch 3; have hv4 := HS.out.ch 4; have hv5 := HS.out.ch 5; have hv6 := HS.out.ch 6; have hv7 := HS.out.ch 7; have hv8 := HS.out.ch 8; have hv9 := HS.out.ch 9; have hv10 := HS.out.ch 10) | (go_at_call 39; (with_reducible refine (creelref_HeadOf.textS k w _ gs gr gw gn gh a0 #[.string x1, .string (⟨#[]⟩ : ByteArray), .string x10, .int .i64 x2, .int .i64 x3, .int .i64 x4, .int .i64 x5, .int .i64 x6, .int .u8 (bt a0 156), .string (⟨#[]⟩ : ByteArray), .string (⟨#[]⟩ : ByteArray)] (creelref_HeadOf.js a0 257 (⟨#[117, 115, 116, 97, 114, 0, 48, 48]⟩ : ByteArray) (creelref_HeadOf.nt e8 y10)) 265 297 false x12 y12 (HS.out) ?j0 ?j1 ?j2 HA12.out).mono ?_); (case j0 => decide); (case j1 => decide); (case j2 => have := HSZ.out; omega); rintro e_ w8 ⟨rfl, hS8⟩; have HS8 := Aside0.mk (hS8); (try clear HS); have HS := HS8; clear HS8; clear hS8; have hfh := HS.out.fh; have hv0 := HS.out.ch 0; have hv1 := HS.out.ch 1; have hv2 := HS.out.ch 2; have hv3 := HS.out.ch 3; have hv4 := HS.out.ch 4; have hv5 := HS.out.ch 5; have hv6 := HS.out.ch 6; have hv7 := HS.out.ch 7; have hv8 := HS.out.ch 8; have hv9 := HS.out.ch 9; have hv10 := HS.out.ch 10) | (go_at_call 39; (with_reducible refine (creelref_HeadOf.textS k w _ gs gr gw gn gh a0 #[.string x1, .string (⟨#[]⟩ : ByteArray), .string x10, .int .i64 x2, .int .i64 x3, .int .i64 x4, .int .i64 x5, .int .i64 x6, .int .u8 (bt a0 156), .string x12, .string (⟨#[]⟩ : ByteArray)] (creelref_HeadOf.nt (creelref_HeadOf.js a0 257 (⟨#[117, 115, 116, 97, 114, 0, 48, 48]⟩ : ByteArray) (creelref_HeadOf.nt e8 y10)) y12) 297 329 false x13 y13 (creelref_HeadOf.St.set (H' := #[.string x1, .string (⟨#[]⟩ : ByteArray), .string x10, .int .i64 x2, .int .i64 x3, .int .i64 x4, .int .i64 x5, .int .i64 x6, .int .u8 (bt a0 156), .string x12, .string (⟨#[]⟩ : ByteArray)]) (HS.out) 9 (.string x12) rfl) ?j0 ?j1 ?j2 HA13.out).mono ?_); (case j0 => decide); (case j1 => decide); (case j2 => have := HSZ.out; omega); rintro e_ w8 ⟨rfl, hS8⟩; have HS8 := Aside0.mk (hS8); (try clear HS); have HS := HS8; clear HS8; clear hS8; have hfh := HS.out.fh; have hv0 := HS.out.ch 0; have hv1 := HS.out.ch 1; have hv2 := HS.out.ch 2; have hv3 := HS.out.ch 3; have hv4 := HS.out.ch 4; have hv5 := HS.out.ch 5; have hv6 := HS.out.ch 6; have hv7 := HS.out.ch 7; have hv8 := HS.out.ch 8; have hv9 := HS.out.ch 9; have hv10 := HS.out.ch 10) | (go_at_call 43; (with_reducible refine (creelref_HeadOf.justS w _ gs gr gw gn gh a0 #[.string x1, .string (⟨#[]⟩ : ByteArray), .string x10, .int .i64 x2, .int .i64 x3, .int .i64 x4, .int .i64 x5, .int .i64 x6, .int .u8 (bt a0 156), .string x12, .string x13] (creelref_HeadOf.nt (creelref_HeadOf.nt (creelref_HeadOf.js a0 257 (⟨#[117, 115, 116, 97, 114, 0, 48, 48]⟩ : ByteArray) (creelref_HeadOf.nt e8 y10)) y12) y13) 329 (⟨#[48, 48, 48, 48, 48, 48, 48, 0, 48, 48, 48, 48, 48, 48, 48, 0]⟩ : ByteArray) (creelref_HeadOf.St.set (H' := #[.string x1, .string (⟨#[]⟩ : ByteArray), .string x10, .int .i64 x2, .int .i64 x3, .int .i64 x4, .int .i64 x5, .int .i64 x6, .int .u8 (bt a0 156), .string x12, .string x13]) (HS.out) 10 (.string x13) rfl) ?j0 ?j1 ?j2 ?j3).mono ?_); (case j0 => decide); (case j1 => have := HSZ.out; show (329 : Int) + (16 : Int) ≤ _; omega); (case j2 => decide); (case j3 => decide); rintro e_ w8 ⟨rfl, hS8⟩; have HS8 := Aside0.mk (hS8); (try clear HS); have HS := HS8; clear HS8; clear hS8; have hfh := HS.out.fh; have hv0 := HS.out.ch 0; have hv1 := HS.out.ch 1; have hv2 := HS.out.ch 2; have hv3 := HS.out.ch 3; have hv4 := HS.out.ch 4; have hv5 := HS.out.ch 5; have hv6 := HS.out.ch 6; have hv7 := HS.out.ch 7; have hv8 := HS.out.ch 8; have hv9 := HS.out.ch 9; have hv10 := HS.out.ch 10) | (go_at_call 39; (with_reducible refine (creelref_HeadOf.textS k w _ gs gr gw gn gh a0 #[.string x1, .string (⟨#[]⟩ : ByteArray), .string x10, .int .i64 x2, .int .i64 x3, .int .i64 x4, .int .i64 x5, .int .i64 x6, .int .u8 (bt a0 156), .string x12, .string x13] (creelref_HeadOf.js a0 329 (⟨#[48, 48, 48, 48, 48, 48, 48, 0, 48, 48, 48, 48, 48, 48, 48, 0]⟩ : ByteArray) (creelref_HeadOf.nt (creelref_HeadOf.nt (creelref_HeadOf.js a0 257 (⟨#[117, 115, 116, 97, 114, 0, 48, 48]⟩ : ByteArray) (creelref_HeadOf.nt e8 y10)) y12) y13)) 345 500 true x15 y15 (HS.out) ?j0 ?j1 ?j2 HA15.out).mono ?_); (case j0 => decide); (case j1 => decide); (case j2 => have := HSZ.out; omega); rintro e_ w8 ⟨rfl, hS8⟩; have HS8 := Aside0.mk (hS8); (try clear HS); have HS := HS8; clear HS8; clear hS8; have hfh := HS.out.fh; have hv0 := HS.out.ch 0; have hv1 := HS.out.ch 1; have hv2 := HS.out.ch 2; have hv3 := HS.out.ch 3; have hv4 := HS.out.ch 4; have hv5 := HS.out.ch 5; have hv6 := HS.out.ch 6; have hv7 := HS.out.ch 7; have hv8 := HS.out.ch 8; have hv9 := HS.out.ch 9; have hv10 := HS.out.ch 10) | (go_at_call 45; refine (creelref_zeros.calls k _ z _ HAz.out).mono ?_; rintro e_ w8 ⟨rfl, nd9, rfl⟩; have HS8 := Aside0.mk (creelref_HeadOf.St.drewN (creelref_HeadOf.St.set (H' := #[.string x1, .string x15, .string x10, .int .i64 x2, .int .i64 x3, .int .i64 x4, .int .i64 x5, .int .i64 x6, .int .u8 (bt a0 156), .string x12, .string x13]) (HS.out) 1 (.string x15) rfl) nd9); (try clear HS); have HS := HS8; clear HS8) | (go_at_call 43; (with_reducible refine (creelref_HeadOf.justS w _ gs gr gw gn gh a0 #[.string x1, .string x15, .string x10, .int .i64 x2, .int .i64 x3, .int .i64 x4, .int .i64 x5, .int .i64 x6, .int .u8 (bt a0 156), .string x12, .string x13] (creelref_HeadOf.nt (creelref_HeadOf.js a0 329 (⟨#[48, 48, 48, 48, 48, 48, 48, 0, 48, 48, 48, 48, 48, 48, 48, 0]⟩ : ByteArray) (creelref_HeadOf.nt (creelref_HeadOf.nt (creelref_HeadOf.js a0 257 (⟨#[117, 115, 116, 97, 114, 0, 48, 48]⟩ : ByteArray) (creelref_HeadOf.nt e8 y10)) y12) y13)) y15) 500 z (HS.out) ?j0 ?j1 ?j2 ?j3).mono ?_); (case j0 => decide); (case j1 => have := HSZ.out; have h9 := HZZ.out; omega); (case j2 => decide); (case j3 => have h9 := HZZ.out; omega); rintro e_ w8 ⟨rfl, hS8⟩; have HS8 := Aside0.mk (hS8); (try clear HS); have HS := HS8; clear HS8; clear hS8; have hfh := HS.out.fh; have hv0 := HS.out.ch 0; have hv1 := HS.out.ch 1; have hv2 := HS.out.ch 2; have hv3 := HS.out.ch 3; have hv4 := HS.out.ch 4; have hv5 := HS.out.ch 5; have hv6 := HS.out.ch 6; have hv7 := HS.out.ch 7; have hv8 := HS.out.ch 8; have hv9 := HS.out.ch 9; have hv10 := HS.out.ch 10; have HS9 := Aside0.mk (show creelref_HeadOf.St w w8 gs gr gw gn gh a0 #[.string x1, .string x15, .string x10, .int .i64 x2, .int .i64 x3, .int .i64 x4, .int .i64 x5, .int .i64 x6, .int .u8 (bt a0 156), .string x12, .string x13] e16 from (by rw [← HE.out]; exact HS.out)); clear HS; have HS := HS9; clear HS9; have hce := HS.out.ce))
              go_wp2_with (first | ((with_reducible refine gate_dst (N := 89) rfl ?_); refine load_event rfl rfl Tryd.underlying23 rfl rfl (cs := [.string x1, .string x15, .string x10, .int .i64 x2, .int .i64 x3, .int .i64 x4, .int .i64 x5, .int .i64 x6, .int .u8 (bt a0 156), .string x12, .string x13]) sz23 (cells_of_blk HS.out.bh) ?_) | ((with_reducible refine gate_store (t := 23) (p := 2) rfl ?_); refine put_event rfl rfl rfl rfl rfl HS.out.br sz23 rfl rfl ?_; intro w3 hk3 hg3; have HR := Aside0.mk hk3; have HB3 := Aside0.mk (below_grown HS.out.eb hg3 HS.out.ger (blk_lt HS.out.br)); clear hk3 hg3))
              try show bodyPost _ _ _ _ _ _
              refine bodyPost_ret (results_ct rfl _ _ gr 23 #[.string x1, .string x15, .string x10, .int .i64 x2, .int .i64 x3, .int .i64 x4, .int .i64 x5, .int .i64 x6, .int .u8 (bt a0 156), .string x12, .string x13] (0, 0) _ rfl HR.out Tryd.underlying23 rfl (by kernel_rfl)) rfl ?_
              exact ⟨rfl, HB3.out⟩
            · rw [if_neg h16] at h
              simp only [Option.some.injEq, Prod.mk.injEq] at h
              obtain ⟨rfl, rfl, rfl, rfl, rfl, rfl, rfl, rfl, rfl, rfl, rfl, rfl⟩ := h
              have h16a : (e16 == 0) = false := beq_eq_false_iff_ne.mpr h16
              have h16b : (e16 != 0) = true := bne_iff_ne.mpr h16
              clear h16
              go_upto_region 30 with (first | (go_at_call 39; (with_reducible refine (creelref_HeadOf.textS k w _ gs gr gw gn gh a0 #[.string x1, .string (⟨#[]⟩ : ByteArray), .string (⟨#[]⟩ : ByteArray), .int .i64 x2, .int .i64 x3, .int .i64 x4, .int .i64 x5, .int .i64 x6, .int .u8 (bt a0 156), .string (⟨#[]⟩ : ByteArray), .string (⟨#[]⟩ : ByteArray)] e8 157 257 true x10 y10 (HS.out) ?j0 ?j1 ?j2 HA10.out).mono ?_); (case j0 => decide); (case j1 => decide); (case j2 => have := HSZ.out; omega); rintro e_ w8 ⟨rfl, hS8⟩; have HS8 := Aside0.mk (hS8); (try clear HS); have HS := HS8; clear HS8; clear hS8; have hfh := HS.out.fh; have hv0 := HS.out.ch 0; have hv1 := HS.out.ch 1; have hv2 := HS.out.ch 2; have hv3 := HS.out.ch 3; have hv4 := HS.out.ch 4; have hv5 := HS.out.ch 5; have hv6 := HS.out.ch 6; have hv7 := HS.out.ch 7; have hv8 := HS.out.ch 8; have hv9 := HS.out.ch 9; have hv10 := HS.out.ch 10) | (go_at_call 43; (with_reducible refine (creelref_HeadOf.justS w _ gs gr gw gn gh a0 #[.string x1, .string (⟨#[]⟩ : ByteArray), .string x10, .int .i64 x2, .int .i64 x3, .int .i64 x4, .int .i64 x5, .int .i64 x6, .int .u8 (bt a0 156), .string (⟨#[]⟩ : ByteArray), .string (⟨#[]⟩ : ByteArray)] (creelref_HeadOf.nt e8 y10) 257 (⟨#[117, 115, 116, 97, 114, 0, 48, 48]⟩ : ByteArray) (creelref_HeadOf.St.set (H' := #[.string x1, .string (⟨#[]⟩ : ByteArray), .string x10, .int .i64 x2, .int .i64 x3, .int .i64 x4, .int .i64 x5, .int .i64 x6, .int .u8 (bt a0 156), .string (⟨#[]⟩ : ByteArray), .string (⟨#[]⟩ : ByteArray)]) (HS.out) 2 (.string x10) rfl) ?j0 ?j1 ?j2 ?j3).mono ?_); (case j0 => decide); (case j1 => have := HSZ.out; show (257 : Int) + (8 : Int) ≤ _; omega); (case j2 => decide); (case j3 => decide); rintro e_ w8 ⟨rfl, hS8⟩; have HS8 := Aside0.mk (hS8); (try clear HS); have HS := HS8; clear HS8; clear hS8; have hfh := HS.out.fh; have hv0 := HS.out.ch 0; have hv1 := HS.out.ch 1; have hv2 := HS.out.ch 2; have hv3 := HS.out.ch 3; have hv4 := HS.out.ch 4; have hv5 := HS.out.ch 5; have hv6 := HS.out.ch 6; have hv7 := HS.out.ch 7; have hv8 := HS.out.ch 8; have hv9 := HS.out.ch 9; have hv10 := HS.out.ch 10) | (go_at_call 39; (with_reducible refine (creelref_HeadOf.textS k w _ gs gr gw gn gh a0 #[.string x1, .string (⟨#[]⟩ : ByteArray), .string x10, .int .i64 x2, .int .i64 x3, .int .i64 x4, .int .i64 x5, .int .i64 x6, .int .u8 (bt a0 156), .string (⟨#[]⟩ : ByteArray), .string (⟨#[]⟩ : ByteArray)] (creelref_HeadOf.js a0 257 (⟨#[117, 115, 116, 97, 114, 0, 48, 48]⟩ : ByteArray) (creelref_HeadOf.nt e8 y10)) 265 297 false x12 y12 (HS.out) ?j0 ?j1 ?j2 HA12.out).mono ?_); (case j0 => decide); (case j1 => decide); (case j2 => have := HSZ.out; omega); rintro e_ w8 ⟨rfl, hS8⟩; have HS8 := Aside0.mk (hS8); (try clear HS); have HS := HS8; clear HS8; clear hS8; have hfh := HS.out.fh; have hv0 := HS.out.ch 0; have hv1 := HS.out.ch 1; have hv2 := HS.out.ch 2; have hv3 := HS.out.ch 3; have hv4 := HS.out.ch 4; have hv5 := HS.out.ch 5; have hv6 := HS.out.ch 6; have hv7 := HS.out.ch 7; have hv8 := HS.out.ch 8; have hv9 := HS.out.ch 9; have hv10 := HS.out.ch 10) | (go_at_call 39; (with_reducible refine (creelref_HeadOf.textS k w _ gs gr gw gn gh a0 #[.string x1, .string (⟨#[]⟩ : ByteArray), .string x10, .int .i64 x2, .int .i64 x3, .int .i64 x4, .int .i64 x5, .int .i64 x6, .int .u8 (bt a0 156), .string x12, .string (⟨#[]⟩ : ByteArray)] (creelref_HeadOf.nt (creelref_HeadOf.js a0 257 (⟨#[117, 115, 116, 97, 114, 0, 48, 48]⟩ : ByteArray) (creelref_HeadOf.nt e8 y10)) y12) 297 329 false x13 y13 (creelref_HeadOf.St.set (H' := #[.string x1, .string (⟨#[]⟩ : ByteArray), .string x10, .int .i64 x2, .int .i64 x3, .int .i64 x4, .int .i64 x5, .int .i64 x6, .int .u8 (bt a0 156), .string x12, .string (⟨#[]⟩ : ByteArray)]) (HS.out) 9 (.string x12) rfl) ?j0 ?j1 ?j2 HA13.out).mono ?_); (case j0 => decide); (case j1 => decide); (case j2 => have := HSZ.out; omega); rintro e_ w8 ⟨rfl, hS8⟩; have HS8 := Aside0.mk (hS8); (try clear HS); have HS := HS8; clear HS8; clear hS8; have hfh := HS.out.fh; have hv0 := HS.out.ch 0; have hv1 := HS.out.ch 1; have hv2 := HS.out.ch 2; have hv3 := HS.out.ch 3; have hv4 := HS.out.ch 4; have hv5 := HS.out.ch 5; have hv6 := HS.out.ch 6; have hv7 := HS.out.ch 7; have hv8 := HS.out.ch 8; have hv9 := HS.out.ch 9; have hv10 := HS.out.ch 10) | (go_at_call 43; (with_reducible refine (creelref_HeadOf.justS w _ gs gr gw gn gh a0 #[.string x1, .string (⟨#[]⟩ : ByteArray), .string x10, .int .i64 x2, .int .i64 x3, .int .i64 x4, .int .i64 x5, .int .i64 x6, .int .u8 (bt a0 156), .string x12, .string x13] (creelref_HeadOf.nt (creelref_HeadOf.nt (creelref_HeadOf.js a0 257 (⟨#[117, 115, 116, 97, 114, 0, 48, 48]⟩ : ByteArray) (creelref_HeadOf.nt e8 y10)) y12) y13) 329 (⟨#[48, 48, 48, 48, 48, 48, 48, 0, 48, 48, 48, 48, 48, 48, 48, 0]⟩ : ByteArray) (creelref_HeadOf.St.set (H' := #[.string x1, .string (⟨#[]⟩ : ByteArray), .string x10, .int .i64 x2, .int .i64 x3, .int .i64 x4, .int .i64 x5, .int .i64 x6, .int .u8 (bt a0 156), .string x12, .string x13]) (HS.out) 10 (.string x13) rfl) ?j0 ?j1 ?j2 ?j3).mono ?_); (case j0 => decide); (case j1 => have := HSZ.out; show (329 : Int) + (16 : Int) ≤ _; omega); (case j2 => decide); (case j3 => decide); rintro e_ w8 ⟨rfl, hS8⟩; have HS8 := Aside0.mk (hS8); (try clear HS); have HS := HS8; clear HS8; clear hS8; have hfh := HS.out.fh; have hv0 := HS.out.ch 0; have hv1 := HS.out.ch 1; have hv2 := HS.out.ch 2; have hv3 := HS.out.ch 3; have hv4 := HS.out.ch 4; have hv5 := HS.out.ch 5; have hv6 := HS.out.ch 6; have hv7 := HS.out.ch 7; have hv8 := HS.out.ch 8; have hv9 := HS.out.ch 9; have hv10 := HS.out.ch 10) | (go_at_call 39; (with_reducible refine (creelref_HeadOf.textS k w _ gs gr gw gn gh a0 #[.string x1, .string (⟨#[]⟩ : ByteArray), .string x10, .int .i64 x2, .int .i64 x3, .int .i64 x4, .int .i64 x5, .int .i64 x6, .int .u8 (bt a0 156), .string x12, .string x13] (creelref_HeadOf.js a0 329 (⟨#[48, 48, 48, 48, 48, 48, 48, 0, 48, 48, 48, 48, 48, 48, 48, 0]⟩ : ByteArray) (creelref_HeadOf.nt (creelref_HeadOf.nt (creelref_HeadOf.js a0 257 (⟨#[117, 115, 116, 97, 114, 0, 48, 48]⟩ : ByteArray) (creelref_HeadOf.nt e8 y10)) y12) y13)) 345 500 true x15 y15 (HS.out) ?j0 ?j1 ?j2 HA15.out).mono ?_); (case j0 => decide); (case j1 => decide); (case j2 => have := HSZ.out; omega); rintro e_ w8 ⟨rfl, hS8⟩; have HS8 := Aside0.mk (hS8); (try clear HS); have HS := HS8; clear HS8; clear hS8; have hfh := HS.out.fh; have hv0 := HS.out.ch 0; have hv1 := HS.out.ch 1; have hv2 := HS.out.ch 2; have hv3 := HS.out.ch 3; have hv4 := HS.out.ch 4; have hv5 := HS.out.ch 5; have hv6 := HS.out.ch 6; have hv7 := HS.out.ch 7; have hv8 := HS.out.ch 8; have hv9 := HS.out.ch 9; have hv10 := HS.out.ch 10) | (go_at_call 45; refine (creelref_zeros.calls k _ z _ HAz.out).mono ?_; rintro e_ w8 ⟨rfl, nd9, rfl⟩; have HS8 := Aside0.mk (creelref_HeadOf.St.drewN (creelref_HeadOf.St.set (H' := #[.string x1, .string x15, .string x10, .int .i64 x2, .int .i64 x3, .int .i64 x4, .int .i64 x5, .int .i64 x6, .int .u8 (bt a0 156), .string x12, .string x13]) (HS.out) 1 (.string x15) rfl) nd9); (try clear HS); have HS := HS8; clear HS8) | (go_at_call 43; (with_reducible refine (creelref_HeadOf.justS w _ gs gr gw gn gh a0 #[.string x1, .string x15, .string x10, .int .i64 x2, .int .i64 x3, .int .i64 x4, .int .i64 x5, .int .i64 x6, .int .u8 (bt a0 156), .string x12, .string x13] (creelref_HeadOf.nt (creelref_HeadOf.js a0 329 (⟨#[48, 48, 48, 48, 48, 48, 48, 0, 48, 48, 48, 48, 48, 48, 48, 0]⟩ : ByteArray) (creelref_HeadOf.nt (creelref_HeadOf.nt (creelref_HeadOf.js a0 257 (⟨#[117, 115, 116, 97, 114, 0, 48, 48]⟩ : ByteArray) (creelref_HeadOf.nt e8 y10)) y12) y13)) y15) 500 z (HS.out) ?j0 ?j1 ?j2 ?j3).mono ?_); (case j0 => decide); (case j1 => have := HSZ.out; have h9 := HZZ.out; omega); (case j2 => decide); (case j3 => have h9 := HZZ.out; omega); rintro e_ w8 ⟨rfl, hS8⟩; have HS8 := Aside0.mk (hS8); (try clear HS); have HS := HS8; clear HS8; clear hS8; have hfh := HS.out.fh; have hv0 := HS.out.ch 0; have hv1 := HS.out.ch 1; have hv2 := HS.out.ch 2; have hv3 := HS.out.ch 3; have hv4 := HS.out.ch 4; have hv5 := HS.out.ch 5; have hv6 := HS.out.ch 6; have hv7 := HS.out.ch 7; have hv8 := HS.out.ch 8; have hv9 := HS.out.ch 9; have hv10 := HS.out.ch 10; have HS9 := Aside0.mk (show creelref_HeadOf.St w w8 gs gr gw gn gh a0 #[.string x1, .string x15, .string x10, .int .i64 x2, .int .i64 x3, .int .i64 x4, .int .i64 x5, .int .i64 x6, .int .u8 (bt a0 156), .string x12, .string x13] e16 from (by rw [← HE.out]; exact HS.out)); clear HS; have HS := HS9; clear HS9; have hce := HS.out.ce))
              clear hfh hv0 hv1 hv2 hv3 hv4 hv5 hv6 hv7 hv8 hv9 hv10
              refine wp_region_any (by kernel_rfl) ?_
              try (change wpAny _ _ _ _ _ _ _ (World.drew _))
              refine wpAny_take (i := 0) (v := ?_) rfl (by kernel_rfl) (by kernel_rfl) (by kernel_rfl) (fun _ _ _ h => h) (Or.inl ⟨by rfl, ?_⟩) ?_
              rotate_left
              · intro w
                go_simp
                try with_reducible rfl
              (try simp only [Act.put, List.setIfInBounds_toArray, List.set_cons_zero, List.set_cons_succ])
              refine wpAny_ready (rs := [1, 2]) (by kernel_rfl) (by simp) ?_
              refine AllReady.cons rfl (fun K hK => ?_) (AllReady.cons rfl (fun K hK => ?_) AllReady.nil)
              · go_simp
                refine hK _ _ ?_
                clear hK K
                refine wpAny_ready (rs := [2]) (by kernel_rfl) (by simp) ?_
                refine AllReady.cons rfl (fun K hK => ?_) AllReady.nil
                refine put_step rfl rfl rfl rfl rfl (HS.out.drewN 1).br sz23 rfl rfl ?_
                intro w3 hk3 hg3
                have HR := Aside0.mk hk3
                have HB3 := Aside0.mk (below_grown (HS.out.drewN 1).eb hg3 HS.out.ger (blk_lt (HS.out.drewN 1).br))
                have hce3 : w3.cell? ⟨gw, 0, none⟩ = some (.int .i64 e16) := (blk_cell (blk_grown (Blks.blk (HS.out.drewN 1) (j := 2) rfl) hg3 (fun e => HS.out.nr (Option.some.inj e))) 0).trans rfl
                clear hk3 hg3
                refine hK _ _ ?_
                clear hK K
                refine wpAny_ready (rs := [3]) (by kernel_rfl) (by simp) ?_
                refine AllReady.cons rfl (fun K hK => ?_) AllReady.nil
                go_simp
                refine hK _ _ ?_
                clear hK K
                refine wpAny_done (by kernel_rfl) ?_ _
                go_wp2
                try show bodyPost _ _ _ _ _ _
                refine bodyPost_ret (results_ct rfl _ _ gr 23 #[.string (⟨#[]⟩ : ByteArray), .string (⟨#[]⟩ : ByteArray), .string (⟨#[]⟩ : ByteArray), .int .i64 0, .int .i64 0, .int .i64 0, .int .i64 0, .int .i64 0, .int .u8 0, .string (⟨#[]⟩ : ByteArray), .string (⟨#[]⟩ : ByteArray)] (0, 0) _ rfl HR.out Tryd.underlying23 rfl (by kernel_rfl)) rfl ?_
                exact ⟨rfl, HB3.out⟩
              · refine put_step rfl rfl rfl rfl rfl (HS.out.drewN 1).br sz23 rfl rfl ?_
                intro w3 hk3 hg3
                have HR := Aside0.mk hk3
                have HB3 := Aside0.mk (below_grown (HS.out.drewN 1).eb hg3 HS.out.ger (blk_lt (HS.out.drewN 1).br))
                have hce3 : w3.cell? ⟨gw, 0, none⟩ = some (.int .i64 e16) := (blk_cell (blk_grown (Blks.blk (HS.out.drewN 1) (j := 2) rfl) hg3 (fun e => HS.out.nr (Option.some.inj e))) 0).trans rfl
                clear hk3 hg3
                refine hK _ _ ?_
                clear hK K
                refine wpAny_ready (rs := [1]) (by kernel_rfl) (by simp) ?_
                refine AllReady.cons rfl (fun K hK => ?_) AllReady.nil
                go_simp
                refine hK _ _ ?_
                clear hK K
                refine wpAny_ready (rs := [3]) (by kernel_rfl) (by simp) ?_
                refine AllReady.cons rfl (fun K hK => ?_) AllReady.nil
                go_simp
                refine hK _ _ ?_
                clear hK K
                refine wpAny_done (by kernel_rfl) ?_ _
                go_wp2
                try show bodyPost _ _ _ _ _ _
                refine bodyPost_ret (results_ct rfl _ _ gr 23 #[.string (⟨#[]⟩ : ByteArray), .string (⟨#[]⟩ : ByteArray), .string (⟨#[]⟩ : ByteArray), .int .i64 0, .int .i64 0, .int .i64 0, .int .i64 0, .int .i64 0, .int .u8 0, .string (⟨#[]⟩ : ByteArray), .string (⟨#[]⟩ : ByteArray)] (0, 0) _ rfl HR.out Tryd.underlying23 rfl (by kernel_rfl)) rfl ?_
                exact ⟨rfl, HB3.out⟩
        · rw [if_neg hz] at h
          cases h
      · rw [if_neg hs1] at h
        simp only [Option.some.injEq, Prod.mk.injEq] at h
        obtain ⟨rfl, rfl, rfl, rfl, rfl, rfl, rfl, rfl, rfl, rfl, rfl, rfl⟩ := h
        have hs1a : ((a0.extract 148 156).toList == (b2 ++ (⟨#[32]⟩ : ByteArray)).toList) = false := beq_eq_false_iff_ne.mpr hs1
        have hs1b : ((a0.extract 148 156).toList != (b2 ++ (⟨#[32]⟩ : ByteArray)).toList) = true := bne_iff_ne.mpr hs1
        clear hs1
        go_enter Tryd.func10, Tryd.ntmps10
        go_upto_region 6 with (first | ((with_reducible refine gate_dst (N := 1) rfl ?_); refine box_event ?hg (N := 1) ?hd (cs := #[.string a0]) (t := 9) ?hr ?_; (case hd => rfl); (case hg => rfl); (case hr => first | (go_simp; done) | (go_simp; rfl)); intro gs hg w1 hbox hb1; have HS := Aside0.mk (show Blks w w1 [(gs, .cells #[.string a0] 9 (0, 0))] from (Blks.nil w).box hg hbox hb1); have hcs := Blks.cell HS.out 0 rfl 0 rfl; clear hg hbox hb1) | ((with_reducible refine gate_dst (N := 2) rfl ?_); refine box_event ?hg (N := 2) ?hd (cs := #[.string (⟨#[]⟩ : ByteArray), .string (⟨#[]⟩ : ByteArray), .string (⟨#[]⟩ : ByteArray), .int .i64 0, .int .i64 0, .int .i64 0, .int .i64 0, .int .i64 0, .int .u8 0, .string (⟨#[]⟩ : ByteArray), .string (⟨#[]⟩ : ByteArray)]) (t := 23) ?hr ?_; (case hd => rfl); (case hg => rfl); (case hr => first | (go_simp; done) | (go_simp; rfl)); intro gr hg w1 hbox hb1; have HS8 := Aside0.mk (show Blks w w1 [(gr, .cells #[.string (⟨#[]⟩ : ByteArray), .string (⟨#[]⟩ : ByteArray), .string (⟨#[]⟩ : ByteArray), .int .i64 0, .int .i64 0, .int .i64 0, .int .i64 0, .int .i64 0, .int .u8 0, .string (⟨#[]⟩ : ByteArray), .string (⟨#[]⟩ : ByteArray)] 23 (0, 0)), (gs, .cells #[.string a0] 9 (0, 0))] from HS.out.box hg hbox hb1); (try clear HS); have HS := HS8; clear HS8; have hcs := Blks.cell HS.out 1 rfl 0 rfl; clear hg hbox hb1) | (go_at_call 36; refine (creelref_HeadSum.calls k _ b1 b1e _ HA1.out).mono ?_; rintro e_ w2 ⟨rfl, nd, rfl⟩) | (go_at_call 37; refine (creelref_OctalText.calls k _ 7 b2 b2e _ HA2.out).mono ?_; rintro e_ w2 ⟨rfl, nd2, rfl⟩))
        go_wp2_with (((with_reducible refine gate_store (t := 23) (p := 2) rfl ?_); refine put_event rfl rfl rfl rfl rfl (Blks.blk (Blks.drewN HS.out _) (j := 0) rfl) sz23 rfl rfl ?_; intro w3 hk3 hg3; have HR := Aside0.mk hk3; have HB3 := Aside0.mk (below_grown (Blks.drewN HS.out _).below hg3 (HS.out.ge (j := 0) rfl) (Blks.lt (Blks.drewN HS.out _) (j := 0) rfl)); clear hk3 hg3))
        try show bodyPost _ _ _ _ _ _
        refine bodyPost_ret (results_ct rfl _ _ gr 23 #[.string (⟨#[]⟩ : ByteArray), .string (⟨#[]⟩ : ByteArray), .string (⟨#[]⟩ : ByteArray), .int .i64 0, .int .i64 0, .int .i64 0, .int .i64 0, .int .i64 0, .int .u8 0, .string (⟨#[]⟩ : ByteArray), .string (⟨#[]⟩ : ByteArray)] (0, 0) _ rfl HR.out Tryd.underlying23 rfl (by kernel_rfl)) rfl ?_
        exact ⟨rfl, HB3.out⟩
    · rw [if_neg hsz] at h
      cases h
  · rw [if_neg hb1] at h
    simp only [Option.some.injEq, Prod.mk.injEq] at h
    obtain ⟨rfl, rfl, rfl, rfl, rfl, rfl, rfl, rfl, rfl, rfl, rfl, rfl⟩ := h
    have hb1a : (b1e == 0) = false := beq_eq_false_iff_ne.mpr hb1
    have hb1b : (b1e != 0) = true := bne_iff_ne.mpr hb1
    clear hb1
    go_enter Tryd.func10, Tryd.ntmps10
    go_upto_region 3 with (first | ((with_reducible refine gate_dst (N := 1) rfl ?_); refine box_event ?hg (N := 1) ?hd (cs := #[.string a0]) (t := 9) ?hr ?_; (case hd => rfl); (case hg => rfl); (case hr => first | (go_simp; done) | (go_simp; rfl)); intro gs hg w1 hbox hb1; have HS := Aside0.mk (show Blks w w1 [(gs, .cells #[.string a0] 9 (0, 0))] from (Blks.nil w).box hg hbox hb1); have hcs := Blks.cell HS.out 0 rfl 0 rfl; clear hg hbox hb1) | ((with_reducible refine gate_dst (N := 2) rfl ?_); refine box_event ?hg (N := 2) ?hd (cs := #[.string (⟨#[]⟩ : ByteArray), .string (⟨#[]⟩ : ByteArray), .string (⟨#[]⟩ : ByteArray), .int .i64 0, .int .i64 0, .int .i64 0, .int .i64 0, .int .i64 0, .int .u8 0, .string (⟨#[]⟩ : ByteArray), .string (⟨#[]⟩ : ByteArray)]) (t := 23) ?hr ?_; (case hd => rfl); (case hg => rfl); (case hr => first | (go_simp; done) | (go_simp; rfl)); intro gr hg w1 hbox hb1; have HS8 := Aside0.mk (show Blks w w1 [(gr, .cells #[.string (⟨#[]⟩ : ByteArray), .string (⟨#[]⟩ : ByteArray), .string (⟨#[]⟩ : ByteArray), .int .i64 0, .int .i64 0, .int .i64 0, .int .i64 0, .int .i64 0, .int .u8 0, .string (⟨#[]⟩ : ByteArray), .string (⟨#[]⟩ : ByteArray)] 23 (0, 0)), (gs, .cells #[.string a0] 9 (0, 0))] from HS.out.box hg hbox hb1); (try clear HS); have HS := HS8; clear HS8; have hcs := Blks.cell HS.out 1 rfl 0 rfl; clear hg hbox hb1) | (go_at_call 36; refine (creelref_HeadSum.calls k _ b1 b1e _ HA1.out).mono ?_; rintro e_ w2 ⟨rfl, nd, rfl⟩))
    go_wp2_with (((with_reducible refine gate_store (t := 23) (p := 2) rfl ?_); refine put_event rfl rfl rfl rfl rfl (Blks.blk (Blks.drewN HS.out _) (j := 0) rfl) sz23 rfl rfl ?_; intro w3 hk3 hg3; have HR := Aside0.mk hk3; have HB3 := Aside0.mk (below_grown (Blks.drewN HS.out _).below hg3 (HS.out.ge (j := 0) rfl) (Blks.lt (Blks.drewN HS.out _) (j := 0) rfl)); clear hk3 hg3))
    try show bodyPost _ _ _ _ _ _
    refine bodyPost_ret (results_ct rfl _ _ gr 23 #[.string (⟨#[]⟩ : ByteArray), .string (⟨#[]⟩ : ByteArray), .string (⟨#[]⟩ : ByteArray), .int .i64 0, .int .i64 0, .int .i64 0, .int .i64 0, .int .i64 0, .int .u8 0, .string (⟨#[]⟩ : ByteArray), .string (⟨#[]⟩ : ByteArray)] (0, 0) _ rfl HR.out Tryd.underlying23 rfl (by kernel_rfl)) rfl ?_
    exact ⟨rfl, HB3.out⟩
end Go.Proofs.YtodeblpanooomaaDoor.All
end
section
namespace Go.Proofs.YtodeblpanooomaaDoor.All
open Go.RowKit Go.Proofs.YtodeblpanooomaaDoorW.PrintWords Go.Proofs.YtodeblpanooomaaDoorW.PrintLast Go.Proofs.YtodeblpanooomaaDoorW.PrintMore
open Go.Proofs.YtodeblpanooomaaDoorW.Mine
attribute [local go_sem] gtr_string leq_string geq_string
attribute [local go_sem] max2_int min2_int max_two min_two max_three min_three max_four min_four   -- for this text's walks alone
set_option linter.unusedVariables false
set_option linter.unusedSimpArgs false

attribute [local go_sem high] eqA23
/-! ### creellaw_HeadReads: function 3 -/
def creellaw_HeadReads.f (k : Nat) (a0 : ByteArray) : Option (Bool) := (head_Read.f k a0).bind fun bt101 => ((creelref_HeadOf.f k a0).bind fun bt114 => (if (bt101.1.toList == bt114.1.toList && (bt101.2.1.toList == bt114.2.1.toList && (bt101.2.2.1.toList == bt114.2.2.1.toList && (bt101.2.2.2.1 == bt114.2.2.2.1 && (bt101.2.2.2.2.1 == bt114.2.2.2.2.1 && (bt101.2.2.2.2.2.1 == bt114.2.2.2.2.2.1 && (bt101.2.2.2.2.2.2.1 == bt114.2.2.2.2.2.2.1 && (bt101.2.2.2.2.2.2.2.1 == bt114.2.2.2.2.2.2.2.1 && (bt101.2.2.2.2.2.2.2.2.1 == bt114.2.2.2.2.2.2.2.2.1 && (bt101.2.2.2.2.2.2.2.2.2.1.toList == bt114.2.2.2.2.2.2.2.2.2.1.toList && (bt101.2.2.2.2.2.2.2.2.2.2.1.toList == bt114.2.2.2.2.2.2.2.2.2.2.1.toList))))))))))) = true then (some (bt101.2.2.2.2.2.2.2.2.2.2.2 == bt114.2.2.2.2.2.2.2.2.2.2.2)) else (some false)))
theorem creellaw_HeadReads.mono : ∀ a0 k, LeO (creellaw_HeadReads.f k a0) (creellaw_HeadReads.f (k + 1) a0) := by
 intro a0 k
 unfold creellaw_HeadReads.f
 repeat' first
   | (with_reducible exact creelref_HeadOf.mono _ _)
   | (with_reducible exact head_Read.mono _ _)
   | (with_reducible exact LeO.refl _)
   | (with_reducible exact LeO.none _)
   | (with_reducible refine LeO.ite ?_ ?_)
   | (with_reducible refine LeO.bind ?_ (fun _ => ?_))
   | exact creelref_HeadOf.mono _ _
   | exact head_Read.mono _ _
   | exact LeO.none _
   | refine LeO.ite ?_ ?_
   | refine LeO.bind ?_ (fun _ => ?_)
set_option maxHeartbeats 8000000 in
set_option maxRecDepth 100000 in
theorem creellaw_HeadReads.calls (k : Nat) (a0 : ByteArray) (r : Bool) (w : World) (h : creellaw_HeadReads.f k a0 = some r) :
  Calls Tryd.prog 3 #[.string a0] w fun e w' => e = .returned (.bool r) ∧ Below w.heap.size w w' := by
 have hu23 := Tryd.underlying23
 have HB := Aside0.mk (Below.refl w.heap.size w)
 have H : ((head_Read.f k a0).bind fun bt101 => ((creelref_HeadOf.f k a0).bind fun bt114 => (if (bt101.1.toList == bt114.1.toList && (bt101.2.1.toList == bt114.2.1.toList && (bt101.2.2.1.toList == bt114.2.2.1.toList && (bt101.2.2.2.1 == bt114.2.2.2.1 && (bt101.2.2.2.2.1 == bt114.2.2.2.2.1 && (bt101.2.2.2.2.2.1 == bt114.2.2.2.2.2.1 && (bt101.2.2.2.2.2.2.1 == bt114.2.2.2.2.2.2.1 && (bt101.2.2.2.2.2.2.2.1 == bt114.2.2.2.2.2.2.2.1 && (bt101.2.2.2.2.2.2.2.2.1 == bt114.2.2.2.2.2.2.2.2.1 && (bt101.2.2.2.2.2.2.2.2.2.1.toList == bt114.2.2.2.2.2.2.2.2.2.1.toList && (bt101.2.2.2.2.2.2.2.2.2.2.1.toList == bt114.2.2.2.2.2.2.2.2.2.2.1.toList))))))))))) = true then (some (bt101.2.2.2.2.2.2.2.2.2.2.2 == bt114.2.2.2.2.2.2.2.2.2.2.2)) else (some false)))) = some r := h
 clear h
 replace H := Option.bind_eq_some_iff.mp H
 obtain ⟨⟨t101, t102, t103, t104, t105, t106, t107, t108, t109, t110, t111, t112⟩, A20, H⟩ := H
 replace H : ((creelref_HeadOf.f k a0).bind fun bt114 => (if (t101.toList == bt114.1.toList && (t102.toList == bt114.2.1.toList && (t103.toList == bt114.2.2.1.toList && (t104 == bt114.2.2.2.1 && (t105 == bt114.2.2.2.2.1 && (t106 == bt114.2.2.2.2.2.1 && (t107 == bt114.2.2.2.2.2.2.1 && (t108 == bt114.2.2.2.2.2.2.2.1 && (t109 == bt114.2.2.2.2.2.2.2.2.1 && (t110.toList == bt114.2.2.2.2.2.2.2.2.2.1.toList && (t111.toList == bt114.2.2.2.2.2.2.2.2.2.2.1.toList))))))))))) = true then (some (t112 == bt114.2.2.2.2.2.2.2.2.2.2.2)) else (some false))) = some r := H
 have A2 := Aside0.mk A20
 clear A20
 replace H := Option.bind_eq_some_iff.mp H
 obtain ⟨⟨t114, t115, t116, t117, t118, t119, t120, t121, t122, t123, t124, t125⟩, A30, H⟩ := H
 replace H : (if (t101.toList == t114.toList && (t102.toList == t115.toList && (t103.toList == t116.toList && (t104 == t117 && (t105 == t118 && (t106 == t119 && (t107 == t120 && (t108 == t121 && (t109 == t122 && (t110.toList == t123.toList && (t111.toList == t124.toList))))))))))) = true then (some (t112 == t125)) else (some false)) = some r := H
 have A3 := Aside0.mk A30
 clear A30
 by_cases c4 : (t101.toList == t114.toList && (t102.toList == t115.toList && (t103.toList == t116.toList && (t104 == t117 && (t105 == t118 && (t106 == t119 && (t107 == t120 && (t108 == t121 && (t109 == t122 && (t110.toList == t123.toList && (t111.toList == t124.toList))))))))))) = true
 ·rw [if_pos c4] at H
  have c4b0 : (t101.toList == t114.toList && (t102.toList == t115.toList && (t103.toList == t116.toList && (t104 == t117 && (t105 == t118 && (t106 == t119 && (t107 == t120 && (t108 == t121 && (t109 == t122 && (t110.toList == t123.toList && (t111.toList == t124.toList))))))))))) = true := c4
  (try (have c4b1 : decide (t101.toList = t114.toList && (t102.toList == t115.toList && (t103.toList == t116.toList && (t104 == t117 && (t105 == t118 && (t106 == t119 && (t107 == t120 && (t108 == t121 && (t109 == t122 && (t110.toList == t123.toList && (t111.toList == t124.toList))))))))))) = true := by simpa using c4))
  (try (have c4b2 : (t101.toList == t114.toList && (t102.toList == t115.toList && (t103.toList == t116.toList && (t104 == t117 && (t105 == t118 && (t106 == t119 && (t107 == t120 && (t108 == t121 && (t109 == t122 && (t110.toList == t123.toList && (t111.toList == t124.toList))))))))))) = true := by simpa using c4))
  clear c4
  obtain rfl := Option.some.inj H
  go_enter Tryd.func3, Tryd.ntmps3
  go_wp2_with (first | ((with_reducible refine gate_callee (f := 9) rfl ?_); refine goesL_ (some 9) rfl rfl Tryd.func9 (by kernel_rfl) rfl #[.string a0] rfl (by (try simp only [List.map_toArray, List.map_cons, List.map_nil]); first | done | rfl | (simp only [List.length_drop, List.length_take]; rfl)) ?_; (with_reducible refine (head_Read.calls k a0 t101 t102 t103 t104 t105 t106 t107 t108 t109 t110 t111 t112 _ A2.out).mono ?_); rintro e w5 ⟨rfl, hb⟩; refine ⟨_, rfl, ?_⟩; have n0_ := Aside0.mk (below_step (by repeat (first | (with_reducible first | exact HB.out | apply below_alloc | apply pw_below_drewN | apply below_drew1) | exact HB.out)) hb); clear HB; have HB := n0_; clear n0_; (try clear hb); (try clear hb2); (try clear hk); (try clear hi)) | ((with_reducible refine gate_dst (N := 3) rfl ?_); refine box_event ?hg (N := 3) ?hd (cs := #[.string (⟨#[]⟩ : ByteArray), .string (⟨#[]⟩ : ByteArray), .string (⟨#[]⟩ : ByteArray), .int .i64 0, .int .i64 0, .int .i64 0, .int .i64 0, .int .i64 0, .int .u8 0, .string (⟨#[]⟩ : ByteArray), .string (⟨#[]⟩ : ByteArray)]) (t := 23) ?hr ?_; (case hd => rfl); (case hg => rfl); (case hr => first | (go_simp; done) | (go_simp; rfl)); intro gb113 hg w6 hbox hb; have n0_ := Aside0.mk (below_step (by repeat (first | (with_reducible first | exact HB.out | apply below_alloc | apply pw_below_drewN | apply below_drew1) | exact HB.out)) hb); have n1_ := Aside0.mk (hbox); have n2_ := Aside0.mk ((by rw [hg]; exact (below_size (by repeat (first | (with_reducible first | exact HB.out | apply below_alloc | apply pw_below_drewN | apply below_drew1) | exact HB.out))) : w.heap.size ≤ gb113)); have n3_ := Aside0.mk ((by rw [hg]; exact (below_size (by repeat (first | (with_reducible first | exact HB.out | apply below_alloc | apply pw_below_drewN | apply below_drew1) | exact HB.out))) : w.heap.size ≤ gb113)); clear HB; have HB := n0_; have BK113 := n1_; have GW113 := n2_; have GE113 := n3_; clear n0_ n1_ n2_ n3_; clear hb hbox hg; have hcz7_0 : w6.cell? ⟨gb113, 0, none⟩ = some (.string (⟨#[]⟩ : ByteArray)) := (blk_cell BK113.out 0).trans rfl; have hcz7_1 : w6.cell? ⟨gb113, 1, none⟩ = some (.string (⟨#[]⟩ : ByteArray)) := (blk_cell BK113.out 1).trans rfl; have hcz7_2 : w6.cell? ⟨gb113, 2, none⟩ = some (.string (⟨#[]⟩ : ByteArray)) := (blk_cell BK113.out 2).trans rfl; have hcz7_3 : w6.cell? ⟨gb113, 3, none⟩ = some (.int .i64 0) := (blk_cell BK113.out 3).trans rfl; have hcz7_4 : w6.cell? ⟨gb113, 4, none⟩ = some (.int .i64 0) := (blk_cell BK113.out 4).trans rfl; have hcz7_5 : w6.cell? ⟨gb113, 5, none⟩ = some (.int .i64 0) := (blk_cell BK113.out 5).trans rfl; have hcz7_6 : w6.cell? ⟨gb113, 6, none⟩ = some (.int .i64 0) := (blk_cell BK113.out 6).trans rfl; have hcz7_7 : w6.cell? ⟨gb113, 7, none⟩ = some (.int .i64 0) := (blk_cell BK113.out 7).trans rfl; have hcz7_8 : w6.cell? ⟨gb113, 8, none⟩ = some (.int .u8 0) := (blk_cell BK113.out 8).trans rfl; have hcz7_9 : w6.cell? ⟨gb113, 9, none⟩ = some (.string (⟨#[]⟩ : ByteArray)) := (blk_cell BK113.out 9).trans rfl; have hcz7_10 : w6.cell? ⟨gb113, 10, none⟩ = some (.string (⟨#[]⟩ : ByteArray)) := (blk_cell BK113.out 10).trans rfl; have hfz7_0 := blk_frozen BK113.out 0; have hfz7_1 := blk_frozen BK113.out 1; have hfz7_2 := blk_frozen BK113.out 2; have hfz7_3 := blk_frozen BK113.out 3; have hfz7_4 := blk_frozen BK113.out 4; have hfz7_5 := blk_frozen BK113.out 5; have hfz7_6 := blk_frozen BK113.out 6; have hfz7_7 := blk_frozen BK113.out 7; have hfz7_8 := blk_frozen BK113.out 8; have hfz7_9 := blk_frozen BK113.out 9; have hfz7_10 := blk_frozen BK113.out 10) | ((with_reducible refine gate_callee (f := 10) rfl ?_); refine goesL_ (some 14) rfl rfl Tryd.func10 (by kernel_rfl) rfl #[.string a0] rfl (by (try simp only [List.map_toArray, List.map_cons, List.map_nil]); first | done | rfl | (simp only [List.length_drop, List.length_take]; rfl)) ?_; (with_reducible refine (creelref_HeadOf.calls k a0 t114 t115 t116 t117 t118 t119 t120 t121 t122 t123 t124 t125 _ A3.out).mono ?_); rintro e w8 ⟨rfl, hb⟩; refine ⟨_, rfl, ?_⟩; have n0_ := Aside0.mk (blk_below (g := gb113) (o := .cells #[.string t101, .string t102, .string t103, .int .i64 t104, .int .i64 t105, .int .i64 t106, .int .i64 t107, .int .i64 t108, .int .u8 t109, .string t110, .string t111] 23 (0, 0)) (by (with_reducible repeat (first | refine blk_drewN ?_ _ | refine blk_drew ?_ | refine blk_alloc ?_ _)); refine blk_put (cs := #[.string t101, .string t102, .string t103, .int .i64 t104, .int .i64 t105, .int .i64 t106, .int .i64 t107, .int .i64 t108, .int .u8 t109, .string t110, .string (⟨#[]⟩ : ByteArray)]) ?_ 10 _ rfl; (with_reducible repeat (first | refine blk_drewN ?_ _ | refine blk_drew ?_ | refine blk_alloc ?_ _)); refine blk_put (cs := #[.string t101, .string t102, .string t103, .int .i64 t104, .int .i64 t105, .int .i64 t106, .int .i64 t107, .int .i64 t108, .int .u8 t109, .string (⟨#[]⟩ : ByteArray), .string (⟨#[]⟩ : ByteArray)]) ?_ 9 _ rfl; (with_reducible repeat (first | refine blk_drewN ?_ _ | refine blk_drew ?_ | refine blk_alloc ?_ _)); refine blk_put (cs := #[.string t101, .string t102, .string t103, .int .i64 t104, .int .i64 t105, .int .i64 t106, .int .i64 t107, .int .i64 t108, .int .u8 0, .string (⟨#[]⟩ : ByteArray), .string (⟨#[]⟩ : ByteArray)]) ?_ 8 _ rfl; (with_reducible repeat (first | refine blk_drewN ?_ _ | refine blk_drew ?_ | refine blk_alloc ?_ _)); refine blk_put (cs := #[.string t101, .string t102, .string t103, .int .i64 t104, .int .i64 t105, .int .i64 t106, .int .i64 t107, .int .i64 0, .int .u8 0, .string (⟨#[]⟩ : ByteArray), .string (⟨#[]⟩ : ByteArray)]) ?_ 7 _ rfl; (with_reducible repeat (first | refine blk_drewN ?_ _ | refine blk_drew ?_ | refine blk_alloc ?_ _)); refine blk_put (cs := #[.string t101, .string t102, .string t103, .int .i64 t104, .int .i64 t105, .int .i64 t106, .int .i64 0, .int .i64 0, .int .u8 0, .string (⟨#[]⟩ : ByteArray), .string (⟨#[]⟩ : ByteArray)]) ?_ 6 _ rfl; (with_reducible repeat (first | refine blk_drewN ?_ _ | refine blk_drew ?_ | refine blk_alloc ?_ _)); refine blk_put (cs := #[.string t101, .string t102, .string t103, .int .i64 t104, .int .i64 t105, .int .i64 0, .int .i64 0, .int .i64 0, .int .u8 0, .string (⟨#[]⟩ : ByteArray), .string (⟨#[]⟩ : ByteArray)]) ?_ 5 _ rfl; (with_reducible repeat (first | refine blk_drewN ?_ _ | refine blk_drew ?_ | refine blk_alloc ?_ _)); refine blk_put (cs := #[.string t101, .string t102, .string t103, .int .i64 t104, .int .i64 0, .int .i64 0, .int .i64 0, .int .i64 0, .int .u8 0, .string (⟨#[]⟩ : ByteArray), .string (⟨#[]⟩ : ByteArray)]) ?_ 4 _ rfl; (with_reducible repeat (first | refine blk_drewN ?_ _ | refine blk_drew ?_ | refine blk_alloc ?_ _)); refine blk_put (cs := #[.string t101, .string t102, .string t103, .int .i64 0, .int .i64 0, .int .i64 0, .int .i64 0, .int .i64 0, .int .u8 0, .string (⟨#[]⟩ : ByteArray), .string (⟨#[]⟩ : ByteArray)]) ?_ 3 _ rfl; (with_reducible repeat (first | refine blk_drewN ?_ _ | refine blk_drew ?_ | refine blk_alloc ?_ _)); refine blk_put (cs := #[.string t101, .string t102, .string (⟨#[]⟩ : ByteArray), .int .i64 0, .int .i64 0, .int .i64 0, .int .i64 0, .int .i64 0, .int .u8 0, .string (⟨#[]⟩ : ByteArray), .string (⟨#[]⟩ : ByteArray)]) ?_ 2 _ rfl; (with_reducible repeat (first | refine blk_drewN ?_ _ | refine blk_drew ?_ | refine blk_alloc ?_ _)); refine blk_put (cs := #[.string t101, .string (⟨#[]⟩ : ByteArray), .string (⟨#[]⟩ : ByteArray), .int .i64 0, .int .i64 0, .int .i64 0, .int .i64 0, .int .i64 0, .int .u8 0, .string (⟨#[]⟩ : ByteArray), .string (⟨#[]⟩ : ByteArray)]) ?_ 1 _ rfl; (with_reducible repeat (first | refine blk_drewN ?_ _ | refine blk_drew ?_ | refine blk_alloc ?_ _)); refine blk_put (cs := #[.string (⟨#[]⟩ : ByteArray), .string (⟨#[]⟩ : ByteArray), .string (⟨#[]⟩ : ByteArray), .int .i64 0, .int .i64 0, .int .i64 0, .int .i64 0, .int .i64 0, .int .u8 0, .string (⟨#[]⟩ : ByteArray), .string (⟨#[]⟩ : ByteArray)]) ?_ 0 _ rfl; (with_reducible repeat (first | refine blk_drewN ?_ _ | refine blk_drew ?_ | refine blk_alloc ?_ _)); exact BK113.out) hb); have n1_ := Aside0.mk (below_step (by repeat (first | (with_reducible first | exact HB.out | apply below_alloc | apply pw_below_drewN | apply below_drew1 | refine below_set ?_ GE113.out) | exact HB.out)) hb); clear BK113; clear HB; have BK113 := n0_; have HB := n1_; clear n0_ n1_; (try clear hb); (try clear hb2); (try clear hk); (try clear hi)) | ((with_reducible refine gate_dst (N := 5) rfl ?_); refine box_event ?hg (N := 5) ?hd (cs := #[.string (⟨#[]⟩ : ByteArray), .string (⟨#[]⟩ : ByteArray), .string (⟨#[]⟩ : ByteArray), .int .i64 0, .int .i64 0, .int .i64 0, .int .i64 0, .int .i64 0, .int .u8 0, .string (⟨#[]⟩ : ByteArray), .string (⟨#[]⟩ : ByteArray)]) (t := 23) ?hr ?_; (case hd => rfl); (case hg => rfl); (case hr => first | (go_simp; done) | (go_simp; rfl)); intro gb126 hg w9 hbox hb; have n0_ := Aside0.mk (blk_below (g := gb113) (o := .cells #[.string t101, .string t102, .string t103, .int .i64 t104, .int .i64 t105, .int .i64 t106, .int .i64 t107, .int .i64 t108, .int .u8 t109, .string t110, .string t111] 23 (0, 0)) (by (with_reducible repeat (first | refine blk_drewN ?_ _ | refine blk_drew ?_ | refine blk_alloc ?_ _)); exact BK113.out) hb); have n1_ := Aside0.mk (below_step (by repeat (first | (with_reducible first | exact HB.out | apply below_alloc | apply pw_below_drewN | apply below_drew1 | refine below_set ?_ GE113.out) | exact HB.out)) hb); have n2_ := Aside0.mk (hbox); have n3_ := Aside0.mk ((by rw [hg]; exact (below_size (by repeat (first | (with_reducible first | exact HB.out | apply below_alloc | apply pw_below_drewN | apply below_drew1 | refine below_set ?_ GE113.out) | exact HB.out))) : w.heap.size ≤ gb126)); have n4_ := Aside0.mk ((by rw [hg]; exact (below_size (by repeat (first | (with_reducible first | exact HB.out | apply below_alloc | apply pw_below_drewN | apply below_drew1 | refine below_set ?_ GE113.out) | exact HB.out))) : w.heap.size ≤ gb126)); have n5_ := Aside0.mk ((by rw [hg]; exact Nat.ne_of_lt (blk_lt (g := gb113) (o := .cells #[.string t101, .string t102, .string t103, .int .i64 t104, .int .i64 t105, .int .i64 t106, .int .i64 t107, .int .i64 t108, .int .u8 t109, .string t110, .string t111] 23 (0, 0)) (by (with_reducible repeat (first | refine blk_drewN ?_ _ | refine blk_drew ?_ | refine blk_alloc ?_ _)); exact BK113.out)) : gb113 ≠ gb126)); have n6_ := Aside0.mk ((by rw [hg]; exact Nat.ne_of_gt (blk_lt (g := gb113) (o := .cells #[.string t101, .string t102, .string t103, .int .i64 t104, .int .i64 t105, .int .i64 t106, .int .i64 t107, .int .i64 t108, .int .u8 t109, .string t110, .string t111] 23 (0, 0)) (by (with_reducible repeat (first | refine blk_drewN ?_ _ | refine blk_drew ?_ | refine blk_alloc ?_ _)); exact BK113.out)) : gb126 ≠ gb113)); clear BK113; clear HB; have BK113 := n0_; have HB := n1_; have BK126 := n2_; have GW126 := n3_; have GE126 := n4_; have NB113_126 := n5_; have NB126_113 := n6_; clear n0_ n1_ n2_ n3_ n4_ n5_ n6_; clear hb hbox hg; have hnb10 := NB126_113.out; have hnc10 := NB113_126.out; have hcz11_0 : w9.cell? ⟨gb126, 0, none⟩ = some (.string (⟨#[]⟩ : ByteArray)) := (blk_cell BK126.out 0).trans rfl; have hcz11_1 : w9.cell? ⟨gb126, 1, none⟩ = some (.string (⟨#[]⟩ : ByteArray)) := (blk_cell BK126.out 1).trans rfl; have hcz11_2 : w9.cell? ⟨gb126, 2, none⟩ = some (.string (⟨#[]⟩ : ByteArray)) := (blk_cell BK126.out 2).trans rfl; have hcz11_3 : w9.cell? ⟨gb126, 3, none⟩ = some (.int .i64 0) := (blk_cell BK126.out 3).trans rfl; have hcz11_4 : w9.cell? ⟨gb126, 4, none⟩ = some (.int .i64 0) := (blk_cell BK126.out 4).trans rfl; have hcz11_5 : w9.cell? ⟨gb126, 5, none⟩ = some (.int .i64 0) := (blk_cell BK126.out 5).trans rfl; have hcz11_6 : w9.cell? ⟨gb126, 6, none⟩ = some (.int .i64 0) := (blk_cell BK126.out 6).trans rfl; have hcz11_7 : w9.cell? ⟨gb126, 7, none⟩ = some (.int .i64 0) := (blk_cell BK126.out 7).trans rfl; have hcz11_8 : w9.cell? ⟨gb126, 8, none⟩ = some (.int .u8 0) := (blk_cell BK126.out 8).trans rfl; have hcz11_9 : w9.cell? ⟨gb126, 9, none⟩ = some (.string (⟨#[]⟩ : ByteArray)) := (blk_cell BK126.out 9).trans rfl; have hcz11_10 : w9.cell? ⟨gb126, 10, none⟩ = some (.string (⟨#[]⟩ : ByteArray)) := (blk_cell BK126.out 10).trans rfl; have hfz11_0 := blk_frozen BK126.out 0; have hfz11_1 := blk_frozen BK126.out 1; have hfz11_2 := blk_frozen BK126.out 2; have hfz11_3 := blk_frozen BK126.out 3; have hfz11_4 := blk_frozen BK126.out 4; have hfz11_5 := blk_frozen BK126.out 5; have hfz11_6 := blk_frozen BK126.out 6; have hfz11_7 := blk_frozen BK126.out 7; have hfz11_8 := blk_frozen BK126.out 8; have hfz11_9 := blk_frozen BK126.out 9; have hfz11_10 := blk_frozen BK126.out 10; have hcz12_0 : w9.cell? ⟨gb113, 0, none⟩ = some (.string t101) := (blk_cell BK113.out 0).trans rfl; have hcz12_1 : w9.cell? ⟨gb113, 1, none⟩ = some (.string t102) := (blk_cell BK113.out 1).trans rfl; have hcz12_2 : w9.cell? ⟨gb113, 2, none⟩ = some (.string t103) := (blk_cell BK113.out 2).trans rfl; have hcz12_3 : w9.cell? ⟨gb113, 3, none⟩ = some (.int .i64 t104) := (blk_cell BK113.out 3).trans rfl; have hcz12_4 : w9.cell? ⟨gb113, 4, none⟩ = some (.int .i64 t105) := (blk_cell BK113.out 4).trans rfl; have hcz12_5 : w9.cell? ⟨gb113, 5, none⟩ = some (.int .i64 t106) := (blk_cell BK113.out 5).trans rfl; have hcz12_6 : w9.cell? ⟨gb113, 6, none⟩ = some (.int .i64 t107) := (blk_cell BK113.out 6).trans rfl; have hcz12_7 : w9.cell? ⟨gb113, 7, none⟩ = some (.int .i64 t108) := (blk_cell BK113.out 7).trans rfl; have hcz12_8 : w9.cell? ⟨gb113, 8, none⟩ = some (.int .u8 t109) := (blk_cell BK113.out 8).trans rfl; have hcz12_9 : w9.cell? ⟨gb113, 9, none⟩ = some (.string t110) := (blk_cell BK113.out 9).trans rfl; have hcz12_10 : w9.cell? ⟨gb113, 10, none⟩ = some (.string t111) := (blk_cell BK113.out 10).trans rfl; have hfz12_0 := blk_frozen BK113.out 0; have hfz12_1 := blk_frozen BK113.out 1; have hfz12_2 := blk_frozen BK113.out 2; have hfz12_3 := blk_frozen BK113.out 3; have hfz12_4 := blk_frozen BK113.out 4; have hfz12_5 := blk_frozen BK113.out 5; have hfz12_6 := blk_frozen BK113.out 6; have hfz12_7 := blk_frozen BK113.out 7; have hfz12_8 := blk_frozen BK113.out 8; have hfz12_9 := blk_frozen BK113.out 9; have hfz12_10 := blk_frozen BK113.out 10))
  go_ret
  exact ⟨by first | rfl | (simp [errW_none, errW_some] <;> rfl) | (simp [*, errW_none, errW_some] <;> rfl), by repeat (first | (with_reducible first | exact HB.out | apply below_alloc | apply pw_below_drewN | apply below_drew1 | refine below_set ?_ GE113.out | refine below_set ?_ GE126.out) | exact HB.out)⟩
 ·rw [if_neg c4] at H
  have c4b0 : (t101.toList == t114.toList && (t102.toList == t115.toList && (t103.toList == t116.toList && (t104 == t117 && (t105 == t118 && (t106 == t119 && (t107 == t120 && (t108 == t121 && (t109 == t122 && (t110.toList == t123.toList && (t111.toList == t124.toList))))))))))) = false := by simpa using c4
  (try (have c4b1 : decide (t101.toList = t114.toList && (t102.toList == t115.toList && (t103.toList == t116.toList && (t104 == t117 && (t105 == t118 && (t106 == t119 && (t107 == t120 && (t108 == t121 && (t109 == t122 && (t110.toList == t123.toList && (t111.toList == t124.toList))))))))))) = false := by simpa using c4))
  (try (have c4b2 : (t101.toList == t114.toList && (t102.toList == t115.toList && (t103.toList == t116.toList && (t104 == t117 && (t105 == t118 && (t106 == t119 && (t107 == t120 && (t108 == t121 && (t109 == t122 && (t110.toList == t123.toList && (t111.toList == t124.toList))))))))))) = false := by simpa using c4))
  (try (have c4b3 : ¬ (t101.toList = t114.toList && (t102.toList == t115.toList && (t103.toList == t116.toList && (t104 == t117 && (t105 == t118 && (t106 == t119 && (t107 == t120 && (t108 == t121 && (t109 == t122 && (t110.toList == t123.toList && (t111.toList == t124.toList))))))))))) := by simpa using c4))
  clear c4
  obtain rfl := Option.some.inj H
  go_enter Tryd.func3, Tryd.ntmps3
  go_wp2_with (first | ((with_reducible refine gate_callee (f := 9) rfl ?_); refine goesL_ (some 9) rfl rfl Tryd.func9 (by kernel_rfl) rfl #[.string a0] rfl (by (try simp only [List.map_toArray, List.map_cons, List.map_nil]); first | done | rfl | (simp only [List.length_drop, List.length_take]; rfl)) ?_; (with_reducible refine (head_Read.calls k a0 t101 t102 t103 t104 t105 t106 t107 t108 t109 t110 t111 t112 _ A2.out).mono ?_); rintro e w13 ⟨rfl, hb⟩; refine ⟨_, rfl, ?_⟩; have n0_ := Aside0.mk (below_step (by repeat (first | (with_reducible first | exact HB.out | apply below_alloc | apply pw_below_drewN | apply below_drew1) | exact HB.out)) hb); clear HB; have HB := n0_; clear n0_; (try clear hb); (try clear hb2); (try clear hk); (try clear hi)) | ((with_reducible refine gate_dst (N := 3) rfl ?_); refine box_event ?hg (N := 3) ?hd (cs := #[.string (⟨#[]⟩ : ByteArray), .string (⟨#[]⟩ : ByteArray), .string (⟨#[]⟩ : ByteArray), .int .i64 0, .int .i64 0, .int .i64 0, .int .i64 0, .int .i64 0, .int .u8 0, .string (⟨#[]⟩ : ByteArray), .string (⟨#[]⟩ : ByteArray)]) (t := 23) ?hr ?_; (case hd => rfl); (case hg => rfl); (case hr => first | (go_simp; done) | (go_simp; rfl)); intro gb113 hg w14 hbox hb; have n0_ := Aside0.mk (below_step (by repeat (first | (with_reducible first | exact HB.out | apply below_alloc | apply pw_below_drewN | apply below_drew1) | exact HB.out)) hb); have n1_ := Aside0.mk (hbox); have n2_ := Aside0.mk ((by rw [hg]; exact (below_size (by repeat (first | (with_reducible first | exact HB.out | apply below_alloc | apply pw_below_drewN | apply below_drew1) | exact HB.out))) : w.heap.size ≤ gb113)); have n3_ := Aside0.mk ((by rw [hg]; exact (below_size (by repeat (first | (with_reducible first | exact HB.out | apply below_alloc | apply pw_below_drewN | apply below_drew1) | exact HB.out))) : w.heap.size ≤ gb113)); clear HB; have HB := n0_; have BK113 := n1_; have GW113 := n2_; have GE113 := n3_; clear n0_ n1_ n2_ n3_; clear hb hbox hg; have hcz15_0 : w14.cell? ⟨gb113, 0, none⟩ = some (.string (⟨#[]⟩ : ByteArray)) := (blk_cell BK113.out 0).trans rfl; have hcz15_1 : w14.cell? ⟨gb113, 1, none⟩ = some (.string (⟨#[]⟩ : ByteArray)) := (blk_cell BK113.out 1).trans rfl; have hcz15_2 : w14.cell? ⟨gb113, 2, none⟩ = some (.string (⟨#[]⟩ : ByteArray)) := (blk_cell BK113.out 2).trans rfl; have hcz15_3 : w14.cell? ⟨gb113, 3, none⟩ = some (.int .i64 0) := (blk_cell BK113.out 3).trans rfl; have hcz15_4 : w14.cell? ⟨gb113, 4, none⟩ = some (.int .i64 0) := (blk_cell BK113.out 4).trans rfl; have hcz15_5 : w14.cell? ⟨gb113, 5, none⟩ = some (.int .i64 0) := (blk_cell BK113.out 5).trans rfl; have hcz15_6 : w14.cell? ⟨gb113, 6, none⟩ = some (.int .i64 0) := (blk_cell BK113.out 6).trans rfl; have hcz15_7 : w14.cell? ⟨gb113, 7, none⟩ = some (.int .i64 0) := (blk_cell BK113.out 7).trans rfl; have hcz15_8 : w14.cell? ⟨gb113, 8, none⟩ = some (.int .u8 0) := (blk_cell BK113.out 8).trans rfl; have hcz15_9 : w14.cell? ⟨gb113, 9, none⟩ = some (.string (⟨#[]⟩ : ByteArray)) := (blk_cell BK113.out 9).trans rfl; have hcz15_10 : w14.cell? ⟨gb113, 10, none⟩ = some (.string (⟨#[]⟩ : ByteArray)) := (blk_cell BK113.out 10).trans rfl; have hfz15_0 := blk_frozen BK113.out 0; have hfz15_1 := blk_frozen BK113.out 1; have hfz15_2 := blk_frozen BK113.out 2; have hfz15_3 := blk_frozen BK113.out 3; have hfz15_4 := blk_frozen BK113.out 4; have hfz15_5 := blk_frozen BK113.out 5; have hfz15_6 := blk_frozen BK113.out 6; have hfz15_7 := blk_frozen BK113.out 7; have hfz15_8 := blk_frozen BK113.out 8; have hfz15_9 := blk_frozen BK113.out 9; have hfz15_10 := blk_frozen BK113.out 10) | ((with_reducible refine gate_callee (f := 10) rfl ?_); refine goesL_ (some 14) rfl rfl Tryd.func10 (by kernel_rfl) rfl #[.string a0] rfl (by (try simp only [List.map_toArray, List.map_cons, List.map_nil]); first | done | rfl | (simp only [List.length_drop, List.length_take]; rfl)) ?_; (with_reducible refine (creelref_HeadOf.calls k a0 t114 t115 t116 t117 t118 t119 t120 t121 t122 t123 t124 t125 _ A3.out).mono ?_); rintro e w16 ⟨rfl, hb⟩; refine ⟨_, rfl, ?_⟩; have n0_ := Aside0.mk (blk_below (g := gb113) (o := .cells #[.string t101, .string t102, .string t103, .int .i64 t104, .int .i64 t105, .int .i64 t106, .int .i64 t107, .int .i64 t108, .int .u8 t109, .string t110, .string t111] 23 (0, 0)) (by (with_reducible repeat (first | refine blk_drewN ?_ _ | refine blk_drew ?_ | refine blk_alloc ?_ _)); refine blk_put (cs := #[.string t101, .string t102, .string t103, .int .i64 t104, .int .i64 t105, .int .i64 t106, .int .i64 t107, .int .i64 t108, .int .u8 t109, .string t110, .string (⟨#[]⟩ : ByteArray)]) ?_ 10 _ rfl; (with_reducible repeat (first | refine blk_drewN ?_ _ | refine blk_drew ?_ | refine blk_alloc ?_ _)); refine blk_put (cs := #[.string t101, .string t102, .string t103, .int .i64 t104, .int .i64 t105, .int .i64 t106, .int .i64 t107, .int .i64 t108, .int .u8 t109, .string (⟨#[]⟩ : ByteArray), .string (⟨#[]⟩ : ByteArray)]) ?_ 9 _ rfl; (with_reducible repeat (first | refine blk_drewN ?_ _ | refine blk_drew ?_ | refine blk_alloc ?_ _)); refine blk_put (cs := #[.string t101, .string t102, .string t103, .int .i64 t104, .int .i64 t105, .int .i64 t106, .int .i64 t107, .int .i64 t108, .int .u8 0, .string (⟨#[]⟩ : ByteArray), .string (⟨#[]⟩ : ByteArray)]) ?_ 8 _ rfl; (with_reducible repeat (first | refine blk_drewN ?_ _ | refine blk_drew ?_ | refine blk_alloc ?_ _)); refine blk_put (cs := #[.string t101, .string t102, .string t103, .int .i64 t104, .int .i64 t105, .int .i64 t106, .int .i64 t107, .int .i64 0, .int .u8 0, .string (⟨#[]⟩ : ByteArray), .string (⟨#[]⟩ : ByteArray)]) ?_ 7 _ rfl; (with_reducible repeat (first | refine blk_drewN ?_ _ | refine blk_drew ?_ | refine blk_alloc ?_ _)); refine blk_put (cs := #[.string t101, .string t102, .string t103, .int .i64 t104, .int .i64 t105, .int .i64 t106, .int .i64 0, .int .i64 0, .int .u8 0, .string (⟨#[]⟩ : ByteArray), .string (⟨#[]⟩ : ByteArray)]) ?_ 6 _ rfl; (with_reducible repeat (first | refine blk_drewN ?_ _ | refine blk_drew ?_ | refine blk_alloc ?_ _)); refine blk_put (cs := #[.string t101, .string t102, .string t103, .int .i64 t104, .int .i64 t105, .int .i64 0, .int .i64 0, .int .i64 0, .int .u8 0, .string (⟨#[]⟩ : ByteArray), .string (⟨#[]⟩ : ByteArray)]) ?_ 5 _ rfl; (with_reducible repeat (first | refine blk_drewN ?_ _ | refine blk_drew ?_ | refine blk_alloc ?_ _)); refine blk_put (cs := #[.string t101, .string t102, .string t103, .int .i64 t104, .int .i64 0, .int .i64 0, .int .i64 0, .int .i64 0, .int .u8 0, .string (⟨#[]⟩ : ByteArray), .string (⟨#[]⟩ : ByteArray)]) ?_ 4 _ rfl; (with_reducible repeat (first | refine blk_drewN ?_ _ | refine blk_drew ?_ | refine blk_alloc ?_ _)); refine blk_put (cs := #[.string t101, .string t102, .string t103, .int .i64 0, .int .i64 0, .int .i64 0, .int .i64 0, .int .i64 0, .int .u8 0, .string (⟨#[]⟩ : ByteArray), .string (⟨#[]⟩ : ByteArray)]) ?_ 3 _ rfl; (with_reducible repeat (first | refine blk_drewN ?_ _ | refine blk_drew ?_ | refine blk_alloc ?_ _)); refine blk_put (cs := #[.string t101, .string t102, .string (⟨#[]⟩ : ByteArray), .int .i64 0, .int .i64 0, .int .i64 0, .int .i64 0, .int .i64 0, .int .u8 0, .string (⟨#[]⟩ : ByteArray), .string (⟨#[]⟩ : ByteArray)]) ?_ 2 _ rfl; (with_reducible repeat (first | refine blk_drewN ?_ _ | refine blk_drew ?_ | refine blk_alloc ?_ _)); refine blk_put (cs := #[.string t101, .string (⟨#[]⟩ : ByteArray), .string (⟨#[]⟩ : ByteArray), .int .i64 0, .int .i64 0, .int .i64 0, .int .i64 0, .int .i64 0, .int .u8 0, .string (⟨#[]⟩ : ByteArray), .string (⟨#[]⟩ : ByteArray)]) ?_ 1 _ rfl; (with_reducible repeat (first | refine blk_drewN ?_ _ | refine blk_drew ?_ | refine blk_alloc ?_ _)); refine blk_put (cs := #[.string (⟨#[]⟩ : ByteArray), .string (⟨#[]⟩ : ByteArray), .string (⟨#[]⟩ : ByteArray), .int .i64 0, .int .i64 0, .int .i64 0, .int .i64 0, .int .i64 0, .int .u8 0, .string (⟨#[]⟩ : ByteArray), .string (⟨#[]⟩ : ByteArray)]) ?_ 0 _ rfl; (with_reducible repeat (first | refine blk_drewN ?_ _ | refine blk_drew ?_ | refine blk_alloc ?_ _)); exact BK113.out) hb); have n1_ := Aside0.mk (below_step (by repeat (first | (with_reducible first | exact HB.out | apply below_alloc | apply pw_below_drewN | apply below_drew1 | refine below_set ?_ GE113.out) | exact HB.out)) hb); clear BK113; clear HB; have BK113 := n0_; have HB := n1_; clear n0_ n1_; (try clear hb); (try clear hb2); (try clear hk); (try clear hi)) | ((with_reducible refine gate_dst (N := 5) rfl ?_); refine box_event ?hg (N := 5) ?hd (cs := #[.string (⟨#[]⟩ : ByteArray), .string (⟨#[]⟩ : ByteArray), .string (⟨#[]⟩ : ByteArray), .int .i64 0, .int .i64 0, .int .i64 0, .int .i64 0, .int .i64 0, .int .u8 0, .string (⟨#[]⟩ : ByteArray), .string (⟨#[]⟩ : ByteArray)]) (t := 23) ?hr ?_; (case hd => rfl); (case hg => rfl); (case hr => first | (go_simp; done) | (go_simp; rfl)); intro gb126 hg w17 hbox hb; have n0_ := Aside0.mk (blk_below (g := gb113) (o := .cells #[.string t101, .string t102, .string t103, .int .i64 t104, .int .i64 t105, .int .i64 t106, .int .i64 t107, .int .i64 t108, .int .u8 t109, .string t110, .string t111] 23 (0, 0)) (by (with_reducible repeat (first | refine blk_drewN ?_ _ | refine blk_drew ?_ | refine blk_alloc ?_ _)); exact BK113.out) hb); have n1_ := Aside0.mk (below_step (by repeat (first | (with_reducible first | exact HB.out | apply below_alloc | apply pw_below_drewN | apply below_drew1 | refine below_set ?_ GE113.out) | exact HB.out)) hb); have n2_ := Aside0.mk (hbox); have n3_ := Aside0.mk ((by rw [hg]; exact (below_size (by repeat (first | (with_reducible first | exact HB.out | apply below_alloc | apply pw_below_drewN | apply below_drew1 | refine below_set ?_ GE113.out) | exact HB.out))) : w.heap.size ≤ gb126)); have n4_ := Aside0.mk ((by rw [hg]; exact (below_size (by repeat (first | (with_reducible first | exact HB.out | apply below_alloc | apply pw_below_drewN | apply below_drew1 | refine below_set ?_ GE113.out) | exact HB.out))) : w.heap.size ≤ gb126)); have n5_ := Aside0.mk ((by rw [hg]; exact Nat.ne_of_lt (blk_lt (g := gb113) (o := .cells #[.string t101, .string t102, .string t103, .int .i64 t104, .int .i64 t105, .int .i64 t106, .int .i64 t107, .int .i64 t108, .int .u8 t109, .string t110, .string t111] 23 (0, 0)) (by (with_reducible repeat (first | refine blk_drewN ?_ _ | refine blk_drew ?_ | refine blk_alloc ?_ _)); exact BK113.out)) : gb113 ≠ gb126)); have n6_ := Aside0.mk ((by rw [hg]; exact Nat.ne_of_gt (blk_lt (g := gb113) (o := .cells #[.string t101, .string t102, .string t103, .int .i64 t104, .int .i64 t105, .int .i64 t106, .int .i64 t107, .int .i64 t108, .int .u8 t109, .string t110, .string t111] 23 (0, 0)) (by (with_reducible repeat (first | refine blk_drewN ?_ _ | refine blk_drew ?_ | refine blk_alloc ?_ _)); exact BK113.out)) : gb126 ≠ gb113)); clear BK113; clear HB; have BK113 := n0_; have HB := n1_; have BK126 := n2_; have GW126 := n3_; have GE126 := n4_; have NB113_126 := n5_; have NB126_113 := n6_; clear n0_ n1_ n2_ n3_ n4_ n5_ n6_; clear hb hbox hg; have hnb18 := NB126_113.out; have hnc18 := NB113_126.out; have hcz19_0 : w17.cell? ⟨gb126, 0, none⟩ = some (.string (⟨#[]⟩ : ByteArray)) := (blk_cell BK126.out 0).trans rfl; have hcz19_1 : w17.cell? ⟨gb126, 1, none⟩ = some (.string (⟨#[]⟩ : ByteArray)) := (blk_cell BK126.out 1).trans rfl; have hcz19_2 : w17.cell? ⟨gb126, 2, none⟩ = some (.string (⟨#[]⟩ : ByteArray)) := (blk_cell BK126.out 2).trans rfl; have hcz19_3 : w17.cell? ⟨gb126, 3, none⟩ = some (.int .i64 0) := (blk_cell BK126.out 3).trans rfl; have hcz19_4 : w17.cell? ⟨gb126, 4, none⟩ = some (.int .i64 0) := (blk_cell BK126.out 4).trans rfl; have hcz19_5 : w17.cell? ⟨gb126, 5, none⟩ = some (.int .i64 0) := (blk_cell BK126.out 5).trans rfl; have hcz19_6 : w17.cell? ⟨gb126, 6, none⟩ = some (.int .i64 0) := (blk_cell BK126.out 6).trans rfl; have hcz19_7 : w17.cell? ⟨gb126, 7, none⟩ = some (.int .i64 0) := (blk_cell BK126.out 7).trans rfl; have hcz19_8 : w17.cell? ⟨gb126, 8, none⟩ = some (.int .u8 0) := (blk_cell BK126.out 8).trans rfl; have hcz19_9 : w17.cell? ⟨gb126, 9, none⟩ = some (.string (⟨#[]⟩ : ByteArray)) := (blk_cell BK126.out 9).trans rfl; have hcz19_10 : w17.cell? ⟨gb126, 10, none⟩ = some (.string (⟨#[]⟩ : ByteArray)) := (blk_cell BK126.out 10).trans rfl; have hfz19_0 := blk_frozen BK126.out 0; have hfz19_1 := blk_frozen BK126.out 1; have hfz19_2 := blk_frozen BK126.out 2; have hfz19_3 := blk_frozen BK126.out 3; have hfz19_4 := blk_frozen BK126.out 4; have hfz19_5 := blk_frozen BK126.out 5; have hfz19_6 := blk_frozen BK126.out 6; have hfz19_7 := blk_frozen BK126.out 7; have hfz19_8 := blk_frozen BK126.out 8; have hfz19_9 := blk_frozen BK126.out 9; have hfz19_10 := blk_frozen BK126.out 10; have hcz20_0 : w17.cell? ⟨gb113, 0, none⟩ = some (.string t101) := (blk_cell BK113.out 0).trans rfl; have hcz20_1 : w17.cell? ⟨gb113, 1, none⟩ = some (.string t102) := (blk_cell BK113.out 1).trans rfl; have hcz20_2 : w17.cell? ⟨gb113, 2, none⟩ = some (.string t103) := (blk_cell BK113.out 2).trans rfl; have hcz20_3 : w17.cell? ⟨gb113, 3, none⟩ = some (.int .i64 t104) := (blk_cell BK113.out 3).trans rfl; have hcz20_4 : w17.cell? ⟨gb113, 4, none⟩ = some (.int .i64 t105) := (blk_cell BK113.out 4).trans rfl; have hcz20_5 : w17.cell? ⟨gb113, 5, none⟩ = some (.int .i64 t106) := (blk_cell BK113.out 5).trans rfl; have hcz20_6 : w17.cell? ⟨gb113, 6, none⟩ = some (.int .i64 t107) := (blk_cell BK113.out 6).trans rfl; have hcz20_7 : w17.cell? ⟨gb113, 7, none⟩ = some (.int .i64 t108) := (blk_cell BK113.out 7).trans rfl; have hcz20_8 : w17.cell? ⟨gb113, 8, none⟩ = some (.int .u8 t109) := (blk_cell BK113.out 8).trans rfl; have hcz20_9 : w17.cell? ⟨gb113, 9, none⟩ = some (.string t110) := (blk_cell BK113.out 9).trans rfl; have hcz20_10 : w17.cell? ⟨gb113, 10, none⟩ = some (.string t111) := (blk_cell BK113.out 10).trans rfl; have hfz20_0 := blk_frozen BK113.out 0; have hfz20_1 := blk_frozen BK113.out 1; have hfz20_2 := blk_frozen BK113.out 2; have hfz20_3 := blk_frozen BK113.out 3; have hfz20_4 := blk_frozen BK113.out 4; have hfz20_5 := blk_frozen BK113.out 5; have hfz20_6 := blk_frozen BK113.out 6; have hfz20_7 := blk_frozen BK113.out 7; have hfz20_8 := blk_frozen BK113.out 8; have hfz20_9 := blk_frozen BK113.out 9; have hfz20_10 := blk_frozen BK113.out 10))
  go_ret
  exact ⟨by first | rfl | (simp [errW_none, errW_some] <;> rfl) | (simp [*, errW_none, errW_some] <;> rfl), by repeat (first | (with_reducible first | exact HB.out | apply below_alloc | apply pw_below_drewN | apply below_drew1 | refine below_set ?_ GE113.out | refine below_set ?_ GE126.out) | exact HB.out)⟩

/-- THE ONE PURE STATEMENT of creellaw_HeadReads: yours. -/
def creellaw_HeadReads.Pure : Prop := ∀ (a0 : ByteArray), a0.size ≤ 140737488351232 → ∃ k, creellaw_HeadReads.f k a0 = some true
theorem creellaw_HeadReads.walk (P : creellaw_HeadReads.Pure) (a0 : ByteArray) (w : World) (w0 : a0.size ≤ 140737488351232) :
  Calls Tryd.prog 3 #[.string a0] w fun e w' => e = .returned (.bool true) ∧ Below w.heap.size w w' := by
 obtain ⟨k, h⟩ := P a0 w0
 refine (creellaw_HeadReads.calls k a0 true w h).mono ?_
 rintro e w' ⟨rfl, hd⟩
 exact ⟨rfl, hd⟩

end Go.Proofs.YtodeblpanooomaaDoor.All
end
section
namespace Go.Proofs.YtodeblpanooomaaDoorW.Opens
open Go.RowKit Go.ChangeShapes Go.WideShapes Go.Proofs.YtodeblpanooomaaDoorW.PrintWords

/-- Whatever reads as a datum of type t is a y of kind d, and good. -/
def Opens {α : Type} (P : Program) (t : TypeId) (d : Kd α) (g : α → Prop) : Prop :=
  ∀ (H : Type) (enc : TypeId × Value → H) (w : World) (fuel : Nat) (cs : List Value) (x : DataW H × List MemPlace),
    DataW.trod enc P w 0 (fun _ => true) true fuel t cs = some x → (∀ n ∈ x.1.weights P t, n ≤ reachBytes) → ∃ y, d.K w y cs ∧ g y

/-- The fields of a struct, from one of them on. -/
def OpensF {α : Type} (P : Program) (fs : List Field) (off : Nat) (d : Kd α) (g : α → Prop) : Prop :=
  ∀ (H : Type) (enc : TypeId × Value → H) (w : World) (n : Nat) (cs : List Value) (xs : List (DataW H × List MemPlace)),
    cs.length = off + d.sz → xs.length = fs.length → (∀ (i : Nat) (f : Field), fs[i]? = some f → DataW.trod enc P w 0 (fun _ => true) true n f.type ((cs.drop f.offset).take (P.cellsOf f.type)) = xs[i]?) →
    (∀ m ∈ DataW.weightsEach P (fs.map (·.type)) (xs.map (·.1)), m ≤ reachBytes) → ∃ y, d.K w y (cs.drop off) ∧ g y

end Go.Proofs.YtodeblpanooomaaDoorW.Opens
end
