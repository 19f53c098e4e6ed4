/- Made by programs of the prover: walks of Go functions, the words that they use, and plain laws, each text in a section of its own; no condition of its own. -/
import Derived.Below
import Derived.Test.YtodeblpanooomaaDoorZHeadReads1
import Derived.Test.YtodeblpanooomaaDoorZHeadReads2
import Derived.Test.YtodeblpanooomaaDoorZHeadReads3
section
namespace Go.Proofs.YtodeblpanooomaaDoor.All
open Go.RowKit Go.Proofs.YtodeblpanooomaaDoorW.PrintWords Go.Proofs.YtodeblpanooomaaDoorW.PrintLast Go.Proofs.YtodeblpanooomaaDoorW.PrintMore
open Go.Proofs.YtodeblpanooomaaDoorW.Mine
attribute [local go_sem] gtr_string leq_string geq_string
attribute [local go_sem] max2_int min2_int max_two min_two max_three min_three max_four min_four   -- for this text's walks alone
set_option linter.unusedVariables false
set_option linter.unusedSimpArgs false

/-! ### head_Read: function 9 -/
open Go.Proofs.YtodeblpanooomaaDoorW.MapOwn
def head_Read.body (k : Nat) (a0 : ByteArray) : Option (ByteArray × ByteArray × ByteArray × Int × Int × Int × Int × Int × Int × ByteArray × ByteArray × Int) := (head_eye_text.f a0 0 100 true).bind fun c1 => (head_eye_number.f k c1.2.1 c1.2.2 8).bind fun c2 => (head_eye_number.f k c2.2.1 c2.2.2 8).bind fun c3 => (head_eye_number.f k c3.2.1 c3.2.2 8).bind fun c4 => (head_eye_number.f k c4.2.1 c4.2.2 12).bind fun c5 => (head_eye_number.f k c5.2.1 c5.2.2 12).bind fun c6 => (head_eye_take.f c6.2.1 c6.2.2 8).bind fun c7 => (head_eye_take.f c7.2.1 c7.2.2 1).bind fun c8 => if 0 < c8.1.size then ((strings_IndexByte.f (⟨#[48, 49, 50, 53, 120]⟩ : ByteArray) (bt c8.1 0)).bind fun b => (if b < 0 then (head_eye_note.f c8.2.1 c8.2.2 3) else some (c8.2.1, c8.2.2)).bind fun c9 => (head_eye_text.f c9.1 c9.2 100 true).bind fun c10 => (head_eye_just.f c10.2.1 c10.2.2 (⟨#[117, 115, 116, 97, 114, 0, 48, 48]⟩ : ByteArray)).bind fun c11 => (head_eye_text.f c11.1 c11.2 32 false).bind fun c12 => (head_eye_text.f c12.2.1 c12.2.2 32 false).bind fun c13 => (head_eye_just.f c13.2.1 c13.2.2 (⟨#[48, 48, 48, 48, 48, 48, 48, 0, 48, 48, 48, 48, 48, 48, 48, 0]⟩ : ByteArray)).bind fun c14 => (head_eye_text.f c14.1 c14.2 155 true).bind fun c15 => (strings_Repeat.f (⟨#[0]⟩ : ByteArray) 12).bind fun z => (head_eye_just.f c15.2.1 c15.2.2 z).bind fun c16 => if c16.2 = 0 then some (c1.1, c15.1, c10.1, c2.1, c3.1, c4.1, c5.1, c6.1, bt c8.1 0, c12.1, c13.1, 0) else some ((⟨#[]⟩ : ByteArray), (⟨#[]⟩ : ByteArray), (⟨#[]⟩ : ByteArray), 0, 0, 0, 0, 0, 0, (⟨#[]⟩ : ByteArray), (⟨#[]⟩ : ByteArray), c16.2)) else none
def head_Read.f (k : Nat) (a0 : ByteArray) : Option (ByteArray × ByteArray × ByteArray × Int × Int × Int × Int × Int × Int × ByteArray × ByteArray × Int) := (head_Sum.f k a0).bind fun b1 => if b1.2 = 0 then (if 156 ≤ a0.size then ((octal_Read.f k (a0.extract 148 155)).bind fun b2 => if b2.2 = 0 then (if b2.1 = b1.1 then (if bt a0 155 = 32 then head_Read.body k a0 else some ((⟨#[]⟩ : ByteArray), (⟨#[]⟩ : ByteArray), (⟨#[]⟩ : ByteArray), 0, 0, 0, 0, 0, 0, (⟨#[]⟩ : ByteArray), (⟨#[]⟩ : ByteArray), 8)) else some ((⟨#[]⟩ : ByteArray), (⟨#[]⟩ : ByteArray), (⟨#[]⟩ : ByteArray), 0, 0, 0, 0, 0, 0, (⟨#[]⟩ : ByteArray), (⟨#[]⟩ : ByteArray), 8)) else some ((⟨#[]⟩ : ByteArray), (⟨#[]⟩ : ByteArray), (⟨#[]⟩ : ByteArray), 0, 0, 0, 0, 0, 0, (⟨#[]⟩ : ByteArray), (⟨#[]⟩ : ByteArray), 8)) else none) else some ((⟨#[]⟩ : ByteArray), (⟨#[]⟩ : ByteArray), (⟨#[]⟩ : ByteArray), 0, 0, 0, 0, 0, 0, (⟨#[]⟩ : ByteArray), (⟨#[]⟩ : ByteArray), b1.2)
theorem head_Read.mono_b : ∀ a0 k, LeO (head_Read.body k a0) (head_Read.body (k + 1) a0) := by
 intro a0 k
 unfold head_Read.body
 refine LeO.bind (LeO.refl _) (fun c1 => ?_)
 refine LeO.bind (head_eye_number.mono _ _ _ _) (fun c2 => ?_)
 refine LeO.bind (head_eye_number.mono _ _ _ _) (fun c3 => ?_)
 refine LeO.bind (head_eye_number.mono _ _ _ _) (fun c4 => ?_)
 refine LeO.bind (head_eye_number.mono _ _ _ _) (fun c5 => ?_)
 refine LeO.bind (head_eye_number.mono _ _ _ _) (fun c6 => ?_)
 exact LeO.refl _
theorem head_Read.mono : ∀ a0 k, LeO (head_Read.f k a0) (head_Read.f (k + 1) a0) := by
 intro a0 k
 unfold head_Read.f
 refine LeO.bind (head_Sum.mono _ _) (fun b1 => LeO.ite (LeO.ite (LeO.bind (octal_Read.mono _ _) (fun b2 => LeO.ite (LeO.ite (LeO.ite (head_Read.mono_b _ _) (LeO.refl _)) (LeO.refl _)) (LeO.refl _))) (LeO.none _)) (LeO.refl _))
theorem head_Read.put_step {P : Program} {ops : Array Oper} {o : Oper} {a : Act} {Q : Exit → Act → World → Prop} {Kc : Act → World → Prop} {W : World} (hw : Region.wanted o (yielded ops a.tmps) = true) (hd : o.dst = none) {ty : TypeId} {x y : Operand} (ho : o.op = .store ty x y) {g : Nat} {cells old : Array Value} {t : TypeId} (hx : a.eval x = .pointer (some ⟨g, 0, none⟩)) (hy : a.eval y = .agg cells)
  (hg : W.heap[g]? = some (.cells old t (0, 0))) (hi : (P.info? ty).map (·.size) = some cells.size) (hold : old.size = cells.size) (h1 : cells.toList.all (·.oneCell') = true)
  (h : ∀ W', W'.heap[g]? = some (.cells cells t (0, 0)) → W.grownBy W' (some g) → Kc a W') : if Region.wanted o (yielded ops a.tmps) = true then Oper.wp P o a W Kc Q else Kc (a.put o.dst undef) W := by
 rw [if_pos hw]
 refine wp_store_row ty x y ho g cells hx hy t old hg hi hold (by rw [← h1, Array.all_toList]) ?_
 rw [hd]
 refine h _ (setRow_heap W g old cells t (0, 0) hg) ⟨rfl, rfl, rfl, by simp [World.setRow], fun k hk hne => ?_⟩
 simp only [World.setRow, Array.getElem?_modify]
 rw [if_neg (fun e => hne (by rw [e]))]
def head_Read.zc : Array Value := #[.string (⟨#[]⟩ : ByteArray), .string (⟨#[]⟩ : ByteArray), .string (⟨#[]⟩ : ByteArray), .int .i64 0, .int .i64 0, .int .i64 0, .int .i64 0, .int .i64 0, .int .u8 0, .string (⟨#[]⟩ : ByteArray), .string (⟨#[]⟩ : ByteArray)]
def head_Read.S0 (w W : World) (gr : Nat) : Prop := w.heap.size ≤ gr ∧ W.heap[gr]? = some (.cells #[.string (⟨#[]⟩ : ByteArray), .string (⟨#[]⟩ : ByteArray), .string (⟨#[]⟩ : ByteArray), .int .i64 0, .int .i64 0, .int .i64 0, .int .i64 0, .int .i64 0, .int .u8 0, .string (⟨#[]⟩ : ByteArray), .string (⟨#[]⟩ : ByteArray)] 23 (0, 0)) ∧ Below w.heap.size w W
theorem head_Read.S0.start {w w1 : World} {gr : Nat} (hg : gr = w.heap.size) (hk : w1.heap[gr]? = some (.cells #[.string (⟨#[]⟩ : ByteArray), .string (⟨#[]⟩ : ByteArray), .string (⟨#[]⟩ : ByteArray), .int .i64 0, .int .i64 0, .int .i64 0, .int .i64 0, .int .i64 0, .int .u8 0, .string (⟨#[]⟩ : ByteArray), .string (⟨#[]⟩ : ByteArray)] 23 (0, 0))) (hb : Below w.heap.size w w1) : head_Read.S0 w w1 gr := ⟨by omega, hk, hb⟩
theorem head_Read.S0.drewN {w W : World} {gr : Nat} (h : head_Read.S0 w W gr) (m : Nat) : head_Read.S0 w (W.drewN m) gr := ⟨h.1, h.2.1, pw_below_drewN h.2.2 m⟩
def head_Read.S1 (w W : World) (gr gx : Nat) (s : ByteArray) (e : Int) : Prop := (w.heap.size ≤ gr ∧ gr ≠ gx) ∧ W.heap[gr]? = some (.cells #[.string (⟨#[]⟩ : ByteArray), .string (⟨#[]⟩ : ByteArray), .string (⟨#[]⟩ : ByteArray), .int .i64 0, .int .i64 0, .int .i64 0, .int .i64 0, .int .i64 0, .int .u8 0, .string (⟨#[]⟩ : ByteArray), .string (⟨#[]⟩ : ByteArray)] 23 (0, 0)) ∧ IsS57 w W gx s e ∧ Below w.heap.size w W
theorem head_Read.S1.start {w W W' : World} {gr gx : Nat} {s : ByteArray} {e : Int} (h : head_Read.S0 w W gr) (hg : gx = W.heap.size) (hk : W'.heap[gx]? = some (.cells #[.string s, .int .i64 e] 57 (0, 0))) (hb : Below W.heap.size W W') : head_Read.S1 w W' gr gx s e := by
 obtain ⟨h1, h2, h3⟩ := h
 have hlt := blk_lt h2
 have hz := h3.size
 exact ⟨⟨h1, by omega⟩, blk_below h2 hb, ⟨hk, by omega⟩, below_step h3 hb⟩
theorem head_Read.S1.eye {w W W' : World} {gr gx : Nat} {s s' : ByteArray} {e e' : Int} (h : head_Read.S1 w W gr gx s e) (hi : IsS57 w W' gx s' e') (hb : Below w.heap.size w W') (hk : KeepBut W W' gx none) : head_Read.S1 w W' gr gx s' e' :=
 ⟨h.1, hk.blk h.2.1 h.1.2 (by simp), hi, hb⟩
theorem head_Read.S1.ex {w W : World} {gr gx : Nat} {s : ByteArray} {e : Int} (h : head_Read.S1 w W gr gx s e) : IsS57 w W gx s e := h.2.2.1
theorem head_Read.S1.eb {w W : World} {gr gx : Nat} {s : ByteArray} {e : Int} (h : head_Read.S1 w W gr gx s e) : Below w.heap.size w W := h.2.2.2
/-- What the walk holds: the result's block, the head's, the eye's. -/
def head_Read.St (w W : World) (gr gh gx : Nat) (H : Array Value) (s : ByteArray) (e : Int) : Prop := (w.heap.size ≤ gr ∧ w.heap.size ≤ gh ∧ gr ≠ gh ∧ gr ≠ gx ∧ gh ≠ gx) ∧ W.heap[gr]? = some (.cells #[.string (⟨#[]⟩ : ByteArray), .string (⟨#[]⟩ : ByteArray), .string (⟨#[]⟩ : ByteArray), .int .i64 0, .int .i64 0, .int .i64 0, .int .i64 0, .int .i64 0, .int .u8 0, .string (⟨#[]⟩ : ByteArray), .string (⟨#[]⟩ : ByteArray)] 23 (0, 0)) ∧ W.heap[gh]? = some (.cells H 23 (0, 0)) ∧ IsS57 w W gx s e ∧ Below w.heap.size w W
theorem head_Read.St.ex {w W : World} {gr gh gx : Nat} {H : Array Value} {s : ByteArray} {e : Int} (h : head_Read.St w W gr gh gx H s e) : IsS57 w W gx s e := h.2.2.2.1
theorem head_Read.St.eb {w W : World} {gr gh gx : Nat} {H : Array Value} {s : ByteArray} {e : Int} (h : head_Read.St w W gr gh gx H s e) : Below w.heap.size w W := h.2.2.2.2
theorem head_Read.St.start {w W W' : World} {gr gx gh : Nat} {H : Array Value} {s : ByteArray} {e : Int} (h : head_Read.S1 w W gr gx s e) (hg : gh = W.heap.size) (hk : W'.heap[gh]? = some (.cells H 23 (0, 0))) (hb : Below W.heap.size W W') : head_Read.St w W' gr gh gx H s e := by
 obtain ⟨⟨h1, h4⟩, h2, h5, h3⟩ := h
 have hlt := blk_lt h2
 have hlx := blk_lt h5.1
 have hz := h3.size
 exact ⟨⟨h1, by omega, by omega, h4, by omega⟩, blk_below h2 hb, hk, h5.below hb, below_step h3 hb⟩
theorem head_Read.St.eye {w W W' : World} {gr gh gx : Nat} {H : Array Value} {s s' : ByteArray} {e e' : Int} (h : head_Read.St w W gr gh gx H s e) (hi : IsS57 w W' gx s' e') (hb : Below w.heap.size w W') (hk : KeepBut W W' gx none) : head_Read.St w W' gr gh gx H s' e' :=
 ⟨h.1, hk.blk h.2.1 h.1.2.2.2.1 (by simp), hk.blk h.2.2.1 h.1.2.2.2.2 (by simp), hi, hb⟩
theorem head_Read.St.set {w W : World} {gr gh gx : Nat} {H H' : Array Value} {s : ByteArray} {e : Int} (h : head_Read.St w W gr gh gx H s e) (i : Nat) (v : Value) (he : H.setIfInBounds i v = H') : head_Read.St w (W.setCell ⟨gh, i, none⟩ v) gr gh gx H' s e :=
 ⟨h.1, blk_far h.2.1 (p := ⟨gh, i, none⟩) h.1.2.2.1 v, blk_put h.2.2.1 i v he, h.2.2.2.1.far (p := ⟨gh, i, none⟩) (fun e => h.1.2.2.2.2 e.symm) v, h.2.2.2.2.setCell (p := ⟨gh, i, none⟩) h.1.2.1 v⟩
theorem head_Read.St.step {w W W' : World} {gr gh gx : Nat} {H : Array Value} {s : ByteArray} {e : Int} (h : head_Read.St w W gr gh gx H s e) (hb : Below W.heap.size W W') : head_Read.St w W' gr gh gx H s e :=
 ⟨h.1, blk_below h.2.1 hb, blk_below h.2.2.1 hb, h.2.2.2.1.below hb, below_step h.2.2.2.2 hb⟩
theorem head_Read.St.drewN {w W : World} {gr gh gx : Nat} {H : Array Value} {s : ByteArray} {e : Int} (h : head_Read.St w W gr gh gx H s e) (m : Nat) : head_Read.St w (W.drewN m) gr gh gx H s e := h.step (pw_below_drewN (Below.refl _ _) m)
theorem head_Read.St.put {w W W' : World} {gr gh gx : Nat} {H H' : Array Value} {s : ByteArray} {e : Int} (h : head_Read.St w W gr gh gx H s e) (hk : W'.heap[gh]? = some (.cells H' 23 (0, 0))) (hg : W.grownBy W' (some gh)) : head_Read.St w W' gr gh gx H' s e := by
 have hl := blk_lt h.2.2.1
 exact ⟨h.1, blk_grown h.2.1 hg (by simp [h.1.2.2.1]), hk, h.2.2.2.1.grown hg (fun e => h.1.2.2.2.2 (Option.some.inj e).symm), below_grown h.2.2.2.2 hg h.1.2.1 hl⟩
set_option maxHeartbeats 8000000 in
set_option maxRecDepth 100000 in
theorem head_Read.calls (k : Nat) (a0 : ByteArray) (r1 : ByteArray) (r2 : ByteArray) (r3 : ByteArray) (r4 : Int) (r5 : Int) (r6 : Int) (r7 : Int) (r8 : Int) (r9 : Int) (r10 : ByteArray) (r11 : ByteArray) (r12 : Int) (w : World) (h : head_Read.f k a0 = some (r1, r2, r3, r4, r5, r6, r7, r8, r9, r10, r11, r12)) :
  Calls Tryd.prog 9 #[.string a0] w fun e w' => e = .returned (.tuple #[.agg #[.string r1, .string r2, .string r3, .int .i64 r4, .int .i64 r5, .int .i64 r6, .int .i64 r7, .int .i64 r8, .int .u8 r9, .string r10, .string r11], .int .i64 r12]) ∧ Below w.heap.size w w' := by
 unfold head_Read.f at h
 obtain ⟨⟨b1, b1e⟩, A1, h2⟩ := Option.bind_eq_some_iff.mp h
 clear h
 have h := h2
 clear h2
 try dsimp only at h
 have HA1 := Aside0.mk A1
 clear A1
 by_cases hb1 : b1e = 0
 ·rw [if_pos hb1] at h
  have hb1a : (b1e == 0) = true := beq_iff_eq.mpr hb1
  have hb1b : (b1e != 0) = false := bne_eq_false_iff_eq.mpr hb1
  clear hb1
  by_cases hsz : 156 ≤ a0.size
  ·rw [if_pos hsz] at h
   have hi1 : (155 : Int) ≤ (a0.size : Int) := by omega
   have hi2 : (155 : Int) < (a0.size : Int) := by omega
   have hi3 : (148 : Int) ≤ 155 := by decide
   have hi4 : 155 < a0.size := by omega
   have hx1 : ∀ h : 155 < a0.size, ((a0[155]'h).toNat : Int) = bt a0 155 := bt_at a0 155
   have hx2 := bt_at a0 155
   clear hsz
   obtain ⟨⟨b2, b2e⟩, A2, h2⟩ := Option.bind_eq_some_iff.mp h
   clear h
   have h := h2
   clear h2
   try dsimp only at h
   have HA2 := Aside0.mk A2
   clear A2
   by_cases hb2 : b2e = 0
   ·rw [if_pos hb2] at h
    have hb2a : (b2e == 0) = true := beq_iff_eq.mpr hb2
    have hb2b : (b2e != 0) = false := bne_eq_false_iff_eq.mpr hb2
    clear hb2
    by_cases hb3 : b2 = b1
    ·rw [if_pos hb3] at h
     have hb3a : (b2 == b1) = true := beq_iff_eq.mpr hb3
     have hb3b : (b2 != b1) = false := bne_eq_false_iff_eq.mpr hb3
     clear hb3
     by_cases hb4 : bt a0 155 = 32
     ·rw [if_pos hb4] at h
      have hb4a : (bt a0 155 == 32) = true := beq_iff_eq.mpr hb4
      have hb4b : (bt a0 155 != 32) = false := bne_eq_false_iff_eq.mpr hb4
      clear hb4
      unfold head_Read.body at h
      obtain ⟨⟨x1, s1, e1⟩, B1_, h2⟩ := Option.bind_eq_some_iff.mp h
      clear h
      have h := h2
      clear h2
      try dsimp only at h
      have HB1_ := Aside0.mk B1_
      clear B1_
      have HC1 := HB1_
      clear HB1_
      obtain ⟨⟨x2, s2, e2⟩, B2_, h2⟩ := Option.bind_eq_some_iff.mp h
      clear h
      have h := h2
      clear h2
      try dsimp only at h
      have HB2_ := Aside0.mk B2_
      clear B2_
      have HC2 := HB2_
      clear HB2_
      obtain ⟨⟨x3, s3, e3⟩, A3_, h2⟩ := Option.bind_eq_some_iff.mp h
      clear h
      have h := h2
      clear h2
      try dsimp only at h
      have HA3_ := Aside0.mk A3_
      clear A3_
      have HA3 := HA3_
      clear HA3_
      obtain ⟨⟨x4, s4, e4⟩, A4_, h2⟩ := Option.bind_eq_some_iff.mp h
      clear h
      have h := h2
      clear h2
      try dsimp only at h
      have HA4_ := Aside0.mk A4_
      clear A4_
      have HA4 := HA4_
      clear HA4_
      obtain ⟨⟨x5, s5, e5⟩, A5_, h2⟩ := Option.bind_eq_some_iff.mp h
      clear h
      have h := h2
      clear h2
      try dsimp only at h
      have HA5_ := Aside0.mk A5_
      clear A5_
      have HA5 := HA5_
      clear HA5_
      obtain ⟨⟨x6, s6, e6⟩, A6_, h2⟩ := Option.bind_eq_some_iff.mp h
      clear h
      have h := h2
      clear h2
      try dsimp only at h
      have HA6_ := Aside0.mk A6_
      clear A6_
      have HA6 := HA6_
      clear HA6_
      obtain ⟨⟨x7, s7, e7⟩, A7_, h2⟩ := Option.bind_eq_some_iff.mp h
      clear h
      have h := h2
      clear h2
      try dsimp only at h
      have HA7_ := Aside0.mk A7_
      clear A7_
      have HA7 := HA7_
      clear HA7_
      obtain ⟨⟨x8, s8, e8⟩, A8_, h2⟩ := Option.bind_eq_some_iff.mp h
      clear h
      have h := h2
      clear h2
      try dsimp only at h
      have HA8_ := Aside0.mk A8_
      clear A8_
      have HA8 := HA8_
      clear HA8_
      by_cases hx8 : 0 < x8.size
      ·rw [if_pos hx8] at h
       have hx8i : (0 : Int) < (x8.size : Int) := by omega
       have hx3 : ∀ h : 0 < x8.size, ((x8[0]'h).toNat : Int) = bt x8 0 := bt_at x8 0
       have hx4 := bt_at x8 0
       obtain ⟨b, Ab, h2⟩ := Option.bind_eq_some_iff.mp h
       clear h
       have h := h2
       clear h2
       try dsimp only at h
       have HAb := Aside0.mk Ab
       clear Ab
       obtain ⟨⟨s9, e9⟩, A9, h2⟩ := Option.bind_eq_some_iff.mp h
       clear h
       have h := h2
       clear h2
       try dsimp only at h
       have HA9 := Aside0.mk A9
       clear A9
       obtain ⟨⟨x10, s10, e10⟩, A10, h2⟩ := Option.bind_eq_some_iff.mp h
       clear h
       have h := h2
       clear h2
       try dsimp only at h
       have HA10 := Aside0.mk A10
       clear A10
       obtain ⟨⟨s11, e11⟩, A11, h2⟩ := Option.bind_eq_some_iff.mp h
       clear h
       have h := h2
       clear h2
       try dsimp only at h
       have HA11 := Aside0.mk A11
       clear A11
       obtain ⟨⟨x12, s12, e12⟩, A12, h2⟩ := Option.bind_eq_some_iff.mp h
       clear h
       have h := h2
       clear h2
       try dsimp only at h
       have HA12 := Aside0.mk A12
       clear A12
       obtain ⟨⟨x13, s13, e13⟩, A13, h2⟩ := Option.bind_eq_some_iff.mp h
       clear h
       have h := h2
       clear h2
       try dsimp only at h
       have HA13 := Aside0.mk A13
       clear A13
       obtain ⟨⟨s14, e14⟩, A14, h2⟩ := Option.bind_eq_some_iff.mp h
       clear h
       have h := h2
       clear h2
       try dsimp only at h
       have HA14 := Aside0.mk A14
       clear A14
       obtain ⟨⟨x15, s15, e15⟩, A15, h2⟩ := Option.bind_eq_some_iff.mp h
       clear h
       have h := h2
       clear h2
       try dsimp only at h
       have HA15 := Aside0.mk A15
       clear A15
       obtain ⟨z, Az, h2⟩ := Option.bind_eq_some_iff.mp h
       clear h
       have h := h2
       clear h2
       try dsimp only at h
       have HAz := Aside0.mk Az
       clear Az
       obtain ⟨⟨s16, e16⟩, A16, h2⟩ := Option.bind_eq_some_iff.mp h
       clear h
       have h := h2
       clear h2
       try dsimp only at h
       have HA16 := Aside0.mk A16
       clear A16
       go_enter Tryd.func9, Tryd.ntmps9
       go_upto_if 68 with (first | ((with_reducible refine gate_dst (N := 2) rfl ?_); refine box_event ?hg (N := 2) ?hd (cs := #[.string (⟨#[]⟩ : ByteArray), .string (⟨#[]⟩ : ByteArray), .string (⟨#[]⟩ : ByteArray), .int .i64 0, .int .i64 0, .int .i64 0, .int .i64 0, .int .i64 0, .int .u8 0, .string (⟨#[]⟩ : ByteArray), .string (⟨#[]⟩ : ByteArray)]) (t := 23) ?hr ?_; (case hd => rfl); (case hg => rfl); (case hr => first | (go_simp; done) | (go_simp; rfl)); intro gr hg w1 hbox hb1; have HS0 := Aside0.mk (head_Read.S0.start hg hbox hb1); clear hg hbox hb1) | (go_at_call 27; refine (head_Sum.calls k _ b1 b1e _ HA1.out).mono ?_; rintro e w2 ⟨rfl, nd, rfl⟩) | (go_at_call 28; refine (octal_Read.calls k _ b2 b2e _ HA2.out).mono ?_; rintro e w2 ⟨rfl, nd, rfl⟩) | ((with_reducible refine gate_dst (N := 40) rfl ?_); refine box_event ?hg (N := 40) ?hd (cs := #[.string a0, .int .i64 0]) (t := 57) ?hr ?_; (case hd => rfl); (case hg => rfl); (case hr => first | (go_simp; done) | (go_simp; rfl)); intro gx hg w1 hbox hb1; have HS1 := Aside0.mk (head_Read.S1.start (HS0.out.drewN _) hg hbox hb1); clear hg hbox hb1) | (go_at_call 29; (with_reducible refine (head_eye_text.calls gx a0 0 100 true x1 s1 e1 w _ HS1.out.ex HS1.out.eb HC1.out).mono ?_); rintro e_ w8 ⟨rfl, hi8, hb8, hk8⟩; have HS8 := Aside0.mk (head_Read.S1.eye HS1.out hi8 hb8 hk8); clear HS1 hi8 hb8 hk8; have HS1 := HS8; clear HS8) | ((with_reducible refine gate_dst (N := 9) rfl ?_); refine box_event ?hg (N := 9) ?hd (cs := #[.string (⟨#[]⟩ : ByteArray), .string (⟨#[]⟩ : ByteArray), .string (⟨#[]⟩ : ByteArray), .int .i64 0, .int .i64 0, .int .i64 0, .int .i64 0, .int .i64 0, .int .u8 0, .string (⟨#[]⟩ : ByteArray), .string (⟨#[]⟩ : ByteArray)]) (t := 23) ?hr ?_; (case hd => rfl); (case hg => rfl); (case hr => first | (go_simp; done) | (go_simp; rfl)); intro gh hg w1 hbox hb1; have HS := Aside0.mk (head_Read.St.start HS1.out hg hbox hb1); clear hg hbox hb1) | ((with_reducible refine gate_store (t := 23) (p := 9) rfl ?_); refine put_event rfl rfl rfl rfl rfl HS.out.2.2.1 sz23 rfl rfl ?_; intro w3 hk3 hg3; have HS3 := Aside0.mk (HS.out.put (H' := #[.string x1, .string (⟨#[]⟩ : ByteArray), .string (⟨#[]⟩ : ByteArray), .int .i64 0, .int .i64 0, .int .i64 0, .int .i64 0, .int .i64 0, .int .u8 0, .string (⟨#[]⟩ : ByteArray), .string (⟨#[]⟩ : ByteArray)]) hk3 hg3); clear HS hk3 hg3; have HS := HS3; clear HS3) | (go_at_call 30; (with_reducible refine (head_eye_number.calls k gx s1 e1 8 x2 s2 e2 w _ HS.out.ex HS.out.eb HC2.out).mono ?_); rintro e_ w8 ⟨rfl, hi8, hb8, hk8⟩; have HS8 := Aside0.mk (head_Read.St.eye HS.out hi8 hb8 hk8); clear HS hi8 hb8 hk8; have HS := HS8; clear HS8; have hfz := fun i => blk_frozen HS.out.2.2.1 i; have hv1 := blk_cell HS.out.2.2.1 1; have hv2 := blk_cell HS.out.2.2.1 2; have hv3 := blk_cell HS.out.2.2.1 3; have hv4 := blk_cell HS.out.2.2.1 4; have hv5 := blk_cell HS.out.2.2.1 5; have hv6 := blk_cell HS.out.2.2.1 6; have hv7 := blk_cell HS.out.2.2.1 7; have hv8 := blk_cell HS.out.2.2.1 8; have hv9 := blk_cell HS.out.2.2.1 9; have hv10 := blk_cell HS.out.2.2.1 10) | (go_at_call 30; (with_reducible refine (head_eye_number.calls k gx s2 e2 8 x3 s3 e3 w _ HS.out.ex HS.out.eb HA3.out).mono ?_); rintro e_ w8 ⟨rfl, hi8, hb8, hk8⟩; have HS8 := Aside0.mk (head_Read.St.eye HS.out hi8 hb8 hk8); clear HS hi8 hb8 hk8; have HS := HS8; clear HS8; have hfz := fun i => blk_frozen HS.out.2.2.1 i; have hv1 := blk_cell HS.out.2.2.1 1; have hv2 := blk_cell HS.out.2.2.1 2; have hv3 := blk_cell HS.out.2.2.1 3; have hv4 := blk_cell HS.out.2.2.1 4; have hv5 := blk_cell HS.out.2.2.1 5; have hv6 := blk_cell HS.out.2.2.1 6; have hv7 := blk_cell HS.out.2.2.1 7; have hv8 := blk_cell HS.out.2.2.1 8; have hv9 := blk_cell HS.out.2.2.1 9; have hv10 := blk_cell HS.out.2.2.1 10) | (go_at_call 30; (with_reducible refine (head_eye_number.calls k gx s3 e3 8 x4 s4 e4 w _ HS.out.ex HS.out.eb HA4.out).mono ?_); rintro e_ w8 ⟨rfl, hi8, hb8, hk8⟩; have HS8 := Aside0.mk (head_Read.St.eye HS.out hi8 hb8 hk8); clear HS hi8 hb8 hk8; have HS := HS8; clear HS8; have hfz := fun i => blk_frozen HS.out.2.2.1 i; have hv1 := blk_cell HS.out.2.2.1 1; have hv2 := blk_cell HS.out.2.2.1 2; have hv3 := blk_cell HS.out.2.2.1 3; have hv4 := blk_cell HS.out.2.2.1 4; have hv5 := blk_cell HS.out.2.2.1 5; have hv6 := blk_cell HS.out.2.2.1 6; have hv7 := blk_cell HS.out.2.2.1 7; have hv8 := blk_cell HS.out.2.2.1 8; have hv9 := blk_cell HS.out.2.2.1 9; have hv10 := blk_cell HS.out.2.2.1 10) | (go_at_call 30; (with_reducible refine (head_eye_number.calls k gx s4 e4 12 x5 s5 e5 w _ ((((HS.out).set (H' := #[.string x1, .string (⟨#[]⟩ : ByteArray), .string (⟨#[]⟩ : ByteArray), .int .i64 x2, .int .i64 0, .int .i64 0, .int .i64 0, .int .i64 0, .int .u8 0, .string (⟨#[]⟩ : ByteArray), .string (⟨#[]⟩ : ByteArray)]) 3 (.int .i64 x2) rfl).set (H' := #[.string x1, .string (⟨#[]⟩ : ByteArray), .string (⟨#[]⟩ : ByteArray), .int .i64 x2, .int .i64 x3, .int .i64 0, .int .i64 0, .int .i64 0, .int .u8 0, .string (⟨#[]⟩ : ByteArray), .string (⟨#[]⟩ : ByteArray)]) 4 (.int .i64 x3) rfl).set (H' := #[.string x1, .string (⟨#[]⟩ : ByteArray), .string (⟨#[]⟩ : ByteArray), .int .i64 x2, .int .i64 x3, .int .i64 x4, .int .i64 0, .int .i64 0, .int .u8 0, .string (⟨#[]⟩ : ByteArray), .string (⟨#[]⟩ : ByteArray)]) 5 (.int .i64 x4) rfl).ex ((((HS.out).set (H' := #[.string x1, .string (⟨#[]⟩ : ByteArray), .string (⟨#[]⟩ : ByteArray), .int .i64 x2, .int .i64 0, .int .i64 0, .int .i64 0, .int .i64 0, .int .u8 0, .string (⟨#[]⟩ : ByteArray), .string (⟨#[]⟩ : ByteArray)]) 3 (.int .i64 x2) rfl).set (H' := #[.string x1, .string (⟨#[]⟩ : ByteArray), .string (⟨#[]⟩ : ByteArray), .int .i64 x2, .int .i64 x3, .int .i64 0, .int .i64 0, .int .i64 0, .int .u8 0, .string (⟨#[]⟩ : ByteArray), .string (⟨#[]⟩ : ByteArray)]) 4 (.int .i64 x3) rfl).set (H' := #[.string x1, .string (⟨#[]⟩ : ByteArray), .string (⟨#[]⟩ : ByteArray), .int .i64 x2, .int .i64 x3, .int .i64 x4, .int .i64 0, .int .i64 0, .int .u8 0, .string (⟨#[]⟩ : ByteArray), .string (⟨#[]⟩ : ByteArray)]) 5 (.int .i64 x4) rfl).eb HA5.out).mono ?_); rintro e_ w8 ⟨rfl, hi8, hb8, hk8⟩; have HS8 := Aside0.mk (head_Read.St.eye ((((HS.out).set (H' := #[.string x1, .string (⟨#[]⟩ : ByteArray), .string (⟨#[]⟩ : ByteArray), .int .i64 x2, .int .i64 0, .int .i64 0, .int .i64 0, .int .i64 0, .int .u8 0, .string (⟨#[]⟩ : ByteArray), .string (⟨#[]⟩ : ByteArray)]) 3 (.int .i64 x2) rfl).set (H' := #[.string x1, .string (⟨#[]⟩ : ByteArray), .string (⟨#[]⟩ : ByteArray), .int .i64 x2, .int .i64 x3, .int .i64 0, .int .i64 0, .int .i64 0, .int .u8 0, .string (⟨#[]⟩ : ByteArray), .string (⟨#[]⟩ : ByteArray)]) 4 (.int .i64 x3) rfl).set (H' := #[.string x1, .string (⟨#[]⟩ : ByteArray), .string (⟨#[]⟩ : ByteArray), .int .i64 x2, .int .i64 x3, .int .i64 x4, .int .i64 0, .int .i64 0, .int .u8 0, .string (⟨#[]⟩ : ByteArray), .string (⟨#[]⟩ : ByteArray)]) 5 (.int .i64 x4) rfl) hi8 hb8 hk8); clear HS hi8 hb8 hk8; have HS := HS8; clear HS8; have hfz := fun i => blk_frozen HS.out.2.2.1 i; have hv1 := blk_cell HS.out.2.2.1 1; have hv2 := blk_cell HS.out.2.2.1 2; have hv3 := blk_cell HS.out.2.2.1 3; have hv4 := blk_cell HS.out.2.2.1 4; have hv5 := blk_cell HS.out.2.2.1 5; have hv6 := blk_cell HS.out.2.2.1 6; have hv7 := blk_cell HS.out.2.2.1 7; have hv8 := blk_cell HS.out.2.2.1 8; have hv9 := blk_cell HS.out.2.2.1 9; have hv10 := blk_cell HS.out.2.2.1 10) | (go_at_call 30; (with_reducible refine (head_eye_number.calls k gx s5 e5 12 x6 s6 e6 w _ HS.out.ex HS.out.eb HA6.out).mono ?_); rintro e_ w8 ⟨rfl, hi8, hb8, hk8⟩; have HS8 := Aside0.mk (head_Read.St.eye HS.out hi8 hb8 hk8); clear HS hi8 hb8 hk8; have HS := HS8; clear HS8; have hfz := fun i => blk_frozen HS.out.2.2.1 i; have hv1 := blk_cell HS.out.2.2.1 1; have hv2 := blk_cell HS.out.2.2.1 2; have hv3 := blk_cell HS.out.2.2.1 3; have hv4 := blk_cell HS.out.2.2.1 4; have hv5 := blk_cell HS.out.2.2.1 5; have hv6 := blk_cell HS.out.2.2.1 6; have hv7 := blk_cell HS.out.2.2.1 7; have hv8 := blk_cell HS.out.2.2.1 8; have hv9 := blk_cell HS.out.2.2.1 9; have hv10 := blk_cell HS.out.2.2.1 10) | (go_at_call 31; (with_reducible refine (head_eye_take.calls gx s6 e6 8 x7 s7 e7 w _ (((HS.out).set (H' := #[.string x1, .string (⟨#[]⟩ : ByteArray), .string (⟨#[]⟩ : ByteArray), .int .i64 x2, .int .i64 x3, .int .i64 x4, .int .i64 x5, .int .i64 0, .int .u8 0, .string (⟨#[]⟩ : ByteArray), .string (⟨#[]⟩ : ByteArray)]) 6 (.int .i64 x5) rfl).set (H' := #[.string x1, .string (⟨#[]⟩ : ByteArray), .string (⟨#[]⟩ : ByteArray), .int .i64 x2, .int .i64 x3, .int .i64 x4, .int .i64 x5, .int .i64 x6, .int .u8 0, .string (⟨#[]⟩ : ByteArray), .string (⟨#[]⟩ : ByteArray)]) 7 (.int .i64 x6) rfl).ex (((HS.out).set (H' := #[.string x1, .string (⟨#[]⟩ : ByteArray), .string (⟨#[]⟩ : ByteArray), .int .i64 x2, .int .i64 x3, .int .i64 x4, .int .i64 x5, .int .i64 0, .int .u8 0, .string (⟨#[]⟩ : ByteArray), .string (⟨#[]⟩ : ByteArray)]) 6 (.int .i64 x5) rfl).set (H' := #[.string x1, .string (⟨#[]⟩ : ByteArray), .string (⟨#[]⟩ : ByteArray), .int .i64 x2, .int .i64 x3, .int .i64 x4, .int .i64 x5, .int .i64 x6, .int .u8 0, .string (⟨#[]⟩ : ByteArray), .string (⟨#[]⟩ : ByteArray)]) 7 (.int .i64 x6) rfl).eb HA7.out).mono ?_); rintro e_ w8 ⟨rfl, hi8, hb8, hk8⟩; have HS8 := Aside0.mk (head_Read.St.eye (((HS.out).set (H' := #[.string x1, .string (⟨#[]⟩ : ByteArray), .string (⟨#[]⟩ : ByteArray), .int .i64 x2, .int .i64 x3, .int .i64 x4, .int .i64 x5, .int .i64 0, .int .u8 0, .string (⟨#[]⟩ : ByteArray), .string (⟨#[]⟩ : ByteArray)]) 6 (.int .i64 x5) rfl).set (H' := #[.string x1, .string (⟨#[]⟩ : ByteArray), .string (⟨#[]⟩ : ByteArray), .int .i64 x2, .int .i64 x3, .int .i64 x4, .int .i64 x5, .int .i64 x6, .int .u8 0, .string (⟨#[]⟩ : ByteArray), .string (⟨#[]⟩ : ByteArray)]) 7 (.int .i64 x6) rfl) hi8 hb8 hk8); clear HS hi8 hb8 hk8; have HS := HS8; clear HS8; have hfz := fun i => blk_frozen HS.out.2.2.1 i; have hv1 := blk_cell HS.out.2.2.1 1; have hv2 := blk_cell HS.out.2.2.1 2; have hv3 := blk_cell HS.out.2.2.1 3; have hv4 := blk_cell HS.out.2.2.1 4; have hv5 := blk_cell HS.out.2.2.1 5; have hv6 := blk_cell HS.out.2.2.1 6; have hv7 := blk_cell HS.out.2.2.1 7; have hv8 := blk_cell HS.out.2.2.1 8; have hv9 := blk_cell HS.out.2.2.1 9; have hv10 := blk_cell HS.out.2.2.1 10) | (go_at_call 31; (with_reducible refine (head_eye_take.calls gx s7 e7 1 x8 s8 e8 w _ HS.out.ex HS.out.eb HA8.out).mono ?_); rintro e_ w8 ⟨rfl, hi8, hb8, hk8⟩; have HS8 := Aside0.mk (head_Read.St.eye HS.out hi8 hb8 hk8); clear HS hi8 hb8 hk8; have HS := HS8; clear HS8; have hfz := fun i => blk_frozen HS.out.2.2.1 i; have hv1 := blk_cell HS.out.2.2.1 1; have hv2 := blk_cell HS.out.2.2.1 2; have hv3 := blk_cell HS.out.2.2.1 3; have hv4 := blk_cell HS.out.2.2.1 4; have hv5 := blk_cell HS.out.2.2.1 5; have hv6 := blk_cell HS.out.2.2.1 6; have hv7 := blk_cell HS.out.2.2.1 7; have hv8 := blk_cell HS.out.2.2.1 8; have hv9 := blk_cell HS.out.2.2.1 9; have hv10 := blk_cell HS.out.2.2.1 10; have hc8 : (w8.setCell ⟨gh, 8, none⟩ (.int .u8 (bt x8 0))).cell? ⟨gh, 8, none⟩ = some (.int .u8 (bt x8 0)) := (blk_cell (HS.out.set (H' := #[.string x1, .string (⟨#[]⟩ : ByteArray), .string (⟨#[]⟩ : ByteArray), .int .i64 x2, .int .i64 x3, .int .i64 x4, .int .i64 x5, .int .i64 x6, .int .u8 (bt x8 0), .string (⟨#[]⟩ : ByteArray), .string (⟨#[]⟩ : ByteArray)]) 8 (.int .u8 (bt x8 0)) rfl).2.2.1 8).trans rfl) | (go_at_call 32; refine (strings_IndexByte.calls _ _ b _ HAb.out).mono ?_; rintro e_ w2 ⟨rfl, nd8, rfl⟩; have HS8 := Aside0.mk (((HS.out).set (H' := #[.string x1, .string (⟨#[]⟩ : ByteArray), .string (⟨#[]⟩ : ByteArray), .int .i64 x2, .int .i64 x3, .int .i64 x4, .int .i64 x5, .int .i64 x6, .int .u8 (bt x8 0), .string (⟨#[]⟩ : ByteArray), .string (⟨#[]⟩ : ByteArray)]) 8 (.int .u8 (bt x8 0)) rfl).drewN nd8); clear HS hc8; have HS := HS8; clear HS8; have hfz := fun i => blk_frozen HS.out.2.2.1 i))
       (try simp only [Act.put, List.setIfInBounds_toArray, List.set_cons_zero, List.set_cons_succ])
       go_cut [] (fun wc => Aside0 (head_Read.St w wc gr gh gx #[.string x1, .string (⟨#[]⟩ : ByteArray), .string (⟨#[]⟩ : ByteArray), .int .i64 x2, .int .i64 x3, .int .i64 x4, .int .i64 x5, .int .i64 x6, .int .u8 (bt x8 0), .string (⟨#[]⟩ : ByteArray), .string (⟨#[]⟩ : ByteArray)] s9 e9))
       case first =>
        have A9 := HA9.out
        by_cases hb0 : b < 0
        ·rw [if_pos hb0] at A9
         clear HA9
         have HA9 := Aside0.mk A9
         clear A9
         have hb0b := decide_eq_true hb0
         clear hb0
         (first | rw [hb0b] | skip)
         go_wp2_with ((go_at_call 33; (with_reducible refine (head_eye_note.calls gx s8 e8 3 s9 e9 w _ HS.out.ex HS.out.eb HA9.out).mono ?_); rintro e_ w8 ⟨rfl, hi8, hb8, hk8⟩; have HS8 := Aside0.mk (head_Read.St.eye HS.out hi8 hb8 hk8); clear HS hi8 hb8 hk8; have HS := HS8; clear HS8))
         go_meet
         case rel => exact HS
        ·rw [if_neg hb0] at A9
         simp only [Option.some.injEq, Prod.mk.injEq] at A9
         obtain ⟨e8a, e8b⟩ := A9
         have H8a := Aside0.mk e8a
         have H8b := Aside0.mk e8b
         clear HA9 e8a e8b
         have hb0b := decide_eq_false hb0
         clear hb0
         (first | rw [hb0b] | skip)
         go_wp2
         go_meet
         case rel => exact ⟨by rw [← H8a.out, ← H8b.out]; exact HS.out⟩
       case rest =>
        clear HS
        have HS := hcut
        clear hcut
        clear hfz
        have hfz := fun i => blk_frozen HS.out.2.2.1 i
        have hv1 := blk_cell HS.out.2.2.1 1
        have hv2 := blk_cell HS.out.2.2.1 2
        have hv3 := blk_cell HS.out.2.2.1 3
        have hv4 := blk_cell HS.out.2.2.1 4
        have hv5 := blk_cell HS.out.2.2.1 5
        have hv6 := blk_cell HS.out.2.2.1 6
        have hv7 := blk_cell HS.out.2.2.1 7
        have hv8 := blk_cell HS.out.2.2.1 8
        have hv9 := blk_cell HS.out.2.2.1 9
        have hv10 := blk_cell HS.out.2.2.1 10
        by_cases h16 : e16 = 0
        ·rw [if_pos h16] at h
         simp only [Option.some.injEq, Prod.mk.injEq] at h
         obtain ⟨rfl, rfl, rfl, rfl, rfl, rfl, rfl, rfl, rfl, rfl, rfl, rfl⟩ := h
         have h16a : (e16 == 0) = true := beq_iff_eq.mpr h16
         have h16b : (e16 != 0) = false := bne_eq_false_iff_eq.mpr h16
         clear h16
         go_upto_region 23 with (first | (go_at_call 29; (with_reducible refine (head_eye_text.calls gx s9 e9 100 true x10 s10 e10 w _ HS.out.ex HS.out.eb HA10.out).mono ?_); rintro e_ w8 ⟨rfl, hi8, hb8, hk8⟩; have HS8 := Aside0.mk (head_Read.St.eye HS.out hi8 hb8 hk8); clear HS hi8 hb8 hk8; have HS := HS8; clear HS8; have hfz := fun i => blk_frozen HS.out.2.2.1 i; have hv1 := blk_cell HS.out.2.2.1 1; have hv2 := blk_cell HS.out.2.2.1 2; have hv3 := blk_cell HS.out.2.2.1 3; have hv4 := blk_cell HS.out.2.2.1 4; have hv5 := blk_cell HS.out.2.2.1 5; have hv6 := blk_cell HS.out.2.2.1 6; have hv7 := blk_cell HS.out.2.2.1 7; have hv8 := blk_cell HS.out.2.2.1 8; have hv9 := blk_cell HS.out.2.2.1 9; have hv10 := blk_cell HS.out.2.2.1 10) | (go_at_call 34; (with_reducible refine (head_eye_just.calls gx s10 e10 (⟨#[117, 115, 116, 97, 114, 0, 48, 48]⟩ : ByteArray) s11 e11 w _ ((HS.out).set (H' := #[.string x1, .string (⟨#[]⟩ : ByteArray), .string x10, .int .i64 x2, .int .i64 x3, .int .i64 x4, .int .i64 x5, .int .i64 x6, .int .u8 (bt x8 0), .string (⟨#[]⟩ : ByteArray), .string (⟨#[]⟩ : ByteArray)]) 2 (.string x10) rfl).ex ((HS.out).set (H' := #[.string x1, .string (⟨#[]⟩ : ByteArray), .string x10, .int .i64 x2, .int .i64 x3, .int .i64 x4, .int .i64 x5, .int .i64 x6, .int .u8 (bt x8 0), .string (⟨#[]⟩ : ByteArray), .string (⟨#[]⟩ : ByteArray)]) 2 (.string x10) rfl).eb HA11.out).mono ?_); rintro e_ w8 ⟨rfl, hi8, hb8, hk8⟩; have HS8 := Aside0.mk (head_Read.St.eye ((HS.out).set (H' := #[.string x1, .string (⟨#[]⟩ : ByteArray), .string x10, .int .i64 x2, .int .i64 x3, .int .i64 x4, .int .i64 x5, .int .i64 x6, .int .u8 (bt x8 0), .string (⟨#[]⟩ : ByteArray), .string (⟨#[]⟩ : ByteArray)]) 2 (.string x10) rfl) hi8 hb8 hk8); clear HS hi8 hb8 hk8; have HS := HS8; clear HS8; have hfz := fun i => blk_frozen HS.out.2.2.1 i; have hv1 := blk_cell HS.out.2.2.1 1; have hv2 := blk_cell HS.out.2.2.1 2; have hv3 := blk_cell HS.out.2.2.1 3; have hv4 := blk_cell HS.out.2.2.1 4; have hv5 := blk_cell HS.out.2.2.1 5; have hv6 := blk_cell HS.out.2.2.1 6; have hv7 := blk_cell HS.out.2.2.1 7; have hv8 := blk_cell HS.out.2.2.1 8; have hv9 := blk_cell HS.out.2.2.1 9; have hv10 := blk_cell HS.out.2.2.1 10) | (go_at_call 29; (with_reducible refine (head_eye_text.calls gx s11 e11 32 false x12 s12 e12 w _ HS.out.ex HS.out.eb HA12.out).mono ?_); rintro e_ w8 ⟨rfl, hi8, hb8, hk8⟩; have HS8 := Aside0.mk (head_Read.St.eye HS.out hi8 hb8 hk8); clear HS hi8 hb8 hk8; have HS := HS8; clear HS8; have hfz := fun i => blk_frozen HS.out.2.2.1 i; have hv1 := blk_cell HS.out.2.2.1 1; have hv2 := blk_cell HS.out.2.2.1 2; have hv3 := blk_cell HS.out.2.2.1 3; have hv4 := blk_cell HS.out.2.2.1 4; have hv5 := blk_cell HS.out.2.2.1 5; have hv6 := blk_cell HS.out.2.2.1 6; have hv7 := blk_cell HS.out.2.2.1 7; have hv8 := blk_cell HS.out.2.2.1 8; have hv9 := blk_cell HS.out.2.2.1 9; have hv10 := blk_cell HS.out.2.2.1 10) | (go_at_call 29; (with_reducible refine (head_eye_text.calls gx s12 e12 32 false x13 s13 e13 w _ HS.out.ex HS.out.eb HA13.out).mono ?_); rintro e_ w8 ⟨rfl, hi8, hb8, hk8⟩; have HS8 := Aside0.mk (head_Read.St.eye HS.out hi8 hb8 hk8); clear HS hi8 hb8 hk8; have HS := HS8; clear HS8; have hfz := fun i => blk_frozen HS.out.2.2.1 i; have hv1 := blk_cell HS.out.2.2.1 1; have hv2 := blk_cell HS.out.2.2.1 2; have hv3 := blk_cell HS.out.2.2.1 3; have hv4 := blk_cell HS.out.2.2.1 4; have hv5 := blk_cell HS.out.2.2.1 5; have hv6 := blk_cell HS.out.2.2.1 6; have hv7 := blk_cell HS.out.2.2.1 7; have hv8 := blk_cell HS.out.2.2.1 8; have hv9 := blk_cell HS.out.2.2.1 9; have hv10 := blk_cell HS.out.2.2.1 10) | (go_at_call 34; (with_reducible refine (head_eye_just.calls gx s13 e13 (⟨#[48, 48, 48, 48, 48, 48, 48, 0, 48, 48, 48, 48, 48, 48, 48, 0]⟩ : ByteArray) s14 e14 w _ (((HS.out).set (H' := #[.string x1, .string (⟨#[]⟩ : ByteArray), .string x10, .int .i64 x2, .int .i64 x3, .int .i64 x4, .int .i64 x5, .int .i64 x6, .int .u8 (bt x8 0), .string x12, .string (⟨#[]⟩ : ByteArray)]) 9 (.string x12) rfl).set (H' := #[.string x1, .string (⟨#[]⟩ : ByteArray), .string x10, .int .i64 x2, .int .i64 x3, .int .i64 x4, .int .i64 x5, .int .i64 x6, .int .u8 (bt x8 0), .string x12, .string x13]) 10 (.string x13) rfl).ex (((HS.out).set (H' := #[.string x1, .string (⟨#[]⟩ : ByteArray), .string x10, .int .i64 x2, .int .i64 x3, .int .i64 x4, .int .i64 x5, .int .i64 x6, .int .u8 (bt x8 0), .string x12, .string (⟨#[]⟩ : ByteArray)]) 9 (.string x12) rfl).set (H' := #[.string x1, .string (⟨#[]⟩ : ByteArray), .string x10, .int .i64 x2, .int .i64 x3, .int .i64 x4, .int .i64 x5, .int .i64 x6, .int .u8 (bt x8 0), .string x12, .string x13]) 10 (.string x13) rfl).eb HA14.out).mono ?_); rintro e_ w8 ⟨rfl, hi8, hb8, hk8⟩; have HS8 := Aside0.mk (head_Read.St.eye (((HS.out).set (H' := #[.string x1, .string (⟨#[]⟩ : ByteArray), .string x10, .int .i64 x2, .int .i64 x3, .int .i64 x4, .int .i64 x5, .int .i64 x6, .int .u8 (bt x8 0), .string x12, .string (⟨#[]⟩ : ByteArray)]) 9 (.string x12) rfl).set (H' := #[.string x1, .string (⟨#[]⟩ : ByteArray), .string x10, .int .i64 x2, .int .i64 x3, .int .i64 x4, .int .i64 x5, .int .i64 x6, .int .u8 (bt x8 0), .string x12, .string x13]) 10 (.string x13) rfl) hi8 hb8 hk8); clear HS hi8 hb8 hk8; have HS := HS8; clear HS8; have hfz := fun i => blk_frozen HS.out.2.2.1 i; have hv1 := blk_cell HS.out.2.2.1 1; have hv2 := blk_cell HS.out.2.2.1 2; have hv3 := blk_cell HS.out.2.2.1 3; have hv4 := blk_cell HS.out.2.2.1 4; have hv5 := blk_cell HS.out.2.2.1 5; have hv6 := blk_cell HS.out.2.2.1 6; have hv7 := blk_cell HS.out.2.2.1 7; have hv8 := blk_cell HS.out.2.2.1 8; have hv9 := blk_cell HS.out.2.2.1 9; have hv10 := blk_cell HS.out.2.2.1 10) | (go_at_call 29; (with_reducible refine (head_eye_text.calls gx s14 e14 155 true x15 s15 e15 w _ HS.out.ex HS.out.eb HA15.out).mono ?_); rintro e_ w8 ⟨rfl, hi8, hb8, hk8⟩; have HS8 := Aside0.mk (head_Read.St.eye HS.out hi8 hb8 hk8); clear HS hi8 hb8 hk8; have HS := HS8; clear HS8; have hfz := fun i => blk_frozen HS.out.2.2.1 i; have hv1 := blk_cell HS.out.2.2.1 1; have hv2 := blk_cell HS.out.2.2.1 2; have hv3 := blk_cell HS.out.2.2.1 3; have hv4 := blk_cell HS.out.2.2.1 4; have hv5 := blk_cell HS.out.2.2.1 5; have hv6 := blk_cell HS.out.2.2.1 6; have hv7 := blk_cell HS.out.2.2.1 7; have hv8 := blk_cell HS.out.2.2.1 8; have hv9 := blk_cell HS.out.2.2.1 9; have hv10 := blk_cell HS.out.2.2.1 10) | (go_at_call 35; refine (strings_Repeat.calls _ _ z _ HAz.out).mono ?_; rintro e_ w8 ⟨rfl, hb8⟩; have HS8 := Aside0.mk (((HS.out).set (H' := #[.string x1, .string x15, .string x10, .int .i64 x2, .int .i64 x3, .int .i64 x4, .int .i64 x5, .int .i64 x6, .int .u8 (bt x8 0), .string x12, .string x13]) 1 (.string x15) rfl).step hb8); clear HS hb8; have HS := HS8; clear HS8) | (go_at_call 34; (with_reducible refine (head_eye_just.calls gx s15 e15 z s16 e16 w _ HS.out.ex HS.out.eb HA16.out).mono ?_); rintro e_ w8 ⟨rfl, hi8, hb8, hk8⟩; have HS8 := Aside0.mk (head_Read.St.eye HS.out hi8 hb8 hk8); clear HS hi8 hb8 hk8; have HS := HS8; clear HS8; have hfz := fun i => blk_frozen HS.out.2.2.1 i; have hv1 := blk_cell HS.out.2.2.1 1; have hv2 := blk_cell HS.out.2.2.1 2; have hv3 := blk_cell HS.out.2.2.1 3; have hv4 := blk_cell HS.out.2.2.1 4; have hv5 := blk_cell HS.out.2.2.1 5; have hv6 := blk_cell HS.out.2.2.1 6; have hv7 := blk_cell HS.out.2.2.1 7; have hv8 := blk_cell HS.out.2.2.1 8; have hv9 := blk_cell HS.out.2.2.1 9; have hv10 := blk_cell HS.out.2.2.1 10; have hce : w8.cell? ⟨gx, 1, none⟩ = some (.int .i64 e16) := (blk_cell HS.out.2.2.2.1.1 1).trans rfl))
         go_wp2_with (first | ((with_reducible refine gate_dst (N := 100) rfl ?_); refine load_event rfl rfl Tryd.underlying23 rfl rfl (cs := [.string x1, .string x15, .string x10, .int .i64 x2, .int .i64 x3, .int .i64 x4, .int .i64 x5, .int .i64 x6, .int .u8 (bt x8 0), .string x12, .string x13]) sz23 (cells_of_blk HS.out.2.2.1) ?_) | ((with_reducible refine gate_store (t := 23) (p := 2) rfl ?_); refine put_event rfl rfl rfl rfl rfl HS.out.2.1 sz23 rfl rfl ?_; intro w3 hk3 hg3; have HR := Aside0.mk hk3; have HB3 := Aside0.mk (below_grown HS.out.2.2.2.2 hg3 HS.out.1.1 (blk_lt HS.out.2.1)); clear hk3 hg3))
         try show bodyPost _ _ _ _ _ _
         refine bodyPost_ret (results_ct rfl _ _ gr 23 #[.string x1, .string x15, .string x10, .int .i64 x2, .int .i64 x3, .int .i64 x4, .int .i64 x5, .int .i64 x6, .int .u8 (bt x8 0), .string x12, .string x13] (0, 0) _ rfl HR.out Tryd.underlying23 rfl (by kernel_rfl)) rfl ?_
         exact ⟨rfl, HB3.out⟩
        ·rw [if_neg h16] at h
         simp only [Option.some.injEq, Prod.mk.injEq] at h
         obtain ⟨rfl, rfl, rfl, rfl, rfl, rfl, rfl, rfl, rfl, rfl, rfl, rfl⟩ := h
         have h16a : (e16 == 0) = false := beq_eq_false_iff_ne.mpr h16
         have h16b : (e16 != 0) = true := bne_iff_ne.mpr h16
         clear h16
         go_upto_region 22 with (first | (go_at_call 29; (with_reducible refine (head_eye_text.calls gx s9 e9 100 true x10 s10 e10 w _ HS.out.ex HS.out.eb HA10.out).mono ?_); rintro e_ w8 ⟨rfl, hi8, hb8, hk8⟩; have HS8 := Aside0.mk (head_Read.St.eye HS.out hi8 hb8 hk8); clear HS hi8 hb8 hk8; have HS := HS8; clear HS8; have hfz := fun i => blk_frozen HS.out.2.2.1 i; have hv1 := blk_cell HS.out.2.2.1 1; have hv2 := blk_cell HS.out.2.2.1 2; have hv3 := blk_cell HS.out.2.2.1 3; have hv4 := blk_cell HS.out.2.2.1 4; have hv5 := blk_cell HS.out.2.2.1 5; have hv6 := blk_cell HS.out.2.2.1 6; have hv7 := blk_cell HS.out.2.2.1 7; have hv8 := blk_cell HS.out.2.2.1 8; have hv9 := blk_cell HS.out.2.2.1 9; have hv10 := blk_cell HS.out.2.2.1 10) | (go_at_call 34; (with_reducible refine (head_eye_just.calls gx s10 e10 (⟨#[117, 115, 116, 97, 114, 0, 48, 48]⟩ : ByteArray) s11 e11 w _ ((HS.out).set (H' := #[.string x1, .string (⟨#[]⟩ : ByteArray), .string x10, .int .i64 x2, .int .i64 x3, .int .i64 x4, .int .i64 x5, .int .i64 x6, .int .u8 (bt x8 0), .string (⟨#[]⟩ : ByteArray), .string (⟨#[]⟩ : ByteArray)]) 2 (.string x10) rfl).ex ((HS.out).set (H' := #[.string x1, .string (⟨#[]⟩ : ByteArray), .string x10, .int .i64 x2, .int .i64 x3, .int .i64 x4, .int .i64 x5, .int .i64 x6, .int .u8 (bt x8 0), .string (⟨#[]⟩ : ByteArray), .string (⟨#[]⟩ : ByteArray)]) 2 (.string x10) rfl).eb HA11.out).mono ?_); rintro e_ w8 ⟨rfl, hi8, hb8, hk8⟩; have HS8 := Aside0.mk (head_Read.St.eye ((HS.out).set (H' := #[.string x1, .string (⟨#[]⟩ : ByteArray), .string x10, .int .i64 x2, .int .i64 x3, .int .i64 x4, .int .i64 x5, .int .i64 x6, .int .u8 (bt x8 0), .string (⟨#[]⟩ : ByteArray), .string (⟨#[]⟩ : ByteArray)]) 2 (.string x10) rfl) hi8 hb8 hk8); clear HS hi8 hb8 hk8; have HS := HS8; clear HS8; have hfz := fun i => blk_frozen HS.out.2.2.1 i; have hv1 := blk_cell HS.out.2.2.1 1; have hv2 := blk_cell HS.out.2.2.1 2; have hv3 := blk_cell HS.out.2.2.1 3; have hv4 := blk_cell HS.out.2.2.1 4; have hv5 := blk_cell HS.out.2.2.1 5; have hv6 := blk_cell HS.out.2.2.1 6; have hv7 := blk_cell HS.out.2.2.1 7; have hv8 := blk_cell HS.out.2.2.1 8; have hv9 := blk_cell HS.out.2.2.1 9; have hv10 := blk_cell HS.out.2.2.1 10) | (go_at_call 29; (with_reducible refine (head_eye_text.calls gx s11 e11 32 false x12 s12 e12 w _ HS.out.ex HS.out.eb HA12.out).mono ?_); rintro e_ w8 ⟨rfl, hi8, hb8, hk8⟩; have HS8 := Aside0.mk (head_Read.St.eye HS.out hi8 hb8 hk8); clear HS hi8 hb8 hk8; have HS := HS8; clear HS8; have hfz := fun i => blk_frozen HS.out.2.2.1 i; have hv1 := blk_cell HS.out.2.2.1 1; have hv2 := blk_cell HS.out.2.2.1 2; have hv3 := blk_cell HS.out.2.2.1 3; have hv4 := blk_cell HS.out.2.2.1 4; have hv5 := blk_cell HS.out.2.2.1 5; have hv6 := blk_cell HS.out.2.2.1 6; have hv7 := blk_cell HS.out.2.2.1 7; have hv8 := blk_cell HS.out.2.2.1 8; have hv9 := blk_cell HS.out.2.2.1 9; have hv10 := blk_cell HS.out.2.2.1 10) | (go_at_call 29; (with_reducible refine (head_eye_text.calls gx s12 e12 32 false x13 s13 e13 w _ HS.out.ex HS.out.eb HA13.out).mono ?_); rintro e_ w8 ⟨rfl, hi8, hb8, hk8⟩; have HS8 := Aside0.mk (head_Read.St.eye HS.out hi8 hb8 hk8); clear HS hi8 hb8 hk8; have HS := HS8; clear HS8; have hfz := fun i => blk_frozen HS.out.2.2.1 i; have hv1 := blk_cell HS.out.2.2.1 1; have hv2 := blk_cell HS.out.2.2.1 2; have hv3 := blk_cell HS.out.2.2.1 3; have hv4 := blk_cell HS.out.2.2.1 4; have hv5 := blk_cell HS.out.2.2.1 5; have hv6 := blk_cell HS.out.2.2.1 6; have hv7 := blk_cell HS.out.2.2.1 7; have hv8 := blk_cell HS.out.2.2.1 8; have hv9 := blk_cell HS.out.2.2.1 9; have hv10 := blk_cell HS.out.2.2.1 10) | (go_at_call 34; (with_reducible refine (head_eye_just.calls gx s13 e13 (⟨#[48, 48, 48, 48, 48, 48, 48, 0, 48, 48, 48, 48, 48, 48, 48, 0]⟩ : ByteArray) s14 e14 w _ (((HS.out).set (H' := #[.string x1, .string (⟨#[]⟩ : ByteArray), .string x10, .int .i64 x2, .int .i64 x3, .int .i64 x4, .int .i64 x5, .int .i64 x6, .int .u8 (bt x8 0), .string x12, .string (⟨#[]⟩ : ByteArray)]) 9 (.string x12) rfl).set (H' := #[.string x1, .string (⟨#[]⟩ : ByteArray), .string x10, .int .i64 x2, .int .i64 x3, .int .i64 x4, .int .i64 x5, .int .i64 x6, .int .u8 (bt x8 0), .string x12, .string x13]) 10 (.string x13) rfl).ex (((HS.out).set (H' := #[.string x1, .string (⟨#[]⟩ : ByteArray), .string x10, .int .i64 x2, .int .i64 x3, .int .i64 x4, .int .i64 x5, .int .i64 x6, .int .u8 (bt x8 0), .string x12, .string (⟨#[]⟩ : ByteArray)]) 9 (.string x12) rfl).set (H' := #[.string x1, .string (⟨#[]⟩ : ByteArray), .string x10, .int .i64 x2, .int .i64 x3, .int .i64 x4, .int .i64 x5, .int .i64 x6, .int .u8 (bt x8 0), .string x12, .string x13]) 10 (.string x13) rfl).eb HA14.out).mono ?_); rintro e_ w8 ⟨rfl, hi8, hb8, hk8⟩; have HS8 := Aside0.mk (head_Read.St.eye (((HS.out).set (H' := #[.string x1, .string (⟨#[]⟩ : ByteArray), .string x10, .int .i64 x2, .int .i64 x3, .int .i64 x4, .int .i64 x5, .int .i64 x6, .int .u8 (bt x8 0), .string x12, .string (⟨#[]⟩ : ByteArray)]) 9 (.string x12) rfl).set (H' := #[.string x1, .string (⟨#[]⟩ : ByteArray), .string x10, .int .i64 x2, .int .i64 x3, .int .i64 x4, .int .i64 x5, .int .i64 x6, .int .u8 (bt x8 0), .string x12, .string x13]) 10 (.string x13) rfl) hi8 hb8 hk8); clear HS hi8 hb8 hk8; have HS := HS8; clear HS8; have hfz := fun i => blk_frozen HS.out.2.2.1 i; have hv1 := blk_cell HS.out.2.2.1 1; have hv2 := blk_cell HS.out.2.2.1 2; have hv3 := blk_cell HS.out.2.2.1 3; have hv4 := blk_cell HS.out.2.2.1 4; have hv5 := blk_cell HS.out.2.2.1 5; have hv6 := blk_cell HS.out.2.2.1 6; have hv7 := blk_cell HS.out.2.2.1 7; have hv8 := blk_cell HS.out.2.2.1 8; have hv9 := blk_cell HS.out.2.2.1 9; have hv10 := blk_cell HS.out.2.2.1 10) | (go_at_call 29; (with_reducible refine (head_eye_text.calls gx s14 e14 155 true x15 s15 e15 w _ HS.out.ex HS.out.eb HA15.out).mono ?_); rintro e_ w8 ⟨rfl, hi8, hb8, hk8⟩; have HS8 := Aside0.mk (head_Read.St.eye HS.out hi8 hb8 hk8); clear HS hi8 hb8 hk8; have HS := HS8; clear HS8; have hfz := fun i => blk_frozen HS.out.2.2.1 i; have hv1 := blk_cell HS.out.2.2.1 1; have hv2 := blk_cell HS.out.2.2.1 2; have hv3 := blk_cell HS.out.2.2.1 3; have hv4 := blk_cell HS.out.2.2.1 4; have hv5 := blk_cell HS.out.2.2.1 5; have hv6 := blk_cell HS.out.2.2.1 6; have hv7 := blk_cell HS.out.2.2.1 7; have hv8 := blk_cell HS.out.2.2.1 8; have hv9 := blk_cell HS.out.2.2.1 9; have hv10 := blk_cell HS.out.2.2.1 10) | (go_at_call 35; refine (strings_Repeat.calls _ _ z _ HAz.out).mono ?_; rintro e_ w8 ⟨rfl, hb8⟩; have HS8 := Aside0.mk (((HS.out).set (H' := #[.string x1, .string x15, .string x10, .int .i64 x2, .int .i64 x3, .int .i64 x4, .int .i64 x5, .int .i64 x6, .int .u8 (bt x8 0), .string x12, .string x13]) 1 (.string x15) rfl).step hb8); clear HS hb8; have HS := HS8; clear HS8) | (go_at_call 34; (with_reducible refine (head_eye_just.calls gx s15 e15 z s16 e16 w _ HS.out.ex HS.out.eb HA16.out).mono ?_); rintro e_ w8 ⟨rfl, hi8, hb8, hk8⟩; have HS8 := Aside0.mk (head_Read.St.eye HS.out hi8 hb8 hk8); clear HS hi8 hb8 hk8; have HS := HS8; clear HS8; have hfz := fun i => blk_frozen HS.out.2.2.1 i; have hv1 := blk_cell HS.out.2.2.1 1; have hv2 := blk_cell HS.out.2.2.1 2; have hv3 := blk_cell HS.out.2.2.1 3; have hv4 := blk_cell HS.out.2.2.1 4; have hv5 := blk_cell HS.out.2.2.1 5; have hv6 := blk_cell HS.out.2.2.1 6; have hv7 := blk_cell HS.out.2.2.1 7; have hv8 := blk_cell HS.out.2.2.1 8; have hv9 := blk_cell HS.out.2.2.1 9; have hv10 := blk_cell HS.out.2.2.1 10; have hce : w8.cell? ⟨gx, 1, none⟩ = some (.int .i64 e16) := (blk_cell HS.out.2.2.2.1.1 1).trans rfl))
         clear hfz hv1 hv2 hv3 hv4 hv5 hv6 hv7 hv8 hv9 hv10
         refine wp_region_any (by kernel_rfl) ?_
         try (change wpAny _ _ _ _ _ _ _ (World.drew _))
         refine wpAny_take (i := 0) (v := ?_) rfl (by kernel_rfl) (by kernel_rfl) (by kernel_rfl) (fun _ _ _ h => h) (Or.inl ⟨by rfl, ?_⟩) ?_
         rotate_left
         ·intro w
          go_simp
          try with_reducible rfl
         refine wpAny_take (i := 1) (v := ?_) rfl (by kernel_rfl) (by kernel_rfl) (by kernel_rfl) (fun _ _ _ h => h) (Or.inl ⟨by rfl, ?_⟩) ?_
         rotate_left
         ·intro w
          go_simp
          try with_reducible rfl
         refine wpAny_take (i := 2) (v := ?_) rfl (by kernel_rfl) (by kernel_rfl) (by kernel_rfl) (fun _ _ _ h => h) (Or.inl ⟨by rfl, ?_⟩) ?_
         rotate_left
         ·intro w
          go_simp
          try with_reducible rfl
         refine wpAny_take (i := 3) (v := ?_) rfl (by kernel_rfl) (by kernel_rfl) (by kernel_rfl) (fun _ _ _ h => h) (Or.inl ⟨by rfl, ?_⟩) ?_
         rotate_left
         ·intro w
          go_simp
          try with_reducible rfl
         (try simp only [Act.put, List.setIfInBounds_toArray, List.set_cons_zero, List.set_cons_succ])
         refine wpAny_ready (rs := [4, 5]) (by kernel_rfl) (by simp) ?_
         refine AllReady.cons rfl (fun K hK => ?_) (AllReady.cons rfl (fun K hK => ?_) AllReady.nil)
         ·go_simp
          refine hK _ _ ?_
          clear hK K
          refine wpAny_ready (rs := [5]) (by kernel_rfl) (by simp) ?_
          refine AllReady.cons rfl (fun K hK => ?_) AllReady.nil
          refine head_Read.put_step rfl rfl rfl rfl rfl (HS.out.drewN 1).2.1 sz23 rfl rfl ?_
          intro w3 hk3 hg3
          have HR := Aside0.mk hk3
          have HB3 := Aside0.mk (below_grown (HS.out.drewN 1).2.2.2.2 hg3 HS.out.1.1 (blk_lt (HS.out.drewN 1).2.1))
          have hce3 : w3.cell? ⟨gx, 1, none⟩ = some (.int .i64 e16) := (blk_cell (blk_grown (HS.out.drewN 1).2.2.2.1.1 hg3 (fun e => HS.out.1.2.2.2.1 (Option.some.inj e).symm)) 1).trans rfl
          clear hk3 hg3
          refine hK _ _ ?_
          clear hK K
          refine wpAny_ready (rs := [6]) (by kernel_rfl) (by simp) ?_
          refine AllReady.cons rfl (fun K hK => ?_) AllReady.nil
          go_simp
          refine hK _ _ ?_
          clear hK K
          refine wpAny_done (by kernel_rfl) ?_ _
          go_wp2
          try show bodyPost _ _ _ _ _ _
          refine bodyPost_ret (results_ct rfl _ _ gr 23 #[.string (⟨#[]⟩ : ByteArray), .string (⟨#[]⟩ : ByteArray), .string (⟨#[]⟩ : ByteArray), .int .i64 0, .int .i64 0, .int .i64 0, .int .i64 0, .int .i64 0, .int .u8 0, .string (⟨#[]⟩ : ByteArray), .string (⟨#[]⟩ : ByteArray)] (0, 0) _ rfl HR.out Tryd.underlying23 rfl (by kernel_rfl)) rfl ?_
          exact ⟨rfl, HB3.out⟩
         ·refine head_Read.put_step rfl rfl rfl rfl rfl (HS.out.drewN 1).2.1 sz23 rfl rfl ?_
          intro w3 hk3 hg3
          have HR := Aside0.mk hk3
          have HB3 := Aside0.mk (below_grown (HS.out.drewN 1).2.2.2.2 hg3 HS.out.1.1 (blk_lt (HS.out.drewN 1).2.1))
          have hce3 : w3.cell? ⟨gx, 1, none⟩ = some (.int .i64 e16) := (blk_cell (blk_grown (HS.out.drewN 1).2.2.2.1.1 hg3 (fun e => HS.out.1.2.2.2.1 (Option.some.inj e).symm)) 1).trans rfl
          clear hk3 hg3
          refine hK _ _ ?_
          clear hK K
          refine wpAny_ready (rs := [4]) (by kernel_rfl) (by simp) ?_
          refine AllReady.cons rfl (fun K hK => ?_) AllReady.nil
          go_simp
          refine hK _ _ ?_
          clear hK K
          refine wpAny_ready (rs := [6]) (by kernel_rfl) (by simp) ?_
          refine AllReady.cons rfl (fun K hK => ?_) AllReady.nil
          go_simp
          refine hK _ _ ?_
          clear hK K
          refine wpAny_done (by kernel_rfl) ?_ _
          go_wp2
          try show bodyPost _ _ _ _ _ _
          refine bodyPost_ret (results_ct rfl _ _ gr 23 #[.string (⟨#[]⟩ : ByteArray), .string (⟨#[]⟩ : ByteArray), .string (⟨#[]⟩ : ByteArray), .int .i64 0, .int .i64 0, .int .i64 0, .int .i64 0, .int .i64 0, .int .u8 0, .string (⟨#[]⟩ : ByteArray), .string (⟨#[]⟩ : ByteArray)] (0, 0) _ rfl HR.out Tryd.underlying23 rfl (by kernel_rfl)) rfl ?_
          exact ⟨rfl, HB3.out⟩
         
      ·rw [if_neg hx8] at h
       cases h
     ·rw [if_neg hb4] at h
      simp only [Option.some.injEq, Prod.mk.injEq] at h
      obtain ⟨rfl, rfl, rfl, rfl, rfl, rfl, rfl, rfl, rfl, rfl, rfl, rfl⟩ := h
      have hb4a : (bt a0 155 == 32) = false := beq_eq_false_iff_ne.mpr hb4
      have hb4b : (bt a0 155 != 32) = true := bne_iff_ne.mpr hb4
      clear hb4
      go_enter Tryd.func9, Tryd.ntmps9
      go_upto_region 6 with (first | ((with_reducible refine gate_dst (N := 2) rfl ?_); refine box_event ?hg (N := 2) ?hd (cs := #[.string (⟨#[]⟩ : ByteArray), .string (⟨#[]⟩ : ByteArray), .string (⟨#[]⟩ : ByteArray), .int .i64 0, .int .i64 0, .int .i64 0, .int .i64 0, .int .i64 0, .int .u8 0, .string (⟨#[]⟩ : ByteArray), .string (⟨#[]⟩ : ByteArray)]) (t := 23) ?hr ?_; (case hd => rfl); (case hg => rfl); (case hr => first | (go_simp; done) | (go_simp; rfl)); intro gr hg w1 hbox hb1; have HS0 := Aside0.mk (head_Read.S0.start hg hbox hb1); clear hg hbox hb1) | (go_at_call 27; refine (head_Sum.calls k _ b1 b1e _ HA1.out).mono ?_; rintro e w2 ⟨rfl, nd, rfl⟩) | (go_at_call 28; refine (octal_Read.calls k _ b2 b2e _ HA2.out).mono ?_; rintro e w2 ⟨rfl, nd, rfl⟩))
      go_wp2_with (((with_reducible refine gate_store (t := 23) (p := 2) rfl ?_); refine put_event rfl rfl rfl rfl rfl (HS0.out.drewN _).2.1 sz23 rfl rfl ?_; intro w3 hk3 hg3; have HR := Aside0.mk hk3; have HB3 := Aside0.mk (below_grown (HS0.out.drewN _).2.2 hg3 HS0.out.1 (blk_lt (HS0.out.drewN _).2.1)); clear hk3 hg3))
      try show bodyPost _ _ _ _ _ _
      refine bodyPost_ret (results_ct rfl _ _ gr 23 #[.string (⟨#[]⟩ : ByteArray), .string (⟨#[]⟩ : ByteArray), .string (⟨#[]⟩ : ByteArray), .int .i64 0, .int .i64 0, .int .i64 0, .int .i64 0, .int .i64 0, .int .u8 0, .string (⟨#[]⟩ : ByteArray), .string (⟨#[]⟩ : ByteArray)] (0, 0) _ rfl HR.out Tryd.underlying23 rfl (by kernel_rfl)) rfl ?_
      exact ⟨rfl, HB3.out⟩
    ·rw [if_neg hb3] at h
     simp only [Option.some.injEq, Prod.mk.injEq] at h
     obtain ⟨rfl, rfl, rfl, rfl, rfl, rfl, rfl, rfl, rfl, rfl, rfl, rfl⟩ := h
     have hb3a : (b2 == b1) = false := beq_eq_false_iff_ne.mpr hb3
     have hb3b : (b2 != b1) = true := bne_iff_ne.mpr hb3
     clear hb3
     go_enter Tryd.func9, Tryd.ntmps9
     go_upto_region 6 with (first | ((with_reducible refine gate_dst (N := 2) rfl ?_); refine box_event ?hg (N := 2) ?hd (cs := #[.string (⟨#[]⟩ : ByteArray), .string (⟨#[]⟩ : ByteArray), .string (⟨#[]⟩ : ByteArray), .int .i64 0, .int .i64 0, .int .i64 0, .int .i64 0, .int .i64 0, .int .u8 0, .string (⟨#[]⟩ : ByteArray), .string (⟨#[]⟩ : ByteArray)]) (t := 23) ?hr ?_; (case hd => rfl); (case hg => rfl); (case hr => first | (go_simp; done) | (go_simp; rfl)); intro gr hg w1 hbox hb1; have HS0 := Aside0.mk (head_Read.S0.start hg hbox hb1); clear hg hbox hb1) | (go_at_call 27; refine (head_Sum.calls k _ b1 b1e _ HA1.out).mono ?_; rintro e w2 ⟨rfl, nd, rfl⟩) | (go_at_call 28; refine (octal_Read.calls k _ b2 b2e _ HA2.out).mono ?_; rintro e w2 ⟨rfl, nd, rfl⟩))
     go_wp2_with (((with_reducible refine gate_store (t := 23) (p := 2) rfl ?_); refine put_event rfl rfl rfl rfl rfl (HS0.out.drewN _).2.1 sz23 rfl rfl ?_; intro w3 hk3 hg3; have HR := Aside0.mk hk3; have HB3 := Aside0.mk (below_grown (HS0.out.drewN _).2.2 hg3 HS0.out.1 (blk_lt (HS0.out.drewN _).2.1)); clear hk3 hg3))
     try show bodyPost _ _ _ _ _ _
     refine bodyPost_ret (results_ct rfl _ _ gr 23 #[.string (⟨#[]⟩ : ByteArray), .string (⟨#[]⟩ : ByteArray), .string (⟨#[]⟩ : ByteArray), .int .i64 0, .int .i64 0, .int .i64 0, .int .i64 0, .int .i64 0, .int .u8 0, .string (⟨#[]⟩ : ByteArray), .string (⟨#[]⟩ : ByteArray)] (0, 0) _ rfl HR.out Tryd.underlying23 rfl (by kernel_rfl)) rfl ?_
     exact ⟨rfl, HB3.out⟩
   ·rw [if_neg hb2] at h
    simp only [Option.some.injEq, Prod.mk.injEq] at h
    obtain ⟨rfl, rfl, rfl, rfl, rfl, rfl, rfl, rfl, rfl, rfl, rfl, rfl⟩ := h
    have hb2a : (b2e == 0) = false := beq_eq_false_iff_ne.mpr hb2
    have hb2b : (b2e != 0) = true := bne_iff_ne.mpr hb2
    clear hb2
    go_enter Tryd.func9, Tryd.ntmps9
    go_upto_region 6 with (first | ((with_reducible refine gate_dst (N := 2) rfl ?_); refine box_event ?hg (N := 2) ?hd (cs := #[.string (⟨#[]⟩ : ByteArray), .string (⟨#[]⟩ : ByteArray), .string (⟨#[]⟩ : ByteArray), .int .i64 0, .int .i64 0, .int .i64 0, .int .i64 0, .int .i64 0, .int .u8 0, .string (⟨#[]⟩ : ByteArray), .string (⟨#[]⟩ : ByteArray)]) (t := 23) ?hr ?_; (case hd => rfl); (case hg => rfl); (case hr => first | (go_simp; done) | (go_simp; rfl)); intro gr hg w1 hbox hb1; have HS0 := Aside0.mk (head_Read.S0.start hg hbox hb1); clear hg hbox hb1) | (go_at_call 27; refine (head_Sum.calls k _ b1 b1e _ HA1.out).mono ?_; rintro e w2 ⟨rfl, nd, rfl⟩) | (go_at_call 28; refine (octal_Read.calls k _ b2 b2e _ HA2.out).mono ?_; rintro e w2 ⟨rfl, nd, rfl⟩))
    go_wp2_with (((with_reducible refine gate_store (t := 23) (p := 2) rfl ?_); refine put_event rfl rfl rfl rfl rfl (HS0.out.drewN _).2.1 sz23 rfl rfl ?_; intro w3 hk3 hg3; have HR := Aside0.mk hk3; have HB3 := Aside0.mk (below_grown (HS0.out.drewN _).2.2 hg3 HS0.out.1 (blk_lt (HS0.out.drewN _).2.1)); clear hk3 hg3))
    try show bodyPost _ _ _ _ _ _
    refine bodyPost_ret (results_ct rfl _ _ gr 23 #[.string (⟨#[]⟩ : ByteArray), .string (⟨#[]⟩ : ByteArray), .string (⟨#[]⟩ : ByteArray), .int .i64 0, .int .i64 0, .int .i64 0, .int .i64 0, .int .i64 0, .int .u8 0, .string (⟨#[]⟩ : ByteArray), .string (⟨#[]⟩ : ByteArray)] (0, 0) _ rfl HR.out Tryd.underlying23 rfl (by kernel_rfl)) rfl ?_
    exact ⟨rfl, HB3.out⟩
  ·rw [if_neg hsz] at h
   cases h
 ·rw [if_neg hb1] at h
  simp only [Option.some.injEq, Prod.mk.injEq] at h
  obtain ⟨rfl, rfl, rfl, rfl, rfl, rfl, rfl, rfl, rfl, rfl, rfl, rfl⟩ := h
  have hb1a : (b1e == 0) = false := beq_eq_false_iff_ne.mpr hb1
  have hb1b : (b1e != 0) = true := bne_iff_ne.mpr hb1
  clear hb1
  go_enter Tryd.func9, Tryd.ntmps9
  go_upto_region 3 with (first | ((with_reducible refine gate_dst (N := 2) rfl ?_); refine box_event ?hg (N := 2) ?hd (cs := #[.string (⟨#[]⟩ : ByteArray), .string (⟨#[]⟩ : ByteArray), .string (⟨#[]⟩ : ByteArray), .int .i64 0, .int .i64 0, .int .i64 0, .int .i64 0, .int .i64 0, .int .u8 0, .string (⟨#[]⟩ : ByteArray), .string (⟨#[]⟩ : ByteArray)]) (t := 23) ?hr ?_; (case hd => rfl); (case hg => rfl); (case hr => first | (go_simp; done) | (go_simp; rfl)); intro gr hg w1 hbox hb1; have HS0 := Aside0.mk (head_Read.S0.start hg hbox hb1); clear hg hbox hb1) | (go_at_call 27; refine (head_Sum.calls k _ b1 b1e _ HA1.out).mono ?_; rintro e w2 ⟨rfl, nd, rfl⟩))
  go_wp2_with (((with_reducible refine gate_store (t := 23) (p := 2) rfl ?_); refine put_event rfl rfl rfl rfl rfl (HS0.out.drewN _).2.1 sz23 rfl rfl ?_; intro w3 hk3 hg3; have HR := Aside0.mk hk3; have HB3 := Aside0.mk (below_grown (HS0.out.drewN _).2.2 hg3 HS0.out.1 (blk_lt (HS0.out.drewN _).2.1)); clear hk3 hg3))
  try show bodyPost _ _ _ _ _ _
  refine bodyPost_ret (results_ct rfl _ _ gr 23 #[.string (⟨#[]⟩ : ByteArray), .string (⟨#[]⟩ : ByteArray), .string (⟨#[]⟩ : ByteArray), .int .i64 0, .int .i64 0, .int .i64 0, .int .i64 0, .int .i64 0, .int .u8 0, .string (⟨#[]⟩ : ByteArray), .string (⟨#[]⟩ : ByteArray)] (0, 0) _ rfl HR.out Tryd.underlying23 rfl (by kernel_rfl)) rfl ?_
  exact ⟨rfl, HB3.out⟩


end Go.Proofs.YtodeblpanooomaaDoor.All
end
section
namespace Go.Proofs.YtodeblpanooomaaDoorW.Blks
open Go Go.RowKit Go.Proofs.YtodeblpanooomaaDoorW.PrintWords Go.Proofs.YtodeblpanooomaaDoorW.MapOwn
/-- The blocks of the list are the call's own, all different, and hold what the list says; what was there before is as it was. -/
structure Blks (w W : World) (L : List (Nat × Obj)) : Prop where
  below : Below w.heap.size w W
  own : ∀ p ∈ L, w.heap.size ≤ p.1 ∧ W.heap[p.1]? = some p.2
  apart : (L.map Prod.fst).Nodup
section
variable {w W W' : World} {L : List (Nat × Obj)} {g : Nat} {o o' : Obj} {j : Nat}
theorem Blks.nil (w : World) : Blks w w [] := ⟨Below.refl _ _, fun _ h => by simp at h, by simp⟩
theorem Blks.blk (h : Blks w W L) (hj : L[j]? = some (g, o)) : W.heap[g]? = some o := (h.own (g, o) (List.mem_of_getElem? hj)).2
theorem Blks.ge (h : Blks w W L) (hj : L[j]? = some (g, o)) : w.heap.size ≤ g := (h.own (g, o) (List.mem_of_getElem? hj)).1
theorem Blks.lt (h : Blks w W L) (hj : L[j]? = some (g, o)) : g < W.heap.size := blk_lt (h.blk hj)
theorem Blks.size (h : Blks w W L) : w.heap.size ≤ W.heap.size := h.below.size
theorem Blks.step (h : Blks w W L) (hb : Below W.heap.size W W') : Blks w W' L :=
  ⟨below_step h.below hb, fun p hp => ⟨(h.own p hp).1, blk_below (h.own p hp).2 hb⟩, h.apart⟩
theorem Blks.drewN (h : Blks w W L) (q : Nat) : Blks w (W.drewN q) L := h.step (pw_below_drewN (Below.refl _ _) q)
theorem Blks.drew (h : Blks w W L) : Blks w W.drew L := h.step (below_drew1 (Below.refl _ _))
theorem Blks.alloc (h : Blks w W L) (x : Obj) : Blks w (W.alloc x) L := h.step (below_alloc (Below.refl _ _) x)
theorem Blks.box (h : Blks w W L) (hg : g = W.heap.size) (hk : W'.heap[g]? = some o) (hb : Below W.heap.size W W') : Blks w W' ((g, o) :: L) := by
  have h2 := h.step hb
  refine ⟨h2.below, fun p hp => ?_, ?_⟩
  · rw [List.mem_cons] at hp
    rcases hp with rfl | hp
    · exact ⟨by rw [hg]; exact h.size, hk⟩
    · exact h2.own p hp
  · rw [List.map_cons, List.nodup_cons]
    refine ⟨fun hm => ?_, h.apart⟩
    obtain ⟨p, hp, e⟩ := List.mem_map.1 hm
    have := blk_lt (h.own p hp).2
    rw [e, hg] at this
    omega
/-- one block is written anew, the others stay -/
theorem Blks.put (h : Blks w W L) (j : Nat) (hj : L[j]? = some (g, o)) (hk : W'.heap[g]? = some o') (hg : W.grownBy W' (some g)) : Blks w W' (L.set j (g, o')) := by
  have hjl : j < L.length := (List.getElem?_eq_some_iff.1 hj).1
  refine ⟨below_grown h.below hg (h.ge hj) (h.lt hj), fun p hp => ?_, ?_⟩
  · obtain ⟨i, hi, rfl⟩ := List.mem_iff_getElem.1 hp
    rw [List.length_set] at hi
    by_cases e : j = i
    · subst e
      rw [List.getElem_set_self]
      exact ⟨h.ge hj, hk⟩
    · rw [List.getElem_set_ne e]
      have hm : L[i] ∈ L := List.getElem_mem hi
      refine ⟨(h.own _ hm).1, blk_grown (h.own _ hm).2 hg (fun e2 => ?_)⟩
      have e3 : (L.map Prod.fst)[i]? = (L.map Prod.fst)[j]? := by
        rw [List.getElem?_map, List.getElem?_map, hj, List.getElem?_eq_getElem hi]
        simp only [Option.map_some, Option.some.injEq]
        exact (Option.some.inj e2)
      exact e ((List.getElem?_inj (l := L.map Prod.fst) (by simpa using hi) h.apart).1 e3).symm
  · have : (L.set j (g, o')).map Prod.fst = L.map Prod.fst := by
      rw [List.map_set]
      apply List.ext_getElem?
      intro i
      by_cases e : j = i
      · subst e
        rw [List.getElem?_set_self (by simpa using hjl), List.getElem?_map, hj]; rfl
      · rw [List.getElem?_set_ne e]
    rw [this]
    exact h.apart
theorem grownBy_setCell (W : World) (g i : Nat) (v : Value) : W.grownBy (W.setCell ⟨g, i, none⟩ v) (some g) :=
  ⟨rfl, rfl, rfl, by simp [World.setCell], fun k hk hne => Below.heap_setCell W ⟨g, i, none⟩ v k (fun e => hne (by rw [e]))⟩
theorem Blks.set {cs cs' : Array Value} {t : TypeId} (h : Blks w W L) (j : Nat) (hj : L[j]? = some (g, .cells cs t (0, 0))) (i : Nat) (v : Value) (he : cs.setIfInBounds i v = cs') : Blks w (W.setCell ⟨g, i, none⟩ v) (L.set j (g, .cells cs' t (0, 0))) :=
  h.put j hj (blk_put (h.blk hj) i v he) (grownBy_setCell W g i v)
theorem Blks.cell {cs : Array Value} {t : TypeId} (h : Blks w W L) (j : Nat) (hj : L[j]? = some (g, .cells cs t (0, 0))) (i : Nat) {v : Value} (hv : cs[i]? = some v) : W.cell? ⟨g, i, none⟩ = some v := (blk_cell (h.blk hj) i).trans hv
theorem Blks.fz {cs : Array Value} {t : TypeId} (h : Blks w W L) (j : Nat) (hj : L[j]? = some (g, .cells cs t (0, 0))) (i : Nat) : W.frozen? ⟨g, i, none⟩ = false := blk_frozen (h.blk hj) i
theorem Blks.ne (h : Blks w W L) {i j : Nat} {g1 g2 : Nat} {o1 o2 : Obj} (hi : L[i]? = some (g1, o1)) (hj : L[j]? = some (g2, o2)) (hij : i ≠ j) : g1 ≠ g2 := by
  intro e
  have hil : i < (L.map Prod.fst).length := by simpa using (List.getElem?_eq_some_iff.1 hi).1
  have e3 : (L.map Prod.fst)[i]? = (L.map Prod.fst)[j]? := by rw [List.getElem?_map, List.getElem?_map, hi, hj]; simp [e]
  exact hij ((List.getElem?_inj (l := L.map Prod.fst) hil h.apart).1 e3)
end
/-! ### a struct stored whole, as one step of a region that draws -/
theorem put_step {P : Program} {ops : Array Oper} {o : Oper} {a : Act} {Q : Exit → Act → World → Prop} {Kc : Act → World → Prop} {W : World} (hw : Region.wanted o (yielded ops a.tmps) = true) (hd : o.dst = none) {ty : TypeId} {x y : Operand} (ho : o.op = .store ty x y) {g : Nat} {cells old : Array Value} {t : TypeId} (hx : a.eval x = .pointer (some ⟨g, 0, none⟩)) (hy : a.eval y = .agg cells)
    (hg : W.heap[g]? = some (.cells old t (0, 0))) (hi : (P.info? ty).map (·.size) = some cells.size) (hold : old.size = cells.size) (h1 : cells.toList.all (·.oneCell') = true)
    (h : ∀ W', W'.heap[g]? = some (.cells cells t (0, 0)) → W.grownBy W' (some g) → Kc a W') : if Region.wanted o (yielded ops a.tmps) = true then Oper.wp P o a W Kc Q else Kc (a.put o.dst undef) W := by
  rw [if_pos hw]
  refine wp_store_row ty x y ho g cells hx hy t old hg hi hold (by rw [← h1, Array.all_toList]) ?_
  rw [hd]
  refine h _ (setRow_heap W g old cells t (0, 0) hg) ⟨rfl, rfl, rfl, by simp [World.setRow], fun k hk hne => ?_⟩
  simp only [World.setRow, Array.getElem?_modify]
  rw [if_neg (fun e => hne (by rw [e]))]
end Go.Proofs.YtodeblpanooomaaDoorW.Blks
end
