/- Made by programs of the prover: walks of Go functions, the words that they use, and plain laws, each text in a section of its own; no condition of its own. -/
import Derived.Test.YtodeblpanooomabDoorZLinkAnews2
import Derived.Test.YtodeblpanooomabDoorZLinkAnews5
section
namespace Go.Proofs.YtodeblpanooomabDoor.All
open Go.RowKit Go.Proofs.YtodeblpanooomabDoorW.PrintWords Go.Proofs.YtodeblpanooomabDoorW.PrintLast Go.Proofs.YtodeblpanooomabDoorW.PrintMore
open Go.Proofs.YtodeblpanooomabDoorW.Mine
attribute [local go_sem] gtr_string leq_string geq_string
attribute [local go_sem] max2_int min2_int max_two min_two max_three min_three max_four min_four   -- for this text's walks alone
set_option linter.unusedVariables false
set_option linter.unusedSimpArgs false

/-! ### link_Names: function 10 -/
open Go.Proofs.YtodeblpanooomabDoorW.MapOwn
/-- what a place counts so far -/
def link_Names.cnt (m : List (Int × Int)) (i : Int) : Int := (get m i).getD 0
def link_Names.run : List Int → List (Int × Int) → Option (List (Int × Int))
 | [], m => some m
 | i :: is, m => if (Lit.int .i64 i).wf = true then link_Names.run is ((i, wrap64 (link_Names.cnt m i + 1)) :: m) else none
def link_Names.out : List Int → List (Int × Int) → Option (List Int)
 | [], _ => some []
 | i :: is, m => if (Lit.int .i64 i).wf = true then (link_Names.out is m).bind fun r => some (link_Names.cnt m i :: r) else none
def link_Names.f (k : Nat) (l0 : List S56) : Option (List Int × Int) := (link_Firsts.f k l0).bind fun r => if r.2 = 0 then (if r.1.length ≤ 1000000 then (link_Names.run r.1 []).bind fun m => (link_Names.out r.1 m).bind fun o => some (o, 0) else none) else some ([], r.2)
theorem link_Names.mono : ∀ a0 k, LeO (link_Names.f k a0) (link_Names.f (k + 1) a0) := by
 intro a0 k
 unfold link_Names.f
 exact LeO.bind (link_Firsts.mono _ _) (fun e => LeO.refl _)
theorem link_Names.at_ (l : List Int) (n : Nat) (h : n < l.length) : l.drop n = rd l (n : Int) :: l.drop (n + 1) := by
 rw [List.drop_eq_getElem_cons h]
 congr 1
 unfold rd
 rw [Int.toNat_natCast, List.getD_eq_getElem?_getD, List.getElem?_eq_getElem h]; rfl
theorem link_Names.infoI : (Tryd.prog.info? 3).map (fun i => (i.zero, i.size, i.bytes)) = some (some (.int .i64 0), 1, 8) := by kernel_rfl
/-- what the first loop holds -/
structure link_Names.St (w W : World) (bm n : Nat) (m : List (Int × Int)) (v : Value) (xs : List Int) : Prop where
 map : link_Firsts.MA W bm n m
 mle : w.heap.size ≤ bm
 row : link_Firsts.Row W w.heap.size v xs
 below : Below w.heap.size w W
theorem link_Names.St.put {w W W' : World} {bm n : Nat} {m m' : List (Int × Int)} {v : Value} {xs : List Int} (h : link_Names.St w W bm n m v xs) (hm : link_Firsts.MA W' bm (n + 1) m') (hg : W.grownBy W' (some bm)) : link_Names.St w W' bm (n + 1) m' v xs := by
 obtain ⟨es, clock, hb⟩ := h.map.obj
 exact ⟨hm, h.mle, h.row.grown hg (h.row.nmap hb), below_grown h.below hg h.mle h.map.lt⟩
theorem link_Names.St.step {w W W' : World} {bm n : Nat} {m : List (Int × Int)} {v : Value} {xs : List Int} (h : link_Names.St w W bm n m v xs) (hb : Below W.heap.size W W') : link_Names.St w W' bm n m v xs :=
 ⟨h.map.below hb, h.mle, h.row.keep (fun k hk => hb.block k (Kd.R_lt h.row k hk)), below_step h.below hb⟩
set_option maxHeartbeats 8000000 in
set_option maxRecDepth 100000 in
theorem link_Names.calls (k : Nat) (A0 : Option Addr) (c0 : Nat) (l0 : List (S56)) (r1 : List Int) (r2 : Int) (w : World) (hr0 : Kd.C k56 w A0 l0.length l0) (hc0 : l0.length ≤ c0) (h : link_Names.f k l0 = some (r1, r2)) :
  Calls Tryd.prog 10 #[.slice A0 l0.length c0] w fun e w' => ∃ v0_ : Value, e = .returned (.tuple #[v0_, .int .i64 r2]) ∧ Kd.R (Kd.int .i64) 3 w' w.heap.size (fun _ => True) v0_ r1 ∧ Below w.heap.size w w' := by
 have HR0 := Aside0.mk hr0
 have HC0 := Aside0.mk hc0
 clear hr0 hc0
 obtain ⟨⟨l, e1⟩, A10, H⟩ := Option.bind_eq_some_iff.mp (show ((link_Firsts.f k l0).bind fun r => if r.2 = 0 then (if r.1.length ≤ 1000000 then (link_Names.run r.1 []).bind fun m => (link_Names.out r.1 m).bind fun o => some (o, 0) else none) else some ([], r.2)) = some (r1, r2) from h)
 have HA1 := Aside0.mk A10
 clear A10 h
 dsimp only at H
 by_cases c1 : e1 = 0
 ·rw [if_pos c1] at H
  have c1a : (e1 == 0) = true := beq_iff_eq.mpr c1
  have c1b : (e1 != 0) = false := bne_eq_false_iff_eq.mpr c1
  clear c1
  by_cases hl : l.length ≤ 1000000
  ·rw [if_pos hl] at H
   obtain ⟨M, AM, H⟩ := Option.bind_eq_some_iff.mp H
   obtain ⟨o, AO, H⟩ := Option.bind_eq_some_iff.mp H
   simp only [Option.some.injEq, Prod.mk.injEq] at H
   obtain ⟨rfl, rfl⟩ := H
   have H' := Aside0.mk AM
   have HOUT := Aside0.mk AO
   have HL := Aside0.mk hl
   clear AM AO hl
   have hmm := @run_makeMap Tryd.prog
   go_enter Tryd.func10, Tryd.ntmps10
   go_wp2_with (go_at_call 9; refine (link_Firsts.calls k A0 c0 l0 l e1 _ HR0.out HC0.out HA1.out).mono ?_; rintro e w2 ⟨vl, rfl, hr2, hb2⟩; obtain ⟨Al, cl, el⟩ := Kd.R_slice hr2; subst el; have HRL := Aside0.mk hr2; have HB := Aside0.mk hb2; clear hr2 hb2)
   clear hmm
   have HS := Aside0.mk (show link_Names.St w (w2.alloc (.map #[] 0)) w2.heap.size 0 [] (.slice Al l.length cl) l from ⟨MapAt.made _ _ _ _ _, HB.out.size, link_Firsts.Row.keep HRL.out (fun k hk => (below_alloc (Below.refl _ _) _).block k (Kd.R_lt HRL.out k hk)), below_alloc HB.out _⟩)
   clear HRL HB
   obtain ⟨bm, hbm⟩ : ∃ bm, w2.heap.size = bm := ⟨_, rfl⟩
   rw [hbm] at HS ⊢
   clear hbm
   go_loopg [23] l.length (fun kq v23 wx => ∃ (n : Nat) (m : List (Int × Int)), Aside0 (kq = l.length - n) ∧ Aside0 (n ≤ l.length) ∧ v23 = .int .i64 (n : Int) ∧ Aside0 (link_Names.run (l.drop n) m = some M) ∧ Aside0 (link_Names.St w wx bm n m (.slice Al l.length cl) l))
   case atStart => exact ⟨0, [], ⟨rfl⟩, ⟨Nat.zero_le _⟩, rfl, ⟨by rw [List.drop_zero]; exact H'.out⟩, HS⟩
   case round =>
    clear H' HS
    obtain ⟨n, m, HQ, HN, rfl, HA, HS⟩ := hrel
    by_cases c3 : n < l.length
    ·have H := HA.out
     clear HA
     rw [link_Names.at_ l n c3] at H
     by_cases hwf : (Lit.int .i64 (rd l (n : Int))).wf = true
     ·replace H : link_Names.run (l.drop (n + 1)) ((rd l (n : Int), wrap64 (link_Names.cnt m (rd l (n : Int)) + 1)) :: m) = some M := by rw [← H]; exact (if_pos hwf).symm
      obtain ⟨ad, e, hx⟩ := Kd.at_int (Kd.R_reads' HS.out.row).2.2 (n : Int) (by omega) (by omega)
      subst e
      rw [Int.toNat_natCast] at hx
      have HLT := Aside0.mk c3
      have HW := Aside0.mk hwf
      have p3 : ((n : Int) < (l.length : Int)) = True := eq_true (by omega)
      have p4 : (0 ≤ (n : Int)) = True := eq_true (by omega)
      have hw1 : wrap64 ((n : Int) + 1) = ((n + 1 : Nat) : Int) := by have := HL.out; unfold wrap64; omega
      clear c3 hwf
      generalize hi : rd l (n : Int) = i at *
      clear hi
      cases hget : get m i with
      | some y =>
       have hc : link_Names.cnt m i = y := by unfold link_Names.cnt; rw [hget]; rfl
       rw [hc] at H
       have H' := Aside0.mk H
       have HGET := Aside0.mk hget
       clear H hget hc
       go_wp2_with (first | (at_lookup; refine wp_look_hit _ rfl _ _ 49 rfl 3 (Maps.int_keyed Tryd.underlying3) Tryd.underlying49 (link_Firsts.zeroI _) bm _ rfl HS.out.map _ rfl (Maps.keyOf_int_mk Tryd.underlying3 HW.out) HGET.out ?_; rintro v hKy; obtain rfl : v = _ := hKy) | (at_mapUpdate; refine wp_put _ (fun a b h => by injection h) rfl _ _ _ 49 rfl 3 (Maps.int_keyed Tryd.underlying3) Tryd.underlying49 bm n rfl HS.out.map (by have := HL.out; have := HLT.out; unfold maxLen; omega) _ _ rfl rfl (Maps.keyOf_int_mk Tryd.underlying3 HW.out) (y := wrap64 (y + 1)) rfl ?_; intro w4 hm4 hg4; have HS9 := Aside0.mk (HS.out.put hm4 hg4); clear HS; have HS := HS9; clear HS9; clear hm4 hg4))
       go_roundg (l.length - (n + 1))
       case measure => have := HQ.out; have := HLT.out; omega
       case rel => exact ⟨n + 1, _, ⟨rfl⟩, ⟨HLT.out⟩, (by first | rfl | rw [hw1]), H', HS⟩
      | none =>
       have hc : link_Names.cnt m i = 0 := by unfold link_Names.cnt; rw [hget]; rfl
       rw [hc, show wrap64 ((0 : Int) + 1) = 1 by unfold wrap64; omega] at H
       have H' := Aside0.mk H
       have HGET := Aside0.mk hget
       clear H hget hc
       go_wp2_with (first | (at_lookup; refine wp_look_miss _ rfl _ _ 49 rfl 3 (Maps.int_keyed Tryd.underlying3) Tryd.underlying49 (link_Firsts.zeroI _) bm _ rfl HS.out.map _ rfl (Maps.keyOf_int_mk Tryd.underlying3 HW.out) HGET.out ?_) | (at_mapUpdate; refine wp_put _ (fun a b h => by injection h) rfl _ _ _ 49 rfl 3 (Maps.int_keyed Tryd.underlying3) Tryd.underlying49 bm n rfl HS.out.map (by have := HL.out; have := HLT.out; unfold maxLen; omega) _ _ rfl rfl (Maps.keyOf_int_mk Tryd.underlying3 HW.out) (y := 1) rfl ?_; intro w4 hm4 hg4; have HS9 := Aside0.mk (HS.out.put hm4 hg4); clear HS; have HS := HS9; clear HS9; clear hm4 hg4))
       go_roundg (l.length - (n + 1))
       case measure => have := HQ.out; have := HLT.out; omega
       case rel => exact ⟨n + 1, _, ⟨rfl⟩, ⟨HLT.out⟩, (by first | rfl | rw [hw1]), H', HS⟩
     ·have H2 : none = some M := by rw [← H]; exact (if_neg hwf).symm
      cases H2
    ·have c3b : decide ((n : Int) < (l.length : Int)) = false := decide_eq_false (by omega)
     have c3n : decide (n < l.length) = false := decide_eq_false c3
     have c3m : (n < l.length) = False := eq_false c3
     have H := HA.out
     rw [List.drop_of_length_le (by omega)] at H
     obtain rfl := Option.some.inj (show some m = some M from H)
     clear c3 H HA HQ HN
     obtain ⟨wx_, hwx⟩ : ∃ wx_, wr = wx_ := ⟨_, rfl⟩
     rw [hwx] at HS ⊢
     clear hwx
     go_wp2_with ((with_reducible refine gate_dst (N := 34) rfl ?_); refine Go.Proofs.YtodeblpanooomabDoorW.MakeCap.R_makecap (Kd.int .i64) (w0 := wx_) wx_.heap.size 3 rfl (N := 34) rfl 23 _ _ rfl (l.length : Int) rfl rfl Tryd.underlying23 (.int .i64 0) 8 link_Names.infoI (by decide) (by omega) (ok := fun _ => True) trivial (by omega) (by have := HL.out; simp only [Int.toNat_natCast]; omega) (Below.refl _ _) (Nat.le_refl _) ?_; intro v34 w6 ho6 hb6 hg6 hat6; have HO := Aside0.mk (Kd.R_lower ho6 HS.out.below.size); have HNE := Aside0.mk (show ∀ k, (Value.slice Al l.length cl).ownBlock = some k → v34.ownBlock ≠ some k from fun k hk e => by obtain ⟨b, hb1, hb2⟩ := hat6; have h9 := Kd.R_lt HS.out.row k hk; rw [hb1] at e; have := Option.some.inj e; omega); have HS9 := Aside0.mk (HS.out.step hb6); clear HS; have HS := HS9; clear HS9; clear ho6 hb6 hg6 hat6)
     clear c3b c3n c3m
     go_loopg [9, 37] l.length (fun kq v9 v37 wx => ∃ (p : Nat) (acc os : List Int), Aside0 (kq = l.length - p) ∧ Aside0 (p ≤ l.length) ∧ v37 = .int .i64 (p : Int) ∧ Aside0 (acc.length = p) ∧ Aside0 (link_Names.out (l.drop p) m = some os) ∧ Aside0 (acc ++ os = o) ∧ Aside0 (link_Firsts.Row wx w.heap.size v9 acc) ∧ Aside0 (link_Names.St w wx bm n m (.slice Al l.length cl) l) ∧ Aside0 (∀ k, (Value.slice Al l.length cl).ownBlock = some k → v9.ownBlock ≠ some k))
     case atStart => exact ⟨0, [], o, ⟨rfl⟩, ⟨Nat.zero_le _⟩, rfl, ⟨rfl⟩, ⟨by rw [List.drop_zero]; exact HOUT.out⟩, ⟨rfl⟩, HO, HS, HNE⟩
     case round =>
      clear HO HS HNE HOUT
      obtain ⟨p, acc, os, HQ, HP, rfl, HLA, HA, HE, HO, HS, HNE⟩ := hrel
      by_cases c4 : p < l.length
      ·have H := HA.out
       clear HA
       rw [link_Names.at_ l p c4] at H
       by_cases hwf : (Lit.int .i64 (rd l (p : Int))).wf = true
       ·replace H : ((link_Names.out (l.drop (p + 1)) m).bind fun r => some (link_Names.cnt m (rd l (p : Int)) :: r)) = some os := by rw [← H]; exact (if_pos hwf).symm
        obtain ⟨os', A20, H⟩ := Option.bind_eq_some_iff.mp H
        obtain rfl := Option.some.inj H
        have H' := Aside0.mk A20
        clear H A20
        obtain ⟨ad, e, hx⟩ := Kd.at_int (Kd.R_reads' HS.out.row).2.2 (p : Int) (by omega) (by omega)
        subst e
        rw [Int.toNat_natCast] at hx
        have HLT := Aside0.mk c4
        have HW := Aside0.mk hwf
        have p3 : ((p : Int) < (l.length : Int)) = True := eq_true (by omega)
        have p4 : (0 ≤ (p : Int)) = True := eq_true (by omega)
        have hw1 : wrap64 ((p : Int) + 1) = ((p + 1 : Nat) : Int) := by have := HL.out; unfold wrap64; omega
        clear c4 hwf
        generalize hi : rd l (p : Int) = i at *
        clear hi
        cases hget : get m i with
        | some y =>
         have hc : link_Names.cnt m i = y := by unfold link_Names.cnt; rw [hget]; rfl
         rw [hc] at HE
         have HGET := Aside0.mk hget
         clear hget hc
         go_wp2_with (first | (at_lookup; refine wp_look_hit _ rfl _ _ 49 rfl 3 (Maps.int_keyed Tryd.underlying3) Tryd.underlying49 (link_Firsts.zeroI _) bm _ rfl HS.out.map _ rfl (Maps.keyOf_int_mk Tryd.underlying3 HW.out) HGET.out ?_; rintro v hKy; obtain rfl : v = _ := hKy) | ((with_reducible refine gate_builtin (b := .append) (xs := #[.tmp 41, .tmp 45]) rfl ?_); at_builtin; refine Kd.R_append (Kd.int .i64) (w0 := w) w.heap.size rfl (.tmp 41) (.tmp 45) 23 3 (.int .i64 0) 8 rfl Tryd.underlying23 link_Names.infoI rfl (by decide) (by omega) u9 acc y [.int .i64 y] (fun _ => True) (fun _ => False) rfl (by first | (go_simp; done) | (go_simp; rfl)) rfl (fun _ hk => hk.elim) (fun _ _ => trivial) HO.out HS.out.below HS.out.below.size (by have := HLA.out; have := HL.out; have := HLT.out; omega) ?_; intro v46 w7 ho hb hg hat; have HS9 := Aside0.mk (show link_Names.St w w7 bm n m _ l from ⟨HS.out.map.kept hg (by obtain ⟨es, clock, hm⟩ := HS.out.map.obj; exact HO.out.nmap hm), HS.out.mle, HS.out.row.keep (fun k hk => hg.block k (Kd.R_lt HS.out.row k hk) (fun e => HNE.out k hk e.symm)), hb⟩); have HNE9 := Aside0.mk (show ∀ k, (Value.slice (some ad) l.length cl).ownBlock = some k → v46.ownBlock ≠ some k from fun k hk e => by rcases hat with hat | ⟨b, hb1, hb2⟩; exact HNE.out k hk (hat ▸ e); have h9 := Kd.R_lt HS.out.row k hk; rw [hb1] at e; have := Option.some.inj e; omega); have HO9 := Aside0.mk ho; clear HS HO HNE; have HS := HS9; have HO := HO9; have HNE := HNE9; clear HS9 HO9 HNE9 ho hb hg hat))
         go_roundg (l.length - (p + 1))
         case measure => have := HQ.out; have := HLT.out; omega
         case rel => exact ⟨p + 1, acc ++ [y], os', ⟨rfl⟩, ⟨HLT.out⟩, (by first | rfl | rw [hw1]), ⟨by rw [List.length_append, HLA.out]; rfl⟩, H', ⟨by rw [← HE.out]; simp⟩, HO, HS, HNE⟩
        | none =>
         have hc : link_Names.cnt m i = 0 := by unfold link_Names.cnt; rw [hget]; rfl
         rw [hc] at HE
         have HGET := Aside0.mk hget
         clear hget hc
         go_wp2_with (first | (at_lookup; refine wp_look_miss _ rfl _ _ 49 rfl 3 (Maps.int_keyed Tryd.underlying3) Tryd.underlying49 (link_Firsts.zeroI _) bm _ rfl HS.out.map _ rfl (Maps.keyOf_int_mk Tryd.underlying3 HW.out) HGET.out ?_) | ((with_reducible refine gate_builtin (b := .append) (xs := #[.tmp 41, .tmp 45]) rfl ?_); at_builtin; refine Kd.R_append (Kd.int .i64) (w0 := w) w.heap.size rfl (.tmp 41) (.tmp 45) 23 3 (.int .i64 0) 8 rfl Tryd.underlying23 link_Names.infoI rfl (by decide) (by omega) u9 acc 0 [.int .i64 0] (fun _ => True) (fun _ => False) rfl (by first | (go_simp; done) | (go_simp; rfl)) rfl (fun _ hk => hk.elim) (fun _ _ => trivial) HO.out HS.out.below HS.out.below.size (by have := HLA.out; have := HL.out; have := HLT.out; omega) ?_; intro v46 w7 ho hb hg hat; have HS9 := Aside0.mk (show link_Names.St w w7 bm n m _ l from ⟨HS.out.map.kept hg (by obtain ⟨es, clock, hm⟩ := HS.out.map.obj; exact HO.out.nmap hm), HS.out.mle, HS.out.row.keep (fun k hk => hg.block k (Kd.R_lt HS.out.row k hk) (fun e => HNE.out k hk e.symm)), hb⟩); have HNE9 := Aside0.mk (show ∀ k, (Value.slice (some ad) l.length cl).ownBlock = some k → v46.ownBlock ≠ some k from fun k hk e => by rcases hat with hat | ⟨b, hb1, hb2⟩; exact HNE.out k hk (hat ▸ e); have h9 := Kd.R_lt HS.out.row k hk; rw [hb1] at e; have := Option.some.inj e; omega); have HO9 := Aside0.mk ho; clear HS HO HNE; have HS := HS9; have HO := HO9; have HNE := HNE9; clear HS9 HO9 HNE9 ho hb hg hat))
         go_roundg (l.length - (p + 1))
         case measure => have := HQ.out; have := HLT.out; omega
         case rel => exact ⟨p + 1, acc ++ [0], os', ⟨rfl⟩, ⟨HLT.out⟩, (by first | rfl | rw [hw1]), ⟨by rw [List.length_append, HLA.out]; rfl⟩, H', ⟨by rw [← HE.out]; simp⟩, HO, HS, HNE⟩
       ·have H2 : none = some os := by rw [← H]; exact (if_neg hwf).symm
        cases H2
      ·have c4b : decide ((p : Int) < (l.length : Int)) = false := decide_eq_false (by omega)
       have c4n : decide (p < l.length) = false := decide_eq_false c4
       have c4m : (p < l.length) = False := eq_false c4
       have H := HA.out
       rw [List.drop_of_length_le (by omega)] at H
       obtain rfl := Option.some.inj (show some [] = some os from H)
       have HE2 := Aside0.mk (show acc = o by rw [← HE.out]; simp)
       obtain ⟨Ao, co, eo⟩ := Kd.R_slice HO.out
       subst eo
       clear c4 H HA HE
       go_wp2
       go_ret2
       exact ⟨_, rfl, by have h9 := HO.out; rw [HE2.out] at h9 ⊢; exact h9, HS.out.below⟩
  ·rw [if_neg hl] at H
   cases H
 ·rw [if_neg c1] at H
  simp only [Option.some.injEq, Prod.mk.injEq] at H
  obtain ⟨rfl, rfl⟩ := H
  have c1a : (e1 == 0) = false := beq_eq_false_iff_ne.mpr c1
  have c1b : (e1 != 0) = true := bne_iff_ne.mpr c1
  clear c1
  go_enter Tryd.func10, Tryd.ntmps10
  go_wp2_with (go_at_call 9; refine (link_Firsts.calls k A0 c0 l0 l e1 _ HR0.out HC0.out HA1.out).mono ?_; rintro e w2 ⟨vl, rfl, hr2, hb2⟩; obtain ⟨Al, cl, el⟩ := Kd.R_slice hr2; subst el; have HRL := Aside0.mk hr2; have HB := Aside0.mk hb2; clear hr2 hb2)
  go_ret2
  exact ⟨_, rfl, Kd.R_nil _ _ _ _ _, HB.out⟩


end Go.Proofs.YtodeblpanooomabDoor.All
end
section
namespace Go.Proofs.YtodeblpanooomabDoor.All
open Go.RowKit Go.Proofs.YtodeblpanooomabDoorW.PrintWords Go.Proofs.YtodeblpanooomabDoorW.PrintLast Go.Proofs.YtodeblpanooomabDoorW.PrintMore
open Go.Proofs.YtodeblpanooomabDoorW.Mine
attribute [local go_sem] gtr_string leq_string geq_string
attribute [local go_sem] max2_int min2_int max_two min_two max_three min_three max_four min_four   -- for this text's walks alone
set_option linter.unusedVariables false
set_option linter.unusedSimpArgs false

/-! ### tree_Copy: function 33 -/
open Go.Proofs.YtodeblpanooomabDoorW.MapOwn
def tree_Copy.f (l0 : List S56) : Option (List S56) := if l0.length < 977343669134 ∧ (l0.all fun x => decide (x.f5.length ≤ 140737488355327)) = true then some l0 else none
theorem tree_Copy.info : (Tryd.prog.info? 5).map (fun i => (i.zero, i.size, i.bytes)) = some (some (.int .u8 0), 1, 1) := by kernel_rfl
theorem tree_Copy.nilS {α : Type} {d : Kd α} {e base : Nat} {w : World} {ok : Nat → Prop} {v : Value} (h : d.R e w base ok v []) : Kd.S d e w base ok v [] := by
 obtain ⟨h0, inner, hown, hr⟩ := h
 exact ⟨fun _ => 0, h0, inner, hown, hr.1, fun j x hx => by simp at hx⟩
/-- the new data lie apart from the row and from the node's own block -/
theorem tree_Copy.elemR {W w1 : World} {ok : Nat → Prop} {v u : Value} {xs : List Int} {l : List S56} {base gb : Nat} {cells : Array Value} (h : (Kd.int .u8).R 5 w1 W.heap.size (fun _ => True) v xs) (ho : Kd.S k56 56 W base ok u l) (hk : W.heap[gb]? = some (.cells cells 56 (0, 0))) (hb : base ≤ W.heap.size := by first | exact below_size HB.out | assumption) : (Kd.int .u8).R 5 w1 base (fun k => ((True ∧ some k ≠ u.ownBlock) ∧ k ≠ gb) ∧ W.heap.size ≤ k) v xs :=
 Kd.R_lower (Kd.R_mono (Kd.R_bound (Kd.R_newB (Kd.R_new' h (Kd.S_lt ho)) hk)) (fun k hk => ⟨hk.1, hk.2.1⟩)) hb
set_option maxHeartbeats 8000000 in
set_option maxRecDepth 100000 in
theorem tree_Copy.calls (A0 : Option Addr) (c0 : Nat) (l0 : List (S56)) (r : List (S56)) (w : World) (hr0 : Kd.C k56 w A0 l0.length l0) (hc0 : l0.length ≤ c0) (h : tree_Copy.f l0 = some r) :
  Calls Tryd.prog 33 #[.slice A0 l0.length c0] w fun e w' => ∃ v0_ : Value, e = .returned (v0_) ∧ Kd.S k56 56 w' w.heap.size (fun _ => True) v0_ r ∧ Below w.heap.size w w' := by
 have hu56 := Tryd.underlying56
 have HR0 := Aside0.mk hr0
 have HC0 := Aside0.mk hc0
 clear hr0 hc0
 unfold tree_Copy.f at h
 by_cases hl : l0.length < 977343669134 ∧ (l0.all fun x => decide (x.f5.length ≤ 140737488355327)) = true
 ·rw [if_pos hl] at h
  obtain rfl := Option.some.inj h
  have HL := Aside0.mk hl
  clear h hl
  go_enter Tryd.func33, Tryd.ntmps33
  go_wp2_with ((with_reducible refine gate_dst (N := 8) rfl ?_); refine Go.Proofs.YtodeblpanooomabDoorW.MakeCap.R_makecap k56 (w0 := w) w.heap.size 56 rfl (N := 8) rfl 22 _ _ rfl (l0.length : Int) rfl rfl Tryd.underlying22 (.agg #[.string (⟨#[]⟩ : ByteArray), .int .i64 0, .int .i64 0, .string (⟨#[]⟩ : ByteArray), .int .i64 0, .int .i64 0, .int .i64 0, .string (⟨#[]⟩ : ByteArray), .string (⟨#[]⟩ : ByteArray), .int .i64 0, .int .i64 0, .slice none 0 0]) 144 info56 (by decide) (by omega) (ok := fun _ => True) trivial (by omega) (by have := HL.out.1; simp only [Int.toNat_natCast]; omega) (Below.refl _ _) (Nat.le_refl _) ?_; intro v8 w1 hr8 hb8 hg8 hat8; have HO := Aside0.mk (tree_Copy.nilS hr8); have HB := Aside0.mk hb8; clear hr8 hb8 hg8 hat8)
  go_loopg [3, 11] l0.length (fun kq v3 v11 wx => ∃ (n : Nat), Aside0 (kq = l0.length - n) ∧ Aside0 (n ≤ l0.length) ∧ v11 = .int .i64 (n : Int) ∧ Aside0 (Kd.S k56 56 wx w.heap.size (fun _ => True) v3 (l0.take n)) ∧ Aside0 (Below w.heap.size w wx))
  case atStart => exact ⟨0, ⟨rfl⟩, ⟨Nat.zero_le _⟩, rfl, HO, HB⟩
  case round =>
   clear HO HB
   obtain ⟨n, HQ, HN, rfl, HO, HB⟩ := hrel
   by_cases c3 : n < l0.length
   ·have c3b : decide ((n : Int) < (l0.length : Int)) = true := decide_eq_true (by omega)
    obtain ⟨ad, A11, c11, e, hx, hl11, hi11⟩ := elem56 HR0.out n c3
    cases e
    have HXC := Aside0.mk hx
    have HXL := Aside0.mk (of_decide_eq_true (List.all_eq_true.mp HL.out.2 _ (List.getElem_mem c3)))
    have htk : l0.take (n + 1) = l0.take n ++ [rd_T56 l0 (n : Int)] := by rw [List.take_succ_eq_append_getElem c3]; congr 2; unfold rd_T56; rw [Int.toNat_natCast, List.getD_eq_getElem?_getD, List.getElem?_eq_getElem c3]; rfl
    have hxe : l0[n] = rd_T56 l0 (n : Int) := by unfold rd_T56; rw [Int.toNat_natCast, List.getD_eq_getElem?_getD, List.getElem?_eq_getElem c3]; rfl
    rw [hxe] at HXL
    have HTK := Aside0.mk htk
    clear hx hxe htk
    have p3 : ((n : Int) < (l0.length : Int)) = True := eq_true (by omega)
    have p4 : (0 ≤ (n : Int)) = True := eq_true (by omega)
    have HX := Aside0.mk hi11
    have HXM := Aside0.mk hl11
    have HLT := Aside0.mk c3
    have hw1 : wrap64 ((n : Int) + 1) = ((n + 1 : Nat) : Int) := by have := HL.out.1; unfold wrap64; omega
    clear hi11 hl11 c3
    generalize hx : rd_T56 l0 (n : Int) = x at *
    clear hx
    go_wp2_with (first | ((with_reducible refine gate_dst (N := 14) rfl ?_); refine load_event (ad := ad.add (n * 12)) rfl rfl hu56 rfl rfl (cs := [.string (x).f0, .int .i64 (x).f1, .int .i64 (x).f2, .string (x).f3, .int .i64 (x).f4.f0, .int .i64 (x).f4.f1, .int .i64 (x).f4.f2, .string (x).f4.f3, .string (x).f4.f4, .int .i64 (x).f4.f5, .int .i64 (x).f4.f6, .slice A11 (x).f5.length c11]) sz56 (fun j v hv => (HB.out.cell (World.block_lt_of_cell? w _ (HXC.out j v hv))).trans (HXC.out j v hv)) ?_) | ((with_reducible refine gate_dst (N := 5) rfl ?_); refine box_event ?hg (N := 5) ?hd (cs := #[.string (⟨#[]⟩ : ByteArray), .int .i64 0, .int .i64 0, .string (⟨#[]⟩ : ByteArray), .int .i64 0, .int .i64 0, .int .i64 0, .string (⟨#[]⟩ : ByteArray), .string (⟨#[]⟩ : ByteArray), .int .i64 0, .int .i64 0, .slice none 0 0]) (t := 56) ?hr ?_; (case hd => rfl); (case hg => rfl); (case hr => first | (go_simp; done) | (go_simp; rfl)); intro gb hg w2 hbox hb2; have HG := Aside0.mk (show w.heap.size ≤ gb by rw [hg]; exact HB.out.size); have HO2 := Aside0.mk (Kd.S_below (Kd.S_elderB HO.out gb (Nat.le_of_eq hg.symm)) hb2); have HB2 := Aside0.mk (below_step HB.out hb2); have HK := Aside0.mk hbox; clear hg hbox hb2 HO HB; have HO := HO2; have HB := HB2; clear HO2 HB2) | ((with_reducible refine gate_store (t := 56) (p := 5) rfl ?_); refine put_event rfl rfl rfl rfl rfl HK.out sz56 rfl rfl ?_; intro w3 hk3 hg3; have HO3 := Aside0.mk (Kd.S_grown HO.out hg3 (fun k hk => (fun e => hk.2 (Option.some.inj e)))); have HB3 := Aside0.mk (below_grown HB.out hg3 HG.out (blk_lt HK.out)); clear HO HB HK; have HO := HO3; have HB := HB3; have HK := Aside0.mk hk3; clear HO3 HB3 hk3 hg3; have hc11 := blk_cell HK.out 11; have hf11 := blk_frozen HK.out 11) | ((with_reducible refine gate_builtin (b := .append) (xs := #[.const (.slice none 0 0), .tmp 16]) rfl ?_); at_builtin; refine Kd.R_append_row (Value.int .u8) 0 (w0 := w3) w3.heap.size rfl (.const (.slice none 0 0)) (.tmp 16) 54 5 (.int .u8 0) 1 rfl Tryd.underlying54 tree_Copy.info rfl (by decide) (.slice none 0 0) [] x.f5 A11 x.f5.length c11 (fun _ => True) rfl rfl (fun _ _ => trivial) (Kd.R_nil _ _ _ _ _) (Kd.C_below HX.out HB.out) (Below.refl _ _) (Nat.le_refl _) (by have := HXL.out; simp only [List.length_nil]; omega) ?_; intro v17 w5 ho hb hg hat; obtain ⟨A17, c17, e17⟩ := Kd.R_slice ho; simp only [List.nil_append] at ho e17; subst e17; have HY := Aside0.mk (tree_Copy.elemR ho HO.out HK.out); have HO5 := Aside0.mk (Kd.S_old HO.out hb); have HK5 := Aside0.mk (blk_grown HK.out hg (by simp [Value.ownBlock])); have HB5 := Aside0.mk (below_step HB.out hb); clear HO HB HK ho hb hg hat hc11 hf11; have HO := HO5; have HB := HB5; have HK := HK5; clear HO5 HB5 HK5; have hc11 := blk_cell HK.out 11; have hf11 := blk_frozen HK.out 11) | ((with_reducible refine gate_dst (N := 20) rfl ?_); refine load_event rfl rfl hu56 rfl rfl (cs := [.string (x).f0, .int .i64 (x).f1, .int .i64 (x).f2, .string (x).f3, .int .i64 (x).f4.f0, .int .i64 (x).f4.f1, .int .i64 (x).f4.f2, .string (x).f4.f3, .string (x).f4.f4, .int .i64 (x).f4.f5, .int .i64 (x).f4.f6, .slice A17 (x).f5.length c17]) sz56 (cells_of_blk (blk_put (cs := #[.string (x).f0, .int .i64 (x).f1, .int .i64 (x).f2, .string (x).f3, .int .i64 (x).f4.f0, .int .i64 (x).f4.f1, .int .i64 (x).f4.f2, .string (x).f4.f3, .string (x).f4.f4, .int .i64 (x).f4.f5, .int .i64 (x).f4.f6, .slice A11 (x).f5.length c11]) HK.out 11 _ rfl)) ?_) | ((with_reducible refine gate_builtin (b := .append) (xs := #[.tmp 19, .tmp 21]) rfl ?_); at_builtin; refine Kd.S_append k56 (w0 := w) w.heap.size rfl (.tmp 19) (.tmp 21) 22 56 (.agg #[.string (⟨#[]⟩ : ByteArray), .int .i64 0, .int .i64 0, .string (⟨#[]⟩ : ByteArray), .int .i64 0, .int .i64 0, .int .i64 0, .string (⟨#[]⟩ : ByteArray), .string (⟨#[]⟩ : ByteArray), .int .i64 0, .int .i64 0, .slice none 0 0]) 144 rfl Tryd.underlying22 info56 rfl (by decide) (by omega) u3 (l0.take n) x [.string (x).f0, .int .i64 (x).f1, .int .i64 (x).f2, .string (x).f3, .int .i64 (x).f4.f0, .int .i64 (x).f4.f1, .int .i64 (x).f4.f2, .string (x).f4.f3, .string (x).f4.f4, .int .i64 (x).f4.f5, .int .i64 (x).f4.f6, .slice A17 (x).f5.length c17] (fun k_ => True ∧ k_ ≠ gb) (fun k_ => ((True ∧ some k_ ≠ u3.ownBlock) ∧ k_ ≠ gb) ∧ w3.heap.size ≤ k_) rfl (by first | (go_simp; done) | (go_simp; rfl)) (k56_mkM _ _ _ x (Kd.R_far (p := ⟨gb, 11, none⟩) HY.out (fun _ hk => hk.1.2) _)) (fun k_ hk => ⟨⟨trivial, hk.1.2⟩, hk.1.1.2⟩) (fun k_ hk => ⟨trivial, by have h1 := blk_lt HK.out; have h2 : (w5.setCell ⟨gb, 11, none⟩ (.slice A17 (x).f5.length c17)).heap.size = w5.heap.size := (by simp [World.setCell]); omega⟩) (Kd.S_mono (Kd.S_far (p := ⟨gb, 11, none⟩) HO.out (fun _ hk => hk.1.2) _) (fun k_ hk => ⟨hk.1, fun h => absurd h.2 (by have := hk.2; omega)⟩)) (HB.out.setCell (p := ⟨gb, 11, none⟩) HG.out _) (below_size (HB.out.setCell (p := ⟨gb, 11, none⟩) HG.out _)) (by have := HL.out.1; have := HLT.out; simp only [List.length_take]; omega) ?_; intro v22 w7 ho hb hg hat; have HO7 := Aside0.mk (Kd.S_mono ho (fun k_ hk => hk.1)); have HB7 := Aside0.mk hb; clear HO HB HK HY ho hb hg hat hc11 hf11; have HO := HO7; have HB := HB7; clear HO7 HB7))
    go_roundg (l0.length - (n + 1))
    case measure => have := HQ.out; have := HLT.out; omega
    case rel => exact ⟨n + 1, ⟨rfl⟩, ⟨HLT.out⟩, (by first | rfl | rw [hw1]), (by rw [HTK.out]; exact HO), HB⟩
   ·have c3b : decide ((n : Int) < (l0.length : Int)) = false := decide_eq_false (by omega)
    have c3n : decide (n < l0.length) = false := decide_eq_false c3
    have c3m : (n < l0.length) = False := eq_false c3
    have hn : n = l0.length := by have := HN.out; omega
    have HE := Aside0.mk (show l0.take n = l0 by rw [hn, List.take_length])
    clear c3 hn
    obtain ⟨Ao, co, eo⟩ := Kd.S_slice HO.out
    subst eo
    go_wp2
    go_ret
    exact ⟨_, rfl, by have h9 := HO.out; rw [HE.out] at h9 ⊢; exact h9, HB.out⟩
 ·rw [if_neg hl] at h
  cases h


end Go.Proofs.YtodeblpanooomabDoor.All
end
section
namespace Go.Proofs.YtodeblpanooomabDoor.All
open Go.RowKit Go.Proofs.YtodeblpanooomabDoorW.PrintWords Go.Proofs.YtodeblpanooomabDoorW.PrintLast Go.Proofs.YtodeblpanooomabDoorW.PrintMore
open Go.Proofs.YtodeblpanooomabDoorW.Mine
attribute [local go_sem] gtr_string leq_string geq_string
attribute [local go_sem] max2_int min2_int max_two min_two max_three min_three max_four min_four   -- for this text's walks alone
set_option linter.unusedVariables false
set_option linter.unusedSimpArgs false

/-! ### link_Anew: function 14 -/
def link_Anew.l0 : Nat → List Int → List Int → List (S56) → Int → Int → Option ((List (S56)) × Int)
 | 0, _, _, _, _, _ => none
 | k + 1, x4, x6, x8, x26, x27 => if x27 < x26 then (if 0 ≤ x27 then (if x27 < (x8.length : Int) then ((some (x8.set (x27 : Int).toNat (⟨(rd_T56 x8 x27).f0, (rd_T56 x8 x27).f1, 0, (rd_T56 x8 x27).f3, (⟨(rd_T56 x8 x27).f4.f0, (rd_T56 x8 x27).f4.f1, (rd_T56 x8 x27).f4.f2, (rd_T56 x8 x27).f4.f3, (rd_T56 x8 x27).f4.f4, (rd_T56 x8 x27).f4.f5, (rd_T56 x8 x27).f4.f6⟩ : S53), (rd_T56 x8 x27).f5⟩ : S56) : List (S56))).bind fun y112 => (if x27 < (x6.length : Int) then (if (rd x6 x27) > 1 then (if x27 < (x4.length : Int) then (link_Anew.l0 k x4 x6 (y112.set (x27 : Int).toNat (⟨(rd_T56 y112 x27).f0, (rd_T56 y112 x27).f1, wrap64 ((rd x4 x27) + 1), (rd_T56 y112 x27).f3, (⟨(rd_T56 y112 x27).f4.f0, (rd_T56 y112 x27).f4.f1, (rd_T56 y112 x27).f4.f2, (rd_T56 y112 x27).f4.f3, (rd_T56 y112 x27).f4.f4, (rd_T56 y112 x27).f4.f5, (rd_T56 y112 x27).f4.f6⟩ : S53), (rd_T56 y112 x27).f5⟩ : S56)) x26 (wrap64 (x27 + 1))) else (none)) else (link_Anew.l0 k x4 x6 y112 x26 (wrap64 (x27 + 1)))) else (none))) else (none)) else (none)) else (some (x8, 0))
def link_Anew.f (k : Nat) (l0 : List (S56)) : Option ((List (S56)) × Int) := (link_Firsts.f k l0).bind fun bt101 => (if bt101.2 = 0 then ((link_Names.f k l0).bind fun bt105 => ((tree_Copy.f l0).bind fun t109 => (link_Anew.l0 k bt101.1 bt105.1 t109 (t109.length : Int) 0))) else (some (([] : List (S56)), bt101.2)))
theorem link_Anew.mono_l : ∀ k, (∀ y0 y1 y2 y3 y4, LeO (link_Anew.l0 k y0 y1 y2 y3 y4) (link_Anew.l0 (k + 1) y0 y1 y2 y3 y4))
 | 0 => fun _ _ _ _ _ r h => by simp [link_Anew.l0] at h
 | k + 1 => by
  have ih0 := link_Anew.mono_l k
  ·intro y0 y1 y2 y3 y4
   unfold link_Anew.l0
   repeat' first
   | (with_reducible exact ih0 _ _ _ _ _)
   | (with_reducible exact link_Firsts.mono _ _)
   | (with_reducible exact link_Names.mono _ _)
   | (with_reducible exact LeO.refl _)
   | (with_reducible exact LeO.none _)
   | (with_reducible refine LeO.ite ?_ ?_)
   | (with_reducible refine LeO.bind ?_ (fun _ => ?_))
   | exact ih0 _ _ _ _ _
   | exact link_Firsts.mono _ _
   | exact link_Names.mono _ _
   | exact LeO.none _
   | refine LeO.ite ?_ ?_
   | refine LeO.bind ?_ (fun _ => ?_)
theorem link_Anew.mono : ∀ a0 k, LeO (link_Anew.f k a0) (link_Anew.f (k + 1) a0) := by
 intro a0 k
 have ih0 := link_Anew.mono_l k
 unfold link_Anew.f
 repeat' first
   | (with_reducible exact ih0 _ _ _ _ _)
   | (with_reducible exact link_Firsts.mono _ _)
   | (with_reducible exact link_Names.mono _ _)
   | (with_reducible exact LeO.refl _)
   | (with_reducible exact LeO.none _)
   | (with_reducible refine LeO.ite ?_ ?_)
   | (with_reducible refine LeO.bind ?_ (fun _ => ?_))
   | exact ih0 _ _ _ _ _
   | exact link_Firsts.mono _ _
   | exact link_Names.mono _ _
   | exact LeO.none _
   | refine LeO.ite ?_ ?_
   | refine LeO.bind ?_ (fun _ => ?_)
set_option maxHeartbeats 8000000 in
set_option maxRecDepth 100000 in
theorem link_Anew.calls (k : Nat) (A0 : Option Addr) (c0 : Nat) (l0 : List (S56)) (r1 : List (S56)) (r2 : Int) (w : World) (hr0 : Kd.C k56 w A0 l0.length l0) (hc0 : l0.length ≤ c0) (h : link_Anew.f k l0 = some (r1, r2)) :
  Calls Tryd.prog 14 #[.slice A0 l0.length c0] w fun e w' => ∃ v0_ : Value, e = .returned (.tuple #[v0_, .int .i64 r2]) ∧ Kd.S k56 56 w' w.heap.size (fun _ => True) v0_ r1 ∧ Below w.heap.size w w' := by
 have HR0 := Aside0.mk hr0
 have HC0 := Aside0.mk hc0
 clear hr0 hc0
 have HB := Aside0.mk (Below.refl w.heap.size w)
 have H : ((link_Firsts.f k l0).bind fun bt101 => (if bt101.2 = 0 then ((link_Names.f k l0).bind fun bt105 => ((tree_Copy.f l0).bind fun t109 => (link_Anew.l0 k bt101.1 bt105.1 t109 (t109.length : Int) 0))) else (some (([] : List (S56)), bt101.2)))) = some (r1, r2) := h
 clear h
 replace H := Option.bind_eq_some_iff.mp H
 obtain ⟨⟨t101, t102⟩, A20, H⟩ := H
 replace H : (if t102 = 0 then ((link_Names.f k l0).bind fun bt105 => ((tree_Copy.f l0).bind fun t109 => (link_Anew.l0 k t101 bt105.1 t109 (t109.length : Int) 0))) else (some (([] : List (S56)), t102))) = some (r1, r2) := H
 have A2 := Aside0.mk A20
 clear A20
 by_cases c3 : t102 = 0
 ·rw [if_pos c3] at H
  have c3b0 : (t102 == 0) = true := beq_iff_eq.mpr c3
  have c3b1 : (t102 != 0) = false := bne_eq_false_iff_eq.mpr c3
  clear c3
  replace H := Option.bind_eq_some_iff.mp H
  obtain ⟨⟨t105, t106⟩, A40, H⟩ := H
  replace H : ((tree_Copy.f l0).bind fun t109 => (link_Anew.l0 k t101 t105 t109 (t109.length : Int) 0)) = some (r1, r2) := H
  have A4 := Aside0.mk A40
  clear A40
  replace H := Option.bind_eq_some_iff.mp H
  obtain ⟨t109, A50, H⟩ := H
  replace H : (link_Anew.l0 k t101 t105 t109 (t109.length : Int) 0) = some (r1, r2) := H
  have A5 := Aside0.mk A50
  clear A50
  have H' := Aside0.mk H
  clear H
  go_enter Tryd.func14, Tryd.ntmps14
  go_wp2_with (first | ((with_reducible refine gate_callee (f := 9) rfl ?_); refine goesL_ (some 12) rfl rfl Tryd.func9 (by kernel_rfl) rfl #[.slice A0 l0.length c0] rfl (by (try simp only [List.map_toArray, List.map_cons, List.map_nil]); first | done | rfl | (simp only [List.length_drop, List.length_take]; rfl)) ?_; (with_reducible refine (link_Firsts.calls k _ _ l0 t101 t102 _ ?side1 ?side2 A2.out).mono ?_); (case side1 => repeat (first | exact HR0.out | (with_reducible refine Kd.C_alloc ?_ _) | (with_reducible refine Kd.C_drewN ?_ _) | (with_reducible refine Kd.C_drew ?_))); (case side2 => exact HC0.out); rintro e w6 ⟨v103, rfl, ho0, hb⟩; refine ⟨_, rfl, ?_⟩; have n0_ := Aside0.mk (Kd.R_lower ho0 (below_size (by repeat (first | (with_reducible first | exact HB.out | apply below_alloc | apply pw_below_drewN | apply below_drew1) | exact HB.out)))); have n1_ := Aside0.mk (below_step (by repeat (first | (with_reducible first | exact HB.out | apply below_alloc | apply pw_below_drewN | apply below_drew1) | exact HB.out)) hb); clear HB; have HO104 := n0_; have HB := n1_; clear n0_ n1_; (try clear hb); (try clear hb2); (try clear hk); (try clear hi); (try clear ho0)) | ((with_reducible refine gate_callee (f := 10) rfl ?_); refine goesL_ (some 20) rfl rfl Tryd.func10 (by kernel_rfl) rfl #[.slice A0 l0.length c0] rfl (by (try simp only [List.map_toArray, List.map_cons, List.map_nil]); first | done | rfl | (simp only [List.length_drop, List.length_take]; rfl)) ?_; (with_reducible refine (link_Names.calls k _ _ l0 t105 t106 _ ?side1 ?side2 A4.out).mono ?_); (case side1 => repeat (first | exact (Kd.C_below HR0.out HB.out) | (with_reducible refine Kd.C_alloc ?_ _) | (with_reducible refine Kd.C_drewN ?_ _) | (with_reducible refine Kd.C_drew ?_))); (case side2 => exact HC0.out); rintro e w7 ⟨v107, rfl, ho0, hb⟩; refine ⟨_, rfl, ?_⟩; have n0_ := Aside0.mk (Kd.R_elder' (by (with_reducible repeat (first | apply Kd.R_alloc | apply Kd.R_drewN | apply Kd.R_drew)); exact HO104.out) (Kd.R_base ho0) hb); have n1_ := Aside0.mk (Kd.R_lower (Kd.R_new' ho0 (Kd.R_lt (by (with_reducible repeat (first | apply Kd.R_alloc | apply Kd.R_drewN | apply Kd.R_drew)); exact HO104.out))) (below_size (by repeat (first | (with_reducible first | exact HB.out | apply below_alloc | apply pw_below_drewN | apply below_drew1) | exact HB.out)))); have n2_ := Aside0.mk (below_step (by repeat (first | (with_reducible first | exact HB.out | apply below_alloc | apply pw_below_drewN | apply below_drew1) | exact HB.out)) hb); clear HO104; clear HB; have HO104 := n0_; have HO108 := n1_; have HB := n2_; clear n0_ n1_ n2_; (try clear hb); (try clear hb2); (try clear hk); (try clear hi); (try clear ho0)) | ((with_reducible refine gate_callee (f := 33) rfl ?_); refine goesL_ (some 24) rfl rfl Tryd.func33 (by kernel_rfl) rfl #[.slice A0 l0.length c0] rfl (by (try simp only [List.map_toArray, List.map_cons, List.map_nil]); first | done | rfl | (simp only [List.length_drop, List.length_take]; rfl)) ?_; (with_reducible refine (tree_Copy.calls _ _ l0 t109 _ ?side1 ?side2 A5.out).mono ?_); (case side1 => repeat (first | exact (Kd.C_below HR0.out HB.out) | (with_reducible refine Kd.C_alloc ?_ _) | (with_reducible refine Kd.C_drewN ?_ _) | (with_reducible refine Kd.C_drew ?_))); (case side2 => exact HC0.out); rintro e w8 ⟨v110, rfl, ho0, hb⟩; refine ⟨_, rfl, ?_⟩; have n0_ := Aside0.mk (Kd.R_below (by (with_reducible repeat (first | apply Kd.R_alloc | apply Kd.R_drewN | apply Kd.R_drew)); exact HO104.out) hb); have n1_ := Aside0.mk (Kd.R_below (by (with_reducible repeat (first | apply Kd.R_alloc | apply Kd.R_drewN | apply Kd.R_drew)); exact HO108.out) hb); have n2_ := Aside0.mk (Kd.S_lower ho0 (below_size (by repeat (first | (with_reducible first | exact HB.out | apply below_alloc | apply pw_below_drewN | apply below_drew1) | exact HB.out)))); have n3_ := Aside0.mk (below_step (by repeat (first | (with_reducible first | exact HB.out | apply below_alloc | apply pw_below_drewN | apply below_drew1) | exact HB.out)) hb); clear HO104; clear HO108; clear HB; have HO104 := n0_; have HO108 := n1_; have HO111 := n2_; have HB := n3_; clear n0_ n1_ n2_ n3_; (try clear hb); (try clear hb2); (try clear hk); (try clear hi); (try clear ho0); obtain ⟨Ao9, co9, eo9⟩ := Kd.S_slice HO111.out; subst eo9))
  go_loopg [27] k (fun kq v27 w' => ∃ (x8_1 : List (S56)) (x27_1 : Int), v27 = .int .i64 x27_1 ∧ Aside0 (link_Anew.l0 kq t101 t105 x8_1 (t109.length : Int) x27_1 = some (r1, r2)) ∧ Aside0 (kq ≤ k) ∧ Aside0 (Kd.R (Kd.int .i64) 3 w' w.heap.size (fun k_ => some k_ ≠ (v107 : Value).ownBlock) v103 t101) ∧ Aside0 (Kd.R (Kd.int .i64) 3 w' w.heap.size (fun k_ => some k_ ≠ (v103 : Value).ownBlock) v107 t105) ∧ Aside0 (Kd.S k56 56 w' w.heap.size (fun _ => True) (.slice Ao9 t109.length co9) x8_1) ∧ Aside0 (Below w.heap.size w w'))
  case atStart => exact ⟨(t109), (0), (by first | rfl | (simp; done) | (simp [*]; done)), H', ⟨Nat.le_refl _⟩, ⟨by (with_reducible repeat (first | apply Kd.R_alloc | apply Kd.R_drewN | apply Kd.R_drew)); exact Kd.R_mono HO104.out (fun _ hk => hk.2)⟩, ⟨by (with_reducible repeat (first | apply Kd.R_alloc | apply Kd.R_drewN | apply Kd.R_drew)); exact Kd.R_mono HO108.out (fun _ hk => hk.2)⟩, ⟨by (with_reducible repeat (first | apply Kd.S_alloc | apply Kd.S_drewN | apply Kd.S_drew)); exact HO111.out⟩, ⟨by repeat (first | (with_reducible first | exact HB.out | apply below_alloc | apply pw_below_drewN | apply below_drew1) | exact HB.out)⟩⟩
  case round =>
   clear H'
   try clear c1
   try clear p2
   try clear c3
   try clear c3b0
   try clear c3b1
   try clear c9
   obtain ⟨x8_1, x27_1, rfl, HA, HK1, HO_4, HO_6, HO_8, HB⟩ := hrel
   have hl8_1 := (Kd.S_reads' HO_8.out).1
   rw [hl8_1] at HO_8
   (try simp only [hl8_1])
   (try simp only [hl8_1] at HO_4)
   (try simp only [hl8_1] at HO_6)
   cases gk with
   | zero => exact absurd HA.out (by simp [link_Anew.l0])
   | succ k1 =>
    have H := HA.out
    clear HA
    simp only [link_Anew.l0] at H
    by_cases c10 : x27_1 < (t109.length : Int)
    ·rw [if_pos c10] at H
     have c10b0 : decide (x27_1 < (t109.length : Int)) = true := decide_eq_true c10
     clear c10
     by_cases c11 : 0 ≤ x27_1
     ·rw [if_pos c11] at H
      have c11b0 : decide (0 ≤ x27_1) = true := decide_eq_true c11
      clear c11
      by_cases c12 : x27_1 < (x8_1.length : Int)
      ·rw [if_pos c12] at H
       have c12b0 : decide (x27_1 < (x8_1.length : Int)) = true := decide_eq_true c12
       clear c12
       obtain ⟨y112, hy112⟩ : ∃ y_ : List (S56), y_ = (x8_1.set (x27_1 : Int).toNat (⟨(rd_T56 x8_1 x27_1).f0, (rd_T56 x8_1 x27_1).f1, 0, (rd_T56 x8_1 x27_1).f3, (⟨(rd_T56 x8_1 x27_1).f4.f0, (rd_T56 x8_1 x27_1).f4.f1, (rd_T56 x8_1 x27_1).f4.f2, (rd_T56 x8_1 x27_1).f4.f3, (rd_T56 x8_1 x27_1).f4.f4, (rd_T56 x8_1 x27_1).f4.f5, (rd_T56 x8_1 x27_1).f4.f6⟩ : S53), (rd_T56 x8_1 x27_1).f5⟩ : S56)) := ⟨_, rfl⟩
       replace H : (if x27_1 < (t105.length : Int) then (if (rd t105 x27_1) > 1 then (if x27_1 < (t101.length : Int) then (link_Anew.l0 k1 t101 t105 (y112.set (x27_1 : Int).toNat (⟨(rd_T56 y112 x27_1).f0, (rd_T56 y112 x27_1).f1, wrap64 ((rd t101 x27_1) + 1), (rd_T56 y112 x27_1).f3, (⟨(rd_T56 y112 x27_1).f4.f0, (rd_T56 y112 x27_1).f4.f1, (rd_T56 y112 x27_1).f4.f2, (rd_T56 y112 x27_1).f4.f3, (rd_T56 y112 x27_1).f4.f4, (rd_T56 y112 x27_1).f4.f5, (rd_T56 y112 x27_1).f4.f6⟩ : S53), (rd_T56 y112 x27_1).f5⟩ : S56)) (t109.length : Int) (wrap64 (x27_1 + 1))) else (none)) else (link_Anew.l0 k1 t101 t105 y112 (t109.length : Int) (wrap64 (x27_1 + 1)))) else (none)) = some (r1, r2) := by first | (rw [hy112]; with_reducible exact H) | (have H2_ := (Option.bind_some _ _).symm.trans H; rw [hy112]; with_reducible exact H2_) | (have H2_ := (Option.bind_some _ _).symm.trans H; with_reducible exact H2_) | with_reducible exact H | (rw [hy112]; exact H) | exact H
       have Ny112 := Aside0.mk hy112
       clear hy112
       by_cases c14 : x27_1 < (t105.length : Int)
       ·rw [if_pos c14] at H
        have c14b0 : decide (x27_1 < (t105.length : Int)) = true := decide_eq_true c14
        clear c14
        by_cases c15 : (rd t105 x27_1) > 1
        ·rw [if_pos c15] at H
         have c15b0 : decide (1 < (rd t105 x27_1)) = true := decide_eq_true c15
         clear c15
         by_cases c16 : x27_1 < (t101.length : Int)
         ·rw [if_pos c16] at H
          have c16b0 : decide (x27_1 < (t101.length : Int)) = true := decide_eq_true c16
          clear c16
          obtain ⟨y115, hy115⟩ : ∃ y_ : List (S56), y_ = (y112.set (x27_1 : Int).toNat (⟨(rd_T56 y112 x27_1).f0, (rd_T56 y112 x27_1).f1, wrap64 ((rd t101 x27_1) + 1), (rd_T56 y112 x27_1).f3, (⟨(rd_T56 y112 x27_1).f4.f0, (rd_T56 y112 x27_1).f4.f1, (rd_T56 y112 x27_1).f4.f2, (rd_T56 y112 x27_1).f4.f3, (rd_T56 y112 x27_1).f4.f4, (rd_T56 y112 x27_1).f4.f5, (rd_T56 y112 x27_1).f4.f6⟩ : S53), (rd_T56 y112 x27_1).f5⟩ : S56)) := ⟨_, rfl⟩
          replace H : (link_Anew.l0 k1 t101 t105 y115 (t109.length : Int) (wrap64 (x27_1 + 1))) = some (r1, r2) := by first | (rw [hy115]; with_reducible exact H) | (have H2_ := (Option.bind_some _ _).symm.trans H; rw [hy115]; with_reducible exact H2_) | (have H2_ := (Option.bind_some _ _).symm.trans H; with_reducible exact H2_) | with_reducible exact H | (rw [hy115]; exact H) | exact H
          have Ny115 := Aside0.mk hy115
          clear hy115
          have H' := Aside0.mk H
          clear H
          have p13 : 0 ≤ (x27_1 : Int) := of_decide_eq_true (by first | (with_reducible assumption) | assumption)
          have q13 : (x27_1 : Int) < ((x8_1.length : Int) : Int) := of_decide_eq_true (by first | (with_reducible assumption) | assumption)
          obtain ⟨go13, co13, eo13, gb13, gl13, cl13, HG13⟩ := Kd.S_form HO_8.out (by omega)
          (first | cases eo13 | (injection eo13 with ea_ en_ ec_; (first | subst ea_ | (injection ea_ with ea_; subst ea_)); subst ec_; clear en_))
          have GB13 := Aside0.mk gb13
          have GG13 := Aside0.mk HG13
          clear gb13 gl13 HG13
          obtain ⟨_, ce13, hcl13, hM13, hcc13, hfr13, _, _⟩ := Kd.S_elem HO_8.out z56 (x27_1 : Int) p13 q13
          obtain ⟨ve13_11, rfl, ge13_11⟩ := k56_openM hM13
          have hx13_0 : wr.cell? ⟨go13, (x27_1 : Int).toNat * 12, none⟩ = some (.string ((rd_T56 x8_1 x27_1).f0)) := hcc13 0 _ rfl
          have hx13_1 : wr.cell? ⟨go13, (x27_1 : Int).toNat * 12 + 1, none⟩ = some (.int .i64 ((rd_T56 x8_1 x27_1).f1)) := hcc13 1 _ rfl
          have hx13_2 : wr.cell? ⟨go13, (x27_1 : Int).toNat * 12 + 2, none⟩ = some (.int .i64 ((rd_T56 x8_1 x27_1).f2)) := hcc13 2 _ rfl
          have hx13_3 : wr.cell? ⟨go13, (x27_1 : Int).toNat * 12 + 3, none⟩ = some (.string ((rd_T56 x8_1 x27_1).f3)) := hcc13 3 _ rfl
          have hx13_4 : wr.cell? ⟨go13, (x27_1 : Int).toNat * 12 + 4, none⟩ = some (.int .i64 ((rd_T56 x8_1 x27_1).f4.f0)) := hcc13 4 _ rfl
          have hx13_5 : wr.cell? ⟨go13, (x27_1 : Int).toNat * 12 + 5, none⟩ = some (.int .i64 ((rd_T56 x8_1 x27_1).f4.f1)) := hcc13 5 _ rfl
          have hx13_6 : wr.cell? ⟨go13, (x27_1 : Int).toNat * 12 + 6, none⟩ = some (.int .i64 ((rd_T56 x8_1 x27_1).f4.f2)) := hcc13 6 _ rfl
          have hx13_7 : wr.cell? ⟨go13, (x27_1 : Int).toNat * 12 + 7, none⟩ = some (.string ((rd_T56 x8_1 x27_1).f4.f3)) := hcc13 7 _ rfl
          have hx13_8 : wr.cell? ⟨go13, (x27_1 : Int).toNat * 12 + 8, none⟩ = some (.string ((rd_T56 x8_1 x27_1).f4.f4)) := hcc13 8 _ rfl
          have hx13_9 : wr.cell? ⟨go13, (x27_1 : Int).toNat * 12 + 9, none⟩ = some (.int .i64 ((rd_T56 x8_1 x27_1).f4.f5)) := hcc13 9 _ rfl
          have hx13_10 : wr.cell? ⟨go13, (x27_1 : Int).toNat * 12 + 10, none⟩ = some (.int .i64 ((rd_T56 x8_1 x27_1).f4.f6)) := hcc13 10 _ rfl
          have hx13_11 : wr.cell? ⟨go13, (x27_1 : Int).toNat * 12 + 11, none⟩ = some (ve13_11) := hcc13 11 _ rfl
          have hf13_0 : wr.frozen? ⟨go13, (x27_1 : Int).toNat * 12, none⟩ = false := hfr13 0
          have hf13_1 : wr.frozen? ⟨go13, (x27_1 : Int).toNat * 12 + 1, none⟩ = false := hfr13 1
          have hf13_2 : wr.frozen? ⟨go13, (x27_1 : Int).toNat * 12 + 2, none⟩ = false := hfr13 2
          have hf13_3 : wr.frozen? ⟨go13, (x27_1 : Int).toNat * 12 + 3, none⟩ = false := hfr13 3
          have hf13_4 : wr.frozen? ⟨go13, (x27_1 : Int).toNat * 12 + 4, none⟩ = false := hfr13 4
          have hf13_5 : wr.frozen? ⟨go13, (x27_1 : Int).toNat * 12 + 5, none⟩ = false := hfr13 5
          have hf13_6 : wr.frozen? ⟨go13, (x27_1 : Int).toNat * 12 + 6, none⟩ = false := hfr13 6
          have hf13_7 : wr.frozen? ⟨go13, (x27_1 : Int).toNat * 12 + 7, none⟩ = false := hfr13 7
          have hf13_8 : wr.frozen? ⟨go13, (x27_1 : Int).toNat * 12 + 8, none⟩ = false := hfr13 8
          have hf13_9 : wr.frozen? ⟨go13, (x27_1 : Int).toNat * 12 + 9, none⟩ = false := hfr13 9
          have hf13_10 : wr.frozen? ⟨go13, (x27_1 : Int).toNat * 12 + 10, none⟩ = false := hfr13 10
          have hf13_11 : wr.frozen? ⟨go13, (x27_1 : Int).toNat * 12 + 11, none⟩ = false := hfr13 11
          clear hcl13 hcc13 hfr13 hM13
          replace p13 := eq_true p13
          replace q13 := eq_true q13
          have HX18 := Aside0.mk (show Kd.S k56 56 wr w.heap.size (fun k_ => ((fun _ => True)) k_ ∧ ¬ ((fun _ => False)) k_) (.slice (some ⟨go13, 0, none⟩) x8_1.length co9) x8_1 from (by (with_reducible repeat (first | apply Kd.S_alloc | apply Kd.S_drewN | apply Kd.S_drew)); exact Kd.S_mono HO_8.out (fun k_ hk => ⟨trivial, fun e_ => e_⟩)))
          obtain ⟨oki18, ce18, hcl18, hM18, hcc18, hfr18, hoki18, hH18⟩ := Kd.S_elem HX18.out z56 (x27_1 : Int) (of_decide_eq_true (by first | (with_reducible assumption) | assumption)) (by have h_ : (x27_1 : Int) < ((x8_1.length : Int) : Int) := of_decide_eq_true (by first | (with_reducible assumption) | assumption); first | exact h_ | (have e_ := (Kd.S_reads' HO_8.out).1; omega) | simpa using h_)
          obtain ⟨ve18_11, rfl, ge18_11⟩ := k56_openM hM18
          have HP18 := Kd.S_seg hH18 (of_decide_eq_true (by first | (with_reducible assumption) | assumption)) (by have h_ : (x27_1 : Int) < ((x8_1.length : Int) : Int) := of_decide_eq_true (by first | (with_reducible assumption) | assumption); first | exact h_ | (have e_ := (Kd.S_reads' HO_8.out).1; omega) | simpa using h_) (seg := [.int .i64 0]) (j := 2) (show 3 ≤ 12 from by decide) (x' := (⟨(rd_T56 x8_1 x27_1).f0, (rd_T56 x8_1 x27_1).f1, 0, (rd_T56 x8_1 x27_1).f3, (⟨(rd_T56 x8_1 x27_1).f4.f0, (rd_T56 x8_1 x27_1).f4.f1, (rd_T56 x8_1 x27_1).f4.f2, (rd_T56 x8_1 x27_1).f4.f3, (rd_T56 x8_1 x27_1).f4.f4, (rd_T56 x8_1 x27_1).f4.f5, (rd_T56 x8_1 x27_1).f4.f6⟩ : S53), (rd_T56 x8_1 x27_1).f5⟩ : S56)) (k56_mkM _ _ _ (⟨(rd_T56 x8_1 x27_1).f0, (rd_T56 x8_1 x27_1).f1, 0, (rd_T56 x8_1 x27_1).f3, (⟨(rd_T56 x8_1 x27_1).f4.f0, (rd_T56 x8_1 x27_1).f4.f1, (rd_T56 x8_1 x27_1).f4.f2, (rd_T56 x8_1 x27_1).f4.f3, (rd_T56 x8_1 x27_1).f4.f4, (rd_T56 x8_1 x27_1).f4.f5, (rd_T56 x8_1 x27_1).f4.f6⟩ : S53), (rd_T56 x8_1 x27_1).f5⟩ : S56) (Kd.R_mono ge18_11 (fun _ h_ => Or.inl h_))) (fun _ hk => hk) (fun k_ hk_ => hk_.elim)
          have hx18_2 := hcc18 2 _ rfl
          (try simp only [show (k56).sz = 12 from rfl, Nat.mul_one, Nat.add_zero] at hx18_2)
          have hf18_2 := hfr18 2
          (try simp only [show (k56).sz = 12 from rfl, Nat.mul_one, Nat.add_zero] at hf18_2)
          clear hcl18 hcc18 hfr18 hM18 hoki18 hH18
          go_wp2_with (first | ((with_reducible refine gate_store (t := 3) (p := 33) rfl ?_); refine store_event (t := 3) (p := 33) (v := ?vo_w19) (w1 := (wr.setCell ⟨go13, (x27_1 : Int).toNat * 12 + 2, none⟩ (.int .i64 0))) ?hg ?ho ?hn ?hr ?_; (case ho => rfl); (case hg => rfl); (case hn => rfl); (case hr => first | (go_simp; done) | (go_simp; rfl)); intro w19 hw; have hg : wr.grownBy w19 (some go13) := (by rw [hw]; exact HP18.2); have hp_ : Kd.S k56 56 w19 w.heap.size (fun _ => True) (.slice (some ⟨go13, 0, none⟩) x8_1.length co9) y112 := (by rw [hw, Ny112.out]; exact HP18.1); clear HP18; have n0_ := Aside0.mk (Kd.R_over' (v := (.slice (some ⟨go13, 0, none⟩) x8_1.length co9)) (by (with_reducible repeat (first | apply Kd.R_alloc | apply Kd.R_drewN | apply Kd.R_drew)); exact HO_4.out) (Kd.S_typed HO_8.out) (by decide) hg); have n1_ := Aside0.mk (Kd.R_over' (v := (.slice (some ⟨go13, 0, none⟩) x8_1.length co9)) (by (with_reducible repeat (first | apply Kd.R_alloc | apply Kd.R_drewN | apply Kd.R_drew)); exact HO_6.out) (Kd.S_typed HO_8.out) (by decide) hg); have n2_ := Aside0.mk (hp_); have n3_ := Aside0.mk ((by rw [hw]; exact below_set (HB.out) GB13.out : Below w.heap.size w w19)); clear HO_4; clear HO_6; clear HO_8; clear HB; have HO_4 := n0_; have HO_6 := n1_; have HO_8 := n2_; have HB := n3_; clear n0_ n1_ n2_ n3_; clear hg hw hp_; obtain ⟨Ao20, co20, eo20⟩ := Kd.R_slice HO_6.out; subst eo20; have p113 : 0 ≤ (x27_1 : Int) := of_decide_eq_true (by first | (with_reducible assumption) | assumption); have q113 : x27_1 < (t105.length : Int) := of_decide_eq_true (by first | (with_reducible assumption) | assumption); obtain ⟨ad113, e113, hx113_0⟩ := Kd.at_int (Kd.R_reads' HO_6.out).2.2 x27_1 p113 q113; cases e113; replace p113 := eq_true p113; replace q113 := eq_true q113; obtain ⟨Ao21, co21, eo21⟩ := Kd.R_slice HO_4.out; subst eo21; have p114 : 0 ≤ (x27_1 : Int) := of_decide_eq_true (by first | (with_reducible assumption) | assumption); have q114 : x27_1 < (t101.length : Int) := of_decide_eq_true (by first | (with_reducible assumption) | assumption); obtain ⟨ad114, e114, hx114_0⟩ := Kd.at_int (Kd.R_reads' HO_4.out).2.2 x27_1 p114 q114; cases e114; replace p114 := eq_true p114; replace q114 := eq_true q114; have p17 : 0 ≤ (x27_1 : Int) := of_decide_eq_true (by first | (with_reducible assumption) | assumption); have q17 : (x27_1 : Int) < ((x8_1.length : Int) : Int) := of_decide_eq_true (by first | (with_reducible assumption) | assumption); obtain ⟨_, ce17, hcl17, hM17, hcc17, hfr17, _, _⟩ := Kd.S_elem HO_8.out z56 (x27_1 : Int) p17 q17; obtain ⟨ve17_11, rfl, ge17_11⟩ := k56_openM hM17; have hx17_0 : w19.cell? ⟨go13, (x27_1 : Int).toNat * 12, none⟩ = some (.string ((rd_T56 y112 x27_1).f0)) := hcc17 0 _ rfl; have hx17_1 : w19.cell? ⟨go13, (x27_1 : Int).toNat * 12 + 1, none⟩ = some (.int .i64 ((rd_T56 y112 x27_1).f1)) := hcc17 1 _ rfl; have hx17_2 : w19.cell? ⟨go13, (x27_1 : Int).toNat * 12 + 2, none⟩ = some (.int .i64 ((rd_T56 y112 x27_1).f2)) := hcc17 2 _ rfl; have hx17_3 : w19.cell? ⟨go13, (x27_1 : Int).toNat * 12 + 3, none⟩ = some (.string ((rd_T56 y112 x27_1).f3)) := hcc17 3 _ rfl; have hx17_4 : w19.cell? ⟨go13, (x27_1 : Int).toNat * 12 + 4, none⟩ = some (.int .i64 ((rd_T56 y112 x27_1).f4.f0)) := hcc17 4 _ rfl; have hx17_5 : w19.cell? ⟨go13, (x27_1 : Int).toNat * 12 + 5, none⟩ = some (.int .i64 ((rd_T56 y112 x27_1).f4.f1)) := hcc17 5 _ rfl; have hx17_6 : w19.cell? ⟨go13, (x27_1 : Int).toNat * 12 + 6, none⟩ = some (.int .i64 ((rd_T56 y112 x27_1).f4.f2)) := hcc17 6 _ rfl; have hx17_7 : w19.cell? ⟨go13, (x27_1 : Int).toNat * 12 + 7, none⟩ = some (.string ((rd_T56 y112 x27_1).f4.f3)) := hcc17 7 _ rfl; have hx17_8 : w19.cell? ⟨go13, (x27_1 : Int).toNat * 12 + 8, none⟩ = some (.string ((rd_T56 y112 x27_1).f4.f4)) := hcc17 8 _ rfl; have hx17_9 : w19.cell? ⟨go13, (x27_1 : Int).toNat * 12 + 9, none⟩ = some (.int .i64 ((rd_T56 y112 x27_1).f4.f5)) := hcc17 9 _ rfl; have hx17_10 : w19.cell? ⟨go13, (x27_1 : Int).toNat * 12 + 10, none⟩ = some (.int .i64 ((rd_T56 y112 x27_1).f4.f6)) := hcc17 10 _ rfl; have hx17_11 : w19.cell? ⟨go13, (x27_1 : Int).toNat * 12 + 11, none⟩ = some (ve17_11) := hcc17 11 _ rfl; have hf17_0 : w19.frozen? ⟨go13, (x27_1 : Int).toNat * 12, none⟩ = false := hfr17 0; have hf17_1 : w19.frozen? ⟨go13, (x27_1 : Int).toNat * 12 + 1, none⟩ = false := hfr17 1; have hf17_2 : w19.frozen? ⟨go13, (x27_1 : Int).toNat * 12 + 2, none⟩ = false := hfr17 2; have hf17_3 : w19.frozen? ⟨go13, (x27_1 : Int).toNat * 12 + 3, none⟩ = false := hfr17 3; have hf17_4 : w19.frozen? ⟨go13, (x27_1 : Int).toNat * 12 + 4, none⟩ = false := hfr17 4; have hf17_5 : w19.frozen? ⟨go13, (x27_1 : Int).toNat * 12 + 5, none⟩ = false := hfr17 5; have hf17_6 : w19.frozen? ⟨go13, (x27_1 : Int).toNat * 12 + 6, none⟩ = false := hfr17 6; have hf17_7 : w19.frozen? ⟨go13, (x27_1 : Int).toNat * 12 + 7, none⟩ = false := hfr17 7; have hf17_8 : w19.frozen? ⟨go13, (x27_1 : Int).toNat * 12 + 8, none⟩ = false := hfr17 8; have hf17_9 : w19.frozen? ⟨go13, (x27_1 : Int).toNat * 12 + 9, none⟩ = false := hfr17 9; have hf17_10 : w19.frozen? ⟨go13, (x27_1 : Int).toNat * 12 + 10, none⟩ = false := hfr17 10; have hf17_11 : w19.frozen? ⟨go13, (x27_1 : Int).toNat * 12 + 11, none⟩ = false := hfr17 11; clear hcl17 hcc17 hfr17 hM17; replace p17 := eq_true p17; replace q17 := eq_true q17; have HX22 := Aside0.mk (show Kd.S k56 56 w19 w.heap.size (fun k_ => ((fun _ => True)) k_ ∧ ¬ ((fun _ => False)) k_) (.slice (some ⟨go13, 0, none⟩) x8_1.length co9) y112 from (by (with_reducible repeat (first | apply Kd.S_alloc | apply Kd.S_drewN | apply Kd.S_drew)); exact Kd.S_mono HO_8.out (fun k_ hk => ⟨trivial, fun e_ => e_⟩))); obtain ⟨oki22, ce22, hcl22, hM22, hcc22, hfr22, hoki22, hH22⟩ := Kd.S_elem HX22.out z56 (x27_1 : Int) (of_decide_eq_true (by first | (with_reducible assumption) | assumption)) (by have h_ : (x27_1 : Int) < ((x8_1.length : Int) : Int) := of_decide_eq_true (by first | (with_reducible assumption) | assumption); first | exact h_ | (have e_ := (Kd.S_reads' HO_8.out).1; omega) | simpa using h_); obtain ⟨ve22_11, rfl, ge22_11⟩ := k56_openM hM22; have HP22 := Kd.S_seg hH22 (of_decide_eq_true (by first | (with_reducible assumption) | assumption)) (by have h_ : (x27_1 : Int) < ((x8_1.length : Int) : Int) := of_decide_eq_true (by first | (with_reducible assumption) | assumption); first | exact h_ | (have e_ := (Kd.S_reads' HO_8.out).1; omega) | simpa using h_) (seg := [.int .i64 (wrap64 ((rd t101 x27_1) + 1))]) (j := 2) (show 3 ≤ 12 from by decide) (x' := (⟨(rd_T56 y112 x27_1).f0, (rd_T56 y112 x27_1).f1, wrap64 ((rd t101 x27_1) + 1), (rd_T56 y112 x27_1).f3, (⟨(rd_T56 y112 x27_1).f4.f0, (rd_T56 y112 x27_1).f4.f1, (rd_T56 y112 x27_1).f4.f2, (rd_T56 y112 x27_1).f4.f3, (rd_T56 y112 x27_1).f4.f4, (rd_T56 y112 x27_1).f4.f5, (rd_T56 y112 x27_1).f4.f6⟩ : S53), (rd_T56 y112 x27_1).f5⟩ : S56)) (k56_mkM _ _ _ (⟨(rd_T56 y112 x27_1).f0, (rd_T56 y112 x27_1).f1, wrap64 ((rd t101 x27_1) + 1), (rd_T56 y112 x27_1).f3, (⟨(rd_T56 y112 x27_1).f4.f0, (rd_T56 y112 x27_1).f4.f1, (rd_T56 y112 x27_1).f4.f2, (rd_T56 y112 x27_1).f4.f3, (rd_T56 y112 x27_1).f4.f4, (rd_T56 y112 x27_1).f4.f5, (rd_T56 y112 x27_1).f4.f6⟩ : S53), (rd_T56 y112 x27_1).f5⟩ : S56) (Kd.R_mono ge22_11 (fun _ h_ => Or.inl h_))) (fun _ hk => hk) (fun k_ hk_ => hk_.elim); have hx22_2 := hcc22 2 _ rfl; (try simp only [show (k56).sz = 12 from rfl, Nat.mul_one, Nat.add_zero] at hx22_2); have hf22_2 := hfr22 2; (try simp only [show (k56).sz = 12 from rfl, Nat.mul_one, Nat.add_zero] at hf22_2); clear hcl22 hcc22 hfr22 hM22 hoki22 hH22) | ((with_reducible refine gate_store (t := 3) (p := 47) rfl ?_); refine store_event (t := 3) (p := 47) (v := ?vo_w23) (w1 := (w19.setCell ⟨go13, (x27_1 : Int).toNat * 12 + 2, none⟩ (.int .i64 (wrap64 ((rd t101 x27_1) + 1))))) ?hg ?ho ?hn ?hr ?_; (case ho => rfl); (case hg => rfl); (case hn => rfl); (case hr => first | (go_simp; done) | (go_simp; rfl)); intro w23 hw; have hg : w19.grownBy w23 (some go13) := (by rw [hw]; exact HP22.2); have hp_ : Kd.S k56 56 w23 w.heap.size (fun _ => True) (.slice (some ⟨go13, 0, none⟩) x8_1.length co9) y115 := (by rw [hw, Ny115.out]; exact HP22.1); clear HP22; have n0_ := Aside0.mk (Kd.R_over' (v := (.slice (some ⟨go13, 0, none⟩) x8_1.length co9)) (by (with_reducible repeat (first | apply Kd.R_alloc | apply Kd.R_drewN | apply Kd.R_drew)); exact HO_4.out) (Kd.S_typed HO_8.out) (by decide) hg); have n1_ := Aside0.mk (Kd.R_over' (v := (.slice (some ⟨go13, 0, none⟩) x8_1.length co9)) (by (with_reducible repeat (first | apply Kd.R_alloc | apply Kd.R_drewN | apply Kd.R_drew)); exact HO_6.out) (Kd.S_typed HO_8.out) (by decide) hg); have n2_ := Aside0.mk (hp_); have n3_ := Aside0.mk ((by rw [hw]; exact below_set (HB.out) GB13.out : Below w.heap.size w w23)); clear HO_4; clear HO_6; clear HO_8; clear HB; have HO_4 := n0_; have HO_6 := n1_; have HO_8 := n2_; have HB := n3_; clear n0_ n1_ n2_ n3_; clear hg hw hp_))
          (try simp only [← hl8_1])
          go_roundg k1
          case measure => have := HK1.out; omega
          case rel => exact ⟨(y115), (wrap64 (x27_1 + 1)), (by first | rfl | (simp; done) | (simp [*]; done)), H', ⟨by have := HK1.out; omega⟩, ⟨by (try simp only [hl8_1]); (with_reducible repeat (first | apply Kd.R_alloc | apply Kd.R_drewN | apply Kd.R_drew)); exact HO_4.out⟩, ⟨by (try simp only [hl8_1]); (with_reducible repeat (first | apply Kd.R_alloc | apply Kd.R_drewN | apply Kd.R_drew)); exact HO_6.out⟩, ⟨by (try simp only [hl8_1]); (with_reducible repeat (first | apply Kd.S_alloc | apply Kd.S_drewN | apply Kd.S_drew)); exact HO_8.out⟩, ⟨by repeat (first | (with_reducible first | exact HB.out | apply below_alloc | apply pw_below_drewN | apply below_drew1) | exact HB.out)⟩⟩
         ·rw [if_neg c16] at H
          exact absurd H (by simp)
        ·rw [if_neg c15] at H
         have c15b0 : decide (1 < (rd t105 x27_1)) = false := decide_eq_false c15
         clear c15
         have H' := Aside0.mk H
         clear H
         have p13 : 0 ≤ (x27_1 : Int) := of_decide_eq_true (by first | (with_reducible assumption) | assumption)
         have q13 : (x27_1 : Int) < ((x8_1.length : Int) : Int) := of_decide_eq_true (by first | (with_reducible assumption) | assumption)
         obtain ⟨go13, co13, eo13, gb13, gl13, cl13, HG13⟩ := Kd.S_form HO_8.out (by omega)
         (first | cases eo13 | (injection eo13 with ea_ en_ ec_; (first | subst ea_ | (injection ea_ with ea_; subst ea_)); subst ec_; clear en_))
         have GB13 := Aside0.mk gb13
         have GG13 := Aside0.mk HG13
         clear gb13 gl13 HG13
         obtain ⟨_, ce13, hcl13, hM13, hcc13, hfr13, _, _⟩ := Kd.S_elem HO_8.out z56 (x27_1 : Int) p13 q13
         obtain ⟨ve13_11, rfl, ge13_11⟩ := k56_openM hM13
         have hx13_0 : wr.cell? ⟨go13, (x27_1 : Int).toNat * 12, none⟩ = some (.string ((rd_T56 x8_1 x27_1).f0)) := hcc13 0 _ rfl
         have hx13_1 : wr.cell? ⟨go13, (x27_1 : Int).toNat * 12 + 1, none⟩ = some (.int .i64 ((rd_T56 x8_1 x27_1).f1)) := hcc13 1 _ rfl
         have hx13_2 : wr.cell? ⟨go13, (x27_1 : Int).toNat * 12 + 2, none⟩ = some (.int .i64 ((rd_T56 x8_1 x27_1).f2)) := hcc13 2 _ rfl
         have hx13_3 : wr.cell? ⟨go13, (x27_1 : Int).toNat * 12 + 3, none⟩ = some (.string ((rd_T56 x8_1 x27_1).f3)) := hcc13 3 _ rfl
         have hx13_4 : wr.cell? ⟨go13, (x27_1 : Int).toNat * 12 + 4, none⟩ = some (.int .i64 ((rd_T56 x8_1 x27_1).f4.f0)) := hcc13 4 _ rfl
         have hx13_5 : wr.cell? ⟨go13, (x27_1 : Int).toNat * 12 + 5, none⟩ = some (.int .i64 ((rd_T56 x8_1 x27_1).f4.f1)) := hcc13 5 _ rfl
         have hx13_6 : wr.cell? ⟨go13, (x27_1 : Int).toNat * 12 + 6, none⟩ = some (.int .i64 ((rd_T56 x8_1 x27_1).f4.f2)) := hcc13 6 _ rfl
         have hx13_7 : wr.cell? ⟨go13, (x27_1 : Int).toNat * 12 + 7, none⟩ = some (.string ((rd_T56 x8_1 x27_1).f4.f3)) := hcc13 7 _ rfl
         have hx13_8 : wr.cell? ⟨go13, (x27_1 : Int).toNat * 12 + 8, none⟩ = some (.string ((rd_T56 x8_1 x27_1).f4.f4)) := hcc13 8 _ rfl
         have hx13_9 : wr.cell? ⟨go13, (x27_1 : Int).toNat * 12 + 9, none⟩ = some (.int .i64 ((rd_T56 x8_1 x27_1).f4.f5)) := hcc13 9 _ rfl
         have hx13_10 : wr.cell? ⟨go13, (x27_1 : Int).toNat * 12 + 10, none⟩ = some (.int .i64 ((rd_T56 x8_1 x27_1).f4.f6)) := hcc13 10 _ rfl
         have hx13_11 : wr.cell? ⟨go13, (x27_1 : Int).toNat * 12 + 11, none⟩ = some (ve13_11) := hcc13 11 _ rfl
         have hf13_0 : wr.frozen? ⟨go13, (x27_1 : Int).toNat * 12, none⟩ = false := hfr13 0
         have hf13_1 : wr.frozen? ⟨go13, (x27_1 : Int).toNat * 12 + 1, none⟩ = false := hfr13 1
         have hf13_2 : wr.frozen? ⟨go13, (x27_1 : Int).toNat * 12 + 2, none⟩ = false := hfr13 2
         have hf13_3 : wr.frozen? ⟨go13, (x27_1 : Int).toNat * 12 + 3, none⟩ = false := hfr13 3
         have hf13_4 : wr.frozen? ⟨go13, (x27_1 : Int).toNat * 12 + 4, none⟩ = false := hfr13 4
         have hf13_5 : wr.frozen? ⟨go13, (x27_1 : Int).toNat * 12 + 5, none⟩ = false := hfr13 5
         have hf13_6 : wr.frozen? ⟨go13, (x27_1 : Int).toNat * 12 + 6, none⟩ = false := hfr13 6
         have hf13_7 : wr.frozen? ⟨go13, (x27_1 : Int).toNat * 12 + 7, none⟩ = false := hfr13 7
         have hf13_8 : wr.frozen? ⟨go13, (x27_1 : Int).toNat * 12 + 8, none⟩ = false := hfr13 8
         have hf13_9 : wr.frozen? ⟨go13, (x27_1 : Int).toNat * 12 + 9, none⟩ = false := hfr13 9
         have hf13_10 : wr.frozen? ⟨go13, (x27_1 : Int).toNat * 12 + 10, none⟩ = false := hfr13 10
         have hf13_11 : wr.frozen? ⟨go13, (x27_1 : Int).toNat * 12 + 11, none⟩ = false := hfr13 11
         clear hcl13 hcc13 hfr13 hM13
         replace p13 := eq_true p13
         replace q13 := eq_true q13
         have HX24 := Aside0.mk (show Kd.S k56 56 wr w.heap.size (fun k_ => ((fun _ => True)) k_ ∧ ¬ ((fun _ => False)) k_) (.slice (some ⟨go13, 0, none⟩) x8_1.length co9) x8_1 from (by (with_reducible repeat (first | apply Kd.S_alloc | apply Kd.S_drewN | apply Kd.S_drew)); exact Kd.S_mono HO_8.out (fun k_ hk => ⟨trivial, fun e_ => e_⟩)))
         obtain ⟨oki24, ce24, hcl24, hM24, hcc24, hfr24, hoki24, hH24⟩ := Kd.S_elem HX24.out z56 (x27_1 : Int) (of_decide_eq_true (by first | (with_reducible assumption) | assumption)) (by have h_ : (x27_1 : Int) < ((x8_1.length : Int) : Int) := of_decide_eq_true (by first | (with_reducible assumption) | assumption); first | exact h_ | (have e_ := (Kd.S_reads' HO_8.out).1; omega) | simpa using h_)
         obtain ⟨ve24_11, rfl, ge24_11⟩ := k56_openM hM24
         have HP24 := Kd.S_seg hH24 (of_decide_eq_true (by first | (with_reducible assumption) | assumption)) (by have h_ : (x27_1 : Int) < ((x8_1.length : Int) : Int) := of_decide_eq_true (by first | (with_reducible assumption) | assumption); first | exact h_ | (have e_ := (Kd.S_reads' HO_8.out).1; omega) | simpa using h_) (seg := [.int .i64 0]) (j := 2) (show 3 ≤ 12 from by decide) (x' := (⟨(rd_T56 x8_1 x27_1).f0, (rd_T56 x8_1 x27_1).f1, 0, (rd_T56 x8_1 x27_1).f3, (⟨(rd_T56 x8_1 x27_1).f4.f0, (rd_T56 x8_1 x27_1).f4.f1, (rd_T56 x8_1 x27_1).f4.f2, (rd_T56 x8_1 x27_1).f4.f3, (rd_T56 x8_1 x27_1).f4.f4, (rd_T56 x8_1 x27_1).f4.f5, (rd_T56 x8_1 x27_1).f4.f6⟩ : S53), (rd_T56 x8_1 x27_1).f5⟩ : S56)) (k56_mkM _ _ _ (⟨(rd_T56 x8_1 x27_1).f0, (rd_T56 x8_1 x27_1).f1, 0, (rd_T56 x8_1 x27_1).f3, (⟨(rd_T56 x8_1 x27_1).f4.f0, (rd_T56 x8_1 x27_1).f4.f1, (rd_T56 x8_1 x27_1).f4.f2, (rd_T56 x8_1 x27_1).f4.f3, (rd_T56 x8_1 x27_1).f4.f4, (rd_T56 x8_1 x27_1).f4.f5, (rd_T56 x8_1 x27_1).f4.f6⟩ : S53), (rd_T56 x8_1 x27_1).f5⟩ : S56) (Kd.R_mono ge24_11 (fun _ h_ => Or.inl h_))) (fun _ hk => hk) (fun k_ hk_ => hk_.elim)
         have hx24_2 := hcc24 2 _ rfl
         (try simp only [show (k56).sz = 12 from rfl, Nat.mul_one, Nat.add_zero] at hx24_2)
         have hf24_2 := hfr24 2
         (try simp only [show (k56).sz = 12 from rfl, Nat.mul_one, Nat.add_zero] at hf24_2)
         clear hcl24 hcc24 hfr24 hM24 hoki24 hH24
         go_wp2_with (first | ((with_reducible refine gate_store (t := 3) (p := 33) rfl ?_); refine store_event (t := 3) (p := 33) (v := ?vo_w25) (w1 := (wr.setCell ⟨go13, (x27_1 : Int).toNat * 12 + 2, none⟩ (.int .i64 0))) ?hg ?ho ?hn ?hr ?_; (case ho => rfl); (case hg => rfl); (case hn => rfl); (case hr => first | (go_simp; done) | (go_simp; rfl)); intro w25 hw; have hg : wr.grownBy w25 (some go13) := (by rw [hw]; exact HP24.2); have hp_ : Kd.S k56 56 w25 w.heap.size (fun _ => True) (.slice (some ⟨go13, 0, none⟩) x8_1.length co9) y112 := (by rw [hw, Ny112.out]; exact HP24.1); clear HP24; have n0_ := Aside0.mk (Kd.R_over' (v := (.slice (some ⟨go13, 0, none⟩) x8_1.length co9)) (by (with_reducible repeat (first | apply Kd.R_alloc | apply Kd.R_drewN | apply Kd.R_drew)); exact HO_4.out) (Kd.S_typed HO_8.out) (by decide) hg); have n1_ := Aside0.mk (Kd.R_over' (v := (.slice (some ⟨go13, 0, none⟩) x8_1.length co9)) (by (with_reducible repeat (first | apply Kd.R_alloc | apply Kd.R_drewN | apply Kd.R_drew)); exact HO_6.out) (Kd.S_typed HO_8.out) (by decide) hg); have n2_ := Aside0.mk (hp_); have n3_ := Aside0.mk ((by rw [hw]; exact below_set (HB.out) GB13.out : Below w.heap.size w w25)); clear HO_4; clear HO_6; clear HO_8; clear HB; have HO_4 := n0_; have HO_6 := n1_; have HO_8 := n2_; have HB := n3_; clear n0_ n1_ n2_ n3_; clear hg hw hp_; obtain ⟨Ao26, co26, eo26⟩ := Kd.R_slice HO_6.out; subst eo26; have p113 : 0 ≤ (x27_1 : Int) := of_decide_eq_true (by first | (with_reducible assumption) | assumption); have q113 : x27_1 < (t105.length : Int) := of_decide_eq_true (by first | (with_reducible assumption) | assumption); obtain ⟨ad113, e113, hx113_0⟩ := Kd.at_int (Kd.R_reads' HO_6.out).2.2 x27_1 p113 q113; cases e113; replace p113 := eq_true p113; replace q113 := eq_true q113))
         (try simp only [← hl8_1])
         go_roundg k1
         case measure => have := HK1.out; omega
         case rel => exact ⟨(y112), (wrap64 (x27_1 + 1)), (by first | rfl | (simp; done) | (simp [*]; done)), H', ⟨by have := HK1.out; omega⟩, ⟨by (try simp only [hl8_1]); (with_reducible repeat (first | apply Kd.R_alloc | apply Kd.R_drewN | apply Kd.R_drew)); exact HO_4.out⟩, ⟨by (try simp only [hl8_1]); (with_reducible repeat (first | apply Kd.R_alloc | apply Kd.R_drewN | apply Kd.R_drew)); exact HO_6.out⟩, ⟨by (try simp only [hl8_1]); (with_reducible repeat (first | apply Kd.S_alloc | apply Kd.S_drewN | apply Kd.S_drew)); exact HO_8.out⟩, ⟨by repeat (first | (with_reducible first | exact HB.out | apply below_alloc | apply pw_below_drewN | apply below_drew1) | exact HB.out)⟩⟩
       ·rw [if_neg c14] at H
        exact absurd H (by simp)
      ·rw [if_neg c12] at H
       exact absurd H (by simp)
     ·rw [if_neg c11] at H
      exact absurd H (by simp)
    ·rw [if_neg c10] at H
     have c10b0 : decide (x27_1 < (t109.length : Int)) = false := decide_eq_false c10
     (try simp only [hl8_1] at c10b0) -- len_told
     clear c10
     simp only [Option.some.injEq, Prod.mk.injEq] at H
     obtain ⟨rfl, rfl⟩ := H
     go_wp2
     go_ret2
     exact ⟨_, by first | rfl | (simp [errW_none, errW_some] <;> rfl) | (simp [*, errW_none, errW_some] <;> rfl), by (with_reducible repeat (first | apply Kd.S_alloc | apply Kd.S_drewN | apply Kd.S_drew)); exact HO_8.out, by repeat (first | (with_reducible first | exact HB.out | apply below_alloc | apply pw_below_drewN | apply below_drew1) | exact HB.out)⟩
 ·rw [if_neg c3] at H
  have c3b0 : (t102 == 0) = false := beq_eq_false_iff_ne.mpr c3
  have c3b1 : (t102 != 0) = true := bne_iff_ne.mpr c3
  simp only [Option.some.injEq, Prod.mk.injEq] at H
  obtain ⟨rfl, rfl⟩ := H
  go_enter Tryd.func14, Tryd.ntmps14
  go_wp2_with (first | ((with_reducible refine gate_callee (f := 9) rfl ?_); refine goesL_ (some 12) rfl rfl Tryd.func9 (by kernel_rfl) rfl #[.slice A0 l0.length c0] rfl (by (try simp only [List.map_toArray, List.map_cons, List.map_nil]); first | done | rfl | (simp only [List.length_drop, List.length_take]; rfl)) ?_; (with_reducible refine (link_Firsts.calls k _ _ l0 t101 t102 _ ?side1 ?side2 A2.out).mono ?_); (case side1 => repeat (first | exact HR0.out | (with_reducible refine Kd.C_alloc ?_ _) | (with_reducible refine Kd.C_drewN ?_ _) | (with_reducible refine Kd.C_drew ?_))); (case side2 => exact HC0.out); rintro e w27 ⟨v103, rfl, ho0, hb⟩; refine ⟨_, rfl, ?_⟩; have n0_ := Aside0.mk (Kd.R_lower ho0 (below_size (by repeat (first | (with_reducible first | exact HB.out | apply below_alloc | apply pw_below_drewN | apply below_drew1) | exact HB.out)))); have n1_ := Aside0.mk (below_step (by repeat (first | (with_reducible first | exact HB.out | apply below_alloc | apply pw_below_drewN | apply below_drew1) | exact HB.out)) hb); clear HB; have HO104 := n0_; have HB := n1_; clear n0_ n1_; (try clear hb); (try clear hb2); (try clear hk); (try clear hi); (try clear ho0)))
  go_ret2
  exact ⟨_, by first | rfl | (simp [errW_none, errW_some] <;> rfl) | (simp [*, errW_none, errW_some] <;> rfl), by first | exact Kd.S_nil _ _ _ _ _ | exact Kd.N_nil _ _ _ _ _ | exact Kd.V_nil _ _ _ _ _ | exact Kd.Q_nil _ _ _ _ _ | exact Kd.R_nil _ _ _ _ _, by repeat (first | (with_reducible first | exact HB.out | apply below_alloc | apply pw_below_drewN | apply below_drew1) | exact HB.out)⟩

end Go.Proofs.YtodeblpanooomabDoor.All
end
section
namespace Go.Proofs.YtodeblpanooomabDoor.All
open Go.RowKit Go.Proofs.YtodeblpanooomabDoorW.PrintWords Go.Proofs.YtodeblpanooomabDoorW.PrintLast Go.Proofs.YtodeblpanooomabDoorW.PrintMore
open Go.Proofs.YtodeblpanooomabDoorW.Mine
attribute [local go_sem] gtr_string leq_string geq_string
attribute [local go_sem] max2_int min2_int max_two min_two max_three min_three max_four min_four   -- for this text's walks alone
set_option linter.unusedVariables false
set_option linter.unusedSimpArgs false

/-! ### creelref_TreeFind: function 44 -/
def creelref_TreeFind.l0 : Nat → List (S56) → ByteArray → Int → Option (Int)
 | 0, _, _, _ => none
 | k + 1, x0, x1, x5 => if x5 < (x0.length : Int) then (if 0 ≤ x5 then (if ((rd_T56 x0 x5).f0).toList = x1.toList then (some x5) else (creelref_TreeFind.l0 k x0 x1 (wrap64 (x5 + 1)))) else (none)) else (some (x0.length : Int))
def creelref_TreeFind.f (k : Nat) (l0 : List (S56)) (a1 : ByteArray) : Option (Int) := creelref_TreeFind.l0 k l0 a1 0
theorem creelref_TreeFind.mono_l : ∀ k, (∀ y0 y1 y2, LeO (creelref_TreeFind.l0 k y0 y1 y2) (creelref_TreeFind.l0 (k + 1) y0 y1 y2))
 | 0 => fun _ _ _ r h => by simp [creelref_TreeFind.l0] at h
 | k + 1 => by
  have ih0 := creelref_TreeFind.mono_l k
  ·intro y0 y1 y2
   unfold creelref_TreeFind.l0
   repeat' first
   | (with_reducible exact ih0 _ _ _)
   | (with_reducible exact LeO.refl _)
   | (with_reducible exact LeO.none _)
   | (with_reducible refine LeO.ite ?_ ?_)
   | (with_reducible refine LeO.bind ?_ (fun _ => ?_))
   | exact ih0 _ _ _
   | exact LeO.none _
   | refine LeO.ite ?_ ?_
   | refine LeO.bind ?_ (fun _ => ?_)
theorem creelref_TreeFind.mono : ∀ a0 a1 k, LeO (creelref_TreeFind.f k a0 a1) (creelref_TreeFind.f (k + 1) a0 a1) := by
 intro a0 a1 k
 have ih0 := creelref_TreeFind.mono_l k
 unfold creelref_TreeFind.f
 repeat' first
   | (with_reducible exact ih0 _ _ _)
   | (with_reducible exact LeO.refl _)
   | (with_reducible exact LeO.none _)
   | (with_reducible refine LeO.ite ?_ ?_)
   | (with_reducible refine LeO.bind ?_ (fun _ => ?_))
   | exact ih0 _ _ _
   | exact LeO.none _
   | refine LeO.ite ?_ ?_
   | refine LeO.bind ?_ (fun _ => ?_)
set_option maxHeartbeats 8000000 in
set_option maxRecDepth 100000 in
theorem creelref_TreeFind.calls (k : Nat) (A0 : Option Addr) (c0 : Nat) (l0 : List (S56)) (a1 : ByteArray) (r : Int) (w : World) (hr0 : Kd.C k56 w A0 l0.length l0) (hc0 : l0.length ≤ c0) (h : creelref_TreeFind.f k l0 a1 = some r) :
  Calls Tryd.prog 44 #[.slice A0 l0.length c0, .string a1] w fun e w' => e = .returned (.int .i64 r) ∧ Drawn0 w w' := by
 have HR0 := Aside0.mk hr0
 have HC0 := Aside0.mk hc0
 clear hr0 hc0
 have H : (creelref_TreeFind.l0 k l0 a1 0) = some r := h
 clear h
 have H' := Aside0.mk H
 clear H
 go_enter Tryd.func44, Tryd.ntmps44
 go_wp2
 go_loopg [5] k (fun kq v5 w' => ∃ (x5_1 : Int), v5 = .int .i64 x5_1 ∧ Aside0 (creelref_TreeFind.l0 kq l0 a1 x5_1 = some r) ∧ Aside0 (kq ≤ k) ∧ Drawn0 w w')
 case atStart => exact ⟨(0), (by first | rfl | (simp; done) | (simp [*]; done)), H', ⟨Nat.le_refl _⟩, by repeat (first | exact Drawn0.refl _ | apply Drawn0.step)⟩
 case round =>
  clear H'
  try clear p2
  obtain ⟨x5_1, rfl, HA, HK1, ⟨m1, rfl⟩⟩ := hrel
  cases gk with
  | zero => exact absurd HA.out (by simp [creelref_TreeFind.l0])
  | succ k1 =>
   have H := HA.out
   clear HA
   simp only [creelref_TreeFind.l0] at H
   by_cases c3 : x5_1 < (l0.length : Int)
   ·rw [if_pos c3] at H
    have c3b0 : decide (x5_1 < (l0.length : Int)) = true := decide_eq_true c3
    clear c3
    by_cases c4 : 0 ≤ x5_1
    ·rw [if_pos c4] at H
     have c4b0 : decide (0 ≤ x5_1) = true := decide_eq_true c4
     clear c4
     by_cases c5 : ((rd_T56 l0 x5_1).f0).toList = a1.toList
     ·rw [if_pos c5] at H
      have c5b0 : (((rd_T56 l0 x5_1).f0).toList == a1.toList) = true := beq_iff_eq.mpr c5
      have c5b1 : (((rd_T56 l0 x5_1).f0).toList != a1.toList) = false := bne_eq_false_iff_eq.mpr c5
      clear c5
      obtain rfl := Option.some.inj H
      have p101 : 0 ≤ (x5_1 : Int) := of_decide_eq_true (by first | (with_reducible assumption) | assumption)
      have q101 : x5_1 < (l0.length : Int) := of_decide_eq_true (by first | (with_reducible assumption) | assumption)
      obtain ⟨ad101, A101_11, c101_11, e101, hx101_0, hx101_1, hx101_2, hx101_3, hx101_4, hx101_5, hx101_6, hx101_7, hx101_8, hx101_9, hx101_10, hx101_11, hl101_11, hi101_11⟩ := at_T56 HR0.out x5_1 p101 q101
      cases e101
      have HR101_11 := Aside0.mk hi101_11
      have HC101_11 := Aside0.mk hl101_11
      clear hi101_11 hl101_11
      replace p101 := eq_true p101
      replace q101 := eq_true q101
      go_wp2
      go_ret
      exact ⟨by first | rfl | (simp; done) | (simp [*]; done), by repeat (first | exact Drawn0.refl _ | apply Drawn0.step)⟩
     ·rw [if_neg c5] at H
      have c5b0 : (((rd_T56 l0 x5_1).f0).toList == a1.toList) = false := beq_eq_false_iff_ne.mpr c5
      have c5b1 : (((rd_T56 l0 x5_1).f0).toList != a1.toList) = true := bne_iff_ne.mpr c5
      have H' := Aside0.mk H
      clear H
      have p101 : 0 ≤ (x5_1 : Int) := of_decide_eq_true (by first | (with_reducible assumption) | assumption)
      have q101 : x5_1 < (l0.length : Int) := of_decide_eq_true (by first | (with_reducible assumption) | assumption)
      obtain ⟨ad101, A101_11, c101_11, e101, hx101_0, hx101_1, hx101_2, hx101_3, hx101_4, hx101_5, hx101_6, hx101_7, hx101_8, hx101_9, hx101_10, hx101_11, hl101_11, hi101_11⟩ := at_T56 HR0.out x5_1 p101 q101
      cases e101
      have HR101_11 := Aside0.mk hi101_11
      have HC101_11 := Aside0.mk hl101_11
      clear hi101_11 hl101_11
      replace p101 := eq_true p101
      replace q101 := eq_true q101
      go_wp2
      go_roundg k1
      case measure => have := HK1.out; omega
      case rel => exact ⟨(wrap64 (x5_1 + 1)), (by first | rfl | (simp; done) | (simp [*]; done)), H', ⟨by have := HK1.out; omega⟩, by repeat (first | exact Drawn0.refl _ | apply Drawn0.step)⟩
    ·rw [if_neg c4] at H
     exact absurd H (by simp)
   ·rw [if_neg c3] at H
    have c3b0 : decide (x5_1 < (l0.length : Int)) = false := decide_eq_false c3
    clear c3
    obtain rfl := Option.some.inj H
    go_wp2
    go_ret
    exact ⟨by first | rfl | (simp; done) | (simp [*]; done), by repeat (first | exact Drawn0.refl _ | apply Drawn0.step)⟩

end Go.Proofs.YtodeblpanooomabDoor.All
end
section
namespace Go.Proofs.YtodeblpanooomabDoor.All
open Go.RowKit Go.Proofs.YtodeblpanooomabDoorW.PrintWords Go.Proofs.YtodeblpanooomabDoorW.PrintLast Go.Proofs.YtodeblpanooomabDoorW.PrintMore
open Go.Proofs.YtodeblpanooomabDoorW.Mine
attribute [local go_sem] gtr_string leq_string geq_string
attribute [local go_sem] max2_int min2_int max_two min_two max_three min_three max_four min_four   -- for this text's walks alone
set_option linter.unusedVariables false
set_option linter.unusedSimpArgs false

/-! ### creelref_has: function 74 -/
def creelref_has.l0 : Nat → ByteArray → Int → Int → Option (Bool)
 | 0, _, _, _ => none
 | k + 1, x0, x1, x5 => if x5 < (x0.size : Int) then (if 0 ≤ x5 then (if (bt x0 x5) = x1 then (some true) else (creelref_has.l0 k x0 x1 (wrap64 (x5 + 1)))) else (none)) else (some false)
def creelref_has.f (k : Nat) (a0 : ByteArray) (a1 : Int) : Option (Bool) := creelref_has.l0 k a0 a1 0
theorem creelref_has.mono_l : ∀ k, (∀ y0 y1 y2, LeO (creelref_has.l0 k y0 y1 y2) (creelref_has.l0 (k + 1) y0 y1 y2))
 | 0 => fun _ _ _ r h => by simp [creelref_has.l0] at h
 | k + 1 => by
  have ih0 := creelref_has.mono_l k
  ·intro y0 y1 y2
   unfold creelref_has.l0
   repeat' first
   | (with_reducible exact ih0 _ _ _)
   | (with_reducible exact LeO.refl _)
   | (with_reducible exact LeO.none _)
   | (with_reducible refine LeO.ite ?_ ?_)
   | (with_reducible refine LeO.bind ?_ (fun _ => ?_))
   | exact ih0 _ _ _
   | exact LeO.none _
   | refine LeO.ite ?_ ?_
   | refine LeO.bind ?_ (fun _ => ?_)
theorem creelref_has.mono : ∀ a0 a1 k, LeO (creelref_has.f k a0 a1) (creelref_has.f (k + 1) a0 a1) := by
 intro a0 a1 k
 have ih0 := creelref_has.mono_l k
 unfold creelref_has.f
 repeat' first
   | (with_reducible exact ih0 _ _ _)
   | (with_reducible exact LeO.refl _)
   | (with_reducible exact LeO.none _)
   | (with_reducible refine LeO.ite ?_ ?_)
   | (with_reducible refine LeO.bind ?_ (fun _ => ?_))
   | exact ih0 _ _ _
   | exact LeO.none _
   | refine LeO.ite ?_ ?_
   | refine LeO.bind ?_ (fun _ => ?_)
set_option maxHeartbeats 8000000 in
set_option maxRecDepth 100000 in
theorem creelref_has.calls (k : Nat) (a0 : ByteArray) (a1 : Int) (r : Bool) (w : World) (h : creelref_has.f k a0 a1 = some r) :
  Calls Tryd.prog 74 #[.string a0, .int .u8 a1] w fun e w' => e = .returned (.bool r) ∧ Drawn0 w w' := by
 have H : (creelref_has.l0 k a0 a1 0) = some r := h
 clear h
 have H' := Aside0.mk H
 clear H
 go_enter Tryd.func74, Tryd.ntmps74
 go_wp2
 go_loopg [5] k (fun kq v5 w' => ∃ (x5_1 : Int), v5 = .int .i64 x5_1 ∧ Aside0 (creelref_has.l0 kq a0 a1 x5_1 = some r) ∧ Aside0 (kq ≤ k) ∧ Drawn0 w w')
 case atStart => exact ⟨(0), (by first | rfl | (simp; done) | (simp [*]; done)), H', ⟨Nat.le_refl _⟩, by repeat (first | exact Drawn0.refl _ | apply Drawn0.step)⟩
 case round =>
  clear H'
  try clear p2
  obtain ⟨x5_1, rfl, HA, HK1, ⟨m1, rfl⟩⟩ := hrel
  cases gk with
  | zero => exact absurd HA.out (by simp [creelref_has.l0])
  | succ k1 =>
   have H := HA.out
   clear HA
   simp only [creelref_has.l0] at H
   by_cases c3 : x5_1 < (a0.size : Int)
   ·rw [if_pos c3] at H
    have c3b0 : decide (x5_1 < (a0.size : Int)) = true := decide_eq_true c3
    clear c3
    by_cases c4 : 0 ≤ x5_1
    ·rw [if_pos c4] at H
     have c4b0 : decide (0 ≤ x5_1) = true := decide_eq_true c4
     clear c4
     by_cases c6 : (bt a0 x5_1) = a1
     ·rw [if_pos c6] at H
      have c6b0 : ((bt a0 x5_1) == a1) = true := beq_iff_eq.mpr c6
      have c6b1 : ((bt a0 x5_1) != a1) = false := bne_eq_false_iff_eq.mpr c6
      clear c6
      obtain rfl := Option.some.inj H
      have p5 : 0 ≤ (x5_1 : Int) := of_decide_eq_true (by first | (with_reducible assumption) | assumption)
      have q5 : x5_1 < (a0.size : Int) := of_decide_eq_true (by first | (with_reducible assumption) | assumption)
      have hx5 := bt_at a0 x5_1
      replace p5 := eq_true p5
      replace q5 := eq_true q5
      go_wp2
      go_ret
      exact ⟨by first | rfl | (simp; done) | (simp [*]; done), by repeat (first | exact Drawn0.refl _ | apply Drawn0.step)⟩
     ·rw [if_neg c6] at H
      have c6b0 : ((bt a0 x5_1) == a1) = false := beq_eq_false_iff_ne.mpr c6
      have c6b1 : ((bt a0 x5_1) != a1) = true := bne_iff_ne.mpr c6
      have H' := Aside0.mk H
      clear H
      have p5 : 0 ≤ (x5_1 : Int) := of_decide_eq_true (by first | (with_reducible assumption) | assumption)
      have q5 : x5_1 < (a0.size : Int) := of_decide_eq_true (by first | (with_reducible assumption) | assumption)
      have hx5 := bt_at a0 x5_1
      replace p5 := eq_true p5
      replace q5 := eq_true q5
      go_wp2
      go_roundg k1
      case measure => have := HK1.out; omega
      case rel => exact ⟨(wrap64 (x5_1 + 1)), (by first | rfl | (simp; done) | (simp [*]; done)), H', ⟨by have := HK1.out; omega⟩, by repeat (first | exact Drawn0.refl _ | apply Drawn0.step)⟩
    ·rw [if_neg c4] at H
     exact absurd H (by simp)
   ·rw [if_neg c3] at H
    have c3b0 : decide (x5_1 < (a0.size : Int)) = false := decide_eq_false c3
    clear c3
    obtain rfl := Option.some.inj H
    go_wp2
    go_ret
    exact ⟨by first | rfl | (simp; done) | (simp [*]; done), by repeat (first | exact Drawn0.refl _ | apply Drawn0.step)⟩

end Go.Proofs.YtodeblpanooomabDoor.All
end
section
namespace Go.Proofs.YtodeblpanooomabDoor.All
open Go.RowKit Go.Proofs.YtodeblpanooomabDoorW.PrintWords Go.Proofs.YtodeblpanooomabDoorW.PrintLast Go.Proofs.YtodeblpanooomabDoorW.PrintMore
open Go.Proofs.YtodeblpanooomabDoorW.Mine
attribute [local go_sem] gtr_string leq_string geq_string
attribute [local go_sem] max2_int min2_int max_two min_two max_three min_three max_four min_four   -- for this text's walks alone
set_option linter.unusedVariables false
set_option linter.unusedSimpArgs false

/-! ### creelref_parts: function 51 -/
def creelref_parts.l0 : Nat → ByteArray → Int → List ByteArray → Int → Option (List ByteArray)
 | 0, _, _, _, _ => none
 | k + 1, x0, x1, x5, x6 => if x6 < (x0.size : Int) then (if 0 ≤ x6 then (if (bt x0 x6) = x1 then (if x5.length < 8796093022208 then (creelref_parts.l0 k x0 x1 (x5 ++ [(⟨#[]⟩ : ByteArray)]) (wrap64 (x6 + 1))) else (none)) else (if 0 ≤ (wrap64 ((x5.length : Int) - 1)) then (if (wrap64 ((x5.length : Int) - 1)) < (x5.length : Int) then (if x6 ≤ (wrap64 (x6 + 1)) then (if (wrap64 (x6 + 1)) ≤ (x0.size : Int) then (if (rdOf ByteArray.empty x5 (wrap64 ((x5.length : Int) - 1))).size + (x0.extract (x6 : Int).toNat ((wrap64 (x6 + 1)) : Int).toNat).size ≤ 9223372036854775807 then (creelref_parts.l0 k x0 x1 (x5.set ((wrap64 ((x5.length : Int) - 1)) : Int).toNat ((rdOf ByteArray.empty x5 (wrap64 ((x5.length : Int) - 1))) ++ (x0.extract (x6 : Int).toNat ((wrap64 (x6 + 1)) : Int).toNat))) (wrap64 (x6 + 1))) else (none)) else (none)) else (none)) else (none)) else (none))) else (none)) else (some x5)
def creelref_parts.f (k : Nat) (a0 : ByteArray) (a1 : Int) : Option (List ByteArray) := creelref_parts.l0 k a0 a1 (([(⟨#[]⟩ : ByteArray)] : List ByteArray)) 0
theorem creelref_parts.mono_l : ∀ k, (∀ y0 y1 y2 y3, LeO (creelref_parts.l0 k y0 y1 y2 y3) (creelref_parts.l0 (k + 1) y0 y1 y2 y3))
 | 0 => fun _ _ _ _ r h => by simp [creelref_parts.l0] at h
 | k + 1 => by
  have ih0 := creelref_parts.mono_l k
  ·intro y0 y1 y2 y3
   unfold creelref_parts.l0
   repeat' first
   | (with_reducible exact ih0 _ _ _ _)
   | (with_reducible exact LeO.refl _)
   | (with_reducible exact LeO.none _)
   | (with_reducible refine LeO.ite ?_ ?_)
   | (with_reducible refine LeO.bind ?_ (fun _ => ?_))
   | exact ih0 _ _ _ _
   | exact LeO.none _
   | refine LeO.ite ?_ ?_
   | refine LeO.bind ?_ (fun _ => ?_)
theorem creelref_parts.mono : ∀ a0 a1 k, LeO (creelref_parts.f k a0 a1) (creelref_parts.f (k + 1) a0 a1) := by
 intro a0 a1 k
 have ih0 := creelref_parts.mono_l k
 unfold creelref_parts.f
 repeat' first
   | (with_reducible exact ih0 _ _ _ _)
   | (with_reducible exact LeO.refl _)
   | (with_reducible exact LeO.none _)
   | (with_reducible refine LeO.ite ?_ ?_)
   | (with_reducible refine LeO.bind ?_ (fun _ => ?_))
   | exact ih0 _ _ _ _
   | exact LeO.none _
   | refine LeO.ite ?_ ?_
   | refine LeO.bind ?_ (fun _ => ?_)
def creelref_parts.T7 : Bool × List (List Nat × List Nat) := (true, [([], []), ([], []), ([1], [1]), ([2], [2]), ([0, 3], [0, 3]), ([4], [4]), ([], []), ([], []), ([], []), ([8], [8]), ([6, 7, 9], [6, 7, 9]), ([5, 10], [5, 10]), ([0, 3, 0, 1, 2, 3, 4, 5, 6, 7, 8, 9, 10, 11], [0, 3]), ([12, 11, 0, 1, 2, 3, 4, 5, 6, 7, 8, 9, 10, 11], [11, 12])])
def creelref_parts.B7 : List Nat := [0, 0, 2, 6, 15, 31, 0, 0, 0, 256, 960, 2047, 4095, 8191]
theorem creelref_parts.tab7 : rtab .any (opsOf Tryd.f51 7) = creelref_parts.T7 := by kernel_rfl
theorem creelref_parts.bits7 : waitsOk creelref_parts.T7.2 creelref_parts.B7 = true := by kernel_rfl
set_option maxHeartbeats 8000000 in
set_option maxRecDepth 100000 in
theorem creelref_parts.calls (k : Nat) (a0 : ByteArray) (a1 : Int) (r : List ByteArray) (w : World) (h : creelref_parts.f k a0 a1 = some r) :
  Calls Tryd.prog 51 #[.string a0, .int .u8 a1] w fun e w' => ∃ v0_ : Value, e = .returned (v0_) ∧ Kd.R Kd.string 9 w' w.heap.size (fun _ => True) v0_ r ∧ Below w.heap.size w w' := by
 have HB := Aside0.mk (Below.refl w.heap.size w)
 have H : (creelref_parts.l0 k a0 a1 (([(⟨#[]⟩ : ByteArray)] : List ByteArray)) 0) = some r := h
 clear h
 obtain ⟨y101, hy101⟩ : ∃ y_ : List ByteArray, y_ = (([(⟨#[]⟩ : ByteArray)] : List ByteArray)) := ⟨_, rfl⟩
 replace H : (creelref_parts.l0 k a0 a1 y101 0) = some r := by first | (rw [hy101]; with_reducible exact H) | (have H2_ := (Option.bind_some _ _).symm.trans H; rw [hy101]; with_reducible exact H2_) | (have H2_ := (Option.bind_some _ _).symm.trans H; with_reducible exact H2_) | with_reducible exact H | (rw [hy101]; exact H) | exact H
 have Ny101 := Aside0.mk hy101
 clear hy101
 have H' := Aside0.mk H
 clear H
 go_enter Tryd.func51, Tryd.ntmps51
 go_wp2_with (first | ((with_reducible refine gate_dst (N := 7) rfl ?_); refine Kd.R_lit Kd.string _ 9 ?hg (N := 7) ?hd (xs := ([(⟨#[]⟩ : ByteArray)] : List ByteArray)) (inner := [.string (⟨#[]⟩ : ByteArray)]) (ok := fun _ => True) (okp := fun _ => True) ?hr ?hp (fun _ hk => hk) trivial (Below.refl _ _) (Nat.le_refl _) (by simp) ?_; (case hd => rfl); (case hg => rfl); (case hr => first | (go_simp; done) | (go_simp; rfl)); (case hp => exact (Reps.one (show Kd.M Kd.string _ _ _ (⟨#[]⟩ : ByteArray) [.string (⟨#[]⟩ : ByteArray)] from rfl) (Reps.none _ _))); intro v102 w3 ho4 hb hg_ hnew_; clear hg_ hnew_; (first | rw [← Ny101.out] at ho4 | (simp only [Int.reduceToNat] at ho4; rw [← Ny101.out] at ho4)); have n0_ := Aside0.mk (Kd.R_lower ho4 (below_size (by repeat (first | (with_reducible first | exact HB.out | apply below_alloc | apply pw_below_drewN | apply below_drew1) | exact HB.out)))); have n1_ := Aside0.mk (below_step (by repeat (first | (with_reducible first | exact HB.out | apply below_alloc | apply pw_below_drewN | apply below_drew1) | exact HB.out)) hb); clear HB; have HO103 := n0_; have HB := n1_; clear n0_ n1_; clear hb ho4))
 go_loopg [5, 6] k (fun kq v5 v6 w' => ∃ (x5_1 : List ByteArray) (x6_1 : Int), v6 = .int .i64 x6_1 ∧ Aside0 (creelref_parts.l0 kq a0 a1 x5_1 x6_1 = some r) ∧ Aside0 (kq ≤ k) ∧ Aside0 (Kd.R Kd.string 9 w' w.heap.size (fun _ => True) v5 x5_1) ∧ Aside0 (Below w.heap.size w w'))
 case atStart => exact ⟨(y101), (0), (by first | rfl | (simp; done) | (simp [*]; done)), H', ⟨Nat.le_refl _⟩, ⟨by (with_reducible repeat (first | apply Kd.R_alloc | apply Kd.R_drewN | apply Kd.R_drew)); exact HO103.out⟩, ⟨by repeat (first | (with_reducible first | exact HB.out | apply below_alloc | apply pw_below_drewN | apply below_drew1) | exact HB.out)⟩⟩
 case round =>
  clear H'
  try clear p2
  obtain ⟨x5_1, x6_1, rfl, HA, HK1, HO_5, HB⟩ := hrel
  cases gk with
  | zero => exact absurd HA.out (by simp [creelref_parts.l0])
  | succ k1 =>
   have H := HA.out
   clear HA
   simp only [creelref_parts.l0] at H
   by_cases c5 : x6_1 < (a0.size : Int)
   ·rw [if_pos c5] at H
    have c5b0 : decide (x6_1 < (a0.size : Int)) = true := decide_eq_true c5
    clear c5
    by_cases c6 : 0 ≤ x6_1
    ·rw [if_pos c6] at H
     have c6b0 : decide (0 ≤ x6_1) = true := decide_eq_true c6
     clear c6
     by_cases c8 : (bt a0 x6_1) = a1
     ·rw [if_pos c8] at H
      have c8b0 : ((bt a0 x6_1) == a1) = true := beq_iff_eq.mpr c8
      have c8b1 : ((bt a0 x6_1) != a1) = false := bne_eq_false_iff_eq.mpr c8
      clear c8
      by_cases c9 : x5_1.length < 8796093022208
      ·rw [if_pos c9] at H
       have LMc9 := Aside0.mk c9
       clear c9
       obtain ⟨y104, hy104⟩ : ∃ y_ : List ByteArray, y_ = (x5_1 ++ [(⟨#[]⟩ : ByteArray)]) := ⟨_, rfl⟩
       replace H : (creelref_parts.l0 k1 a0 a1 y104 (wrap64 (x6_1 + 1))) = some r := by first | (rw [hy104]; with_reducible exact H) | (have H2_ := (Option.bind_some _ _).symm.trans H; rw [hy104]; with_reducible exact H2_) | (have H2_ := (Option.bind_some _ _).symm.trans H; with_reducible exact H2_) | with_reducible exact H | (rw [hy104]; exact H) | exact H
       have Ny104 := Aside0.mk hy104
       clear hy104
       have H' := Aside0.mk H
       clear H
       have p7 : 0 ≤ (x6_1 : Int) := of_decide_eq_true (by first | (with_reducible assumption) | assumption)
       have q7 : x6_1 < (a0.size : Int) := of_decide_eq_true (by first | (with_reducible assumption) | assumption)
       have hx7 := bt_at a0 x6_1
       replace p7 := eq_true p7
       replace q7 := eq_true q7
       go_wp2_with (first | ((with_reducible refine gate_builtin (b := .append) (xs := #[.tmp 19, .tmp 20]) rfl ?_); at_builtin; refine Kd.R_append Kd.string (w0 := w) w.heap.size rfl (.tmp 19) (.tmp 20) 41 9 (.string ⟨#[]⟩) 16 rfl Tryd.underlying41 info9 rfl (by decide) (by omega) u5 x5_1 (⟨#[]⟩ : ByteArray) [.string (⟨#[]⟩ : ByteArray)] (fun _ => True) (fun _ => False) rfl rfl ?aP (fun _ hk => hk.elim) ?aF ?aO ?aB ?aS ?aL ?_; (case aP => exact rfl); (case aB => exact (by repeat (first | (with_reducible first | exact HB.out | apply below_alloc | apply pw_below_drewN | apply below_drew1) | exact HB.out))); (case aF => exact (fun _ _ => trivial)); (case aO => exact (by (with_reducible repeat (first | apply Kd.R_alloc | apply Kd.R_drewN | apply Kd.R_drew)); exact HO_5.out)); (case aS => exact (below_size (by repeat (first | (with_reducible first | exact HB.out | apply below_alloc | apply pw_below_drewN | apply below_drew1) | exact HB.out)))); (case aL => have := LMc9.out; omega); intro v105 w10 ho hb hg hat; rw [← Ny104.out] at ho; have n0_ := Aside0.mk (hb); have n1_ := Aside0.mk (ho); clear HB; clear HO_5; have HB := n0_; have HO106 := n1_; clear n0_ n1_; clear ho hb hg hat))
       go_roundg k1
       case measure => have := HK1.out; omega
       case rel => exact ⟨(y104), (wrap64 (x6_1 + 1)), (by first | rfl | (simp; done) | (simp [*]; done)), H', ⟨by have := HK1.out; omega⟩, ⟨by (with_reducible repeat (first | apply Kd.R_alloc | apply Kd.R_drewN | apply Kd.R_drew)); exact HO106.out⟩, ⟨by repeat (first | (with_reducible first | exact HB.out | apply below_alloc | apply pw_below_drewN | apply below_drew1) | exact HB.out)⟩⟩
      ·rw [if_neg c9] at H
       exact absurd H (by simp)
     ·rw [if_neg c8] at H
      have c8b0 : ((bt a0 x6_1) == a1) = false := beq_eq_false_iff_ne.mpr c8
      have c8b1 : ((bt a0 x6_1) != a1) = true := bne_iff_ne.mpr c8
      obtain ⟨ji11, hji11⟩ : ∃ j_ : Int, (wrap64 ((x5_1.length : Int) - 1)) = j_ := ⟨_, rfl⟩
      replace H : (if 0 ≤ (ji11) then (if (ji11) < (x5_1.length : Int) then (if x6_1 ≤ (wrap64 (x6_1 + 1)) then (if (wrap64 (x6_1 + 1)) ≤ (a0.size : Int) then (if (rdOf ByteArray.empty x5_1 (ji11)).size + (a0.extract (x6_1 : Int).toNat ((wrap64 (x6_1 + 1)) : Int).toNat).size ≤ 9223372036854775807 then (creelref_parts.l0 k1 a0 a1 (x5_1.set ((ji11) : Int).toNat ((rdOf ByteArray.empty x5_1 (ji11)) ++ (a0.extract (x6_1 : Int).toNat ((wrap64 (x6_1 + 1)) : Int).toNat))) (wrap64 (x6_1 + 1))) else (none)) else (none)) else (none)) else (none)) else (none)) = some r := by first | (rw [hji11] at H; exact H) | (simp only [hji11] at H ⊢; exact H)
      have hji11w : (IntKind.i64.wrap ((x5_1.length : Int) - 1)) = ji11 := (i64_w _).trans hji11
      by_cases c12 : 0 ≤ (ji11)
      ·rw [if_pos c12] at H
       have c12b0 : decide (0 ≤ (ji11)) = true := decide_eq_true c12
       clear c12
       by_cases c13 : (ji11) < (x5_1.length : Int)
       ·rw [if_pos c13] at H
        have c13b0 : decide ((ji11) < (x5_1.length : Int)) = true := decide_eq_true c13
        clear c13
        have c14b0 := eq_true (of_decide_eq_true (by first | (with_reducible assumption) | assumption) : 0 ≤ x6_1)
        by_cases c15 : x6_1 ≤ (wrap64 (x6_1 + 1))
        ·rw [if_pos c15] at H
         have c15b0 := eq_true c15
         have c15b1 : decide (x6_1 ≤ (wrap64 (x6_1 + 1))) = true := decide_eq_true c15
         by_cases c16 : (wrap64 (x6_1 + 1)) ≤ (a0.size : Int)
         ·rw [if_pos c16] at H
          have c16b0 := eq_true c16
          have c16b1 : decide ((wrap64 (x6_1 + 1)) ≤ (a0.size : Int)) = true := decide_eq_true c16
          by_cases c17 : (rdOf ByteArray.empty x5_1 (ji11)).size + (a0.extract (x6_1 : Int).toNat ((wrap64 (x6_1 + 1)) : Int).toNat).size ≤ 9223372036854775807
          ·rw [if_pos c17] at H
           have c17b0 := eq_true c17
           have c17b1 : decide ((rdOf ByteArray.empty x5_1 (ji11)).size + (a0.extract (x6_1 : Int).toNat ((wrap64 (x6_1 + 1)) : Int).toNat).size ≤ 9223372036854775807) = true := decide_eq_true c17
           try have c17b2 : (9223372036854775807 < (rdOf ByteArray.empty x5_1 (ji11)).size + (a0.extract (x6_1 : Int).toNat ((wrap64 (x6_1 + 1)) : Int).toNat).size) = False := eq_false (Nat.not_lt.2 c17)
           try have c17b3 : (9223372036854775807 < (rdOf ByteArray.empty x5_1 (ji11)).size + (((wrap64 (x6_1 + 1))).toNat - (x6_1).toNat)) = False := eq_false (by have h_ := c17; simp only [ByteArray.size_extract] at h_; omega)
           obtain ⟨y108, hy108⟩ : ∃ y_ : List ByteArray, y_ = (x5_1.set ((ji11) : Int).toNat ((rdOf ByteArray.empty x5_1 (ji11)) ++ (a0.extract (x6_1 : Int).toNat ((wrap64 (x6_1 + 1)) : Int).toNat))) := ⟨_, rfl⟩
           replace H : (creelref_parts.l0 k1 a0 a1 y108 (wrap64 (x6_1 + 1))) = some r := by first | (rw [hy108]; with_reducible exact H) | (have H2_ := (Option.bind_some _ _).symm.trans H; rw [hy108]; with_reducible exact H2_) | (have H2_ := (Option.bind_some _ _).symm.trans H; with_reducible exact H2_) | with_reducible exact H | (rw [hy108]; exact H) | exact H
           have Ny108 := Aside0.mk hy108
           clear hy108
           have H' := Aside0.mk H
           clear H
           have p7 : 0 ≤ (x6_1 : Int) := of_decide_eq_true (by first | (with_reducible assumption) | assumption)
           have q7 : x6_1 < (a0.size : Int) := of_decide_eq_true (by first | (with_reducible assumption) | assumption)
           have hx7 := bt_at a0 x6_1
           replace p7 := eq_true p7
           replace q7 := eq_true q7
           try go_wp2
           have n0_ := Aside0.mk (Kd.R_drew HO_5.out)
           have n1_ := Aside0.mk (below_drew1 HB.out)
           clear HO_5
           clear HB
           have HO_5 := n0_
           have HB := n1_
           clear n0_ n1_
           obtain ⟨Ao20, co20, eo20⟩ := Kd.R_slice HO_5.out
           (first | subst eo20 | (injection eo20 with f1_ f2_ f3_; have f4_ := f1_.symm; have f5_ := f3_.symm; clear f1_ f2_ f3_; subst f4_; subst f5_))
           have p107 : 0 ≤ ((ji11) : Int) := of_decide_eq_true (by first | (with_reducible assumption) | assumption)
           have q107 : (ji11) < (x5_1.length : Int) := of_decide_eq_true (by first | (with_reducible assumption) | assumption)
           obtain ⟨ad107, e107, hx107_0⟩ := Kd.at_string (Kd.R_reads' HO_5.out).2.2 (ji11) p107 q107
           cases e107
           replace p107 := eq_true p107
           replace q107 := eq_true q107
           have p18 : 0 ≤ ((ji11) : Int) := of_decide_eq_true (by first | (with_reducible assumption) | assumption)
           have q18 : ((ji11) : Int) < ((x5_1.length : Int) : Int) := of_decide_eq_true (by first | (with_reducible assumption) | assumption)
           obtain ⟨go18, co18, eo18, gb18, gl18, cl18, HG18⟩ := Kd.R_form HO_5.out (by omega)
           (first | cases eo18 | (injection eo18 with ea_ en_ ec_; (first | subst ea_ | (injection ea_ with ea_; subst ea_)); subst ec_; clear en_))
           have GB18 := Aside0.mk gb18
           have GG18 := Aside0.mk HG18
           clear gb18 gl18 HG18
           (first | simp only [add_plain] at hx107_0 | skip)
           obtain ⟨hx18_0, hf18_0⟩ := Kd.R_celln (⟨#[]⟩ : ByteArray) HO_5.out ((ji11) : Int) p18 q18
           replace p18 := eq_true p18
           replace q18 := eq_true q18
           have HP21 := Kd.R_putn HO_5.out ((ji11) : Int) ((rdOf ByteArray.empty x5_1 (ji11)) ++ (a0.extract (x6_1 : Int).toNat ((wrap64 (x6_1 + 1)) : Int).toNat))
           rw [← Ny108.out] at HP21
           have HQ21 := Aside0.mk HP21
           clear HP21
           refine start_ (n := 14) (S := fun w' => w'.cell? ⟨go18, ((ji11)).toNat, none⟩ = some (.string (rdOf ByteArray.empty x5_1 (ji11)))) (ds := [13]) #[false, false, false, false, false, false, false, false, false, false, false, false, false, false] (by kernel_rfl) rfl rfl (hx107_0) (fun hHeld => ?_); refine with_tabW creelref_parts.tab7 creelref_parts.bits7 (fun HT_ HW_ => ?_)
           generalize wr.drew = w19 at HO_5 HB GG18 HQ21 hf18_0 hx107_0 hx18_0 hHeld ⊢
           refine pure_ (i := 0) (N := some 22) (v := ?_) (a' := ?_) #[true, false, false, false, false, false, false, false, false, false, false, false, false, false] rfl rfl (any_of HT_.out (by kernel_rfl)) (fun _ _ _ h => h) (Or.inl ⟨by rfl, ?_⟩) ?_ ?_
           rotate_left
           ·intro w'
            go_simp
            with_reducible rfl
           rotate_left
           ·simp only [Act.put, List.setIfInBounds_toArray, List.set_cons_zero, List.set_cons_succ, i64_w, i32_w]
            rfl
           refine pure_ (i := 1) (N := some 23) (v := ?_) (a' := ?_) #[true, true, false, false, false, false, false, false, false, false, false, false, false, false] rfl rfl (any_of HT_.out (by kernel_rfl)) (fun _ _ _ h => h) (Or.inl ⟨by rfl, ?_⟩) ?_ ?_
           rotate_left
           ·intro w'
            go_simp
            with_reducible rfl
           rotate_left
           ·simp only [Act.put, List.setIfInBounds_toArray, List.set_cons_zero, List.set_cons_succ, i64_w, i32_w]
            rfl
           refine pure_ (i := 2) (N := some 24) (v := ?_) (a' := ?_) #[true, true, true, false, false, false, false, false, false, false, false, false, false, false] rfl rfl (any_of HT_.out (by kernel_rfl)) (fun _ _ _ h => h) (Or.inl ⟨by rfl, ?_⟩) ?_ ?_
           rotate_left
           ·intro w'
            go_simp
            with_reducible rfl
           rotate_left
           ·simp only [Act.put, List.setIfInBounds_toArray, List.set_cons_zero, List.set_cons_succ, i64_w, i32_w]
            rfl
           refine pure_ (i := 3) (N := some 25) (v := ?_) (a' := ?_) #[true, true, true, true, false, false, false, false, false, false, false, false, false, false] rfl rfl (any_of HT_.out (by kernel_rfl)) (fun _ _ _ h => h) (Or.inl ⟨by rfl, ?_⟩) ?_ ?_
           rotate_left
           ·intro w'
            go_simp
            with_reducible rfl
           rotate_left
           ·simp only [Act.put, List.setIfInBounds_toArray, List.set_cons_zero, List.set_cons_succ, i64_w, i32_w]
            rfl
           refine pure_ (i := 4) (N := some 26) (v := ?_) (a' := ?_) #[true, true, true, true, true, false, false, false, false, false, false, false, false, false] rfl rfl (any_of HT_.out (by kernel_rfl)) (fun _ _ _ h => h) (Or.inl ⟨by rfl, ?_⟩) ?_ ?_
           rotate_left
           ·intro w'
            go_simp
            with_reducible rfl
           rotate_left
           ·simp only [Act.put, List.setIfInBounds_toArray, List.set_cons_zero, List.set_cons_succ, i64_w, i32_w]
            rfl
           refine pure_ (i := 6) (N := some 28) (v := ?_) (a' := ?_) #[true, true, true, true, true, false, true, false, false, false, false, false, false, false] rfl rfl (any_of HT_.out (by kernel_rfl)) (fun _ _ _ h => h) (Or.inl ⟨by rfl, ?_⟩) ?_ ?_
           rotate_left
           ·intro w'
            go_simp
            with_reducible rfl
           rotate_left
           ·simp only [Act.put, List.setIfInBounds_toArray, List.set_cons_zero, List.set_cons_succ, i64_w, i32_w]
            rfl
           refine pure_ (i := 7) (N := some 29) (v := ?_) (a' := ?_) #[true, true, true, true, true, false, true, true, false, false, false, false, false, false] rfl rfl (any_of HT_.out (by kernel_rfl)) (fun _ _ _ h => h) (Or.inl ⟨by rfl, ?_⟩) ?_ ?_
           rotate_left
           ·intro w'
            go_simp
            with_reducible rfl
           rotate_left
           ·simp only [Act.put, List.setIfInBounds_toArray, List.set_cons_zero, List.set_cons_succ, i64_w, i32_w]
            rfl
           refine pure_ (i := 8) (N := some 30) (v := ?_) (a' := ?_) #[true, true, true, true, true, false, true, true, true, false, false, false, false, false] rfl rfl (any_of HT_.out (by kernel_rfl)) (fun _ _ _ h => h) (Or.inl ⟨by rfl, ?_⟩) ?_ ?_
           rotate_left
           ·intro w'
            go_simp
            with_reducible rfl
           rotate_left
           ·simp only [Act.put, List.setIfInBounds_toArray, List.set_cons_zero, List.set_cons_succ, i64_w, i32_w]
            rfl
           refine pure_ (i := 9) (N := some 31) (v := ?_) (a' := ?_) #[true, true, true, true, true, false, true, true, true, true, false, false, false, false] rfl rfl (any_of HT_.out (by kernel_rfl)) (fun _ _ _ h => h) (Or.inl ⟨by rfl, ?_⟩) ?_ ?_
           rotate_left
           ·intro w'
            go_simp
            with_reducible rfl
           rotate_left
           ·simp only [Act.put, List.setIfInBounds_toArray, List.set_cons_zero, List.set_cons_succ, i64_w, i32_w]
            rfl
           refine pure_ (i := 10) (N := some 32) (v := ?_) (a' := ?_) #[true, true, true, true, true, false, true, true, true, true, true, false, false, false] rfl rfl (any_of HT_.out (by kernel_rfl)) (fun _ _ _ h => h) (Or.inl ⟨by rfl, ?_⟩) ?_ ?_
           rotate_left
           ·intro w'
            go_simp
            with_reducible rfl
           rotate_left
           ·simp only [Act.put, List.setIfInBounds_toArray, List.set_cons_zero, List.set_cons_succ, i64_w, i32_w]
            rfl
           refine take_ (i := 5) (N := some 27) (v := ?_) (a' := ?_) #[true, true, true, true, true, true, true, true, true, true, true, false, false, false] rfl rfl (take_ofW HT_.out HW_.out (by kernel_rfl)) (fun _ _ _ h => h) (Or.inl ⟨by rfl, ?_⟩) hHeld ?_ ?_
           rotate_left
           ·intro w' s0
            go_simp
            with_reducible rfl
           rotate_left
           ·simp only [Act.put, List.setIfInBounds_toArray, List.set_cons_zero, List.set_cons_succ, i64_w, i32_w]
            rfl
           refine pure_ (i := 11) (N := some 33) (v := ?_) (a' := ?_) #[true, true, true, true, true, true, true, true, true, true, true, true, false, false] rfl rfl (any_of HT_.out (by kernel_rfl)) (fun _ _ _ h => h) (Or.inl ⟨by rfl, ?_⟩) ?_ ?_
           rotate_left
           ·intro w'
            go_simp
            with_reducible rfl
           rotate_left
           ·simp only [Act.put, List.setIfInBounds_toArray, List.set_cons_zero, List.set_cons_succ, i64_w, i32_w]
            rfl
           refine pure_ (i := 12) (N := some 34) (v := ?_) (a' := ?_) #[true, true, true, true, true, true, true, true, true, true, true, true, true, false] rfl rfl (any_of HT_.out (by kernel_rfl)) (fun _ _ _ h => h) (Or.inl ⟨by rfl, ?_⟩) ?_ ?_
           rotate_left
           ·intro w'
            go_simp
            with_reducible rfl
           rotate_left
           ·simp only [Act.put, List.setIfInBounds_toArray, List.set_cons_zero, List.set_cons_succ, i64_w, i32_w]
            rfl
           refine last_ (i := 13) (N := none) #[true, true, true, true, true, true, true, true, true, true, true, true, true, true] rfl rfl (one_of HT_.out (by kernel_rfl)) (by decide) (fun K hK => ?_)
           refine skip_ (w1 := ?_) (by rfl) rfl ?_ ?_
           rotate_left
           ·go_simp
            rfl
           refine hK.out _ _ ?_
           clear hK K
           refine done_ (done_of HT_.out (by kernel_rfl)) ?_
           try go_wp2
           go_roundg k1
           case measure => have := HK1.out; omega
           case rel => exact ⟨(y108), (wrap64 (x6_1 + 1)), (by first | rfl | (simp; done) | (simp [*]; done)), H', ⟨by have := HK1.out; omega⟩, ⟨by (with_reducible repeat (first | apply Kd.R_alloc | apply Kd.R_drewN | apply Kd.R_drew)); exact HQ21.out⟩, ⟨by repeat (first | (with_reducible first | exact HB.out | apply below_alloc | apply pw_below_drewN | apply below_drew1 | refine below_set ?_ GB18.out) | exact HB.out)⟩⟩
          ·rw [if_neg c17] at H
           exact absurd H (by simp)
         ·rw [if_neg c16] at H
          exact absurd H (by simp)
        ·rw [if_neg c15] at H
         exact absurd H (by simp)
       ·rw [if_neg c13] at H
        exact absurd H (by simp)
      ·rw [if_neg c12] at H
       exact absurd H (by simp)
    ·rw [if_neg c6] at H
     exact absurd H (by simp)
   ·rw [if_neg c5] at H
    have c5b0 : decide (x6_1 < (a0.size : Int)) = false := decide_eq_false c5
    clear c5
    obtain rfl := Option.some.inj H
    go_wp2
    go_ret
    exact ⟨_, by first | rfl | (simp [errW_none, errW_some] <;> rfl) | (simp [*, errW_none, errW_some] <;> rfl), by (with_reducible repeat (first | apply Kd.R_alloc | apply Kd.R_drewN | apply Kd.R_drew)); exact HO_5.out, by repeat (first | (with_reducible first | exact HB.out | apply below_alloc | apply pw_below_drewN | apply below_drew1) | exact HB.out)⟩

end Go.Proofs.YtodeblpanooomabDoor.All
end
section
namespace Go.Proofs.YtodeblpanooomabDoor.All
open Go.RowKit Go.Proofs.YtodeblpanooomabDoorW.PrintWords Go.Proofs.YtodeblpanooomabDoorW.PrintLast Go.Proofs.YtodeblpanooomabDoorW.PrintMore
open Go.Proofs.YtodeblpanooomabDoorW.Mine
attribute [local go_sem] gtr_string leq_string geq_string
attribute [local go_sem] max2_int min2_int max_two min_two max_three min_three max_four min_four   -- for this text's walks alone
set_option linter.unusedVariables false
set_option linter.unusedSimpArgs false

/-! ### creelref_PathFault: function 72 -/
mutual
def creelref_PathFault.j0 : Nat → ByteArray → Bool → Option (Int)
 | 0, _, _ => none
 | k + 1, x0, x11 => if x11 = true then (some 1) else ((creelref_has.f k x0 0).bind fun t101 => (if t101 = true then (some 3) else ((creelref_parts.f k x0 47).bind fun t102 => (creelref_PathFault.l0 k t102 (t102.length : Int) 0))))
def creelref_PathFault.l0 : Nat → List ByteArray → Int → Int → Option (Int)
 | 0, _, _, _ => none
 | k + 1, x15, x16, x17 => if x17 < x16 then (if 0 ≤ x17 then (if x17 < (x15.length : Int) then (if (rdOf ByteArray.empty x15 x17).toList = ([] : List UInt8) then (some 9) else (if (rdOf ByteArray.empty x15 x17).toList = ([46] : List UInt8) then (some 9) else (if (rdOf ByteArray.empty x15 x17).toList = ([46, 46] : List UInt8) then (some 9) else (creelref_PathFault.l0 k x15 x16 (wrap64 (x17 + 1)))))) else (none)) else (none)) else (some 0)
end
def creelref_PathFault.f (k : Nat) (a0 : ByteArray) : Option (Int) := if a0.toList = ([] : List UInt8) then (creelref_PathFault.j0 k a0 true) else (creelref_PathFault.j0 k a0 (decide ((a0.size : Int) > 400)))
theorem creelref_PathFault.mono_l : ∀ k, (∀ y0 y1, LeO (creelref_PathFault.j0 k y0 y1) (creelref_PathFault.j0 (k + 1) y0 y1)) ∧ (∀ y0 y1 y2, LeO (creelref_PathFault.l0 k y0 y1 y2) (creelref_PathFault.l0 (k + 1) y0 y1 y2))
 | 0 => ⟨fun _ _ r h => by simp [creelref_PathFault.j0] at h, fun _ _ _ r h => by simp [creelref_PathFault.l0] at h⟩
 | k + 1 => by
  obtain ⟨ih0, ih1⟩ := creelref_PathFault.mono_l k
  refine ⟨?_, ?_⟩
  ·intro y0 y1
   unfold creelref_PathFault.j0
   repeat' first
   | (with_reducible exact ih0 _ _)
   | (with_reducible exact ih1 _ _ _)
   | (with_reducible exact creelref_has.mono _ _ _)
   | (with_reducible exact creelref_parts.mono _ _ _)
   | (with_reducible exact LeO.refl _)
   | (with_reducible exact LeO.none _)
   | (with_reducible refine LeO.ite ?_ ?_)
   | (with_reducible refine LeO.bind ?_ (fun _ => ?_))
   | exact ih0 _ _
   | exact ih1 _ _ _
   | exact creelref_has.mono _ _ _
   | exact creelref_parts.mono _ _ _
   | exact LeO.none _
   | refine LeO.ite ?_ ?_
   | refine LeO.bind ?_ (fun _ => ?_)
  ·intro y0 y1 y2
   unfold creelref_PathFault.l0
   repeat' first
   | (with_reducible exact ih0 _ _)
   | (with_reducible exact ih1 _ _ _)
   | (with_reducible exact creelref_has.mono _ _ _)
   | (with_reducible exact creelref_parts.mono _ _ _)
   | (with_reducible exact LeO.refl _)
   | (with_reducible exact LeO.none _)
   | (with_reducible refine LeO.ite ?_ ?_)
   | (with_reducible refine LeO.bind ?_ (fun _ => ?_))
   | exact ih0 _ _
   | exact ih1 _ _ _
   | exact creelref_has.mono _ _ _
   | exact creelref_parts.mono _ _ _
   | exact LeO.none _
   | refine LeO.ite ?_ ?_
   | refine LeO.bind ?_ (fun _ => ?_)
theorem creelref_PathFault.mono : ∀ a0 k, LeO (creelref_PathFault.f k a0) (creelref_PathFault.f (k + 1) a0) := by
 intro a0 k
 obtain ⟨ih0, ih1⟩ := creelref_PathFault.mono_l k
 unfold creelref_PathFault.f
 repeat' first
   | (with_reducible exact ih0 _ _)
   | (with_reducible exact ih1 _ _ _)
   | (with_reducible exact creelref_has.mono _ _ _)
   | (with_reducible exact creelref_parts.mono _ _ _)
   | (with_reducible exact LeO.refl _)
   | (with_reducible exact LeO.none _)
   | (with_reducible refine LeO.ite ?_ ?_)
   | (with_reducible refine LeO.bind ?_ (fun _ => ?_))
   | exact ih0 _ _
   | exact ih1 _ _ _
   | exact creelref_has.mono _ _ _
   | exact creelref_parts.mono _ _ _
   | exact LeO.none _
   | refine LeO.ite ?_ ?_
   | refine LeO.bind ?_ (fun _ => ?_)
set_option maxHeartbeats 8000000 in
set_option maxRecDepth 100000 in
theorem creelref_PathFault.calls (k : Nat) (a0 : ByteArray) (r : Int) (w : World) (h : creelref_PathFault.f k a0 = some r) :
  Calls Tryd.prog 72 #[.string a0] w fun e w' => e = .returned (.int .i64 r) ∧ Below w.heap.size w w' := by
 have HB := Aside0.mk (Below.refl w.heap.size w)
 have H : (if a0.toList = ([] : List UInt8) then (creelref_PathFault.j0 k a0 true) else (creelref_PathFault.j0 k a0 (decide ((a0.size : Int) > 400)))) = some r := h
 clear h
 have HC2 := Aside0.mk H
 clear H
 go_enter Tryd.func72, Tryd.ntmps72
 go_upto_region 1 with (fail)
 go_cut [11] (fun v11 wc => ∃ (kq : Nat) (x11_1 : Bool), v11 = .bool x11_1 ∧ Aside0 (creelref_PathFault.j0 kq a0 x11_1 = some r) ∧ Aside0 (kq ≤ k) ∧ Aside0 (Below w.heap.size w wc))
 case first =>
  have H := HC2.out
  clear HC2
  by_cases c3 : a0.toList = ([] : List UInt8)
  ·rw [if_pos c3] at H
   have c3b0 : (a0.toList == ([] : List UInt8)) = true := beq_iff_eq.mpr c3
   have c3b1 : (a0.toList != ([] : List UInt8)) = false := bne_eq_false_iff_eq.mpr c3
   clear c3
   (first | rw [c3b0] | (simp only [i64_w, i32_w]; rw [c3b0]) | skip)
   have H' := Aside0.mk H
   clear H
   go_wp2
   go_meet
   case rel => exact ⟨_, (true), (by first | rfl | (simp; done) | (simp [*]; done)), H', ⟨by first | omega | exact Nat.le_refl _⟩, ⟨by repeat (first | (with_reducible first | exact HB.out | apply below_alloc | apply pw_below_drewN | apply below_drew1) | exact HB.out)⟩⟩
  ·rw [if_neg c3] at H
   have c3b0 : (a0.toList == ([] : List UInt8)) = false := beq_eq_false_iff_ne.mpr c3
   have c3b1 : (a0.toList != ([] : List UInt8)) = true := bne_iff_ne.mpr c3
   (first | rw [c3b0] | (simp only [i64_w, i32_w]; rw [c3b0]) | skip)
   have H' := Aside0.mk H
   clear H
   go_wp2
   go_meet
   case rel => exact ⟨_, (decide ((a0.size : Int) > 400)), (by first | rfl | (simp; done) | (simp [*]; done)), H', ⟨by first | omega | exact Nat.le_refl _⟩, ⟨by repeat (first | (with_reducible first | exact HB.out | apply below_alloc | apply pw_below_drewN | apply below_drew1) | exact HB.out)⟩⟩
 case rest =>
  clear HC2
  try clear p2
  try clear c3
  try clear c3b0
  try clear c3b1
  obtain ⟨kq, x11_1, rfl, HA, HJ1, HB⟩ := hcut
  cases kq with
  | zero => exact absurd HA.out (by simp [creelref_PathFault.j0])
  | succ kj1 =>
   have H := HA.out
   clear HA
   simp only [creelref_PathFault.j0] at H
   by_cases c4 : x11_1 = true
   ·subst c4
    have H1 : (some 1) = some r := by rw [if_pos rfl] at H; exact H
    clear H
    have H := H1
    clear H1
    obtain rfl := Option.some.inj H
    go_wp2
    go_ret
    exact ⟨by first | rfl | (simp [errW_none, errW_some] <;> rfl) | (simp [*, errW_none, errW_some] <;> rfl), by repeat (first | (with_reducible first | exact HB.out | apply below_alloc | apply pw_below_drewN | apply below_drew1) | exact HB.out)⟩
   ·replace c4 := Bool.eq_false_iff.mpr c4
    subst c4
    have H1 : ((creelref_has.f kj1 a0 0).bind fun t101 => (if t101 = true then (some 3) else ((creelref_parts.f kj1 a0 47).bind fun t102 => (creelref_PathFault.l0 kj1 t102 (t102.length : Int) 0)))) = some r := by rw [if_neg (show ¬ (false = true) by decide)] at H; exact H
    clear H
    have H := H1
    clear H1
    replace H := Option.bind_eq_some_iff.mp H
    obtain ⟨t101, A50, H⟩ := H
    replace H : (if t101 = true then (some 3) else ((creelref_parts.f kj1 a0 47).bind fun t102 => (creelref_PathFault.l0 kj1 t102 (t102.length : Int) 0))) = some r := H
    have A5 := Aside0.mk A50
    clear A50
    by_cases c6 : t101 = true
    ·subst c6
     have H1 : (some 3) = some r := by rw [if_pos rfl] at H; exact H
     clear H
     have H := H1
     clear H1
     obtain rfl := Option.some.inj H
     go_wp2_with (first | ((with_reducible refine gate_callee (f := 74) rfl ?_); refine goesL_ (some 13) rfl rfl Tryd.func74 (by kernel_rfl) rfl #[.string a0, .int .u8 0] rfl (by (try simp only [List.map_toArray, List.map_cons, List.map_nil]); first | done | rfl | (simp only [List.length_drop, List.length_take]; rfl)) ?_; (with_reducible refine (creelref_has.calls kj1 a0 0 true _ A5.out).mono ?_); rintro e w' ⟨rfl, ⟨nd, rfl⟩⟩; refine ⟨_, rfl, ?_⟩))
     go_ret
     exact ⟨by first | rfl | (simp [errW_none, errW_some] <;> rfl) | (simp [*, errW_none, errW_some] <;> rfl), by repeat (first | (with_reducible first | exact HB.out | apply below_alloc | apply pw_below_drewN | apply below_drew1) | exact HB.out)⟩
    ·replace c6 := Bool.eq_false_iff.mpr c6
     subst c6
     have H1 : ((creelref_parts.f kj1 a0 47).bind fun t102 => (creelref_PathFault.l0 kj1 t102 (t102.length : Int) 0)) = some r := by rw [if_neg (show ¬ (false = true) by decide)] at H; exact H
     clear H
     have H := H1
     clear H1
     replace H := Option.bind_eq_some_iff.mp H
     obtain ⟨t102, A70, H⟩ := H
     replace H : (creelref_PathFault.l0 kj1 t102 (t102.length : Int) 0) = some r := H
     have A7 := Aside0.mk A70
     clear A70
     have H' := Aside0.mk H
     clear H
     go_wp2_with (first | ((with_reducible refine gate_callee (f := 74) rfl ?_); refine goesL_ (some 13) rfl rfl Tryd.func74 (by kernel_rfl) rfl #[.string a0, .int .u8 0] rfl (by (try simp only [List.map_toArray, List.map_cons, List.map_nil]); first | done | rfl | (simp only [List.length_drop, List.length_take]; rfl)) ?_; (with_reducible refine (creelref_has.calls kj1 a0 0 false _ A5.out).mono ?_); rintro e w' ⟨rfl, ⟨nd, rfl⟩⟩; refine ⟨_, rfl, ?_⟩) | ((with_reducible refine gate_callee (f := 51) rfl ?_); refine goesL_ (some 15) rfl rfl Tryd.func51 (by kernel_rfl) rfl #[.string a0, .int .u8 47] rfl (by (try simp only [List.map_toArray, List.map_cons, List.map_nil]); first | done | rfl | (simp only [List.length_drop, List.length_take]; rfl)) ?_; (with_reducible refine (creelref_parts.calls kj1 a0 47 t102 _ A7.out).mono ?_); rintro e w8 ⟨v103, rfl, ho0, hb⟩; refine ⟨_, rfl, ?_⟩; have n0_ := Aside0.mk (Kd.R_lower ho0 (below_size (by repeat (first | (with_reducible first | exact HB.out | apply below_alloc | apply pw_below_drewN | apply below_drew1) | exact HB.out)))); have n1_ := Aside0.mk (below_step (by repeat (first | (with_reducible first | exact HB.out | apply below_alloc | apply pw_below_drewN | apply below_drew1) | exact HB.out)) hb); clear HB; have HO104 := n0_; have HB := n1_; clear n0_ n1_; (try clear hb); (try clear hb2); (try clear hk); (try clear hi); (try clear ho0); obtain ⟨Ao9, co9, eo9⟩ := Kd.R_slice HO104.out; subst eo9))
     go_loopg [17] kj1 (fun kq v17 w' => ∃ (x17_2 : Int), v17 = .int .i64 x17_2 ∧ Aside0 (creelref_PathFault.l0 kq t102 (t102.length : Int) x17_2 = some r) ∧ Aside0 (kq ≤ kj1) ∧ Aside0 (Kd.R Kd.string 9 w' w.heap.size (fun _ => True) (.slice Ao9 t102.length co9) t102) ∧ Aside0 (Below w.heap.size w w'))
     case atStart => exact ⟨(0), (by first | rfl | (simp; done) | (simp [*]; done)), H', ⟨Nat.le_refl _⟩, ⟨by (with_reducible repeat (first | apply Kd.R_alloc | apply Kd.R_drewN | apply Kd.R_drew)); exact HO104.out⟩, ⟨by repeat (first | (with_reducible first | exact HB.out | apply below_alloc | apply pw_below_drewN | apply below_drew1) | exact HB.out)⟩⟩
     case round =>
      clear H'
      try clear p2
      try clear c3
      try clear c3b0
      try clear c3b1
      try clear c4
      try clear c5
      try clear c6
      try clear c7
      try clear p2
      obtain ⟨x17_2, rfl, HA, HK2, HO_15, HB⟩ := hrel
      cases gk with
      | zero => exact absurd HA.out (by simp [creelref_PathFault.l0])
      | succ k2 =>
       have H := HA.out
       clear HA
       simp only [creelref_PathFault.l0] at H
       by_cases c10 : x17_2 < (t102.length : Int)
       ·rw [if_pos c10] at H
        have c10b0 : decide (x17_2 < (t102.length : Int)) = true := decide_eq_true c10
        clear c10
        by_cases c11 : 0 ≤ x17_2
        ·rw [if_pos c11] at H
         have c11b0 : decide (0 ≤ x17_2) = true := decide_eq_true c11
         clear c11
         by_cases c12 : x17_2 < (t102.length : Int)
         ·rw [if_pos c12] at H
          have c12b0 : decide (x17_2 < (t102.length : Int)) = true := decide_eq_true c12
          clear c12
          by_cases c13 : (rdOf ByteArray.empty t102 x17_2).toList = ([] : List UInt8)
          ·rw [if_pos c13] at H
           have c13b0 : ((rdOf ByteArray.empty t102 x17_2).toList == ([] : List UInt8)) = true := beq_iff_eq.mpr c13
           have c13b1 : ((rdOf ByteArray.empty t102 x17_2).toList != ([] : List UInt8)) = false := bne_eq_false_iff_eq.mpr c13
           clear c13
           obtain rfl := Option.some.inj H
           have p105 : 0 ≤ (x17_2 : Int) := of_decide_eq_true (by first | (with_reducible assumption) | assumption)
           have q105 : x17_2 < (t102.length : Int) := of_decide_eq_true (by first | (with_reducible assumption) | assumption)
           obtain ⟨ad105, e105, hx105_0⟩ := Kd.at_string (Kd.R_reads' HO_15.out).2.2 x17_2 p105 q105
           cases e105
           replace p105 := eq_true p105
           replace q105 := eq_true q105
           go_wp2
           go_ret
           exact ⟨by first | rfl | (simp [errW_none, errW_some] <;> rfl) | (simp [*, errW_none, errW_some] <;> rfl), by repeat (first | (with_reducible first | exact HB.out | apply below_alloc | apply pw_below_drewN | apply below_drew1) | exact HB.out)⟩
          ·rw [if_neg c13] at H
           have c13b0 : ((rdOf ByteArray.empty t102 x17_2).toList == ([] : List UInt8)) = false := beq_eq_false_iff_ne.mpr c13
           have c13b1 : ((rdOf ByteArray.empty t102 x17_2).toList != ([] : List UInt8)) = true := bne_iff_ne.mpr c13
           by_cases c14 : (rdOf ByteArray.empty t102 x17_2).toList = ([46] : List UInt8)
           ·rw [if_pos c14] at H
            have c14b0 : ((rdOf ByteArray.empty t102 x17_2).toList == ([46] : List UInt8)) = true := beq_iff_eq.mpr c14
            have c14b1 : ((rdOf ByteArray.empty t102 x17_2).toList != ([46] : List UInt8)) = false := bne_eq_false_iff_eq.mpr c14
            clear c14
            obtain rfl := Option.some.inj H
            have p105 : 0 ≤ (x17_2 : Int) := of_decide_eq_true (by first | (with_reducible assumption) | assumption)
            have q105 : x17_2 < (t102.length : Int) := of_decide_eq_true (by first | (with_reducible assumption) | assumption)
            obtain ⟨ad105, e105, hx105_0⟩ := Kd.at_string (Kd.R_reads' HO_15.out).2.2 x17_2 p105 q105
            cases e105
            replace p105 := eq_true p105
            replace q105 := eq_true q105
            go_wp2
            go_ret
            exact ⟨by first | rfl | (simp [errW_none, errW_some] <;> rfl) | (simp [*, errW_none, errW_some] <;> rfl), by repeat (first | (with_reducible first | exact HB.out | apply below_alloc | apply pw_below_drewN | apply below_drew1) | exact HB.out)⟩
           ·rw [if_neg c14] at H
            have c14b0 : ((rdOf ByteArray.empty t102 x17_2).toList == ([46] : List UInt8)) = false := beq_eq_false_iff_ne.mpr c14
            have c14b1 : ((rdOf ByteArray.empty t102 x17_2).toList != ([46] : List UInt8)) = true := bne_iff_ne.mpr c14
            by_cases c15 : (rdOf ByteArray.empty t102 x17_2).toList = ([46, 46] : List UInt8)
            ·rw [if_pos c15] at H
             have c15b0 : ((rdOf ByteArray.empty t102 x17_2).toList == ([46, 46] : List UInt8)) = true := beq_iff_eq.mpr c15
             have c15b1 : ((rdOf ByteArray.empty t102 x17_2).toList != ([46, 46] : List UInt8)) = false := bne_eq_false_iff_eq.mpr c15
             clear c15
             obtain rfl := Option.some.inj H
             have p105 : 0 ≤ (x17_2 : Int) := of_decide_eq_true (by first | (with_reducible assumption) | assumption)
             have q105 : x17_2 < (t102.length : Int) := of_decide_eq_true (by first | (with_reducible assumption) | assumption)
             obtain ⟨ad105, e105, hx105_0⟩ := Kd.at_string (Kd.R_reads' HO_15.out).2.2 x17_2 p105 q105
             cases e105
             replace p105 := eq_true p105
             replace q105 := eq_true q105
             go_wp2
             go_ret
             exact ⟨by first | rfl | (simp [errW_none, errW_some] <;> rfl) | (simp [*, errW_none, errW_some] <;> rfl), by repeat (first | (with_reducible first | exact HB.out | apply below_alloc | apply pw_below_drewN | apply below_drew1) | exact HB.out)⟩
            ·rw [if_neg c15] at H
             have c15b0 : ((rdOf ByteArray.empty t102 x17_2).toList == ([46, 46] : List UInt8)) = false := beq_eq_false_iff_ne.mpr c15
             have c15b1 : ((rdOf ByteArray.empty t102 x17_2).toList != ([46, 46] : List UInt8)) = true := bne_iff_ne.mpr c15
             have H' := Aside0.mk H
             clear H
             have p105 : 0 ≤ (x17_2 : Int) := of_decide_eq_true (by first | (with_reducible assumption) | assumption)
             have q105 : x17_2 < (t102.length : Int) := of_decide_eq_true (by first | (with_reducible assumption) | assumption)
             obtain ⟨ad105, e105, hx105_0⟩ := Kd.at_string (Kd.R_reads' HO_15.out).2.2 x17_2 p105 q105
             cases e105
             replace p105 := eq_true p105
             replace q105 := eq_true q105
             go_wp2
             go_roundg k2
             case measure => have := HJ1.out; have := HK2.out; omega
             case rel => exact ⟨(wrap64 (x17_2 + 1)), (by first | rfl | (simp; done) | (simp [*]; done)), H', ⟨by have := HJ1.out; have := HK2.out; omega⟩, ⟨by (with_reducible repeat (first | apply Kd.R_alloc | apply Kd.R_drewN | apply Kd.R_drew)); exact HO_15.out⟩, ⟨by repeat (first | (with_reducible first | exact HB.out | apply below_alloc | apply pw_below_drewN | apply below_drew1) | exact HB.out)⟩⟩
         ·rw [if_neg c12] at H
          exact absurd H (by simp)
        ·rw [if_neg c11] at H
         exact absurd H (by simp)
       ·rw [if_neg c10] at H
        have c10b0 : decide (x17_2 < (t102.length : Int)) = false := decide_eq_false c10
        clear c10
        obtain rfl := Option.some.inj H
        go_wp2
        go_ret
        exact ⟨by first | rfl | (simp [errW_none, errW_some] <;> rfl) | (simp [*, errW_none, errW_some] <;> rfl), by repeat (first | (with_reducible first | exact HB.out | apply below_alloc | apply pw_below_drewN | apply below_drew1) | exact HB.out)⟩

end Go.Proofs.YtodeblpanooomabDoor.All
end
