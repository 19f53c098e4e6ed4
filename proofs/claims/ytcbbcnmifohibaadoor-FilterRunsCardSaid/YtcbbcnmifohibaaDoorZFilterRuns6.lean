/- Made by programs of the prover: walks of Go functions, the words that they use, and plain laws, each text in a section of its own; no condition of its own. -/
import Derived.Below
import Derived.Test.YtcbbcnmifohibaaDoorZFilterRuns1
import Derived.Test.YtcbbcnmifohibaaDoorZFilterRuns2
import Derived.Test.YtcbbcnmifohibaaDoorZFilterRuns3
import Derived.Test.YtcbbcnmifohibaaDoorZFilterRuns4
import Derived.Test.YtcbbcnmifohibaaDoorZFilterRuns5
section
namespace Go.Proofs.YtcbbcnmifohibaaDoor.All
open Go.RowKit Go.Proofs.YtcbbcnmifohibaaDoorW.PrintWords Go.Proofs.YtcbbcnmifohibaaDoorW.PrintLast Go.Proofs.YtcbbcnmifohibaaDoorW.PrintMore
open Go.Proofs.YtcbbcnmifohibaaDoorW.Mine
attribute [local go_sem] gtr_string leq_string geq_string
attribute [local go_sem] max2_int min2_int max_two min_two max_three min_three max_four min_four
set_option linter.unusedVariables false
set_option linter.unusedSimpArgs false
open Go.Proofs.YtcbbcnmifohibaaDoorW.MapOwn Go.Proofs.YtcbbcnmifohibaaDoorW.SubRow
def filter_Run.one (k : Nat) (l : List (S58)) (x : S45) (o : List (S45)) : Option Bool := (path_Up.f x.f0).bind fun u => (tree_Find.f k o u).bind fun e => (filter_takes.f k l x.f0).bind fun b => some (if b = true then (if u.toList = ([] : List UInt8) then true else decide (e.2 = 0)) else false)
def filter_Run.run (k : Nat) (l : List (S58)) : List (S45) → List (S45) → Option (List (S45))
 | [], o => some o
 | x :: r, o => (filter_Run.one k l x o).bind fun b => if b = true then (if o.length < 977343669134 then filter_Run.run k l r (o ++ [x]) else none) else filter_Run.run k l r o
def filter_Run.f (k : Nat) (l0 : List (S45)) (l1 : List (S58)) : Option (List (S45) × Int) := (tree_Check.f k l0).bind fun e => if e = 0 then (filter_Check.f k l1).bind fun e2 => if e2 = 0 then (filter_Run.run k l1 l0 []).bind fun o => (tree_Copy.f o).bind fun r => some (r, 0) else some ([], e2) else some ([], e)
theorem filter_Run.drop_rd (l : List (S45)) (n : Nat) (h : n < l.length) : l.drop n = rd_T45 l (n : Int) :: l.drop (n + 1) := by
 rw [List.drop_eq_getElem_cons h]
 congr 1
 unfold rd_T45
 rw [Int.toNat_natCast, List.getD_eq_getElem?_getD, List.getElem?_eq_getElem h]; rfl
theorem filter_Run.C_of {w W : World} {Ao : Option Addr} {co n : Nat} {o : List (S45)} (h : Sub k45 45 w W (.slice Ao n co) o) (hb : Below w.heap.size w W) : o.length ≤ co ∧ Kd.C k45 W Ao o.length o := by
 obtain ⟨A, c, e, h1, h2⟩ := h.reads hb
 injection e with e1 _ e2
 subst e1; subst e2
 exact ⟨h1, h2⟩
set_option maxHeartbeats 16000000 in
set_option maxRecDepth 100000 in
theorem filter_Run.calls (k : Nat) (A0 : Option Addr) (c0 : Nat) (l0 : List (S45)) (A1 : Option Addr) (c1 : Nat) (l1 : List (S58)) (r1 : List (S45)) (r2 : Int) (w : World) (hr0 : Kd.C k45 w A0 l0.length l0) (hc0 : l0.length ≤ c0) (hr1 : Kd.C k58 w A1 l1.length l1) (hc1 : l1.length ≤ c1) (h : filter_Run.f k l0 l1 = some (r1, r2)) :
  Calls Tryd.prog 15 #[.slice A0 l0.length c0, .slice A1 l1.length c1] w fun e w' => ∃ v0_ : Value, e = .returned (.tuple #[v0_, .int .i64 r2]) ∧ Kd.S k45 45 w' w.heap.size (fun _ => True) v0_ r1 ∧ Below w.heap.size w w' := by
 have hu45 := Tryd.underlying45
 have HR0 := Aside0.mk hr0
 have HC0 := Aside0.mk hc0
 have HR1 := Aside0.mk hr1
 have HC1 := Aside0.mk hc1
 clear hr0 hc0 hr1 hc1
 unfold filter_Run.f at h
 obtain ⟨e1, h1, hq⟩ := Option.bind_eq_some_iff.1 h
 clear h
 have h := hq
 clear hq
 have H1 := Aside0.mk h1
 clear h1
 by_cases c1' : e1 = 0
 ·subst c1'
  rw [if_pos rfl] at h
  obtain ⟨e2, h2, hq⟩ := Option.bind_eq_some_iff.1 h
  clear h
  have h := hq
  clear hq
  have H2 := Aside0.mk h2
  clear h2
  by_cases c2' : e2 = 0
  ·subst c2'
   rw [if_pos rfl] at h
   obtain ⟨res, h3, hq⟩ := Option.bind_eq_some_iff.1 h
   clear h
   have h := hq
   clear hq
   obtain ⟨cp, h4, hq⟩ := Option.bind_eq_some_iff.1 h
   clear h
   have h := hq
   clear hq
   obtain ⟨rfl, rfl⟩ := Prod.mk.inj (Option.some.inj h)
   have H3 := Aside0.mk (show filter_Run.run k l1 (l0.drop 0) [] = some res from h3)
   have H4 := Aside0.mk h4
   clear h h3 h4
   go_enter Tryd.func15, Tryd.ntmps15
   go_wp2_with (first | (go_at_call 40; refine (tree_Check.calls k A0 c0 l0 0 _ HR0.out HC0.out H1.out).mono ?_; rintro e w1 ⟨rfl, hb1⟩; have HB1 := Aside0.mk hb1; clear hb1) | (go_at_call 11; refine (filter_Check.calls k A1 c1 l1 0 _ (Kd.C_below HR1.out HB1.out) HC1.out H2.out).mono ?_; rintro e w2 ⟨rfl, hb2⟩; have HB2 := Aside0.mk (below_step HB1.out hb2); clear hb2))
   have HO := Aside0.mk (show Sub k45 45 w w2 (.slice none 0 0) [] from Sub.nil _ _ _ _)
   go_loopg [8, 25] l0.length (fun kq v8 v25 wx => ∃ (n : Nat) (o : List (S45)) (Ao : Option Addr) (co : Nat), v25 = .int .i64 (n : Int) ∧ v8 = .slice Ao o.length co ∧ Aside0 (kq = l0.length - n) ∧ Aside0 (n ≤ l0.length) ∧ Aside0 (filter_Run.run k l1 (l0.drop n) o = some res) ∧ Aside0 (Sub k45 45 w wx (.slice Ao o.length co) o) ∧ Aside0 (Below w.heap.size w wx))
   case atStart => exact ⟨0, [], none, 0, rfl, rfl, ⟨rfl⟩, ⟨Nat.zero_le _⟩, H3, HO, HB2⟩
   case round =>
    clear H3 HO HB1 HB2
    obtain ⟨n, o, Ao, co, rfl, rfl, HQ, HN, HA, HO, HB⟩ := hrel
    by_cases c3 : n < l0.length
    ·have c3b : decide ((n : Int) < (l0.length : Int)) = true := decide_eq_true (by omega)
     have p3 : ((n : Int) < (l0.length : Int)) = True := eq_true (by omega)
     have p4 : (0 ≤ (n : Int)) = True := eq_true (by omega)
     have hnM : (n : Int) < 9223372036854775807 := by have h63 := HR0.out.2.1; omega
     obtain ⟨ad, A11, c11, e, hx, hl11, hi11⟩ := elem45 HR0.out n c3
     cases e
     have HXC := Aside0.mk hx
     have HXK := Aside0.mk (k45_mk w (rd_T45 l0 (n : Int)) hl11 hi11)
     have HLT := Aside0.mk c3
     have H := HA.out
     rw [filter_Run.drop_rd l0 n c3, filter_Run.run] at H
     clear HA hx hl11 hi11 c3
     generalize hx : rd_T45 l0 (n : Int) = x at *
     clear hx
     obtain ⟨bb, hb0, hq⟩ := Option.bind_eq_some_iff.1 H
     clear H
     have H := hq
     clear hq
     unfold filter_Run.one at hb0
     obtain ⟨u, hu0, hq⟩ := Option.bind_eq_some_iff.1 hb0
     clear hb0
     have hb0 := hq
     clear hq
     obtain ⟨e12, he0, hq⟩ := Option.bind_eq_some_iff.1 hb0
     clear hb0
     have hb0 := hq
     clear hq
     obtain ⟨e1, e2⟩ := e12
     obtain ⟨b, ht0, hq⟩ := Option.bind_eq_some_iff.1 hb0
     clear hb0
     have hb0 := hq
     clear hq
     have HU := Aside0.mk hu0
     have HF := Aside0.mk he0
     have HT := Aside0.mk ht0
     have hbb := Option.some.inj hb0
     clear hu0 he0 ht0 hb0
     cases b with
     | true =>
      rw [if_pos rfl] at hbb
      by_cases c4 : u.toList = ([] : List UInt8)
      ·rw [if_pos c4] at hbb
       subst hbb
       rw [if_pos rfl] at H
       have c4e : u.toList.isEmpty = true := by rw [c4]; rfl
       have c4b : (u.toList == ([] : List UInt8)) = true := beq_iff_eq.mpr c4
       clear c4
       by_cases c5 : o.length < 977343669134
       ·rw [if_pos c5] at H
        have HOL := Aside0.mk c5
        have H' := Aside0.mk H
        clear H c5
        go_wp2_with (first | ((with_reducible refine gate_dst (N := 28) rfl ?_); refine load_event (ad := ad.add (n * 12)) rfl rfl hu45 rfl rfl (cs := [.string (x).f0, .int .i64 (x).f1, .int .i64 (x).f2, .string (x).f3, .int .i64 (x).f4.f0, .int .i64 (x).f4.f1, .int .i64 (x).f4.f2, .string (x).f4.f3, .string (x).f4.f4, .int .i64 (x).f4.f5, .int .i64 (x).f4.f6, .slice A11 (x).f5.length c11]) sz45 (fun j v hv => (HB.out.cell (World.block_lt_of_cell? w _ (HXC.out j v hv))).trans (HXC.out j v hv)) ?_) | ((with_reducible refine gate_dst (N := 10) rfl ?_); refine box_event ?hg (N := 10) ?hd (cs := #[.string (⟨#[]⟩ : ByteArray), .int .i64 0, .int .i64 0, .string (⟨#[]⟩ : ByteArray), .int .i64 0, .int .i64 0, .int .i64 0, .string (⟨#[]⟩ : ByteArray), .string (⟨#[]⟩ : ByteArray), .int .i64 0, .int .i64 0, .slice none 0 0]) (t := 45) ?hr ?_; (case hd => rfl); (case hg => rfl); (case hr => first | (go_simp; done) | (go_simp; rfl)); intro gb hg w2 hbox hb2; have HX2 := Aside0.mk hb2; have HGE := Aside0.mk hg; have HK := Aside0.mk hbox; clear hg hbox hb2) | ((with_reducible refine gate_store (t := 45) (p := 10) rfl ?_); refine put_event rfl rfl rfl rfl rfl HK.out sz45 rfl rfl ?_; intro w3 hk3 hg3; have HX3 := Aside0.mk (below_grown HX2.out hg3 (Nat.le_of_eq HGE.out.symm) (blk_lt HK.out)); have HO3 := Aside0.mk (HO.out.below HX3.out); have HB3 := Aside0.mk (below_step HB.out HX3.out); have HK3 := Aside0.mk hk3; clear HO HB HK HX2 HGE HX3; have HO := HO3; have HB := HB3; have HK := HK3; clear HO3 HB3 HK3; have hc0 := blk_cell HK.out 0; clear hk3 hg3) | (go_at_call 42; refine (path_Up.calls x.f0 u _ HU.out).mono ?_; rintro e w4 ⟨rfl, ⟨nd, rfl⟩⟩; have HO4 := Aside0.mk (HO.out.below (pwbN (Below.refl _ _) nd)); have HB4 := Aside0.mk (below_step HB.out (pwbN (Below.refl _ _) nd)); have HK4 := Aside0.mk (blk_below HK.out (pwbN (Below.refl _ _) nd)); clear HO HB HK; have HO := HO4; have HB := HB4; have HK := HK4; clear HO4 HB4 HK4; have hc0 := blk_cell HK.out 0) | (go_at_call 41; refine (tree_Find.calls k Ao co o u e1 e2 _ (filter_Run.C_of HO.out HB.out).2 (filter_Run.C_of HO.out HB.out).1 HF.out).mono ?_; rintro e w5 ⟨rfl, hb5⟩; have HO4 := Aside0.mk (HO.out.below hb5); have HB4 := Aside0.mk (below_step HB.out hb5); have HK4 := Aside0.mk (blk_below HK.out hb5); clear HO HB HK; have HO := HO4; have HB := HB4; have HK := HK4; clear HO4 HB4 HK4; clear hb5; have hc0 := blk_cell HK.out 0) | (go_at_call 38; refine (filter_takes.calls k A1 c1 l1 x.f0 _ _ (Kd.C_below HR1.out HB.out) HC1.out HT.out).mono ?_; rintro e w6 ⟨rfl, hb6⟩; have HO4 := Aside0.mk (HO.out.below hb6); have HB4 := Aside0.mk (below_step HB.out hb6); have HK4 := Aside0.mk (blk_below HK.out hb6); clear HO HB HK; have HO := HO4; have HB := HB4; have HK := HK4; clear HO4 HB4 HK4; clear hb6; have hc0 := blk_cell HK.out 0) | ((with_reducible refine gate_dst (N := 52) rfl ?_); refine load_event rfl rfl hu45 rfl rfl (cs := [.string (x).f0, .int .i64 (x).f1, .int .i64 (x).f2, .string (x).f3, .int .i64 (x).f4.f0, .int .i64 (x).f4.f1, .int .i64 (x).f4.f2, .string (x).f4.f3, .string (x).f4.f4, .int .i64 (x).f4.f5, .int .i64 (x).f4.f6, .slice A11 (x).f5.length c11]) sz45 (cells_of_blk (cs := [.string (x).f0, .int .i64 (x).f1, .int .i64 (x).f2, .string (x).f3, .int .i64 (x).f4.f0, .int .i64 (x).f4.f1, .int .i64 (x).f4.f2, .string (x).f4.f3, .string (x).f4.f4, .int .i64 (x).f4.f5, .int .i64 (x).f4.f6, .slice A11 (x).f5.length c11]) HK.out) ?_) | ((with_reducible refine gate_builtin (b := .append) (xs := #[.tmp 51, .tmp 53]) rfl ?_); at_builtin; refine Sub.append k45 rfl (.tmp 51) (.tmp 53) 30 45 (.agg #[.string (⟨#[]⟩ : ByteArray), .int .i64 0, .int .i64 0, .string (⟨#[]⟩ : ByteArray), .int .i64 0, .int .i64 0, .int .i64 0, .string (⟨#[]⟩ : ByteArray), .string (⟨#[]⟩ : ByteArray), .int .i64 0, .int .i64 0, .slice none 0 0]) 144 rfl Tryd.underlying30 info45 rfl (by decide) (by omega) (.slice Ao o.length co) o x [.string (x).f0, .int .i64 (x).f1, .int .i64 (x).f2, .string (x).f3, .int .i64 (x).f4.f0, .int .i64 (x).f4.f1, .int .i64 (x).f4.f2, .string (x).f4.f3, .string (x).f4.f4, .int .i64 (x).f4.f5, .int .i64 (x).f4.f6, .slice A11 (x).f5.length c11] rfl (by first | (go_simp; done) | (go_simp; rfl)) HXK.out HO.out HB.out (by have := HOL.out; omega) ?_; intro v9 w9 ho hb; obtain ⟨A9, c9, rfl⟩ := ho.slice; have HO9 := Aside0.mk ho; have HB9 := Aside0.mk hb; clear HO HB HK ho hb; have HO := HO9; have HB := HB9; clear HO9 HB9))
        go_roundg (l0.length - (n + 1))
        case measure => have := HQ.out; have := HLT.out; omega
        case rel => exact ⟨n + 1, _, _, _, rfl, (by first | rfl | (rw [List.length_append]; rfl)), ⟨rfl⟩, ⟨HLT.out⟩, H', HO, HB⟩
       ·rw [if_neg c5] at H; cases H
      ·rw [if_neg c4] at hbb
       have c4e : u.toList.isEmpty = false := by cases hs : u.toList with | nil => exact absurd hs c4 | cons _ _ => rfl
       have c4b : (u.toList == ([] : List UInt8)) = false := beq_eq_false_iff_ne.mpr c4
       clear c4
       by_cases c6 : e2 = 0
       ·have hbb' : bb = true := by rw [← hbb]; exact decide_eq_true c6
        subst hbb'
        rw [if_pos rfl] at H
        have c6b : (e2 == 0) = true := beq_iff_eq.mpr c6
        clear hbb c6
        by_cases c5 : o.length < 977343669134
        ·rw [if_pos c5] at H
         have HOL := Aside0.mk c5
         have H' := Aside0.mk H
         clear H c5
         go_wp2_with (first | ((with_reducible refine gate_dst (N := 28) rfl ?_); refine load_event (ad := ad.add (n * 12)) rfl rfl hu45 rfl rfl (cs := [.string (x).f0, .int .i64 (x).f1, .int .i64 (x).f2, .string (x).f3, .int .i64 (x).f4.f0, .int .i64 (x).f4.f1, .int .i64 (x).f4.f2, .string (x).f4.f3, .string (x).f4.f4, .int .i64 (x).f4.f5, .int .i64 (x).f4.f6, .slice A11 (x).f5.length c11]) sz45 (fun j v hv => (HB.out.cell (World.block_lt_of_cell? w _ (HXC.out j v hv))).trans (HXC.out j v hv)) ?_) | ((with_reducible refine gate_dst (N := 10) rfl ?_); refine box_event ?hg (N := 10) ?hd (cs := #[.string (⟨#[]⟩ : ByteArray), .int .i64 0, .int .i64 0, .string (⟨#[]⟩ : ByteArray), .int .i64 0, .int .i64 0, .int .i64 0, .string (⟨#[]⟩ : ByteArray), .string (⟨#[]⟩ : ByteArray), .int .i64 0, .int .i64 0, .slice none 0 0]) (t := 45) ?hr ?_; (case hd => rfl); (case hg => rfl); (case hr => first | (go_simp; done) | (go_simp; rfl)); intro gb hg w2 hbox hb2; have HX2 := Aside0.mk hb2; have HGE := Aside0.mk hg; have HK := Aside0.mk hbox; clear hg hbox hb2) | ((with_reducible refine gate_store (t := 45) (p := 10) rfl ?_); refine put_event rfl rfl rfl rfl rfl HK.out sz45 rfl rfl ?_; intro w3 hk3 hg3; have HX3 := Aside0.mk (below_grown HX2.out hg3 (Nat.le_of_eq HGE.out.symm) (blk_lt HK.out)); have HO3 := Aside0.mk (HO.out.below HX3.out); have HB3 := Aside0.mk (below_step HB.out HX3.out); have HK3 := Aside0.mk hk3; clear HO HB HK HX2 HGE HX3; have HO := HO3; have HB := HB3; have HK := HK3; clear HO3 HB3 HK3; have hc0 := blk_cell HK.out 0; clear hk3 hg3) | (go_at_call 42; refine (path_Up.calls x.f0 u _ HU.out).mono ?_; rintro e w4 ⟨rfl, ⟨nd, rfl⟩⟩; have HO4 := Aside0.mk (HO.out.below (pwbN (Below.refl _ _) nd)); have HB4 := Aside0.mk (below_step HB.out (pwbN (Below.refl _ _) nd)); have HK4 := Aside0.mk (blk_below HK.out (pwbN (Below.refl _ _) nd)); clear HO HB HK; have HO := HO4; have HB := HB4; have HK := HK4; clear HO4 HB4 HK4; have hc0 := blk_cell HK.out 0) | (go_at_call 41; refine (tree_Find.calls k Ao co o u e1 e2 _ (filter_Run.C_of HO.out HB.out).2 (filter_Run.C_of HO.out HB.out).1 HF.out).mono ?_; rintro e w5 ⟨rfl, hb5⟩; have HO4 := Aside0.mk (HO.out.below hb5); have HB4 := Aside0.mk (below_step HB.out hb5); have HK4 := Aside0.mk (blk_below HK.out hb5); clear HO HB HK; have HO := HO4; have HB := HB4; have HK := HK4; clear HO4 HB4 HK4; clear hb5; have hc0 := blk_cell HK.out 0) | (go_at_call 38; refine (filter_takes.calls k A1 c1 l1 x.f0 _ _ (Kd.C_below HR1.out HB.out) HC1.out HT.out).mono ?_; rintro e w6 ⟨rfl, hb6⟩; have HO4 := Aside0.mk (HO.out.below hb6); have HB4 := Aside0.mk (below_step HB.out hb6); have HK4 := Aside0.mk (blk_below HK.out hb6); clear HO HB HK; have HO := HO4; have HB := HB4; have HK := HK4; clear HO4 HB4 HK4; clear hb6; have hc0 := blk_cell HK.out 0) | ((with_reducible refine gate_dst (N := 52) rfl ?_); refine load_event rfl rfl hu45 rfl rfl (cs := [.string (x).f0, .int .i64 (x).f1, .int .i64 (x).f2, .string (x).f3, .int .i64 (x).f4.f0, .int .i64 (x).f4.f1, .int .i64 (x).f4.f2, .string (x).f4.f3, .string (x).f4.f4, .int .i64 (x).f4.f5, .int .i64 (x).f4.f6, .slice A11 (x).f5.length c11]) sz45 (cells_of_blk (cs := [.string (x).f0, .int .i64 (x).f1, .int .i64 (x).f2, .string (x).f3, .int .i64 (x).f4.f0, .int .i64 (x).f4.f1, .int .i64 (x).f4.f2, .string (x).f4.f3, .string (x).f4.f4, .int .i64 (x).f4.f5, .int .i64 (x).f4.f6, .slice A11 (x).f5.length c11]) HK.out) ?_) | ((with_reducible refine gate_builtin (b := .append) (xs := #[.tmp 51, .tmp 53]) rfl ?_); at_builtin; refine Sub.append k45 rfl (.tmp 51) (.tmp 53) 30 45 (.agg #[.string (⟨#[]⟩ : ByteArray), .int .i64 0, .int .i64 0, .string (⟨#[]⟩ : ByteArray), .int .i64 0, .int .i64 0, .int .i64 0, .string (⟨#[]⟩ : ByteArray), .string (⟨#[]⟩ : ByteArray), .int .i64 0, .int .i64 0, .slice none 0 0]) 144 rfl Tryd.underlying30 info45 rfl (by decide) (by omega) (.slice Ao o.length co) o x [.string (x).f0, .int .i64 (x).f1, .int .i64 (x).f2, .string (x).f3, .int .i64 (x).f4.f0, .int .i64 (x).f4.f1, .int .i64 (x).f4.f2, .string (x).f4.f3, .string (x).f4.f4, .int .i64 (x).f4.f5, .int .i64 (x).f4.f6, .slice A11 (x).f5.length c11] rfl (by first | (go_simp; done) | (go_simp; rfl)) HXK.out HO.out HB.out (by have := HOL.out; omega) ?_; intro v9 w9 ho hb; obtain ⟨A9, c9, rfl⟩ := ho.slice; have HO9 := Aside0.mk ho; have HB9 := Aside0.mk hb; clear HO HB HK ho hb; have HO := HO9; have HB := HB9; clear HO9 HB9))
         go_roundg (l0.length - (n + 1))
         case measure => have := HQ.out; have := HLT.out; omega
         case rel => exact ⟨n + 1, _, _, _, rfl, (by first | rfl | (rw [List.length_append]; rfl)), ⟨rfl⟩, ⟨HLT.out⟩, H', HO, HB⟩
        ·rw [if_neg c5] at H; cases H
       ·have hbb' : bb = false := by rw [← hbb]; exact decide_eq_false c6
        subst hbb'
        rw [if_neg (by decide)] at H
        have c6b : (e2 == 0) = false := beq_eq_false_iff_ne.mpr c6
        clear hbb c6
        have H' := Aside0.mk H
        clear H
        go_wp2_with (first | ((with_reducible refine gate_dst (N := 28) rfl ?_); refine load_event (ad := ad.add (n * 12)) rfl rfl hu45 rfl rfl (cs := [.string (x).f0, .int .i64 (x).f1, .int .i64 (x).f2, .string (x).f3, .int .i64 (x).f4.f0, .int .i64 (x).f4.f1, .int .i64 (x).f4.f2, .string (x).f4.f3, .string (x).f4.f4, .int .i64 (x).f4.f5, .int .i64 (x).f4.f6, .slice A11 (x).f5.length c11]) sz45 (fun j v hv => (HB.out.cell (World.block_lt_of_cell? w _ (HXC.out j v hv))).trans (HXC.out j v hv)) ?_) | ((with_reducible refine gate_dst (N := 10) rfl ?_); refine box_event ?hg (N := 10) ?hd (cs := #[.string (⟨#[]⟩ : ByteArray), .int .i64 0, .int .i64 0, .string (⟨#[]⟩ : ByteArray), .int .i64 0, .int .i64 0, .int .i64 0, .string (⟨#[]⟩ : ByteArray), .string (⟨#[]⟩ : ByteArray), .int .i64 0, .int .i64 0, .slice none 0 0]) (t := 45) ?hr ?_; (case hd => rfl); (case hg => rfl); (case hr => first | (go_simp; done) | (go_simp; rfl)); intro gb hg w2 hbox hb2; have HX2 := Aside0.mk hb2; have HGE := Aside0.mk hg; have HK := Aside0.mk hbox; clear hg hbox hb2) | ((with_reducible refine gate_store (t := 45) (p := 10) rfl ?_); refine put_event rfl rfl rfl rfl rfl HK.out sz45 rfl rfl ?_; intro w3 hk3 hg3; have HX3 := Aside0.mk (below_grown HX2.out hg3 (Nat.le_of_eq HGE.out.symm) (blk_lt HK.out)); have HO3 := Aside0.mk (HO.out.below HX3.out); have HB3 := Aside0.mk (below_step HB.out HX3.out); have HK3 := Aside0.mk hk3; clear HO HB HK HX2 HGE HX3; have HO := HO3; have HB := HB3; have HK := HK3; clear HO3 HB3 HK3; have hc0 := blk_cell HK.out 0; clear hk3 hg3) | (go_at_call 42; refine (path_Up.calls x.f0 u _ HU.out).mono ?_; rintro e w4 ⟨rfl, ⟨nd, rfl⟩⟩; have HO4 := Aside0.mk (HO.out.below (pwbN (Below.refl _ _) nd)); have HB4 := Aside0.mk (below_step HB.out (pwbN (Below.refl _ _) nd)); have HK4 := Aside0.mk (blk_below HK.out (pwbN (Below.refl _ _) nd)); clear HO HB HK; have HO := HO4; have HB := HB4; have HK := HK4; clear HO4 HB4 HK4; have hc0 := blk_cell HK.out 0) | (go_at_call 41; refine (tree_Find.calls k Ao co o u e1 e2 _ (filter_Run.C_of HO.out HB.out).2 (filter_Run.C_of HO.out HB.out).1 HF.out).mono ?_; rintro e w5 ⟨rfl, hb5⟩; have HO4 := Aside0.mk (HO.out.below hb5); have HB4 := Aside0.mk (below_step HB.out hb5); have HK4 := Aside0.mk (blk_below HK.out hb5); clear HO HB HK; have HO := HO4; have HB := HB4; have HK := HK4; clear HO4 HB4 HK4; clear hb5; have hc0 := blk_cell HK.out 0) | (go_at_call 38; refine (filter_takes.calls k A1 c1 l1 x.f0 _ _ (Kd.C_below HR1.out HB.out) HC1.out HT.out).mono ?_; rintro e w6 ⟨rfl, hb6⟩; have HO4 := Aside0.mk (HO.out.below hb6); have HB4 := Aside0.mk (below_step HB.out hb6); have HK4 := Aside0.mk (blk_below HK.out hb6); clear HO HB HK; have HO := HO4; have HB := HB4; have HK := HK4; clear HO4 HB4 HK4; clear hb6; have hc0 := blk_cell HK.out 0))
        go_roundg (l0.length - (n + 1))
        case measure => have := HQ.out; have := HLT.out; omega
        case rel => exact ⟨n + 1, _, _, _, rfl, (by first | rfl | (rw [List.length_append]; rfl)), ⟨rfl⟩, ⟨HLT.out⟩, H', HO, HB⟩
     | false =>
      rw [if_neg (by decide)] at hbb
      subst hbb
      rw [if_neg (by decide)] at H
      have H' := Aside0.mk H
      clear H
      go_wp2_with (first | ((with_reducible refine gate_dst (N := 28) rfl ?_); refine load_event (ad := ad.add (n * 12)) rfl rfl hu45 rfl rfl (cs := [.string (x).f0, .int .i64 (x).f1, .int .i64 (x).f2, .string (x).f3, .int .i64 (x).f4.f0, .int .i64 (x).f4.f1, .int .i64 (x).f4.f2, .string (x).f4.f3, .string (x).f4.f4, .int .i64 (x).f4.f5, .int .i64 (x).f4.f6, .slice A11 (x).f5.length c11]) sz45 (fun j v hv => (HB.out.cell (World.block_lt_of_cell? w _ (HXC.out j v hv))).trans (HXC.out j v hv)) ?_) | ((with_reducible refine gate_dst (N := 10) rfl ?_); refine box_event ?hg (N := 10) ?hd (cs := #[.string (⟨#[]⟩ : ByteArray), .int .i64 0, .int .i64 0, .string (⟨#[]⟩ : ByteArray), .int .i64 0, .int .i64 0, .int .i64 0, .string (⟨#[]⟩ : ByteArray), .string (⟨#[]⟩ : ByteArray), .int .i64 0, .int .i64 0, .slice none 0 0]) (t := 45) ?hr ?_; (case hd => rfl); (case hg => rfl); (case hr => first | (go_simp; done) | (go_simp; rfl)); intro gb hg w2 hbox hb2; have HX2 := Aside0.mk hb2; have HGE := Aside0.mk hg; have HK := Aside0.mk hbox; clear hg hbox hb2) | ((with_reducible refine gate_store (t := 45) (p := 10) rfl ?_); refine put_event rfl rfl rfl rfl rfl HK.out sz45 rfl rfl ?_; intro w3 hk3 hg3; have HX3 := Aside0.mk (below_grown HX2.out hg3 (Nat.le_of_eq HGE.out.symm) (blk_lt HK.out)); have HO3 := Aside0.mk (HO.out.below HX3.out); have HB3 := Aside0.mk (below_step HB.out HX3.out); have HK3 := Aside0.mk hk3; clear HO HB HK HX2 HGE HX3; have HO := HO3; have HB := HB3; have HK := HK3; clear HO3 HB3 HK3; have hc0 := blk_cell HK.out 0; clear hk3 hg3) | (go_at_call 42; refine (path_Up.calls x.f0 u _ HU.out).mono ?_; rintro e w4 ⟨rfl, ⟨nd, rfl⟩⟩; have HO4 := Aside0.mk (HO.out.below (pwbN (Below.refl _ _) nd)); have HB4 := Aside0.mk (below_step HB.out (pwbN (Below.refl _ _) nd)); have HK4 := Aside0.mk (blk_below HK.out (pwbN (Below.refl _ _) nd)); clear HO HB HK; have HO := HO4; have HB := HB4; have HK := HK4; clear HO4 HB4 HK4; have hc0 := blk_cell HK.out 0) | (go_at_call 41; refine (tree_Find.calls k Ao co o u e1 e2 _ (filter_Run.C_of HO.out HB.out).2 (filter_Run.C_of HO.out HB.out).1 HF.out).mono ?_; rintro e w5 ⟨rfl, hb5⟩; have HO4 := Aside0.mk (HO.out.below hb5); have HB4 := Aside0.mk (below_step HB.out hb5); have HK4 := Aside0.mk (blk_below HK.out hb5); clear HO HB HK; have HO := HO4; have HB := HB4; have HK := HK4; clear HO4 HB4 HK4; clear hb5; have hc0 := blk_cell HK.out 0) | (go_at_call 38; refine (filter_takes.calls k A1 c1 l1 x.f0 _ _ (Kd.C_below HR1.out HB.out) HC1.out HT.out).mono ?_; rintro e w6 ⟨rfl, hb6⟩; have HO4 := Aside0.mk (HO.out.below hb6); have HB4 := Aside0.mk (below_step HB.out hb6); have HK4 := Aside0.mk (blk_below HK.out hb6); clear HO HB HK; have HO := HO4; have HB := HB4; have HK := HK4; clear HO4 HB4 HK4; clear hb6; have hc0 := blk_cell HK.out 0))
      go_roundg (l0.length - (n + 1))
      case measure => have := HQ.out; have := HLT.out; omega
      case rel => exact ⟨n + 1, _, _, _, rfl, (by first | rfl | (rw [List.length_append]; rfl)), ⟨rfl⟩, ⟨HLT.out⟩, H', HO, HB⟩
    ·have c3b : decide ((n : Int) < (l0.length : Int)) = false := decide_eq_false (by omega)
     have p3 : ((n : Int) < (l0.length : Int)) = False := eq_false (by omega)
     have H := HA.out
     rw [List.drop_of_length_le (by omega)] at H
     obtain rfl := Option.some.inj H
     clear H HA c3
     go_wp2_with (go_at_call 23; refine (tree_Copy.calls Ao co o cp _ (filter_Run.C_of HO.out HB.out).2 (filter_Run.C_of HO.out HB.out).1 H4.out).mono ?_; rintro e w6 ⟨v6, rfl, hS6, hb6⟩; have HS6 := Aside0.mk (Kd.S_lower hS6 (below_size HB.out)); have HB6 := Aside0.mk (below_step HB.out hb6); clear hS6 hb6)
     go_ret2
     exact ⟨_, rfl, HS6.out, HB6.out⟩
  ·rw [if_neg c2'] at h
   obtain ⟨rfl, rfl⟩ := Prod.mk.inj (Option.some.inj h)
   have c2b : (e2 != 0) = true := bne_iff_ne.mpr c2'
   clear c2' h
   go_enter Tryd.func15, Tryd.ntmps15
   go_wp2_with (first | (go_at_call 40; refine (tree_Check.calls k A0 c0 l0 0 _ HR0.out HC0.out H1.out).mono ?_; rintro e w1 ⟨rfl, hb1⟩; have HB1 := Aside0.mk hb1; clear hb1) | (go_at_call 11; refine (filter_Check.calls k A1 c1 l1 e2 _ (Kd.C_below HR1.out HB1.out) HC1.out H2.out).mono ?_; rintro e w2 ⟨rfl, hb2⟩; have HB2 := Aside0.mk (below_step HB1.out hb2); clear hb2))
   go_ret2
   exact ⟨_, rfl, Kd.S_nil _ _ _ _ _, HB2.out⟩
 ·rw [if_neg c1'] at h
  obtain ⟨rfl, rfl⟩ := Prod.mk.inj (Option.some.inj h)
  have c1b : (e1 != 0) = true := bne_iff_ne.mpr c1'
  clear c1' h
  go_enter Tryd.func15, Tryd.ntmps15
  go_wp2_with (go_at_call 40; refine (tree_Check.calls k A0 c0 l0 e1 _ HR0.out HC0.out H1.out).mono ?_; rintro e w1 ⟨rfl, hb1⟩; have HB1 := Aside0.mk hb1; clear hb1)
  go_ret2
  exact ⟨_, rfl, Kd.S_nil _ _ _ _ _, HB1.out⟩
end Go.Proofs.YtcbbcnmifohibaaDoor.All
end
section
namespace Go.Proofs.YtcbbcnmifohibaaDoorW.Blks
open Go Go.RowKit Go.Proofs.YtcbbcnmifohibaaDoorW.PrintWords Go.Proofs.YtcbbcnmifohibaaDoorW.MapOwn
structure Blks (w W : World) (L : List (Nat × Obj)) : Prop where
  below : Below w.heap.size w W
  own : ∀ p ∈ L, w.heap.size ≤ p.1 ∧ W.heap[p.1]? = some p.2
  apart : (L.map Prod.fst).Nodup
section
variable {w W W' : World} {L : List (Nat × Obj)} {g : Nat} {o o' : Obj} {j : Nat}
theorem grownBy_setCell (W : World) (g i : Nat) (v : Value) : W.grownBy (W.setCell ⟨g, i, none⟩ v) (some g) :=
  ⟨rfl, rfl, rfl, by simp [World.setCell], fun k hk hne => Below.heap_setCell W ⟨g, i, none⟩ v k (fun e => hne (by rw [e]))⟩
end
end Go.Proofs.YtcbbcnmifohibaaDoorW.Blks
end
section
namespace Go.Proofs.YtcbbcnmifohibaaDoor.All
open Go.RowKit Go.Proofs.YtcbbcnmifohibaaDoorW.PrintWords Go.Proofs.YtcbbcnmifohibaaDoorW.PrintLast Go.Proofs.YtcbbcnmifohibaaDoorW.PrintMore
open Go.Proofs.YtcbbcnmifohibaaDoorW.Mine
attribute [local go_sem] gtr_string leq_string geq_string
attribute [local go_sem] max2_int min2_int max_two min_two max_three min_three max_four min_four
set_option linter.unusedVariables false
set_option linter.unusedSimpArgs false
def creelref_parts.l0 : Nat → ByteArray → Int → List ByteArray → Int → Option (List ByteArray)
 | 0, _, _, _, _ => none
 | k + 1, x0, x1, x5, x6 => if x6 < (x0.size : Int) then (if 0 ≤ x6 then (if (bt x0 x6) = x1 then (if x5.length < 8796093022208 then (creelref_parts.l0 k x0 x1 (x5 ++ [(⟨#[]⟩ : ByteArray)]) (wrap64 (x6 + 1))) else (none)) else (if 0 ≤ (wrap64 ((x5.length : Int) - 1)) then (if (wrap64 ((x5.length : Int) - 1)) < (x5.length : Int) then (if x6 ≤ (wrap64 (x6 + 1)) then (if (wrap64 (x6 + 1)) ≤ (x0.size : Int) then (if (rdOf ByteArray.empty x5 (wrap64 ((x5.length : Int) - 1))).size + (x0.extract (x6 : Int).toNat ((wrap64 (x6 + 1)) : Int).toNat).size ≤ 9223372036854775807 then (creelref_parts.l0 k x0 x1 (x5.set ((wrap64 ((x5.length : Int) - 1)) : Int).toNat ((rdOf ByteArray.empty x5 (wrap64 ((x5.length : Int) - 1))) ++ (x0.extract (x6 : Int).toNat ((wrap64 (x6 + 1)) : Int).toNat))) (wrap64 (x6 + 1))) else (none)) else (none)) else (none)) else (none)) else (none))) else (none)) else (some x5)
def creelref_parts.f (k : Nat) (a0 : ByteArray) (a1 : Int) : Option (List ByteArray) := creelref_parts.l0 k a0 a1 (([(⟨#[]⟩ : ByteArray)] : List ByteArray)) 0
def creelref_parts.T7 : Bool × List (List Nat × List Nat) := (true, [([], []), ([], []), ([1], [1]), ([2], [2]), ([0, 3], [0, 3]), ([4], [4]), ([], []), ([], []), ([], []), ([8], [8]), ([6, 7, 9], [6, 7, 9]), ([5, 10], [5, 10]), ([0, 3, 0, 1, 2, 3, 4, 5, 6, 7, 8, 9, 10, 11], [0, 3]), ([12, 11, 0, 1, 2, 3, 4, 5, 6, 7, 8, 9, 10, 11], [11, 12])])
def creelref_parts.B7 : List Nat := [0, 0, 2, 6, 15, 31, 0, 0, 0, 256, 960, 2047, 4095, 8191]
theorem creelref_parts.tab7 : rtab .any (opsOf Tryd.f33 7) = creelref_parts.T7 := by kernel_rfl
theorem creelref_parts.bits7 : waitsOk creelref_parts.T7.2 creelref_parts.B7 = true := by kernel_rfl
set_option maxHeartbeats 8000000 in
set_option maxRecDepth 100000 in
theorem creelref_parts.calls (k : Nat) (a0 : ByteArray) (a1 : Int) (r : List ByteArray) (w : World) (h : creelref_parts.f k a0 a1 = some r) :
  Calls Tryd.prog 33 #[.string a0, .int .u8 a1] w fun e w' => ∃ v0_ : Value, e = .returned (v0_) ∧ Kd.R Kd.string 9 w' w.heap.size (fun _ => True) v0_ r ∧ Below w.heap.size w w' := by
 have HB := Aside0.mk (Below.refl w.heap.size w)
 have H : (creelref_parts.l0 k a0 a1 (([(⟨#[]⟩ : ByteArray)] : List ByteArray)) 0) = some r := h
 clear h
 obtain ⟨y101, hy101⟩ : ∃ y_ : List ByteArray, y_ = (([(⟨#[]⟩ : ByteArray)] : List ByteArray)) := ⟨_, rfl⟩
 replace H : (creelref_parts.l0 k a0 a1 y101 0) = some r := by first | (rw [hy101]; with_reducible exact H) | (have H2_ := (Option.bind_some _ _).symm.trans H; rw [hy101]; with_reducible exact H2_) | (have H2_ := (Option.bind_some _ _).symm.trans H; with_reducible exact H2_) | with_reducible exact H | (rw [hy101]; exact H) | exact H
 have Ny101 := Aside0.mk hy101
 clear hy101
 have H' := Aside0.mk H
 clear H
 go_enter Tryd.func33, Tryd.ntmps33
 go_wp2_with (first | ((with_reducible refine gate_dst (N := 7) rfl ?_); refine Kd.R_lit Kd.string _ 9 ?hg (N := 7) ?hd (xs := ([(⟨#[]⟩ : ByteArray)] : List ByteArray)) (inner := [.string (⟨#[]⟩ : ByteArray)]) (ok := fun _ => True) (okp := fun _ => True) ?hr ?hp (fun _ hk => hk) trivial (Below.refl _ _) (Nat.le_refl _) (by simp) ?_; (case hd => rfl); (case hg => rfl); (case hr => first | (go_simp; done) | (go_simp; rfl)); (case hp => exact (Reps.one (show Kd.M Kd.string _ _ _ (⟨#[]⟩ : ByteArray) [.string (⟨#[]⟩ : ByteArray)] from rfl) (Reps.none _ _))); intro v102 w3 ho4 hb hg_ hnew_; clear hg_ hnew_; (first | rw [← Ny101.out] at ho4 | (simp only [Int.reduceToNat] at ho4; rw [← Ny101.out] at ho4)); have n0_ := Aside0.mk (Kd.R_lower ho4 (below_size (by repeat (first | (with_reducible first | exact HB.out | apply bwA | apply pwbN | apply bw1) | exact HB.out)))); have n1_ := Aside0.mk (below_step (by repeat (first | (with_reducible first | exact HB.out | apply bwA | apply pwbN | apply bw1) | exact HB.out)) hb); clear HB; have HO103 := n0_; have HB := n1_; clear n0_ n1_; clear hb ho4))
 go_loopg [5, 6] k (fun kq v5 v6 w' => ∃ (x5_1 : List ByteArray) (x6_1 : Int), v6 = .int .i64 x6_1 ∧ Aside0 (creelref_parts.l0 kq a0 a1 x5_1 x6_1 = some r) ∧ Aside0 (kq ≤ k) ∧ Aside0 (Kd.R Kd.string 9 w' w.heap.size (fun _ => True) v5 x5_1) ∧ Aside0 (Below w.heap.size w w'))
 case atStart => exact ⟨(y101), (0), (by first | rfl | (simp; done) | (simp [*]; done)), H', ⟨Nat.le_refl _⟩, ⟨by (with_reducible repeat (first | apply Kd.R_alloc | apply Kd.R_drewN | apply Kd.R_drew)); exact HO103.out⟩, ⟨by repeat (first | (with_reducible first | exact HB.out | apply bwA | apply pwbN | apply bw1) | exact HB.out)⟩⟩
 case round =>
  clear H'
  try clear p2
  try clear c3
  obtain ⟨x5_1, x6_1, rfl, HA, HK1, HO_5, HB⟩ := hrel
  cases gk with
  | zero => exact absurd HA.out (by simp [creelref_parts.l0])
  | succ k1 =>
   have H := HA.out
   clear HA
   simp only [creelref_parts.l0] at H
   by_cases c5 : x6_1 < (a0.size : Int)
   ·rw [if_pos c5] at H
    have c5b0 : decide (x6_1 < (a0.size : Int)) = true := decide_eq_true c5
    clear c5
    by_cases c6 : 0 ≤ x6_1
    ·rw [if_pos c6] at H
     have c6b0 : decide (0 ≤ x6_1) = true := decide_eq_true c6
     clear c6
     by_cases c8 : (bt a0 x6_1) = a1
     ·rw [if_pos c8] at H
      have c8b0 : ((bt a0 x6_1) == a1) = true := beq_iff_eq.mpr c8
      have c8b1 : ((bt a0 x6_1) != a1) = false := bne_eq_false_iff_eq.mpr c8
      clear c8
      by_cases c9 : x5_1.length < 8796093022208
      ·rw [if_pos c9] at H
       have LMc9 := Aside0.mk c9
       clear c9
       obtain ⟨y104, hy104⟩ : ∃ y_ : List ByteArray, y_ = (x5_1 ++ [(⟨#[]⟩ : ByteArray)]) := ⟨_, rfl⟩
       replace H : (creelref_parts.l0 k1 a0 a1 y104 (wrap64 (x6_1 + 1))) = some r := by first | (rw [hy104]; with_reducible exact H) | (have H2_ := (Option.bind_some _ _).symm.trans H; rw [hy104]; with_reducible exact H2_) | (have H2_ := (Option.bind_some _ _).symm.trans H; with_reducible exact H2_) | with_reducible exact H | (rw [hy104]; exact H) | exact H
       have Ny104 := Aside0.mk hy104
       clear hy104
       have H' := Aside0.mk H
       clear H
       have p7 : 0 ≤ (x6_1 : Int) := of_decide_eq_true (by first | (with_reducible assumption) | assumption)
       have q7 : x6_1 < (a0.size : Int) := of_decide_eq_true (by first | (with_reducible assumption) | assumption)
       have hx7 := bt_at a0 x6_1
       replace p7 := eq_true p7
       replace q7 := eq_true q7
       go_wp2_with (first | ((with_reducible refine gate_builtin (b := .append) (xs := #[.tmp 19, .tmp 20]) rfl ?_); at_builtin; refine Kd.R_append Kd.string (w0 := w) w.heap.size rfl (.tmp 19) (.tmp 20) 51 9 (.string ⟨#[]⟩) 16 rfl Tryd.underlying51 info9 rfl (by decide) (by omega) u5 x5_1 (⟨#[]⟩ : ByteArray) [.string (⟨#[]⟩ : ByteArray)] (fun _ => True) (fun _ => False) rfl rfl ?aP (fun _ hk => hk.elim) ?aF ?aO ?aB ?aS ?aL ?_; (case aP => exact rfl); (case aB => exact (by repeat (first | (with_reducible first | exact HB.out | apply bwA | apply pwbN | apply bw1) | exact HB.out))); (case aF => exact (fun _ _ => trivial)); (case aO => exact (by (with_reducible repeat (first | apply Kd.R_alloc | apply Kd.R_drewN | apply Kd.R_drew)); exact HO_5.out)); (case aS => exact (below_size (by repeat (first | (with_reducible first | exact HB.out | apply bwA | apply pwbN | apply bw1) | exact HB.out)))); (case aL => have := LMc9.out; omega); intro v105 w10 ho hb hg hat; rw [← Ny104.out] at ho; have n0_ := Aside0.mk (hb); have n1_ := Aside0.mk (ho); clear HB; clear HO_5; have HB := n0_; have HO106 := n1_; clear n0_ n1_; clear ho hb hg hat))
       go_roundg k1
       case measure => have := HK1.out; omega
       case rel => exact ⟨(y104), (wrap64 (x6_1 + 1)), (by first | rfl | (simp; done) | (simp [*]; done)), H', ⟨by have := HK1.out; omega⟩, ⟨by (with_reducible repeat (first | apply Kd.R_alloc | apply Kd.R_drewN | apply Kd.R_drew)); exact HO106.out⟩, ⟨by repeat (first | (with_reducible first | exact HB.out | apply bwA | apply pwbN | apply bw1) | exact HB.out)⟩⟩
      ·rw [if_neg c9] at H
       exact absurd H (by simp)
     ·rw [if_neg c8] at H
      have c8b0 : ((bt a0 x6_1) == a1) = false := beq_eq_false_iff_ne.mpr c8
      have c8b1 : ((bt a0 x6_1) != a1) = true := bne_iff_ne.mpr c8
      obtain ⟨ji11, hji11⟩ : ∃ j_ : Int, (wrap64 ((x5_1.length : Int) - 1)) = j_ := ⟨_, rfl⟩
      replace H : (if 0 ≤ (ji11) then (if (ji11) < (x5_1.length : Int) then (if x6_1 ≤ (wrap64 (x6_1 + 1)) then (if (wrap64 (x6_1 + 1)) ≤ (a0.size : Int) then (if (rdOf ByteArray.empty x5_1 (ji11)).size + (a0.extract (x6_1 : Int).toNat ((wrap64 (x6_1 + 1)) : Int).toNat).size ≤ 9223372036854775807 then (creelref_parts.l0 k1 a0 a1 (x5_1.set ((ji11) : Int).toNat ((rdOf ByteArray.empty x5_1 (ji11)) ++ (a0.extract (x6_1 : Int).toNat ((wrap64 (x6_1 + 1)) : Int).toNat))) (wrap64 (x6_1 + 1))) else (none)) else (none)) else (none)) else (none)) else (none)) = some r := by first | (rw [hji11] at H; exact H) | (simp only [hji11] at H ⊢; exact H)
      have hji11w : (IntKind.i64.wrap ((x5_1.length : Int) - 1)) = ji11 := (i64_w _).trans hji11
      by_cases c12 : 0 ≤ (ji11)
      ·rw [if_pos c12] at H
       have c12b0 : decide (0 ≤ (ji11)) = true := decide_eq_true c12
       clear c12
       by_cases c13 : (ji11) < (x5_1.length : Int)
       ·rw [if_pos c13] at H
        have c13b0 : decide ((ji11) < (x5_1.length : Int)) = true := decide_eq_true c13
        clear c13
        have c14b0 := eq_true (of_decide_eq_true (by first | (with_reducible assumption) | assumption) : 0 ≤ x6_1)
        by_cases c15 : x6_1 ≤ (wrap64 (x6_1 + 1))
        ·rw [if_pos c15] at H
         have c15b0 := eq_true c15
         have c15b1 : decide (x6_1 ≤ (wrap64 (x6_1 + 1))) = true := decide_eq_true c15
         by_cases c16 : (wrap64 (x6_1 + 1)) ≤ (a0.size : Int)
         ·rw [if_pos c16] at H
          have c16b0 := eq_true c16
          have c16b1 : decide ((wrap64 (x6_1 + 1)) ≤ (a0.size : Int)) = true := decide_eq_true c16
          by_cases c17 : (rdOf ByteArray.empty x5_1 (ji11)).size + (a0.extract (x6_1 : Int).toNat ((wrap64 (x6_1 + 1)) : Int).toNat).size ≤ 9223372036854775807
          ·rw [if_pos c17] at H
           have c17b0 := eq_true c17
           have c17b1 : decide ((rdOf ByteArray.empty x5_1 (ji11)).size + (a0.extract (x6_1 : Int).toNat ((wrap64 (x6_1 + 1)) : Int).toNat).size ≤ 9223372036854775807) = true := decide_eq_true c17
           try have c17b2 : (9223372036854775807 < (rdOf ByteArray.empty x5_1 (ji11)).size + (a0.extract (x6_1 : Int).toNat ((wrap64 (x6_1 + 1)) : Int).toNat).size) = False := eq_false (Nat.not_lt.2 c17)
           try have c17b3 : (9223372036854775807 < (rdOf ByteArray.empty x5_1 (ji11)).size + (((wrap64 (x6_1 + 1))).toNat - (x6_1).toNat)) = False := eq_false (by have h_ := c17; simp only [ByteArray.size_extract] at h_; omega)
           obtain ⟨y108, hy108⟩ : ∃ y_ : List ByteArray, y_ = (x5_1.set ((ji11) : Int).toNat ((rdOf ByteArray.empty x5_1 (ji11)) ++ (a0.extract (x6_1 : Int).toNat ((wrap64 (x6_1 + 1)) : Int).toNat))) := ⟨_, rfl⟩
           replace H : (creelref_parts.l0 k1 a0 a1 y108 (wrap64 (x6_1 + 1))) = some r := by first | (rw [hy108]; with_reducible exact H) | (have H2_ := (Option.bind_some _ _).symm.trans H; rw [hy108]; with_reducible exact H2_) | (have H2_ := (Option.bind_some _ _).symm.trans H; with_reducible exact H2_) | with_reducible exact H | (rw [hy108]; exact H) | exact H
           have Ny108 := Aside0.mk hy108
           clear hy108
           have H' := Aside0.mk H
           clear H
           have p7 : 0 ≤ (x6_1 : Int) := of_decide_eq_true (by first | (with_reducible assumption) | assumption)
           have q7 : x6_1 < (a0.size : Int) := of_decide_eq_true (by first | (with_reducible assumption) | assumption)
           have hx7 := bt_at a0 x6_1
           replace p7 := eq_true p7
           replace q7 := eq_true q7
           try go_wp2
           have n0_ := Aside0.mk (Kd.R_drew HO_5.out)
           have n1_ := Aside0.mk (bw1 HB.out)
           clear HO_5
           clear HB
           have HO_5 := n0_
           have HB := n1_
           clear n0_ n1_
           obtain ⟨Ao20, co20, eo20⟩ := Kd.R_slice HO_5.out
           (first | subst eo20 | (injection eo20 with f1_ f2_ f3_; have f4_ := f1_.symm; have f5_ := f3_.symm; clear f1_ f2_ f3_; subst f4_; subst f5_))
           have p107 : 0 ≤ ((ji11) : Int) := of_decide_eq_true (by first | (with_reducible assumption) | assumption)
           have q107 : (ji11) < (x5_1.length : Int) := of_decide_eq_true (by first | (with_reducible assumption) | assumption)
           obtain ⟨ad107, e107, hx107_0⟩ := Kd.at_string (Kd.R_reads' HO_5.out).2.2 (ji11) p107 q107
           cases e107
           replace p107 := eq_true p107
           replace q107 := eq_true q107
           have p18 : 0 ≤ ((ji11) : Int) := of_decide_eq_true (by first | (with_reducible assumption) | assumption)
           have q18 : ((ji11) : Int) < ((x5_1.length : Int) : Int) := of_decide_eq_true (by first | (with_reducible assumption) | assumption)
           obtain ⟨go18, co18, eo18, gb18, gl18, cl18, HG18⟩ := Kd.R_form HO_5.out (by omega)
           (first | cases eo18 | (injection eo18 with ea_ en_ ec_; (first | subst ea_ | (injection ea_ with ea_; subst ea_)); subst ec_; clear en_))
           have GB18 := Aside0.mk gb18
           have GG18 := Aside0.mk HG18
           clear gb18 gl18 HG18
           (first | simp only [add_plain] at hx107_0 | skip)
           obtain ⟨hx18_0, hf18_0⟩ := Kd.R_celln (⟨#[]⟩ : ByteArray) HO_5.out ((ji11) : Int) p18 q18
           replace p18 := eq_true p18
           replace q18 := eq_true q18
           have HP21 := Kd.R_putn HO_5.out ((ji11) : Int) ((rdOf ByteArray.empty x5_1 (ji11)) ++ (a0.extract (x6_1 : Int).toNat ((wrap64 (x6_1 + 1)) : Int).toNat))
           rw [← Ny108.out] at HP21
           have HQ21 := Aside0.mk HP21
           clear HP21
           refine start_ (n := 14) (S := fun w' => w'.cell? ⟨go18, ((ji11)).toNat, none⟩ = some (.string (rdOf ByteArray.empty x5_1 (ji11)))) (ds := [13]) #[false, false, false, false, false, false, false, false, false, false, false, false, false, false] (by kernel_rfl) rfl rfl (hx107_0) (fun hHeld => ?_); refine with_tabW creelref_parts.tab7 creelref_parts.bits7 (fun HT_ HW_ => ?_)
           generalize wr.drew = w19 at HO_5 HB GG18 HQ21 hf18_0 hx107_0 hx18_0 hHeld ⊢
           refine pure_ (i := 0) (N := some 22) (v := ?_) (a' := ?_) #[true, false, false, false, false, false, false, false, false, false, false, false, false, false] rfl rfl (any_of HT_.out (by kernel_rfl)) (fun _ _ _ h => h) (Or.inl ⟨by rfl, ?_⟩) ?_ ?_
           rotate_left
           ·intro w'
            go_simp
            with_reducible rfl
           rotate_left
           ·simp only [Act.put, List.setIfInBounds_toArray, List.set_cons_zero, List.set_cons_succ, i64_w, i32_w]
            rfl
           refine pure_ (i := 1) (N := some 23) (v := ?_) (a' := ?_) #[true, true, false, false, false, false, false, false, false, false, false, false, false, false] rfl rfl (any_of HT_.out (by kernel_rfl)) (fun _ _ _ h => h) (Or.inl ⟨by rfl, ?_⟩) ?_ ?_
           rotate_left
           ·intro w'
            go_simp
            with_reducible rfl
           rotate_left
           ·simp only [Act.put, List.setIfInBounds_toArray, List.set_cons_zero, List.set_cons_succ, i64_w, i32_w]
            rfl
           refine pure_ (i := 2) (N := some 24) (v := ?_) (a' := ?_) #[true, true, true, false, false, false, false, false, false, false, false, false, false, false] rfl rfl (any_of HT_.out (by kernel_rfl)) (fun _ _ _ h => h) (Or.inl ⟨by rfl, ?_⟩) ?_ ?_
           rotate_left
           ·intro w'
            go_simp
            with_reducible rfl
           rotate_left
           ·simp only [Act.put, List.setIfInBounds_toArray, List.set_cons_zero, List.set_cons_succ, i64_w, i32_w]
            rfl
           refine pure_ (i := 3) (N := some 25) (v := ?_) (a' := ?_) #[true, true, true, true, false, false, false, false, false, false, false, false, false, false] rfl rfl (any_of HT_.out (by kernel_rfl)) (fun _ _ _ h => h) (Or.inl ⟨by rfl, ?_⟩) ?_ ?_
           rotate_left
           ·intro w'
            go_simp
            with_reducible rfl
           rotate_left
           ·simp only [Act.put, List.setIfInBounds_toArray, List.set_cons_zero, List.set_cons_succ, i64_w, i32_w]
            rfl
           refine pure_ (i := 4) (N := some 26) (v := ?_) (a' := ?_) #[true, true, true, true, true, false, false, false, false, false, false, false, false, false] rfl rfl (any_of HT_.out (by kernel_rfl)) (fun _ _ _ h => h) (Or.inl ⟨by rfl, ?_⟩) ?_ ?_
           rotate_left
           ·intro w'
            go_simp
            with_reducible rfl
           rotate_left
           ·simp only [Act.put, List.setIfInBounds_toArray, List.set_cons_zero, List.set_cons_succ, i64_w, i32_w]
            rfl
           refine pure_ (i := 6) (N := some 28) (v := ?_) (a' := ?_) #[true, true, true, true, true, false, true, false, false, false, false, false, false, false] rfl rfl (any_of HT_.out (by kernel_rfl)) (fun _ _ _ h => h) (Or.inl ⟨by rfl, ?_⟩) ?_ ?_
           rotate_left
           ·intro w'
            go_simp
            with_reducible rfl
           rotate_left
           ·simp only [Act.put, List.setIfInBounds_toArray, List.set_cons_zero, List.set_cons_succ, i64_w, i32_w]
            rfl
           refine pure_ (i := 7) (N := some 29) (v := ?_) (a' := ?_) #[true, true, true, true, true, false, true, true, false, false, false, false, false, false] rfl rfl (any_of HT_.out (by kernel_rfl)) (fun _ _ _ h => h) (Or.inl ⟨by rfl, ?_⟩) ?_ ?_
           rotate_left
           ·intro w'
            go_simp
            with_reducible rfl
           rotate_left
           ·simp only [Act.put, List.setIfInBounds_toArray, List.set_cons_zero, List.set_cons_succ, i64_w, i32_w]
            rfl
           refine pure_ (i := 8) (N := some 30) (v := ?_) (a' := ?_) #[true, true, true, true, true, false, true, true, true, false, false, false, false, false] rfl rfl (any_of HT_.out (by kernel_rfl)) (fun _ _ _ h => h) (Or.inl ⟨by rfl, ?_⟩) ?_ ?_
           rotate_left
           ·intro w'
            go_simp
            with_reducible rfl
           rotate_left
           ·simp only [Act.put, List.setIfInBounds_toArray, List.set_cons_zero, List.set_cons_succ, i64_w, i32_w]
            rfl
           refine pure_ (i := 9) (N := some 31) (v := ?_) (a' := ?_) #[true, true, true, true, true, false, true, true, true, true, false, false, false, false] rfl rfl (any_of HT_.out (by kernel_rfl)) (fun _ _ _ h => h) (Or.inl ⟨by rfl, ?_⟩) ?_ ?_
           rotate_left
           ·intro w'
            go_simp
            with_reducible rfl
           rotate_left
           ·simp only [Act.put, List.setIfInBounds_toArray, List.set_cons_zero, List.set_cons_succ, i64_w, i32_w]
            rfl
           refine pure_ (i := 10) (N := some 32) (v := ?_) (a' := ?_) #[true, true, true, true, true, false, true, true, true, true, true, false, false, false] rfl rfl (any_of HT_.out (by kernel_rfl)) (fun _ _ _ h => h) (Or.inl ⟨by rfl, ?_⟩) ?_ ?_
           rotate_left
           ·intro w'
            go_simp
            with_reducible rfl
           rotate_left
           ·simp only [Act.put, List.setIfInBounds_toArray, List.set_cons_zero, List.set_cons_succ, i64_w, i32_w]
            rfl
           refine take_ (i := 5) (N := some 27) (v := ?_) (a' := ?_) #[true, true, true, true, true, true, true, true, true, true, true, false, false, false] rfl rfl (take_ofW HT_.out HW_.out (by kernel_rfl)) (fun _ _ _ h => h) (Or.inl ⟨by rfl, ?_⟩) hHeld ?_ ?_
           rotate_left
           ·intro w' s0
            go_simp
            with_reducible rfl
           rotate_left
           ·simp only [Act.put, List.setIfInBounds_toArray, List.set_cons_zero, List.set_cons_succ, i64_w, i32_w]
            rfl
           refine pure_ (i := 11) (N := some 33) (v := ?_) (a' := ?_) #[true, true, true, true, true, true, true, true, true, true, true, true, false, false] rfl rfl (any_of HT_.out (by kernel_rfl)) (fun _ _ _ h => h) (Or.inl ⟨by rfl, ?_⟩) ?_ ?_
           rotate_left
           ·intro w'
            go_simp
            with_reducible rfl
           rotate_left
           ·simp only [Act.put, List.setIfInBounds_toArray, List.set_cons_zero, List.set_cons_succ, i64_w, i32_w]
            rfl
           refine pure_ (i := 12) (N := some 34) (v := ?_) (a' := ?_) #[true, true, true, true, true, true, true, true, true, true, true, true, true, false] rfl rfl (any_of HT_.out (by kernel_rfl)) (fun _ _ _ h => h) (Or.inl ⟨by rfl, ?_⟩) ?_ ?_
           rotate_left
           ·intro w'
            go_simp
            with_reducible rfl
           rotate_left
           ·simp only [Act.put, List.setIfInBounds_toArray, List.set_cons_zero, List.set_cons_succ, i64_w, i32_w]
            rfl
           refine last_ (i := 13) (N := none) #[true, true, true, true, true, true, true, true, true, true, true, true, true, true] rfl rfl (one_of HT_.out (by kernel_rfl)) (by decide) (fun K hK => ?_)
           refine skip_ (w1 := ?_) (by rfl) rfl ?_ ?_
           rotate_left
           ·go_simp
            rfl
           refine hK.out _ _ ?_
           clear hK K
           refine done_ (done_of HT_.out (by kernel_rfl)) ?_
           try go_wp2
           go_roundg k1
           case measure => have := HK1.out; omega
           case rel => exact ⟨(y108), (wrap64 (x6_1 + 1)), (by first | rfl | (simp; done) | (simp [*]; done)), H', ⟨by have := HK1.out; omega⟩, ⟨by (with_reducible repeat (first | apply Kd.R_alloc | apply Kd.R_drewN | apply Kd.R_drew)); exact HQ21.out⟩, ⟨by repeat (first | (with_reducible first | exact HB.out | apply bwA | apply pwbN | apply bw1 | refine below_set ?_ GB18.out) | exact HB.out)⟩⟩
          ·rw [if_neg c17] at H
           exact absurd H (by simp)
         ·rw [if_neg c16] at H
          exact absurd H (by simp)
        ·rw [if_neg c15] at H
         exact absurd H (by simp)
       ·rw [if_neg c13] at H
        exact absurd H (by simp)
      ·rw [if_neg c12] at H
       exact absurd H (by simp)
    ·rw [if_neg c6] at H
     exact absurd H (by simp)
   ·rw [if_neg c5] at H
    have c5b0 : decide (x6_1 < (a0.size : Int)) = false := decide_eq_false c5
    clear c5
    obtain rfl := Option.some.inj H
    go_wp2
    go_ret
    exact ⟨_, by first | rfl | (simp [errW_none, errW_some] <;> rfl) | (simp [*, errW_none, errW_some] <;> rfl), by (with_reducible repeat (first | apply Kd.R_alloc | apply Kd.R_drewN | apply Kd.R_drew)); exact HO_5.out, by repeat (first | (with_reducible first | exact HB.out | apply bwA | apply pwbN | apply bw1) | exact HB.out)⟩
end Go.Proofs.YtcbbcnmifohibaaDoor.All
end
