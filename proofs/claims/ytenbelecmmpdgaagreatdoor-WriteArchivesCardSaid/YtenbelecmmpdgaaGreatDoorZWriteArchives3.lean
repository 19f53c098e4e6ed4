/- Made by programs of the prover: walks of Go functions, the words that they use, and plain laws, each text in a section of its own; no condition of its own. -/
import Derived.Below
import Derived.Test.YtenbelecmmpdgaaGreatDoorZWriteArchives1
import Derived.Test.YtenbelecmmpdgaaGreatDoorZWriteArchives2
section
namespace Go.Proofs.YtenbelecmmpdgaaGreatDoor.All
open Go.RowKit Go.Proofs.YtenbelecmmpdgaaGreatDoorW.PrintWords Go.Proofs.YtenbelecmmpdgaaGreatDoorW.PrintLast Go.Proofs.YtenbelecmmpdgaaGreatDoorW.PrintMore
open Go.Proofs.YtenbelecmmpdgaaGreatDoorW.Mine
attribute [local go_sem] gtr_string leq_string geq_string
attribute [local go_sem] max2_int min2_int max_two min_two max_three min_three max_four min_four
set_option linter.unusedVariables false
set_option linter.unusedSimpArgs false
def strings_IndexByte.f (a0:ByteArray) (a1:Int):Option Int:=some (Lib.indexByte a0.data.toList a1.toNat.toUInt8)
theorem strings_IndexByte.calls (a0:ByteArray) (a1:Int) (r:Int) (w:World) (h:strings_IndexByte.f a0 a1 = some r) :
 Calls Tryz.prog 56 #[.string a0,.int .u8 a1] w fun e w'=>e = .returned (.int .i64 r)∧Drawn0 w w':=by
 obtain rfl:=Option.some.inj h;exact (Tryz.strings_IndexByte a0 a1 w).mono fun e w' ⟨he,hw⟩=>⟨he,by rw [hw];exact Drawn0.refl _⟩
def strings_Split.f (a0:ByteArray) (a1:ByteArray):Option (List ByteArray):=match a1 with
 | ⟨⟨[c]⟩⟩=>if a0.size < 4294967281 then some (Lib.splitB ⟨#[c]⟩ 0 (Lib.countB a0 ⟨#[c]⟩) a0) else none
 | _=>none
theorem strings_Split.fresh (w:World) (xs:List ByteArray) (hx:0 < xs.length) (hl:xs.length ≤ 9223372036854775807) :
 Kd.R Kd.string 9 (w.alloc (.cells (xs.map Value.string).toArray 9)) w.heap.size (fun _=>True) (.slice (some ⟨w.heap.size,0,none⟩) xs.length xs.length) xs:=by
 refine ⟨fun _ _=>trivial,xs.map Value.string,⟨by simp [Kd.string,Kd.scalar],.inr ⟨w.heap.size,xs.length,(xs.map Value.string).toArray,rfl,Nat.le_refl _,?_,Nat.le_refl _,?_,?_,?_⟩⟩,?_,?_⟩
 ·show (w.heap.push _)[w.heap.size]? = _
  simp
 ·unfold maxLen;omega
 ·simp [Kd.string,Kd.scalar]
 ·simp only [Kd.string,Kd.scalar,Nat.mul_one];exact List.take_of_length_le (by simp)
 ·simp [Kd.string,Kd.scalar]
 ·intro j p hj;show _ = [Value.string p]
  simp only [Kd.string,Kd.scalar,Nat.mul_one];have hlt:=(List.getElem?_eq_some_iff.1 hj).1;have he:=(List.getElem?_eq_some_iff.1 hj).2;rw [List.drop_eq_getElem_cons (by simpa using hlt),List.take_succ_cons,List.take_zero];simp [he]
set_option maxHeartbeats 1000000 in
theorem strings_Split.calls (a0:ByteArray) (a1:ByteArray) (r:List ByteArray) (w:World) (h:strings_Split.f a0 a1 = some r) :
 Calls Tryz.prog 103 #[.string a0,.string a1] w fun e w'=>∃ v0_:Value,e = .returned (v0_)∧Kd.R Kd.string 9 w' w.heap.size (fun _=>True) v0_ r∧Below w.heap.size w w':=by
 unfold strings_Split.f at h;split at h
 ·rename_i ch
  split at h
  ·rename_i hs
   obtain rfl:=Option.some.inj h;have h1:1 ≤ (⟨#[ch]⟩:ByteArray).size:=Nat.le_refl _;have hle:=Lib.countB_le (⟨#[ch]⟩:ByteArray) h1 a0.size a0 (Nat.le_refl _);have hlen:=Lib.splitB_all (⟨#[ch]⟩:ByteArray) h1 0 _ a0 rfl;have hC:Calls Tryz.prog 178 #[.string a0,.string ⟨#[ch]⟩] w fun e w'=>e = .returned (.int .i64 (Lib.countB a0 ⟨#[ch]⟩))∧w' = w:=by
    refine (Tryz.strings_Count_one a0 ch w).mono fun e w' ⟨he,hw⟩=>⟨?_,hw⟩
    rw [he];show _ = Ending.returned (Value.int .i64 ((Lib.count a0.data.toList [ch]:Nat):Int))
    rw [Lib.count_one];rfl
   have hI:∀ (x:ByteArray) (c:Array Value),x.size ≤ a0.size→Calls Tryz.prog 179 #[.string x,.string ⟨#[ch]⟩] (w.alloc (.cells c 9)) fun e w'=>e = .returned (.int .i64 (Lib.indexB x ⟨#[ch]⟩))∧w' = w.alloc (.cells c 9):=by
    intro x c _;refine (Tryz.strings_Index_one x ch _).mono fun e w' ⟨he,hw⟩=>⟨?_,hw⟩
    rw [he];show _ = Ending.returned (Value.int .i64 (Lib.index x.data.toList [ch]))
    rw [Lib.index_one]
   have c:=Any.strings_genSplit_core Tryz.lays221 (by kernel_rfl) a0 ⟨#[ch]⟩ 0 (-1) (Lib.countB a0 ⟨#[ch]⟩ + 1) w hs h1 (Nat.zero_le _) hI hC (by decide) (by decide) (by rw [if_pos (by decide)];omega);rw [Nat.add_sub_cancel,hlen] at c;have e2:Lib.cellsOf (Lib.splitB ⟨#[ch]⟩ 0 (Lib.countB a0 ⟨#[ch]⟩) a0) (Lib.countB a0 ⟨#[ch]⟩ + 1) = ((Lib.splitB ⟨#[ch]⟩ 0 (Lib.countB a0 ⟨#[ch]⟩) a0).map Value.string).toArray:=by rw [← hlen];exact Lib.cellsOf_full _
   rw [e2] at c;have hfr:=strings_Split.fresh w (Lib.splitB ⟨#[ch]⟩ 0 (Lib.countB a0 ⟨#[ch]⟩) a0) (by rw [hlen];omega) (by rw [hlen];omega);rw [hlen] at hfr;have HF:=Aside0.mk hfr;clear hfr e2 hI hC hle hlen hs;generalize Lib.splitB ⟨#[ch]⟩ 0 (Lib.countB a0 ⟨#[ch]⟩) a0 = ps at *;generalize Lib.countB a0 ⟨#[ch]⟩ + 1 = n at *;go_enter Tryz.func103,Tryz.ntmps103;go_wp2_with (go_at_call 155;refine c.mono ?_;rintro e w' ⟨rfl,hw⟩;rw [hw])
   go_ret
   exact ⟨_,rfl,HF.out,(Below.refl _ _).alloc (Nat.le_refl _) _⟩
  ·cases h
 ·cases h
end Go.Proofs.YtenbelecmmpdgaaGreatDoor.All
end
section
namespace Go.Proofs.YtenbelecmmpdgaaGreatDoor.All
open Go.RowKit Go.Proofs.YtenbelecmmpdgaaGreatDoorW.PrintWords Go.Proofs.YtenbelecmmpdgaaGreatDoorW.PrintLast Go.Proofs.YtenbelecmmpdgaaGreatDoorW.PrintMore
open Go.Proofs.YtenbelecmmpdgaaGreatDoorW.Mine
attribute [local go_sem] gtr_string leq_string geq_string
attribute [local go_sem] max2_int min2_int max_two min_two max_three min_three max_four min_four
set_option linter.unusedVariables false
set_option linter.unusedSimpArgs false
mutual
def path_Check.j0:Nat→ByteArray→Bool→Option (Int)
 | 0,_,_=>none
 | k + 1,x0,x12=>if x12 = true then (some 1) else ((strings_IndexByte.f x0 0).bind fun t101=>(if t101 ≥ 0 then (some 3) else ((strings_Split.f x0 (⟨#[47]⟩:ByteArray)).bind fun t102=>(path_Check.l0 k t102 (t102.length:Int) 0))))
def path_Check.l0:Nat→List ByteArray→Int→Int→Option (Int)
 | 0,_,_,_=>none
 | k + 1,x17,x18,x19=>if x19 < x18 then (if 0 ≤ x19 then (if x19 < (x17.length:Int) then (if (rdOf ByteArray.empty x17 x19).toList = ([]:List UInt8) then (some 9) else (if (rdOf ByteArray.empty x17 x19).toList = ([46]:List UInt8) then (some 9) else (if (rdOf ByteArray.empty x17 x19).toList = ([46,46]:List UInt8) then (some 9) else (path_Check.l0 k x17 x18 (wrap64 (x19 + 1)))))) else (none)) else (none)) else (some 0)
end
def path_Check.f (k:Nat) (a0:ByteArray):Option (Int):=if (a0.size:Int) < 1 then (path_Check.j0 k a0 true) else (path_Check.j0 k a0 (decide ((a0.size:Int) > 400)))
set_option maxHeartbeats 8000000 in
set_option maxRecDepth 100000 in
theorem path_Check.calls (k:Nat) (a0:ByteArray) (r:Int) (w:World) (h:path_Check.f k a0 = some r) :
 Calls Tryz.prog 54 #[.string a0] w fun e w'=>e = .returned (.int .i64 r)∧Below w.heap.size w w':=by
 have HB:=Aside0.mk (Below.refl w.heap.size w);have H:(if (a0.size:Int) < 1 then (path_Check.j0 k a0 true) else (path_Check.j0 k a0 (decide ((a0.size:Int) > 400)))) = some r:=h;clear h;have HC2:=Aside0.mk H;clear H;go_enter Tryz.func54,Tryz.ntmps54;go_upto_region 1 with (fail)
 go_cut [12] (fun v12 wc=>∃ (kq:Nat) (x12_1:Bool),v12 = .bool x12_1∧Aside0 (path_Check.j0 kq a0 x12_1 = some r)∧Aside0 (kq ≤ k)∧Aside0 (Below w.heap.size w wc))
 case first =>
  have H:=HC2.out;clear HC2;by_cases c3:(a0.size:Int) < 1
  ·rw [if_pos c3] at H;have c3b0:decide ((a0.size:Int) < 1) = true:=decide_eq_true c3;have c3b1:decide (a0.size < 1) = true:=decide_eq_true (by omega);clear c3;(first|rw [c3b0]|(simp only [i64_w,i32_w];rw [c3b0])|skip);have H':=Aside0.mk H;clear H;go_wp2;go_meet
   case rel=>exact ⟨_,(true),(by first|rfl|(simp;done)|(simp [*];done)),H',⟨by first|omega|exact Nat.le_refl _⟩,⟨by repeat (first|(with_reducible first|exact HB.out|apply bwA|apply pwbN|apply bw1)|exact HB.out)⟩⟩
  ·rw [if_neg c3] at H;have c3b0:decide ((a0.size:Int) < 1) = false:=decide_eq_false c3;have c3b1:decide (a0.size < 1) = false:=decide_eq_false (by omega);clear c3;(first|rw [c3b0]|(simp only [i64_w,i32_w];rw [c3b0])|skip);have H':=Aside0.mk H;clear H;go_wp2;go_meet
   case rel=>exact ⟨_,(decide ((a0.size:Int) > 400)),(by first|rfl|(simp;done)|(simp [*];done)),H',⟨by first|omega|exact Nat.le_refl _⟩,⟨by repeat (first|(with_reducible first|exact HB.out|apply bwA|apply pwbN|apply bw1)|exact HB.out)⟩⟩
 case rest =>
  clear HC2;obtain ⟨kq,x12_1,rfl,HA,HJ1,HB⟩:=hcut;cases kq with
  | zero=>exact absurd HA.out (by simp [path_Check.j0])
  | succ kj1 =>
   have H:=HA.out;clear HA;simp only [path_Check.j0] at H;by_cases c4:x12_1 = true
   ·subst c4;have H1:(some 1) = some r:=by rw [if_pos rfl] at H;exact H
    clear H;have H:=H1;clear H1;obtain rfl:=Option.some.inj H;go_wp2;go_ret
    exact ⟨by first|rfl|(simp [errW_none,errW_some] <;> rfl)|(simp [*,errW_none,errW_some] <;> rfl),by repeat (first|(with_reducible first|exact HB.out|apply bwA|apply pwbN|apply bw1)|exact HB.out)⟩
   ·replace c4:=Bool.eq_false_iff.mpr c4;subst c4;have H1:((strings_IndexByte.f a0 0).bind fun t101=>(if t101 ≥ 0 then (some 3) else ((strings_Split.f a0 (⟨#[47]⟩:ByteArray)).bind fun t102=>(path_Check.l0 kj1 t102 (t102.length:Int) 0)))) = some r:=by rw [if_neg (show ¬ (false = true) by decide)] at H;exact H
    clear H;have H:=H1;clear H1;replace H:=Option.bind_eq_some_iff.mp H;obtain ⟨t101,A50,H⟩:=H;replace H:(if t101 ≥ 0 then (some 3) else ((strings_Split.f a0 (⟨#[47]⟩:ByteArray)).bind fun t102=>(path_Check.l0 kj1 t102 (t102.length:Int) 0))) = some r:=H;have A5:=Aside0.mk A50;clear A50;by_cases c6:t101 ≥ 0
    ·rw [if_pos c6] at H;have c6b0:decide (0 ≤ t101) = true:=decide_eq_true c6;clear c6;obtain rfl:=Option.some.inj H;go_wp2_with (first|((with_reducible refine gate_callee (f:=56) rfl ?_);refine goesL_ (some 14) rfl rfl Tryz.func56 (by kernel_rfl) rfl #[.string a0,.int .u8 0] rfl (by (try simp only [List.map_toArray,List.map_cons,List.map_nil]);first|done|rfl|(simp only [List.length_drop,List.length_take];rfl)) ?_;(with_reducible refine (strings_IndexByte.calls a0 0 t101 _ A5.out).mono ?_);rintro e w' ⟨rfl,⟨nd,rfl⟩⟩;refine ⟨_,rfl,?_⟩))
     go_ret
     exact ⟨by first|rfl|(simp [errW_none,errW_some] <;> rfl)|(simp [*,errW_none,errW_some] <;> rfl),by repeat (first|(with_reducible first|exact HB.out|apply bwA|apply pwbN|apply bw1)|exact HB.out)⟩
    ·rw [if_neg c6] at H;have c6b0:decide (0 ≤ t101) = false:=decide_eq_false c6;clear c6;replace H:=Option.bind_eq_some_iff.mp H;obtain ⟨t102,A70,H⟩:=H;replace H:(path_Check.l0 kj1 t102 (t102.length:Int) 0) = some r:=H;have A7:=Aside0.mk A70;clear A70;have H':=Aside0.mk H;clear H;go_wp2_with (first|((with_reducible refine gate_callee (f:=56) rfl ?_);refine goesL_ (some 14) rfl rfl Tryz.func56 (by kernel_rfl) rfl #[.string a0,.int .u8 0] rfl (by (try simp only [List.map_toArray,List.map_cons,List.map_nil]);first|done|rfl|(simp only [List.length_drop,List.length_take];rfl)) ?_;(with_reducible refine (strings_IndexByte.calls a0 0 t101 _ A5.out).mono ?_);rintro e w' ⟨rfl,⟨nd,rfl⟩⟩;refine ⟨_,rfl,?_⟩)|((with_reducible refine gate_callee (f:=103) rfl ?_);refine goesL_ (some 17) rfl rfl Tryz.func103 (by kernel_rfl) rfl #[.string a0,.string (⟨#[47]⟩:ByteArray)] rfl (by (try simp only [List.map_toArray,List.map_cons,List.map_nil]);first|done|rfl|(simp only [List.length_drop,List.length_take];rfl)) ?_;(with_reducible refine (strings_Split.calls a0 (⟨#[47]⟩:ByteArray) t102 _ A7.out).mono ?_);rintro e w8 ⟨v103,rfl,ho0,hb⟩;refine ⟨_,rfl,?_⟩;have n0_:=Aside0.mk (Kd.R_lower ho0 (below_size (by repeat (first|(with_reducible first|exact HB.out|apply bwA|apply pwbN|apply bw1)|exact HB.out))));have n1_:=Aside0.mk (below_step (by repeat (first|(with_reducible first|exact HB.out|apply bwA|apply pwbN|apply bw1)|exact HB.out)) hb);clear HB;have HO104:=n0_;have HB:=n1_;clear n0_ n1_;(try clear hb);(try clear hb2);(try clear hk);(try clear hi);(try clear ho0);obtain ⟨Ao9,co9,eo9⟩:=Kd.R_slice HO104.out;subst eo9))
     go_loopg [19] kj1 (fun kq v19 w'=>∃ (x19_2:Int),v19 = .int .i64 x19_2∧Aside0 (path_Check.l0 kq t102 (t102.length:Int) x19_2 = some r)∧Aside0 (kq ≤ kj1)∧Aside0 (Kd.R Kd.string 9 w' w.heap.size (fun _=>True) (.slice Ao9 t102.length co9) t102)∧Aside0 (Below w.heap.size w w'))
     case atStart=>exact ⟨(0),(by first|rfl|(simp;done)|(simp [*];done)),H',⟨Nat.le_refl _⟩,⟨by (with_reducible repeat (first|apply Kd.R_alloc|apply Kd.R_drewN|apply Kd.R_drew));exact HO104.out⟩,⟨by repeat (first|(with_reducible first|exact HB.out|apply bwA|apply pwbN|apply bw1)|exact HB.out)⟩⟩
     case round =>
      clear H';repeat first|clear c4|clear c6|clear c6b0
      obtain ⟨x19_2,rfl,HA,HK2,HO_17,HB⟩:=hrel;cases gk with
      | zero=>exact absurd HA.out (by simp [path_Check.l0])
      | succ k2 =>
       have H:=HA.out;clear HA;simp only [path_Check.l0] at H;by_cases c10:x19_2 < (t102.length:Int)
       ·rw [if_pos c10] at H;have c10b0:decide (x19_2 < (t102.length:Int)) = true:=decide_eq_true c10;clear c10;by_cases c11:0 ≤ x19_2
        ·rw [if_pos c11] at H;have c11b0:decide (0 ≤ x19_2) = true:=decide_eq_true c11;clear c11;by_cases c12:x19_2 < (t102.length:Int)
         ·rw [if_pos c12] at H;have c12b0:decide (x19_2 < (t102.length:Int)) = true:=decide_eq_true c12;clear c12;by_cases c13:(rdOf ByteArray.empty t102 x19_2).toList = ([]:List UInt8)
          ·rw [if_pos c13] at H;have c13b0:((rdOf ByteArray.empty t102 x19_2).toList == ([]:List UInt8)) = true:=beq_iff_eq.mpr c13;have c13b1:((rdOf ByteArray.empty t102 x19_2).toList != ([]:List UInt8)) = false:=bne_eq_false_iff_eq.mpr c13;clear c13;obtain rfl:=Option.some.inj H;have p105:0 ≤ (x19_2:Int):=of_decide_eq_true (by first|(with_reducible assumption)|assumption);have q105:x19_2 < (t102.length:Int):=of_decide_eq_true (by first|(with_reducible assumption)|assumption);obtain ⟨ad105,e105,hx105_0⟩:=Kd.at_string (Kd.R_reads' HO_17.out).2.2 x19_2 p105 q105;cases e105;replace p105:=eq_true p105;replace q105:=eq_true q105;go_wp2;go_ret
           exact ⟨by first|rfl|(simp [errW_none,errW_some] <;> rfl)|(simp [*,errW_none,errW_some] <;> rfl),by repeat (first|(with_reducible first|exact HB.out|apply bwA|apply pwbN|apply bw1)|exact HB.out)⟩
          ·rw [if_neg c13] at H;have c13b0:((rdOf ByteArray.empty t102 x19_2).toList == ([]:List UInt8)) = false:=beq_eq_false_iff_ne.mpr c13;have c13b1:((rdOf ByteArray.empty t102 x19_2).toList != ([]:List UInt8)) = true:=bne_iff_ne.mpr c13;by_cases c14:(rdOf ByteArray.empty t102 x19_2).toList = ([46]:List UInt8)
           ·rw [if_pos c14] at H;have c14b0:((rdOf ByteArray.empty t102 x19_2).toList == ([46]:List UInt8)) = true:=beq_iff_eq.mpr c14;have c14b1:((rdOf ByteArray.empty t102 x19_2).toList != ([46]:List UInt8)) = false:=bne_eq_false_iff_eq.mpr c14;clear c14;obtain rfl:=Option.some.inj H;have p105:0 ≤ (x19_2:Int):=of_decide_eq_true (by first|(with_reducible assumption)|assumption);have q105:x19_2 < (t102.length:Int):=of_decide_eq_true (by first|(with_reducible assumption)|assumption);obtain ⟨ad105,e105,hx105_0⟩:=Kd.at_string (Kd.R_reads' HO_17.out).2.2 x19_2 p105 q105;cases e105;replace p105:=eq_true p105;replace q105:=eq_true q105;go_wp2;go_ret
            exact ⟨by first|rfl|(simp [errW_none,errW_some] <;> rfl)|(simp [*,errW_none,errW_some] <;> rfl),by repeat (first|(with_reducible first|exact HB.out|apply bwA|apply pwbN|apply bw1)|exact HB.out)⟩
           ·rw [if_neg c14] at H;have c14b0:((rdOf ByteArray.empty t102 x19_2).toList == ([46]:List UInt8)) = false:=beq_eq_false_iff_ne.mpr c14;have c14b1:((rdOf ByteArray.empty t102 x19_2).toList != ([46]:List UInt8)) = true:=bne_iff_ne.mpr c14;by_cases c15:(rdOf ByteArray.empty t102 x19_2).toList = ([46,46]:List UInt8)
            ·rw [if_pos c15] at H;have c15b0:((rdOf ByteArray.empty t102 x19_2).toList == ([46,46]:List UInt8)) = true:=beq_iff_eq.mpr c15;have c15b1:((rdOf ByteArray.empty t102 x19_2).toList != ([46,46]:List UInt8)) = false:=bne_eq_false_iff_eq.mpr c15;clear c15;obtain rfl:=Option.some.inj H;have p105:0 ≤ (x19_2:Int):=of_decide_eq_true (by first|(with_reducible assumption)|assumption);have q105:x19_2 < (t102.length:Int):=of_decide_eq_true (by first|(with_reducible assumption)|assumption);obtain ⟨ad105,e105,hx105_0⟩:=Kd.at_string (Kd.R_reads' HO_17.out).2.2 x19_2 p105 q105;cases e105;replace p105:=eq_true p105;replace q105:=eq_true q105;go_wp2;go_ret
             exact ⟨by first|rfl|(simp [errW_none,errW_some] <;> rfl)|(simp [*,errW_none,errW_some] <;> rfl),by repeat (first|(with_reducible first|exact HB.out|apply bwA|apply pwbN|apply bw1)|exact HB.out)⟩
            ·rw [if_neg c15] at H;have c15b0:((rdOf ByteArray.empty t102 x19_2).toList == ([46,46]:List UInt8)) = false:=beq_eq_false_iff_ne.mpr c15;have c15b1:((rdOf ByteArray.empty t102 x19_2).toList != ([46,46]:List UInt8)) = true:=bne_iff_ne.mpr c15;have H':=Aside0.mk H;clear H;have p105:0 ≤ (x19_2:Int):=of_decide_eq_true (by first|(with_reducible assumption)|assumption);have q105:x19_2 < (t102.length:Int):=of_decide_eq_true (by first|(with_reducible assumption)|assumption);obtain ⟨ad105,e105,hx105_0⟩:=Kd.at_string (Kd.R_reads' HO_17.out).2.2 x19_2 p105 q105;cases e105;replace p105:=eq_true p105;replace q105:=eq_true q105;go_wp2;go_roundg k2
             case measure=>have:=HJ1.out;have:=HK2.out;omega
             case rel=>exact ⟨(wrap64 (x19_2 + 1)),(by first|rfl|(simp;done)|(simp [*];done)),H',⟨by have:=HJ1.out;have:=HK2.out;omega⟩,⟨by (with_reducible repeat (first|apply Kd.R_alloc|apply Kd.R_drewN|apply Kd.R_drew));exact HO_17.out⟩,⟨by repeat (first|(with_reducible first|exact HB.out|apply bwA|apply pwbN|apply bw1)|exact HB.out)⟩⟩
         ·rw [if_neg c12] at H;exact absurd H (by simp)
        ·rw [if_neg c11] at H;exact absurd H (by simp)
       ·rw [if_neg c10] at H;have c10b0:decide (x19_2 < (t102.length:Int)) = false:=decide_eq_false c10;clear c10;obtain rfl:=Option.some.inj H;go_wp2;go_ret
        exact ⟨by first|rfl|(simp [errW_none,errW_some] <;> rfl)|(simp [*,errW_none,errW_some] <;> rfl),by repeat (first|(with_reducible first|exact HB.out|apply bwA|apply pwbN|apply bw1)|exact HB.out)⟩
end Go.Proofs.YtenbelecmmpdgaaGreatDoor.All
end
section
namespace Go.Proofs.YtenbelecmmpdgaaGreatDoor.All
open Go.RowKit Go.Proofs.YtenbelecmmpdgaaGreatDoorW.PrintWords Go.Proofs.YtenbelecmmpdgaaGreatDoorW.PrintLast Go.Proofs.YtenbelecmmpdgaaGreatDoorW.PrintMore
open Go.Proofs.YtenbelecmmpdgaaGreatDoorW.Mine
attribute [local go_sem] gtr_string leq_string geq_string
attribute [local go_sem] max2_int min2_int max_two min_two max_three min_three max_four min_four
set_option linter.unusedVariables false
set_option linter.unusedSimpArgs false
def stamp_Check.f (a0:Int) (a1:Int):Option (Int):=if a0 < (-1099511627776) then (some 4) else (if a0 > 1099511627776 then (some 4) else (if a1 < 0 then (some 4) else (if a1 > 999999999 then (some 4) else (some 0))))
set_option maxHeartbeats 8000000 in
set_option maxRecDepth 100000 in
theorem stamp_Check.calls (a0:Int) (a1:Int) (r:Int) (w:World) (h:stamp_Check.f a0 a1 = some r) :
 Calls Tryz.prog 104 #[.int .i64 a0,.int .i64 a1] w fun e w'=>e = .returned (.int .i64 r)∧Drawn0 w w':=by
 have H:(if a0 < (-1099511627776) then (some 4) else (if a0 > 1099511627776 then (some 4) else (if a1 < 0 then (some 4) else (if a1 > 999999999 then (some 4) else (some 0))))) = some r:=h;clear h;by_cases c3:a0 < (-1099511627776)
 ·rw [if_pos c3] at H;have c3b0:decide (a0 < (-1099511627776)) = true:=decide_eq_true c3;clear c3;obtain rfl:=Option.some.inj H;go_enter Tryz.func104,Tryz.ntmps104;go_wp2;go_ret
  exact ⟨by first|rfl|(simp;done)|(simp [*];done),by repeat (first|exact Drawn0.refl _|apply Drawn0.step)⟩
 ·rw [if_neg c3] at H;have c3b0:decide (a0 < (-1099511627776)) = false:=decide_eq_false c3;clear c3;by_cases c4:a0 > 1099511627776
  ·rw [if_pos c4] at H;have c4b0:decide (1099511627776 < a0) = true:=decide_eq_true c4;clear c4;obtain rfl:=Option.some.inj H;go_enter Tryz.func104,Tryz.ntmps104;go_wp2;go_ret
   exact ⟨by first|rfl|(simp;done)|(simp [*];done),by repeat (first|exact Drawn0.refl _|apply Drawn0.step)⟩
  ·rw [if_neg c4] at H;have c4b0:decide (1099511627776 < a0) = false:=decide_eq_false c4;clear c4;by_cases c5:a1 < 0
   ·rw [if_pos c5] at H;have c5b0:decide (a1 < 0) = true:=decide_eq_true c5;clear c5;obtain rfl:=Option.some.inj H;go_enter Tryz.func104,Tryz.ntmps104;go_wp2;go_ret
    exact ⟨by first|rfl|(simp;done)|(simp [*];done),by repeat (first|exact Drawn0.refl _|apply Drawn0.step)⟩
   ·rw [if_neg c5] at H;have c5b0:decide (a1 < 0) = false:=decide_eq_false c5;clear c5;by_cases c6:a1 > 999999999
    ·rw [if_pos c6] at H;have c6b0:decide (999999999 < a1) = true:=decide_eq_true c6;clear c6;obtain rfl:=Option.some.inj H;go_enter Tryz.func104,Tryz.ntmps104;go_wp2;go_ret
     exact ⟨by first|rfl|(simp;done)|(simp [*];done),by repeat (first|exact Drawn0.refl _|apply Drawn0.step)⟩
    ·rw [if_neg c6] at H;have c6b0:decide (999999999 < a1) = false:=decide_eq_false c6;clear c6;obtain rfl:=Option.some.inj H;go_enter Tryz.func104,Tryz.ntmps104;go_wp2;go_ret
     exact ⟨by first|rfl|(simp;done)|(simp [*];done),by repeat (first|exact Drawn0.refl _|apply Drawn0.step)⟩
end Go.Proofs.YtenbelecmmpdgaaGreatDoor.All
end
section
namespace Go.Proofs.YtenbelecmmpdgaaGreatDoor.All
open Go.RowKit Go.Proofs.YtenbelecmmpdgaaGreatDoorW.PrintWords Go.Proofs.YtenbelecmmpdgaaGreatDoorW.PrintLast Go.Proofs.YtenbelecmmpdgaaGreatDoorW.PrintMore
open Go.Proofs.YtenbelecmmpdgaaGreatDoorW.Mine
attribute [local go_sem] gtr_string leq_string geq_string
attribute [local go_sem] max2_int min2_int max_two min_two max_three min_three max_four min_four
set_option linter.unusedVariables false
set_option linter.unusedSimpArgs false
mutual
def meta_Check.j0:Nat→Bool→Int→Int→Int→ByteArray→ByteArray→Int→Int→Option (Int)
 | 0,_,_,_,_,_,_,_,_=>none
 | k + 1,x3,x102000,x102001,x102002,x102003,x102004,x102005,x102006=>if x3 = true then (meta_Check.j1 k x3 x102000 x102001 x102002 x102003 x102004 x102005 x102006) else (if x102001 < 0 then (meta_Check.j1 k true x102000 x102001 x102002 x102003 x102004 x102005 x102006) else (if x102001 > 1125899906842624 then (meta_Check.j1 k (decide (x102001 > 1125899906842624)) x102000 x102001 x102002 x102003 x102004 x102005 x102006) else (if x102002 < 0 then (meta_Check.j1 k true x102000 x102001 x102002 x102003 x102004 x102005 x102006) else (meta_Check.j1 k (decide (x102002 > 1125899906842624)) x102000 x102001 x102002 x102003 x102004 x102005 x102006))))
def meta_Check.j1:Nat→Bool→Int→Int→Int→ByteArray→ByteArray→Int→Int→Option (Int)
 | 0,_,_,_,_,_,_,_,_=>none
 | k + 1,x3,x102000,x102001,x102002,x102003,x102004,x102005,x102006=>if x3 = true then (some 4) else (if (x102003.size:Int) > 60 then (meta_Check.j2 k true x102000 x102001 x102002 x102003 x102004 x102005 x102006) else (meta_Check.j2 k (decide ((x102004.size:Int) > 60)) x102000 x102001 x102002 x102003 x102004 x102005 x102006))
def meta_Check.j2:Nat→Bool→Int→Int→Int→ByteArray→ByteArray→Int→Int→Option (Int)
 | 0,_,_,_,_,_,_,_,_=>none
 | k + 1,x28,x102000,x102001,x102002,x102003,x102004,x102005,x102006=>if x28 = true then (some 1) else (if x102003.size + x102004.size ≤ 9223372036854775807 then ((strings_IndexByte.f (x102003 ++ x102004) 0).bind fun t102=>(if t102 ≥ 0 then (some 3) else ((stamp_Check.f x102005 x102006).bind fun t103=>(some t103)))) else (none))
end
def meta_Check.f (k:Nat) (a0_0:Int) (a0_1:Int) (a0_2:Int) (a0_3:ByteArray) (a0_4:ByteArray) (a0_5:Int) (a0_6:Int):Option (Int):=if a0_0 < 0 then (meta_Check.j0 k true a0_0 a0_1 a0_2 a0_3 a0_4 a0_5 a0_6) else (meta_Check.j0 k (decide (a0_0 > 4095)) a0_0 a0_1 a0_2 a0_3 a0_4 a0_5 a0_6)
set_option maxHeartbeats 8000000 in
set_option maxRecDepth 100000 in
theorem meta_Check.calls (k:Nat) (a0_0:Int) (a0_1:Int) (a0_2:Int) (a0_3:ByteArray) (a0_4:ByteArray) (a0_5:Int) (a0_6:Int) (r:Int) (w:World) (h:meta_Check.f k a0_0 a0_1 a0_2 a0_3 a0_4 a0_5 a0_6 = some r) :
 Calls Tryz.prog 55 #[.agg #[.int .i64 a0_0,.int .i64 a0_1,.int .i64 a0_2,.string a0_3,.string a0_4,.int .i64 a0_5,.int .i64 a0_6]] w fun e w'=>e = .returned (.int .i64 r)∧Below w.heap.size w w':=by
 have hu23:=Tryz.underlying23;have HB:=Aside0.mk (Below.refl w.heap.size w);have H:(if a0_0 < 0 then (meta_Check.j0 k true a0_0 a0_1 a0_2 a0_3 a0_4 a0_5 a0_6) else (meta_Check.j0 k (decide (a0_0 > 4095)) a0_0 a0_1 a0_2 a0_3 a0_4 a0_5 a0_6)) = some r:=h;clear h;have HC2:=Aside0.mk H;clear H;go_enter Tryz.func55,Tryz.ntmps55;go_upto_region 1 with (first|((with_reducible refine gate_dst (N:=1) rfl ?_);(try (refine gate_guard (by rfl) ?_;dsimp only));refine box_event ?hg (N:=1) ?hd (cs:=#[.int .i64 a0_0,.int .i64 a0_1,.int .i64 a0_2,.string a0_3,.string a0_4,.int .i64 a0_5,.int .i64 a0_6]) (t:=23) ?hr ?_;(case hd=>rfl);(case hg=>rfl);(case hr=>first|(go_simp;done)|(go_simp;rfl));intro gb101 hg w3 hbox hb;have n0_:=Aside0.mk (below_step (by repeat (first|(with_reducible first|exact HB.out|apply bwA|apply pwbN|apply bw1)|exact HB.out)) hb);have n1_:=Aside0.mk (hbox);have n2_:=Aside0.mk ((by rw [hg];exact (below_size (by repeat (first|(with_reducible first|exact HB.out|apply bwA|apply pwbN|apply bw1)|exact HB.out))):w.heap.size ≤ gb101));have n3_:=Aside0.mk ((by rw [hg];exact (below_size (by repeat (first|(with_reducible first|exact HB.out|apply bwA|apply pwbN|apply bw1)|exact HB.out))):w.heap.size ≤ gb101));clear HB;have HB:=n0_;have BK101:=n1_;have GW101:=n2_;have GE101:=n3_;clear n0_ n1_ n2_ n3_;clear hb hbox hg))
 (try simp only [Act.put,List.setIfInBounds_toArray,List.set_cons_zero,List.set_cons_succ]);go_cut [3] (fun v3 wc=>∃ (kq:Nat) (x3_1:Bool),v3 = .bool x3_1∧Aside0 (meta_Check.j0 kq x3_1 a0_0 a0_1 a0_2 a0_3 a0_4 a0_5 a0_6 = some r)∧Aside0 (kq ≤ k)∧Aside0 (wc.heap[gb101]? = some (.cells #[.int .i64 a0_0,.int .i64 a0_1,.int .i64 a0_2,.string a0_3,.string a0_4,.int .i64 a0_5,.int .i64 a0_6] 23 (0,0)))∧Aside0 (Below w.heap.size w wc))
 case first =>
  have H:=HC2.out;clear HC2;by_cases c4:a0_0 < 0
  ·rw [if_pos c4] at H;have c4b0:decide (a0_0 < 0) = true:=decide_eq_true c4;clear c4;(first|rw [c4b0]|(simp only [i64_w,i32_w];rw [c4b0])|skip);have H':=Aside0.mk H;clear H;obtain ⟨_,_,_,_,_,_,_,_,_,_,_,_,_,_⟩:=blkA7 BK101.out;go_wp2;go_meet
   case rel=>exact ⟨_,(true),(by first|rfl|(simp;done)|(simp [*];done)),H',⟨by first|omega|exact Nat.le_refl _⟩,⟨by (with_reducible repeat (first|refine blk_drewN ?_ _|refine blk_drew ?_|refine blk_alloc ?_ _));exact BK101.out⟩,⟨by repeat (first|(with_reducible first|exact HB.out|apply bwA|apply pwbN|apply bw1|refine below_set ?_ GE101.out)|exact HB.out)⟩⟩
  ·rw [if_neg c4] at H;have c4b0:decide (a0_0 < 0) = false:=decide_eq_false c4;clear c4;(first|rw [c4b0]|(simp only [i64_w,i32_w];rw [c4b0])|skip);have H':=Aside0.mk H;clear H;obtain ⟨_,_,_,_,_,_,_,_,_,_,_,_,_,_⟩:=blkA7 BK101.out;go_wp2;go_meet
   case rel=>exact ⟨_,(decide (a0_0 > 4095)),(by first|rfl|(simp;done)|(simp [*];done)),H',⟨by first|omega|exact Nat.le_refl _⟩,⟨by (with_reducible repeat (first|refine blk_drewN ?_ _|refine blk_drew ?_|refine blk_alloc ?_ _));exact BK101.out⟩,⟨by repeat (first|(with_reducible first|exact HB.out|apply bwA|apply pwbN|apply bw1|refine below_set ?_ GE101.out)|exact HB.out)⟩⟩
 case rest =>
  clear HC2;obtain ⟨kq,x3_1,rfl,HA,HJ1,BK101,HB⟩:=hcut;cases kq with
  | zero=>exact absurd HA.out (by simp [meta_Check.j0])
  | succ kj1 =>
   have H:=HA.out;clear HA;simp only [meta_Check.j0] at H;have HC7:=Aside0.mk H;clear H;go_upto_if 3 with (fail)
   go_cut [3] (fun v3 wc=>∃ (kq:Nat) (x3_6:Bool),v3 = .bool x3_6∧Aside0 (meta_Check.j1 kq x3_6 a0_0 a0_1 a0_2 a0_3 a0_4 a0_5 a0_6 = some r)∧Aside0 (kq ≤ kj1)∧Aside0 (wc.heap[gb101]? = some (.cells #[.int .i64 a0_0,.int .i64 a0_1,.int .i64 a0_2,.string a0_3,.string a0_4,.int .i64 a0_5,.int .i64 a0_6] 23 (0,0)))∧Aside0 (Below w.heap.size w wc))
   case first =>
    have H:=HC7.out;clear HC7;by_cases c8:x3_1 = true
    ·subst c8;have H1:(meta_Check.j1 kj1 true a0_0 a0_1 a0_2 a0_3 a0_4 a0_5 a0_6) = some r:=by rw [if_pos rfl] at H;exact H
     clear H;have H:=H1;clear H1;have H':=Aside0.mk H;clear H;go_wp2;go_meet
     case rel=>exact ⟨_,(true),(by first|rfl|(simp;done)|(simp [*];done)),H',⟨by have:=HJ1.out;first|omega|exact Nat.le_refl _⟩,⟨by (with_reducible repeat (first|refine blk_drewN ?_ _|refine blk_drew ?_|refine blk_alloc ?_ _));exact BK101.out⟩,⟨by repeat (first|(with_reducible first|exact HB.out|apply bwA|apply pwbN|apply bw1|refine below_set ?_ GE101.out)|exact HB.out)⟩⟩
    ·replace c8:=Bool.eq_false_iff.mpr c8;subst c8;have H1:(if a0_1 < 0 then (meta_Check.j1 kj1 true a0_0 a0_1 a0_2 a0_3 a0_4 a0_5 a0_6) else (if a0_1 > 1125899906842624 then (meta_Check.j1 kj1 (decide (a0_1 > 1125899906842624)) a0_0 a0_1 a0_2 a0_3 a0_4 a0_5 a0_6) else (if a0_2 < 0 then (meta_Check.j1 kj1 true a0_0 a0_1 a0_2 a0_3 a0_4 a0_5 a0_6) else (meta_Check.j1 kj1 (decide (a0_2 > 1125899906842624)) a0_0 a0_1 a0_2 a0_3 a0_4 a0_5 a0_6)))) = some r:=by rw [if_neg (show ¬ (false = true) by decide)] at H;exact H
     clear H;have H:=H1;clear H1;by_cases c9:a0_1 < 0
     ·rw [if_pos c9] at H;have c9b0:decide (a0_1 < 0) = true:=decide_eq_true c9;clear c9;(first|rw [c9b0]|(simp only [i64_w,i32_w];rw [c9b0])|skip);have H':=Aside0.mk H;clear H;obtain ⟨_,_,_,_,_,_,_,_,_,_,_,_,_,_⟩:=blkA7 BK101.out;go_wp2;go_meet
      case rel=>exact ⟨_,(true),(by first|rfl|(simp;done)|(simp [*];done)),H',⟨by have:=HJ1.out;first|omega|exact Nat.le_refl _⟩,⟨by (with_reducible repeat (first|refine blk_drewN ?_ _|refine blk_drew ?_|refine blk_alloc ?_ _));exact BK101.out⟩,⟨by repeat (first|(with_reducible first|exact HB.out|apply bwA|apply pwbN|apply bw1|refine below_set ?_ GE101.out)|exact HB.out)⟩⟩
     ·rw [if_neg c9] at H;have c9b0:decide (a0_1 < 0) = false:=decide_eq_false c9;clear c9;(first|rw [c9b0]|(simp only [i64_w,i32_w];rw [c9b0])|skip);by_cases c11:a0_1 > 1125899906842624
      ·rw [if_pos c11] at H;have c11b0:decide (1125899906842624 < a0_1) = true:=decide_eq_true c11;clear c11;have H':=Aside0.mk H;clear H;obtain ⟨_,_,_,_,_,_,_,_,_,_,_,_,_,_⟩:=blkA7 BK101.out;go_wp2;go_meet
       case rel=>exact ⟨_,(decide (a0_1 > 1125899906842624)),(by first|rfl|(simp;done)|(simp [*];done)),H',⟨by have:=HJ1.out;first|omega|exact Nat.le_refl _⟩,⟨by (with_reducible repeat (first|refine blk_drewN ?_ _|refine blk_drew ?_|refine blk_alloc ?_ _));exact BK101.out⟩,⟨by repeat (first|(with_reducible first|exact HB.out|apply bwA|apply pwbN|apply bw1|refine below_set ?_ GE101.out)|exact HB.out)⟩⟩
      ·rw [if_neg c11] at H;have c11b0:decide (1125899906842624 < a0_1) = false:=decide_eq_false c11;clear c11;by_cases c13:a0_2 < 0
       ·rw [if_pos c13] at H;have c13b0:decide (a0_2 < 0) = true:=decide_eq_true c13;clear c13;have H':=Aside0.mk H;clear H;obtain ⟨_,_,_,_,_,_,_,_,_,_,_,_,_,_⟩:=blkA7 BK101.out;go_wp2;go_meet
        case rel=>exact ⟨_,(true),(by first|rfl|(simp;done)|(simp [*];done)),H',⟨by have:=HJ1.out;first|omega|exact Nat.le_refl _⟩,⟨by (with_reducible repeat (first|refine blk_drewN ?_ _|refine blk_drew ?_|refine blk_alloc ?_ _));exact BK101.out⟩,⟨by repeat (first|(with_reducible first|exact HB.out|apply bwA|apply pwbN|apply bw1|refine below_set ?_ GE101.out)|exact HB.out)⟩⟩
       ·rw [if_neg c13] at H;have c13b0:decide (a0_2 < 0) = false:=decide_eq_false c13;clear c13;have H':=Aside0.mk H;clear H;obtain ⟨_,_,_,_,_,_,_,_,_,_,_,_,_,_⟩:=blkA7 BK101.out;go_wp2;go_meet
        case rel=>exact ⟨_,(decide (a0_2 > 1125899906842624)),(by first|rfl|(simp;done)|(simp [*];done)),H',⟨by have:=HJ1.out;first|omega|exact Nat.le_refl _⟩,⟨by (with_reducible repeat (first|refine blk_drewN ?_ _|refine blk_drew ?_|refine blk_alloc ?_ _));exact BK101.out⟩,⟨by repeat (first|(with_reducible first|exact HB.out|apply bwA|apply pwbN|apply bw1|refine below_set ?_ GE101.out)|exact HB.out)⟩⟩
   case rest =>
    clear HC7;obtain ⟨kq,x3_6,rfl,HA,HJ6,BK101,HB⟩:=hcut;cases kq with
    | zero=>exact absurd HA.out (by simp [meta_Check.j1])
    | succ kj6 =>
     have H:=HA.out;clear HA;simp only [meta_Check.j1] at H;by_cases c16:x3_6 = true
     ·subst c16;have H1:(some 4) = some r:=by rw [if_pos rfl] at H;exact H
      clear H;have H:=H1;clear H1;obtain rfl:=Option.some.inj H;go_wp2;go_ret
      exact ⟨by first|rfl|(simp [errW_none,errW_some] <;> rfl)|(simp [*,errW_none,errW_some] <;> rfl),by repeat (first|(with_reducible first|exact HB.out|apply bwA|apply pwbN|apply bw1|refine below_set ?_ GE101.out)|exact HB.out)⟩
     ·replace c16:=Bool.eq_false_iff.mpr c16;subst c16;have H1:(if (a0_3.size:Int) > 60 then (meta_Check.j2 kj6 true a0_0 a0_1 a0_2 a0_3 a0_4 a0_5 a0_6) else (meta_Check.j2 kj6 (decide ((a0_4.size:Int) > 60)) a0_0 a0_1 a0_2 a0_3 a0_4 a0_5 a0_6)) = some r:=by rw [if_neg (show ¬ (false = true) by decide)] at H;exact H
      clear H;have H:=H1;clear H1;have HC17:=Aside0.mk H;clear H;go_upto_region 5 with (fail)
      go_cut [28] (fun v28 wc=>∃ (kq:Nat) (x28_16:Bool),v28 = .bool x28_16∧Aside0 (meta_Check.j2 kq x28_16 a0_0 a0_1 a0_2 a0_3 a0_4 a0_5 a0_6 = some r)∧Aside0 (kq ≤ kj6)∧Aside0 (wc.heap[gb101]? = some (.cells #[.int .i64 a0_0,.int .i64 a0_1,.int .i64 a0_2,.string a0_3,.string a0_4,.int .i64 a0_5,.int .i64 a0_6] 23 (0,0)))∧Aside0 (Below w.heap.size w wc))
      case first =>
       have H:=HC17.out;clear HC17;by_cases c18:(a0_3.size:Int) > 60
       ·rw [if_pos c18] at H;have c18b0:decide (60 < (a0_3.size:Int)) = true:=decide_eq_true c18;have c18b1:decide (60 < a0_3.size) = true:=decide_eq_true (by omega);clear c18;(first|rw [c18b0]|(simp only [i64_w,i32_w];rw [c18b0])|skip);have H':=Aside0.mk H;clear H;obtain ⟨_,_,_,_,_,_,_,_,_,_,_,_,_,_⟩:=blkA7 BK101.out;go_wp2;go_meet
        case rel=>exact ⟨_,(true),(by first|rfl|(simp;done)|(simp [*];done)),H',⟨by have:=HJ1.out;have:=HJ6.out;first|omega|exact Nat.le_refl _⟩,⟨by (with_reducible repeat (first|refine blk_drewN ?_ _|refine blk_drew ?_|refine blk_alloc ?_ _));exact BK101.out⟩,⟨by repeat (first|(with_reducible first|exact HB.out|apply bwA|apply pwbN|apply bw1|refine below_set ?_ GE101.out)|exact HB.out)⟩⟩
       ·rw [if_neg c18] at H;have c18b0:decide (60 < (a0_3.size:Int)) = false:=decide_eq_false c18;have c18b1:decide (60 < a0_3.size) = false:=decide_eq_false (by omega);clear c18;(first|rw [c18b0]|(simp only [i64_w,i32_w];rw [c18b0])|skip);have H':=Aside0.mk H;clear H;obtain ⟨_,_,_,_,_,_,_,_,_,_,_,_,_,_⟩:=blkA7 BK101.out;go_wp2;go_meet
        case rel=>exact ⟨_,(decide ((a0_4.size:Int) > 60)),(by first|rfl|(simp;done)|(simp [*];done)),H',⟨by have:=HJ1.out;have:=HJ6.out;first|omega|exact Nat.le_refl _⟩,⟨by (with_reducible repeat (first|refine blk_drewN ?_ _|refine blk_drew ?_|refine blk_alloc ?_ _));exact BK101.out⟩,⟨by repeat (first|(with_reducible first|exact HB.out|apply bwA|apply pwbN|apply bw1|refine below_set ?_ GE101.out)|exact HB.out)⟩⟩
      case rest =>
       clear HC17;try clear c16
       obtain ⟨kq,x28_16,rfl,HA,HJ16,BK101,HB⟩:=hcut;cases kq with
       | zero=>exact absurd HA.out (by simp [meta_Check.j2])
       | succ kj16 =>
        have H:=HA.out;clear HA;simp only [meta_Check.j2] at H;by_cases c21:x28_16 = true
        ·subst c21;have H1:(some 1) = some r:=by rw [if_pos rfl] at H;exact H
         clear H;have H:=H1;clear H1;obtain rfl:=Option.some.inj H;go_wp2;go_ret
         exact ⟨by first|rfl|(simp [errW_none,errW_some] <;> rfl)|(simp [*,errW_none,errW_some] <;> rfl),by repeat (first|(with_reducible first|exact HB.out|apply bwA|apply pwbN|apply bw1|refine below_set ?_ GE101.out)|exact HB.out)⟩
        ·replace c21:=Bool.eq_false_iff.mpr c21;subst c21;have H1:(if a0_3.size + a0_4.size ≤ 9223372036854775807 then ((strings_IndexByte.f (a0_3 ++ a0_4) 0).bind fun t102=>(if t102 ≥ 0 then (some 3) else ((stamp_Check.f a0_5 a0_6).bind fun t103=>(some t103)))) else (none)) = some r:=by rw [if_neg (show ¬ (false = true) by decide)] at H;exact H
         clear H;have H:=H1;clear H1;by_cases c22:a0_3.size + a0_4.size ≤ 9223372036854775807
         ·rw [if_pos c22] at H;have c22b0:=eq_true c22;have c22b1:decide (a0_3.size + a0_4.size ≤ 9223372036854775807) = true:=decide_eq_true c22;try have c22b2:(9223372036854775807 < a0_3.size + a0_4.size) = False:=eq_false (Nat.not_lt.2 c22)
          replace H:=Option.bind_eq_some_iff.mp H;obtain ⟨t102,A230,H⟩:=H;replace H:(if t102 ≥ 0 then (some 3) else ((stamp_Check.f a0_5 a0_6).bind fun t103=>(some t103))) = some r:=H;have A23:=Aside0.mk A230;clear A230;by_cases c24:t102 ≥ 0
          ·rw [if_pos c24] at H;have c24b0:decide (0 ≤ t102) = true:=decide_eq_true c24;clear c24;obtain rfl:=Option.some.inj H;obtain ⟨_,_,_,_,_,_,_,_,_,_,_,_,_,_⟩:=blkA7 BK101.out;go_wp2_with (first|((with_reducible refine gate_callee (f:=56) rfl ?_);refine goesL_ (some 45) rfl rfl Tryz.func56 (by kernel_rfl) rfl #[.string (a0_3 ++ a0_4),.int .u8 0] rfl (by (try simp only [List.map_toArray,List.map_cons,List.map_nil]);first|done|rfl|(simp only [List.length_drop,List.length_take];rfl)) ?_;(with_reducible refine (strings_IndexByte.calls (a0_3 ++ a0_4) 0 t102 _ A23.out).mono ?_);rintro e w' ⟨rfl,⟨nd,rfl⟩⟩;refine ⟨_,rfl,?_⟩))
           go_ret
           exact ⟨by first|rfl|(simp [errW_none,errW_some] <;> rfl)|(simp [*,errW_none,errW_some] <;> rfl),by repeat (first|(with_reducible first|exact HB.out|apply bwA|apply pwbN|apply bw1|refine below_set ?_ GE101.out)|exact HB.out)⟩
          ·rw [if_neg c24] at H;have c24b0:decide (0 ≤ t102) = false:=decide_eq_false c24;clear c24;replace H:=Option.bind_eq_some_iff.mp H;obtain ⟨t103,A260,H⟩:=H;replace H:(some t103) = some r:=H;have A26:=Aside0.mk A260;clear A260;obtain rfl:=Option.some.inj H;obtain ⟨_,_,_,_,_,_,_,_,_,_,_,_,_,_⟩:=blkA7 BK101.out;go_wp2_with (first|((with_reducible refine gate_callee (f:=56) rfl ?_);refine goesL_ (some 45) rfl rfl Tryz.func56 (by kernel_rfl) rfl #[.string (a0_3 ++ a0_4),.int .u8 0] rfl (by (try simp only [List.map_toArray,List.map_cons,List.map_nil]);first|done|rfl|(simp only [List.length_drop,List.length_take];rfl)) ?_;(with_reducible refine (strings_IndexByte.calls (a0_3 ++ a0_4) 0 t102 _ A23.out).mono ?_);rintro e w' ⟨rfl,⟨nd,rfl⟩⟩;refine ⟨_,rfl,?_⟩)|((with_reducible refine gate_callee (f:=104) rfl ?_);refine goesL_ (some 51) rfl rfl Tryz.func104 (by kernel_rfl) rfl #[.int .i64 a0_5,.int .i64 a0_6] rfl (by (try simp only [List.map_toArray,List.map_cons,List.map_nil]);first|done|rfl|(simp only [List.length_drop,List.length_take];rfl)) ?_;(with_reducible refine (stamp_Check.calls a0_5 a0_6 t103 _ A26.out).mono ?_);rintro e w' ⟨rfl,⟨nd,rfl⟩⟩;refine ⟨_,rfl,?_⟩))
           go_ret
           exact ⟨by first|rfl|(simp [errW_none,errW_some] <;> rfl)|(simp [*,errW_none,errW_some] <;> rfl),by repeat (first|(with_reducible first|exact HB.out|apply bwA|apply pwbN|apply bw1|refine below_set ?_ GE101.out)|exact HB.out)⟩
         ·rw [if_neg c22] at H;exact absurd H (by simp)
end Go.Proofs.YtenbelecmmpdgaaGreatDoor.All
end
section
namespace Go.Proofs.YtenbelecmmpdgaaGreatDoor.All
open Go.RowKit Go.Proofs.YtenbelecmmpdgaaGreatDoorW.PrintWords Go.Proofs.YtenbelecmmpdgaaGreatDoorW.PrintLast Go.Proofs.YtenbelecmmpdgaaGreatDoorW.PrintMore
open Go.Proofs.YtenbelecmmpdgaaGreatDoorW.Mine
attribute [local go_sem] gtr_string leq_string geq_string
attribute [local go_sem] max2_int min2_int max_two min_two max_three min_three max_four min_four
set_option linter.unusedVariables false
set_option linter.unusedSimpArgs false
mutual
def plan_Right.j0:Nat→Bool→ByteArray→Int→ByteArray→Int→Int→Int→ByteArray→ByteArray→Int→Int→List Int→Option (Int)
 | 0,_,_,_,_,_,_,_,_,_,_,_,_=>none
 | k + 1,x24,x102000,x102001,x102002,x102003,x102004,x102005,x102006,x102007,x102008,x102009,x102010=>if x24 = true then (some 2) else (if x102001 = 1 then (plan_Right.j1 k ((x102002.toList != ([]:List UInt8)) != (decide (x102001 ≥ 3))) x102000 x102001 x102002 x102003 x102004 x102005 x102006 x102007 x102008 x102009 x102010) else (if (x102010.length:Int) > 0 then (plan_Right.j1 k true x102000 x102001 x102002 x102003 x102004 x102005 x102006 x102007 x102008 x102009 x102010) else (plan_Right.j1 k ((x102002.toList != ([]:List UInt8)) != (decide (x102001 ≥ 3))) x102000 x102001 x102002 x102003 x102004 x102005 x102006 x102007 x102008 x102009 x102010)))
def plan_Right.j1:Nat→Bool→ByteArray→Int→ByteArray→Int→Int→Int→ByteArray→ByteArray→Int→Int→List Int→Option (Int)
 | 0,_,_,_,_,_,_,_,_,_,_,_,_=>none
 | k + 1,x42,x102000,x102001,x102002,x102003,x102004,x102005,x102006,x102007,x102008,x102009,x102010=>if x42 = true then (some 3) else (if (x102010.length:Int) > 2000 then (plan_Right.j2 k true x102000 x102001 x102002 x102003 x102004 x102005 x102006 x102007 x102008 x102009 x102010) else (plan_Right.j2 k (decide ((x102002.size:Int) > 400)) x102000 x102001 x102002 x102003 x102004 x102005 x102006 x102007 x102008 x102009 x102010))
def plan_Right.j2:Nat→Bool→ByteArray→Int→ByteArray→Int→Int→Int→ByteArray→ByteArray→Int→Int→List Int→Option (Int)
 | 0,_,_,_,_,_,_,_,_,_,_,_,_=>none
 | k + 1,x52,x102000,x102001,x102002,x102003,x102004,x102005,x102006,x102007,x102008,x102009,x102010=>if x52 = true then (some 1) else (if x102001 = 4 then ((path_Check.f k x102002).bind fun t104=>(some t104)) else ((strings_IndexByte.f x102002 0).bind fun t105=>(if t105 ≥ 0 then (some 3) else (some 0))))
end
def plan_Right.f (k:Nat) (a0_0:ByteArray) (a0_1:Int) (a0_2:ByteArray) (a0_3:Int) (a0_4:Int) (a0_5:Int) (a0_6:ByteArray) (a0_7:ByteArray) (a0_8:Int) (a0_9:Int) (l0_10:List Int):Option (Int):=(path_Check.f k a0_0).bind fun t102=>(if t102 = 0 then ((meta_Check.f k a0_3 a0_4 a0_5 a0_6 a0_7 a0_8 a0_9).bind fun t103=>(if t103 = 0 then (if a0_1 < 1 then (plan_Right.j0 k true a0_0 a0_1 a0_2 a0_3 a0_4 a0_5 a0_6 a0_7 a0_8 a0_9 l0_10) else (plan_Right.j0 k (decide (a0_1 > 4)) a0_0 a0_1 a0_2 a0_3 a0_4 a0_5 a0_6 a0_7 a0_8 a0_9 l0_10)) else (some t103))) else (some t102))
set_option maxHeartbeats 8000000 in
set_option maxRecDepth 100000 in
theorem plan_Right.calls (k:Nat) (a0_0:ByteArray) (a0_1:Int) (a0_2:ByteArray) (a0_3:Int) (a0_4:Int) (a0_5:Int) (a0_6:ByteArray) (a0_7:ByteArray) (a0_8:Int) (a0_9:Int) (A0_10:Option Addr) (c0_10:Nat) (l0_10:List Int) (r:Int) (w:World) (hr0_10:Kd.C (Kd.int .u8) w A0_10 l0_10.length l0_10) (hc0_10:l0_10.length ≤ c0_10) (h:plan_Right.f k a0_0 a0_1 a0_2 a0_3 a0_4 a0_5 a0_6 a0_7 a0_8 a0_9 l0_10 = some r) :
 Calls Tryz.prog 26 #[.agg #[.string a0_0,.int .i64 a0_1,.string a0_2,.int .i64 a0_3,.int .i64 a0_4,.int .i64 a0_5,.string a0_6,.string a0_7,.int .i64 a0_8,.int .i64 a0_9,.slice A0_10 l0_10.length c0_10]] w fun e w'=>e = .returned (.int .i64 r)∧Below w.heap.size w w':=by
 have hu26:=Tryz.underlying26;have hu23:=Tryz.underlying23;have HR0_10:=Aside0.mk hr0_10;have HC0_10:=Aside0.mk hc0_10;clear hr0_10 hc0_10;have HB:=Aside0.mk (Below.refl w.heap.size w);have H:((path_Check.f k a0_0).bind fun t102=>(if t102 = 0 then ((meta_Check.f k a0_3 a0_4 a0_5 a0_6 a0_7 a0_8 a0_9).bind fun t103=>(if t103 = 0 then (if a0_1 < 1 then (plan_Right.j0 k true a0_0 a0_1 a0_2 a0_3 a0_4 a0_5 a0_6 a0_7 a0_8 a0_9 l0_10) else (plan_Right.j0 k (decide (a0_1 > 4)) a0_0 a0_1 a0_2 a0_3 a0_4 a0_5 a0_6 a0_7 a0_8 a0_9 l0_10)) else (some t103))) else (some t102))) = some r:=h;clear h;replace H:=Option.bind_eq_some_iff.mp H;obtain ⟨t102,A20,H⟩:=H;replace H:(if t102 = 0 then ((meta_Check.f k a0_3 a0_4 a0_5 a0_6 a0_7 a0_8 a0_9).bind fun t103=>(if t103 = 0 then (if a0_1 < 1 then (plan_Right.j0 k true a0_0 a0_1 a0_2 a0_3 a0_4 a0_5 a0_6 a0_7 a0_8 a0_9 l0_10) else (plan_Right.j0 k (decide (a0_1 > 4)) a0_0 a0_1 a0_2 a0_3 a0_4 a0_5 a0_6 a0_7 a0_8 a0_9 l0_10)) else (some t103))) else (some t102)) = some r:=H;have A2:=Aside0.mk A20;clear A20;by_cases c3:t102 = 0
 ·rw [if_pos c3] at H;have c3b0:(t102 == 0) = true:=beq_iff_eq.mpr c3;have c3b1:(t102 != 0) = false:=bne_eq_false_iff_eq.mpr c3;clear c3;replace H:=Option.bind_eq_some_iff.mp H;obtain ⟨t103,A40,H⟩:=H;replace H:(if t103 = 0 then (if a0_1 < 1 then (plan_Right.j0 k true a0_0 a0_1 a0_2 a0_3 a0_4 a0_5 a0_6 a0_7 a0_8 a0_9 l0_10) else (plan_Right.j0 k (decide (a0_1 > 4)) a0_0 a0_1 a0_2 a0_3 a0_4 a0_5 a0_6 a0_7 a0_8 a0_9 l0_10)) else (some t103)) = some r:=H;have A4:=Aside0.mk A40;clear A40;by_cases c5:t103 = 0
  ·rw [if_pos c5] at H;have c5b0:(t103 == 0) = true:=beq_iff_eq.mpr c5;have c5b1:(t103 != 0) = false:=bne_eq_false_iff_eq.mpr c5;clear c5;have HC6:=Aside0.mk H;clear H;go_enter Tryz.func26,Tryz.ntmps26;go_upto_region 7 with (first|((with_reducible refine gate_dst (N:=1) rfl ?_);(try (refine gate_guard (by rfl) ?_;dsimp only));refine box_event ?hg (N:=1) ?hd (cs:=#[.string a0_0,.int .i64 a0_1,.string a0_2,.int .i64 a0_3,.int .i64 a0_4,.int .i64 a0_5,.string a0_6,.string a0_7,.int .i64 a0_8,.int .i64 a0_9,.slice A0_10 l0_10.length c0_10]) (t:=26) ?hr ?_;(case hd=>rfl);(case hg=>rfl);(case hr=>first|(go_simp;done)|(go_simp;rfl));intro gb101 hg w7 hbox hb;have n0_:=Aside0.mk (below_step (by repeat (first|(with_reducible first|exact HB.out|apply bwA|apply pwbN|apply bw1)|exact HB.out)) hb);have n1_:=Aside0.mk (hbox);have n2_:=Aside0.mk ((by rw [hg];exact (below_size (by repeat (first|(with_reducible first|exact HB.out|apply bwA|apply pwbN|apply bw1)|exact HB.out))):w.heap.size ≤ gb101));have n3_:=Aside0.mk ((by rw [hg];exact (below_size (by repeat (first|(with_reducible first|exact HB.out|apply bwA|apply pwbN|apply bw1)|exact HB.out))):w.heap.size ≤ gb101));clear HB;have HB:=n0_;have BK101:=n1_;have GW101:=n2_;have GE101:=n3_;clear n0_ n1_ n2_ n3_;clear hb hbox hg;obtain ⟨hcz8_0,hcz8_1,hcz8_2,hcz8_3,hcz8_4,hcz8_5,hcz8_6,hcz8_7,hcz8_8,hcz8_9,hcz8_10,hfz8_0,hfz8_1,hfz8_2,hfz8_3,hfz8_4,hfz8_5,hfz8_6,hfz8_7,hfz8_8,hfz8_9,hfz8_10⟩:=blkA11 BK101.out)|((with_reducible refine gate_callee (f:=54) rfl ?_);refine goesL_ (some 7) rfl rfl Tryz.func54 (by kernel_rfl) rfl #[.string a0_0] rfl (by (try simp only [List.map_toArray,List.map_cons,List.map_nil]);first|done|rfl|(simp only [List.length_drop,List.length_take];rfl)) ?_;(with_reducible refine (path_Check.calls k a0_0 t102 _ A2.out).mono ?_);rintro e w9 ⟨rfl,hb⟩;refine ⟨_,rfl,?_⟩;have n0_:=Aside0.mk (blk_below (g:=gb101) (o := .cells #[.string a0_0,.int .i64 a0_1,.string a0_2,.int .i64 a0_3,.int .i64 a0_4,.int .i64 a0_5,.string a0_6,.string a0_7,.int .i64 a0_8,.int .i64 a0_9,.slice A0_10 l0_10.length c0_10] 26 (0,0)) (by (with_reducible repeat (first|refine blk_drewN ?_ _|refine blk_drew ?_|refine blk_alloc ?_ _));exact BK101.out) hb);have n1_:=Aside0.mk (below_step (by repeat (first|(with_reducible first|exact HB.out|apply bwA|apply pwbN|apply bw1|refine below_set ?_ GE101.out)|exact HB.out)) hb);clear BK101;clear HB;have BK101:=n0_;have HB:=n1_;clear n0_ n1_;(try clear hb);(try clear hb2);(try clear hk);(try clear hi);obtain ⟨hcz10_0,hcz10_1,hcz10_2,hcz10_3,hcz10_4,hcz10_5,hcz10_6,hcz10_7,hcz10_8,hcz10_9,hcz10_10,hfz10_0,hfz10_1,hfz10_2,hfz10_3,hfz10_4,hfz10_5,hfz10_6,hfz10_7,hfz10_8,hfz10_9,hfz10_10⟩:=blkA11 BK101.out)|((with_reducible refine gate_callee (f:=55) rfl ?_);refine goesL_ (some 13) rfl rfl Tryz.func55 (by kernel_rfl) rfl #[.agg #[.int .i64 a0_3,.int .i64 a0_4,.int .i64 a0_5,.string a0_6,.string a0_7,.int .i64 a0_8,.int .i64 a0_9]] rfl (by (try simp only [List.map_toArray,List.map_cons,List.map_nil]);first|done|rfl|(simp only [List.length_drop,List.length_take];rfl)) ?_;(with_reducible refine (meta_Check.calls k a0_3 a0_4 a0_5 a0_6 a0_7 a0_8 a0_9 t103 _ A4.out).mono ?_);rintro e w11 ⟨rfl,hb⟩;refine ⟨_,rfl,?_⟩;have n0_:=Aside0.mk (blk_below (g:=gb101) (o := .cells #[.string a0_0,.int .i64 a0_1,.string a0_2,.int .i64 a0_3,.int .i64 a0_4,.int .i64 a0_5,.string a0_6,.string a0_7,.int .i64 a0_8,.int .i64 a0_9,.slice A0_10 l0_10.length c0_10] 26 (0,0)) (by (with_reducible repeat (first|refine blk_drewN ?_ _|refine blk_drew ?_|refine blk_alloc ?_ _));exact BK101.out) hb);have n1_:=Aside0.mk (below_step (by repeat (first|(with_reducible first|exact HB.out|apply bwA|apply pwbN|apply bw1|refine below_set ?_ GE101.out)|exact HB.out)) hb);clear BK101;clear HB;have BK101:=n0_;have HB:=n1_;clear n0_ n1_;(try clear hb);(try clear hb2);(try clear hk);(try clear hi)))
   (try simp only [Act.put,List.setIfInBounds_toArray,List.set_cons_zero,List.set_cons_succ]);go_cut [24] (fun v24 wc=>∃ (kq:Nat) (x24_5:Bool),v24 = .bool x24_5∧Aside0 (plan_Right.j0 kq x24_5 a0_0 a0_1 a0_2 a0_3 a0_4 a0_5 a0_6 a0_7 a0_8 a0_9 l0_10 = some r)∧Aside0 (kq ≤ k)∧Aside0 (wc.heap[gb101]? = some (.cells #[.string a0_0,.int .i64 a0_1,.string a0_2,.int .i64 a0_3,.int .i64 a0_4,.int .i64 a0_5,.string a0_6,.string a0_7,.int .i64 a0_8,.int .i64 a0_9,(.slice A0_10 l0_10.length c0_10)] 26 (0,0)))∧Aside0 (Below w.heap.size w wc))
   case first =>
    have H:=HC6.out;clear HC6;by_cases c12:a0_1 < 1
    ·rw [if_pos c12] at H;have c12b0:decide (a0_1 < 1) = true:=decide_eq_true c12;clear c12;(first|rw [c12b0]|(simp only [i64_w,i32_w];rw [c12b0])|skip);have H':=Aside0.mk H;clear H;obtain ⟨_,_,_,_,_,_,_,_,_,_,_,_,_,_,_,_,_,_,_,_,_,_⟩:=blkA11 BK101.out;go_wp2;go_meet
     case rel=>exact ⟨_,(true),(by first|rfl|(simp;done)|(simp [*];done)|(simp [bne];done)|(cases a0_2.toList <;> simp [bne];done)),H',⟨by first|omega|exact Nat.le_refl _⟩,⟨by (with_reducible repeat (first|refine blk_drewN ?_ _|refine blk_drew ?_|refine blk_alloc ?_ _));exact BK101.out⟩,⟨by repeat (first|(with_reducible first|exact HB.out|apply bwA|apply pwbN|apply bw1|refine below_set ?_ GE101.out)|exact HB.out)⟩⟩
    ·rw [if_neg c12] at H;have c12b0:decide (a0_1 < 1) = false:=decide_eq_false c12;clear c12;(first|rw [c12b0]|(simp only [i64_w,i32_w];rw [c12b0])|skip);have H':=Aside0.mk H;clear H;obtain ⟨_,_,_,_,_,_,_,_,_,_,_,_,_,_,_,_,_,_,_,_,_,_⟩:=blkA11 BK101.out;go_wp2;go_meet
     case rel=>exact ⟨_,(decide (a0_1 > 4)),(by first|rfl|(simp;done)|(simp [*];done)|(simp [bne];done)|(cases a0_2.toList <;> simp [bne];done)),H',⟨by first|omega|exact Nat.le_refl _⟩,⟨by (with_reducible repeat (first|refine blk_drewN ?_ _|refine blk_drew ?_|refine blk_alloc ?_ _));exact BK101.out⟩,⟨by repeat (first|(with_reducible first|exact HB.out|apply bwA|apply pwbN|apply bw1|refine below_set ?_ GE101.out)|exact HB.out)⟩⟩
   case rest =>
    clear HC6;repeat first|clear c3|clear c3b0|clear c3b1|clear c5|clear c5b0|clear c5b1|clear hcz10_0|clear hcz10_1|clear hcz10_10|clear hcz10_2|clear hcz10_3|clear hcz10_4|clear hcz10_5|clear hcz10_6|clear hcz10_7|clear hcz10_8|clear hcz10_9|clear hcz8_0|clear hcz8_1|clear hcz8_10|clear hcz8_2|clear hcz8_3|clear hcz8_4|clear hcz8_5|clear hcz8_6|clear hcz8_7|clear hcz8_8|clear hcz8_9|clear hfz10_0|clear hfz10_1|clear hfz10_10|clear hfz10_2|clear hfz10_3|clear hfz10_4|clear hfz10_5|clear hfz10_6|clear hfz10_7|clear hfz10_8|clear hfz10_9|clear hfz8_0|clear hfz8_1|clear hfz8_10|clear hfz8_2|clear hfz8_3|clear hfz8_4|clear hfz8_5|clear hfz8_6|clear hfz8_7|clear hfz8_8|clear hfz8_9
    obtain ⟨kq,x24_5,rfl,HA,HJ5,BK101,HB⟩:=hcut;cases kq with
    | zero=>exact absurd HA.out (by simp [plan_Right.j0])
    | succ kj5 =>
     have H:=HA.out;clear HA;simp only [plan_Right.j0] at H;by_cases c15:x24_5 = true
     ·subst c15;have H1:(some 2) = some r:=by rw [if_pos rfl] at H;exact H
      clear H;have H:=H1;clear H1;obtain rfl:=Option.some.inj H;go_wp2;go_ret
      exact ⟨by first|rfl|(simp [errW_none,errW_some] <;> rfl)|(simp [*,errW_none,errW_some] <;> rfl),by repeat (first|(with_reducible first|exact HB.out|apply bwA|apply pwbN|apply bw1|refine below_set ?_ GE101.out)|exact HB.out)⟩
     ·replace c15:=Bool.eq_false_iff.mpr c15;subst c15;have H1:(if a0_1 = 1 then (plan_Right.j1 kj5 ((a0_2.toList != ([]:List UInt8)) != (decide (a0_1 ≥ 3))) a0_0 a0_1 a0_2 a0_3 a0_4 a0_5 a0_6 a0_7 a0_8 a0_9 l0_10) else (if (l0_10.length:Int) > 0 then (plan_Right.j1 kj5 true a0_0 a0_1 a0_2 a0_3 a0_4 a0_5 a0_6 a0_7 a0_8 a0_9 l0_10) else (plan_Right.j1 kj5 ((a0_2.toList != ([]:List UInt8)) != (decide (a0_1 ≥ 3))) a0_0 a0_1 a0_2 a0_3 a0_4 a0_5 a0_6 a0_7 a0_8 a0_9 l0_10))) = some r:=by rw [if_neg (show ¬ (false = true) by decide)] at H;exact H
      clear H;have H:=H1;clear H1;have HC16:=Aside0.mk H;clear H;go_upto_region 9 with (fail)
      go_cut [42] (fun v42 wc=>∃ (kq:Nat) (x42_15:Bool),v42 = .bool x42_15∧Aside0 (plan_Right.j1 kq x42_15 a0_0 a0_1 a0_2 a0_3 a0_4 a0_5 a0_6 a0_7 a0_8 a0_9 l0_10 = some r)∧Aside0 (kq ≤ kj5)∧Aside0 (wc.heap[gb101]? = some (.cells #[.string a0_0,.int .i64 a0_1,.string a0_2,.int .i64 a0_3,.int .i64 a0_4,.int .i64 a0_5,.string a0_6,.string a0_7,.int .i64 a0_8,.int .i64 a0_9,(.slice A0_10 l0_10.length c0_10)] 26 (0,0)))∧Aside0 (Below w.heap.size w wc))
      case first =>
       have H:=HC16.out;clear HC16;by_cases c17:a0_1 = 1
       ·rw [if_pos c17] at H;have c17b0:(a0_1 == 1) = true:=beq_iff_eq.mpr c17;have c17b1:(a0_1 != 1) = false:=bne_eq_false_iff_eq.mpr c17;clear c17;(first|rw [c17b0]|(simp only [i64_w,i32_w];rw [c17b0])|skip);have H':=Aside0.mk H;clear H;obtain ⟨_,_,_,_,_,_,_,_,_,_,_,_,_,_,_,_,_,_,_,_,_,_⟩:=blkA11 BK101.out;go_wp2;go_meet
        case rel=>exact ⟨_,(((a0_2.toList != ([]:List UInt8)) != (decide (a0_1 ≥ 3)))),(by first|rfl|(simp;done)|(simp [*];done)|(simp [bne];done)|(cases a0_2.toList <;> simp [bne];done)),H',⟨by have:=HJ5.out;first|omega|exact Nat.le_refl _⟩,⟨by (with_reducible repeat (first|refine blk_drewN ?_ _|refine blk_drew ?_|refine blk_alloc ?_ _));exact BK101.out⟩,⟨by repeat (first|(with_reducible first|exact HB.out|apply bwA|apply pwbN|apply bw1|refine below_set ?_ GE101.out)|exact HB.out)⟩⟩
       ·rw [if_neg c17] at H;have c17b0:(a0_1 == 1) = false:=beq_eq_false_iff_ne.mpr c17;have c17b1:(a0_1 != 1) = true:=bne_iff_ne.mpr c17;(first|rw [c17b0]|(simp only [i64_w,i32_w];rw [c17b0])|skip);by_cases c19:(l0_10.length:Int) > 0
        ·rw [if_pos c19] at H;have c19b0:decide (0 < (l0_10.length:Int)) = true:=decide_eq_true c19;have c19b1:decide (0 < l0_10.length) = true:=decide_eq_true (by omega);clear c19;have H':=Aside0.mk H;clear H;obtain ⟨_,_,_,_,_,_,_,_,_,_,_,_,_,_,_,_,_,_,_,_,_,_⟩:=blkA11 BK101.out;go_wp2;go_meet
         case rel=>exact ⟨_,(true),(by first|rfl|(simp;done)|(simp [*];done)|(simp [bne];done)|(cases a0_2.toList <;> simp [bne];done)),H',⟨by have:=HJ5.out;first|omega|exact Nat.le_refl _⟩,⟨by (with_reducible repeat (first|refine blk_drewN ?_ _|refine blk_drew ?_|refine blk_alloc ?_ _));exact BK101.out⟩,⟨by repeat (first|(with_reducible first|exact HB.out|apply bwA|apply pwbN|apply bw1|refine below_set ?_ GE101.out)|exact HB.out)⟩⟩
        ·rw [if_neg c19] at H;have c19b0:decide (0 < (l0_10.length:Int)) = false:=decide_eq_false c19;have c19b1:decide (0 < l0_10.length) = false:=decide_eq_false (by omega);clear c19;have H':=Aside0.mk H;clear H;obtain ⟨_,_,_,_,_,_,_,_,_,_,_,_,_,_,_,_,_,_,_,_,_,_⟩:=blkA11 BK101.out;go_wp2;go_meet
         case rel=>exact ⟨_,(((a0_2.toList != ([]:List UInt8)) != (decide (a0_1 ≥ 3)))),(by first|rfl|(simp;done)|(simp [*];done)|(simp [bne];done)|(cases a0_2.toList <;> simp [bne];done)),H',⟨by have:=HJ5.out;first|omega|exact Nat.le_refl _⟩,⟨by (with_reducible repeat (first|refine blk_drewN ?_ _|refine blk_drew ?_|refine blk_alloc ?_ _));exact BK101.out⟩,⟨by repeat (first|(with_reducible first|exact HB.out|apply bwA|apply pwbN|apply bw1|refine below_set ?_ GE101.out)|exact HB.out)⟩⟩
      case rest =>
       clear HC16;repeat first|clear c3|clear c3b0|clear c3b1|clear c5|clear c5b0|clear c5b1|clear c15|clear hcz10_0|clear hcz10_1|clear hcz10_10|clear hcz10_2|clear hcz10_3|clear hcz10_4|clear hcz10_5|clear hcz10_6|clear hcz10_7|clear hcz10_8|clear hcz10_9|clear hcz8_0|clear hcz8_1|clear hcz8_10|clear hcz8_2|clear hcz8_3|clear hcz8_4|clear hcz8_5|clear hcz8_6|clear hcz8_7|clear hcz8_8|clear hcz8_9|clear hfz10_0|clear hfz10_1|clear hfz10_10|clear hfz10_2|clear hfz10_3|clear hfz10_4|clear hfz10_5|clear hfz10_6|clear hfz10_7|clear hfz10_8|clear hfz10_9|clear hfz8_0|clear hfz8_1|clear hfz8_10|clear hfz8_2|clear hfz8_3|clear hfz8_4|clear hfz8_5|clear hfz8_6|clear hfz8_7|clear hfz8_8|clear hfz8_9
       obtain ⟨kq,x42_15,rfl,HA,HJ15,BK101,HB⟩:=hcut;cases kq with
       | zero=>exact absurd HA.out (by simp [plan_Right.j1])
       | succ kj15 =>
        have H:=HA.out;clear HA;simp only [plan_Right.j1] at H;by_cases c22:x42_15 = true
        ·subst c22;have H1:(some 3) = some r:=by rw [if_pos rfl] at H;exact H
         clear H;have H:=H1;clear H1;obtain rfl:=Option.some.inj H;go_wp2;go_ret
         exact ⟨by first|rfl|(simp [errW_none,errW_some] <;> rfl)|(simp [*,errW_none,errW_some] <;> rfl),by repeat (first|(with_reducible first|exact HB.out|apply bwA|apply pwbN|apply bw1|refine below_set ?_ GE101.out)|exact HB.out)⟩
        ·replace c22:=Bool.eq_false_iff.mpr c22;subst c22;have H1:(if (l0_10.length:Int) > 2000 then (plan_Right.j2 kj15 true a0_0 a0_1 a0_2 a0_3 a0_4 a0_5 a0_6 a0_7 a0_8 a0_9 l0_10) else (plan_Right.j2 kj15 (decide ((a0_2.size:Int) > 400)) a0_0 a0_1 a0_2 a0_3 a0_4 a0_5 a0_6 a0_7 a0_8 a0_9 l0_10)) = some r:=by rw [if_neg (show ¬ (false = true) by decide)] at H;exact H
         clear H;have H:=H1;clear H1;have HC23:=Aside0.mk H;clear H;go_upto_region 11 with (fail)
         go_cut [52] (fun v52 wc=>∃ (kq:Nat) (x52_22:Bool),v52 = .bool x52_22∧Aside0 (plan_Right.j2 kq x52_22 a0_0 a0_1 a0_2 a0_3 a0_4 a0_5 a0_6 a0_7 a0_8 a0_9 l0_10 = some r)∧Aside0 (kq ≤ kj15)∧Aside0 (wc.heap[gb101]? = some (.cells #[.string a0_0,.int .i64 a0_1,.string a0_2,.int .i64 a0_3,.int .i64 a0_4,.int .i64 a0_5,.string a0_6,.string a0_7,.int .i64 a0_8,.int .i64 a0_9,(.slice A0_10 l0_10.length c0_10)] 26 (0,0)))∧Aside0 (Below w.heap.size w wc))
         case first =>
          have H:=HC23.out;clear HC23;by_cases c24:(l0_10.length:Int) > 2000
          ·rw [if_pos c24] at H;have c24b0:decide (2000 < (l0_10.length:Int)) = true:=decide_eq_true c24;have c24b1:decide (2000 < l0_10.length) = true:=decide_eq_true (by omega);clear c24;(first|rw [c24b0]|(simp only [i64_w,i32_w];rw [c24b0])|skip);have H':=Aside0.mk H;clear H;obtain ⟨_,_,_,_,_,_,_,_,_,_,_,_,_,_,_,_,_,_,_,_,_,_⟩:=blkA11 BK101.out;go_wp2;go_meet
           case rel=>exact ⟨_,(true),(by first|rfl|(simp;done)|(simp [*];done)|(simp [bne];done)|(cases a0_2.toList <;> simp [bne];done)),H',⟨by have:=HJ5.out;have:=HJ15.out;first|omega|exact Nat.le_refl _⟩,⟨by (with_reducible repeat (first|refine blk_drewN ?_ _|refine blk_drew ?_|refine blk_alloc ?_ _));exact BK101.out⟩,⟨by repeat (first|(with_reducible first|exact HB.out|apply bwA|apply pwbN|apply bw1|refine below_set ?_ GE101.out)|exact HB.out)⟩⟩
          ·rw [if_neg c24] at H;have c24b0:decide (2000 < (l0_10.length:Int)) = false:=decide_eq_false c24;have c24b1:decide (2000 < l0_10.length) = false:=decide_eq_false (by omega);clear c24;(first|rw [c24b0]|(simp only [i64_w,i32_w];rw [c24b0])|skip);have H':=Aside0.mk H;clear H;obtain ⟨_,_,_,_,_,_,_,_,_,_,_,_,_,_,_,_,_,_,_,_,_,_⟩:=blkA11 BK101.out;go_wp2;go_meet
           case rel=>exact ⟨_,(decide ((a0_2.size:Int) > 400)),(by first|rfl|(simp;done)|(simp [*];done)|(simp [bne];done)|(cases a0_2.toList <;> simp [bne];done)),H',⟨by have:=HJ5.out;have:=HJ15.out;first|omega|exact Nat.le_refl _⟩,⟨by (with_reducible repeat (first|refine blk_drewN ?_ _|refine blk_drew ?_|refine blk_alloc ?_ _));exact BK101.out⟩,⟨by repeat (first|(with_reducible first|exact HB.out|apply bwA|apply pwbN|apply bw1|refine below_set ?_ GE101.out)|exact HB.out)⟩⟩
         case rest =>
          clear HC23;repeat first|clear c3|clear c3b0|clear c3b1|clear c5|clear c5b0|clear c5b1|clear c15|clear c22|clear hcz10_0|clear hcz10_1|clear hcz10_10|clear hcz10_2|clear hcz10_3|clear hcz10_4|clear hcz10_5|clear hcz10_6|clear hcz10_7|clear hcz10_8|clear hcz10_9|clear hcz8_0|clear hcz8_1|clear hcz8_10|clear hcz8_2|clear hcz8_3|clear hcz8_4|clear hcz8_5|clear hcz8_6|clear hcz8_7|clear hcz8_8|clear hcz8_9|clear hfz10_0|clear hfz10_1|clear hfz10_10|clear hfz10_2|clear hfz10_3|clear hfz10_4|clear hfz10_5|clear hfz10_6|clear hfz10_7|clear hfz10_8|clear hfz10_9|clear hfz8_0|clear hfz8_1|clear hfz8_10|clear hfz8_2|clear hfz8_3|clear hfz8_4|clear hfz8_5|clear hfz8_6|clear hfz8_7|clear hfz8_8|clear hfz8_9
          obtain ⟨kq,x52_22,rfl,HA,HJ22,BK101,HB⟩:=hcut;cases kq with
          | zero=>exact absurd HA.out (by simp [plan_Right.j2])
          | succ kj22 =>
           have H:=HA.out;clear HA;simp only [plan_Right.j2] at H;by_cases c27:x52_22 = true
           ·subst c27;have H1:(some 1) = some r:=by rw [if_pos rfl] at H;exact H
            clear H;have H:=H1;clear H1;obtain rfl:=Option.some.inj H;go_wp2;go_ret
            exact ⟨by first|rfl|(simp [errW_none,errW_some] <;> rfl)|(simp [*,errW_none,errW_some] <;> rfl),by repeat (first|(with_reducible first|exact HB.out|apply bwA|apply pwbN|apply bw1|refine below_set ?_ GE101.out)|exact HB.out)⟩
           ·replace c27:=Bool.eq_false_iff.mpr c27;subst c27;have H1:(if a0_1 = 4 then ((path_Check.f kj22 a0_2).bind fun t104=>(some t104)) else ((strings_IndexByte.f a0_2 0).bind fun t105=>(if t105 ≥ 0 then (some 3) else (some 0)))) = some r:=by rw [if_neg (show ¬ (false = true) by decide)] at H;exact H
            clear H;have H:=H1;clear H1;by_cases c28:a0_1 = 4
            ·rw [if_pos c28] at H;have c28b0:(a0_1 == 4) = true:=beq_iff_eq.mpr c28;have c28b1:(a0_1 != 4) = false:=bne_eq_false_iff_eq.mpr c28;clear c28;replace H:=Option.bind_eq_some_iff.mp H;obtain ⟨t104,A290,H⟩:=H;replace H:(some t104) = some r:=H;have A29:=Aside0.mk A290;clear A290;obtain rfl:=Option.some.inj H;obtain ⟨_,_,_,_,_,_,_,_,_,_,_,_,_,_,_,_,_,_,_,_,_,_⟩:=blkA11 BK101.out;go_wp2_with (first|((with_reducible refine gate_callee (f:=54) rfl ?_);refine goesL_ (some 58) rfl rfl Tryz.func54 (by kernel_rfl) rfl #[.string a0_2] rfl (by (try simp only [List.map_toArray,List.map_cons,List.map_nil]);first|done|rfl|(simp only [List.length_drop,List.length_take];rfl)) ?_;(with_reducible refine (path_Check.calls kj22 a0_2 t104 _ A29.out).mono ?_);rintro e w31 ⟨rfl,hb⟩;refine ⟨_,rfl,?_⟩;have n0_:=Aside0.mk (blk_below (g:=gb101) (o := .cells #[.string a0_0,.int .i64 a0_1,.string a0_2,.int .i64 a0_3,.int .i64 a0_4,.int .i64 a0_5,.string a0_6,.string a0_7,.int .i64 a0_8,.int .i64 a0_9,.slice A0_10 l0_10.length c0_10] 26 (0,0)) (by (with_reducible repeat (first|refine blk_drewN ?_ _|refine blk_drew ?_|refine blk_alloc ?_ _));exact BK101.out) hb);have n1_:=Aside0.mk (below_step (by repeat (first|(with_reducible first|exact HB.out|apply bwA|apply pwbN|apply bw1|refine below_set ?_ GE101.out)|exact HB.out)) hb);clear BK101;clear HB;have BK101:=n0_;have HB:=n1_;clear n0_ n1_;(try clear hb);(try clear hb2);(try clear hk);(try clear hi)))
             go_ret
             exact ⟨by first|rfl|(simp [errW_none,errW_some] <;> rfl)|(simp [*,errW_none,errW_some] <;> rfl),by repeat (first|(with_reducible first|exact HB.out|apply bwA|apply pwbN|apply bw1|refine below_set ?_ GE101.out)|exact HB.out)⟩
            ·rw [if_neg c28] at H;have c28b0:(a0_1 == 4) = false:=beq_eq_false_iff_ne.mpr c28;have c28b1:(a0_1 != 4) = true:=bne_iff_ne.mpr c28;replace H:=Option.bind_eq_some_iff.mp H;obtain ⟨t105,A320,H⟩:=H;replace H:(if t105 ≥ 0 then (some 3) else (some 0)) = some r:=H;have A32:=Aside0.mk A320;clear A320;by_cases c33:t105 ≥ 0
             ·rw [if_pos c33] at H;have c33b0:decide (0 ≤ t105) = true:=decide_eq_true c33;clear c33;obtain rfl:=Option.some.inj H;obtain ⟨_,_,_,_,_,_,_,_,_,_,_,_,_,_,_,_,_,_,_,_,_,_⟩:=blkA11 BK101.out;go_wp2_with (first|((with_reducible refine gate_callee (f:=56) rfl ?_);refine goesL_ (some 61) rfl rfl Tryz.func56 (by kernel_rfl) rfl #[.string a0_2,.int .u8 0] rfl (by (try simp only [List.map_toArray,List.map_cons,List.map_nil]);first|done|rfl|(simp only [List.length_drop,List.length_take];rfl)) ?_;(with_reducible refine (strings_IndexByte.calls a0_2 0 t105 _ A32.out).mono ?_);rintro e w' ⟨rfl,⟨nd,rfl⟩⟩;refine ⟨_,rfl,?_⟩))
              go_ret
              exact ⟨by first|rfl|(simp [errW_none,errW_some] <;> rfl)|(simp [*,errW_none,errW_some] <;> rfl),by repeat (first|(with_reducible first|exact HB.out|apply bwA|apply pwbN|apply bw1|refine below_set ?_ GE101.out)|exact HB.out)⟩
             ·rw [if_neg c33] at H;have c33b0:decide (0 ≤ t105) = false:=decide_eq_false c33;clear c33;obtain rfl:=Option.some.inj H;obtain ⟨_,_,_,_,_,_,_,_,_,_,_,_,_,_,_,_,_,_,_,_,_,_⟩:=blkA11 BK101.out;go_wp2_with (first|((with_reducible refine gate_callee (f:=56) rfl ?_);refine goesL_ (some 61) rfl rfl Tryz.func56 (by kernel_rfl) rfl #[.string a0_2,.int .u8 0] rfl (by (try simp only [List.map_toArray,List.map_cons,List.map_nil]);first|done|rfl|(simp only [List.length_drop,List.length_take];rfl)) ?_;(with_reducible refine (strings_IndexByte.calls a0_2 0 t105 _ A32.out).mono ?_);rintro e w' ⟨rfl,⟨nd,rfl⟩⟩;refine ⟨_,rfl,?_⟩))
              go_ret
              exact ⟨by first|rfl|(simp [errW_none,errW_some] <;> rfl)|(simp [*,errW_none,errW_some] <;> rfl),by repeat (first|(with_reducible first|exact HB.out|apply bwA|apply pwbN|apply bw1|refine below_set ?_ GE101.out)|exact HB.out)⟩
  ·rw [if_neg c5] at H;have c5b0:(t103 == 0) = false:=beq_eq_false_iff_ne.mpr c5;have c5b1:(t103 != 0) = true:=bne_iff_ne.mpr c5;obtain rfl:=Option.some.inj H;go_enter Tryz.func26,Tryz.ntmps26;go_wp2_with (first|((with_reducible refine gate_dst (N:=1) rfl ?_);(try (refine gate_guard (by rfl) ?_;dsimp only));refine box_event ?hg (N:=1) ?hd (cs:=#[.string a0_0,.int .i64 a0_1,.string a0_2,.int .i64 a0_3,.int .i64 a0_4,.int .i64 a0_5,.string a0_6,.string a0_7,.int .i64 a0_8,.int .i64 a0_9,.slice A0_10 l0_10.length c0_10]) (t:=26) ?hr ?_;(case hd=>rfl);(case hg=>rfl);(case hr=>first|(go_simp;done)|(go_simp;rfl));intro gb101 hg w36 hbox hb;have n0_:=Aside0.mk (below_step (by repeat (first|(with_reducible first|exact HB.out|apply bwA|apply pwbN|apply bw1)|exact HB.out)) hb);have n1_:=Aside0.mk (hbox);have n2_:=Aside0.mk ((by rw [hg];exact (below_size (by repeat (first|(with_reducible first|exact HB.out|apply bwA|apply pwbN|apply bw1)|exact HB.out))):w.heap.size ≤ gb101));have n3_:=Aside0.mk ((by rw [hg];exact (below_size (by repeat (first|(with_reducible first|exact HB.out|apply bwA|apply pwbN|apply bw1)|exact HB.out))):w.heap.size ≤ gb101));clear HB;have HB:=n0_;have BK101:=n1_;have GW101:=n2_;have GE101:=n3_;clear n0_ n1_ n2_ n3_;clear hb hbox hg;obtain ⟨_,_,_,_,_,_,_,_,_,_,_,_,_,_,_,_,_,_,_,_,_,_⟩:=blkA11 BK101.out)|((with_reducible refine gate_callee (f:=54) rfl ?_);refine goesL_ (some 7) rfl rfl Tryz.func54 (by kernel_rfl) rfl #[.string a0_0] rfl (by (try simp only [List.map_toArray,List.map_cons,List.map_nil]);first|done|rfl|(simp only [List.length_drop,List.length_take];rfl)) ?_;(with_reducible refine (path_Check.calls k a0_0 t102 _ A2.out).mono ?_);rintro e w38 ⟨rfl,hb⟩;refine ⟨_,rfl,?_⟩;have n0_:=Aside0.mk (blk_below (g:=gb101) (o := .cells #[.string a0_0,.int .i64 a0_1,.string a0_2,.int .i64 a0_3,.int .i64 a0_4,.int .i64 a0_5,.string a0_6,.string a0_7,.int .i64 a0_8,.int .i64 a0_9,.slice A0_10 l0_10.length c0_10] 26 (0,0)) (by (with_reducible repeat (first|refine blk_drewN ?_ _|refine blk_drew ?_|refine blk_alloc ?_ _));exact BK101.out) hb);have n1_:=Aside0.mk (below_step (by repeat (first|(with_reducible first|exact HB.out|apply bwA|apply pwbN|apply bw1|refine below_set ?_ GE101.out)|exact HB.out)) hb);clear BK101;clear HB;have BK101:=n0_;have HB:=n1_;clear n0_ n1_;(try clear hb);(try clear hb2);(try clear hk);(try clear hi);obtain ⟨_,_,_,_,_,_,_,_,_,_,_,_,_,_,_,_,_,_,_,_,_,_⟩:=blkA11 BK101.out)|((with_reducible refine gate_callee (f:=55) rfl ?_);refine goesL_ (some 13) rfl rfl Tryz.func55 (by kernel_rfl) rfl #[.agg #[.int .i64 a0_3,.int .i64 a0_4,.int .i64 a0_5,.string a0_6,.string a0_7,.int .i64 a0_8,.int .i64 a0_9]] rfl (by (try simp only [List.map_toArray,List.map_cons,List.map_nil]);first|done|rfl|(simp only [List.length_drop,List.length_take];rfl)) ?_;(with_reducible refine (meta_Check.calls k a0_3 a0_4 a0_5 a0_6 a0_7 a0_8 a0_9 t103 _ A4.out).mono ?_);rintro e w40 ⟨rfl,hb⟩;refine ⟨_,rfl,?_⟩;have n0_:=Aside0.mk (blk_below (g:=gb101) (o := .cells #[.string a0_0,.int .i64 a0_1,.string a0_2,.int .i64 a0_3,.int .i64 a0_4,.int .i64 a0_5,.string a0_6,.string a0_7,.int .i64 a0_8,.int .i64 a0_9,.slice A0_10 l0_10.length c0_10] 26 (0,0)) (by (with_reducible repeat (first|refine blk_drewN ?_ _|refine blk_drew ?_|refine blk_alloc ?_ _));exact BK101.out) hb);have n1_:=Aside0.mk (below_step (by repeat (first|(with_reducible first|exact HB.out|apply bwA|apply pwbN|apply bw1|refine below_set ?_ GE101.out)|exact HB.out)) hb);clear BK101;clear HB;have BK101:=n0_;have HB:=n1_;clear n0_ n1_;(try clear hb);(try clear hb2);(try clear hk);(try clear hi)))
   go_ret
   exact ⟨by first|rfl|(simp [errW_none,errW_some] <;> rfl)|(simp [*,errW_none,errW_some] <;> rfl),by repeat (first|(with_reducible first|exact HB.out|apply bwA|apply pwbN|apply bw1|refine below_set ?_ GE101.out)|exact HB.out)⟩
 ·rw [if_neg c3] at H;have c3b0:(t102 == 0) = false:=beq_eq_false_iff_ne.mpr c3;have c3b1:(t102 != 0) = true:=bne_iff_ne.mpr c3;obtain rfl:=Option.some.inj H;go_enter Tryz.func26,Tryz.ntmps26;go_wp2_with (first|((with_reducible refine gate_dst (N:=1) rfl ?_);(try (refine gate_guard (by rfl) ?_;dsimp only));refine box_event ?hg (N:=1) ?hd (cs:=#[.string a0_0,.int .i64 a0_1,.string a0_2,.int .i64 a0_3,.int .i64 a0_4,.int .i64 a0_5,.string a0_6,.string a0_7,.int .i64 a0_8,.int .i64 a0_9,.slice A0_10 l0_10.length c0_10]) (t:=26) ?hr ?_;(case hd=>rfl);(case hg=>rfl);(case hr=>first|(go_simp;done)|(go_simp;rfl));intro gb101 hg w41 hbox hb;have n0_:=Aside0.mk (below_step (by repeat (first|(with_reducible first|exact HB.out|apply bwA|apply pwbN|apply bw1)|exact HB.out)) hb);have n1_:=Aside0.mk (hbox);have n2_:=Aside0.mk ((by rw [hg];exact (below_size (by repeat (first|(with_reducible first|exact HB.out|apply bwA|apply pwbN|apply bw1)|exact HB.out))):w.heap.size ≤ gb101));have n3_:=Aside0.mk ((by rw [hg];exact (below_size (by repeat (first|(with_reducible first|exact HB.out|apply bwA|apply pwbN|apply bw1)|exact HB.out))):w.heap.size ≤ gb101));clear HB;have HB:=n0_;have BK101:=n1_;have GW101:=n2_;have GE101:=n3_;clear n0_ n1_ n2_ n3_;clear hb hbox hg;obtain ⟨_,_,_,_,_,_,_,_,_,_,_,_,_,_,_,_,_,_,_,_,_,_⟩:=blkA11 BK101.out)|((with_reducible refine gate_callee (f:=54) rfl ?_);refine goesL_ (some 7) rfl rfl Tryz.func54 (by kernel_rfl) rfl #[.string a0_0] rfl (by (try simp only [List.map_toArray,List.map_cons,List.map_nil]);first|done|rfl|(simp only [List.length_drop,List.length_take];rfl)) ?_;(with_reducible refine (path_Check.calls k a0_0 t102 _ A2.out).mono ?_);rintro e w43 ⟨rfl,hb⟩;refine ⟨_,rfl,?_⟩;have n0_:=Aside0.mk (blk_below (g:=gb101) (o := .cells #[.string a0_0,.int .i64 a0_1,.string a0_2,.int .i64 a0_3,.int .i64 a0_4,.int .i64 a0_5,.string a0_6,.string a0_7,.int .i64 a0_8,.int .i64 a0_9,.slice A0_10 l0_10.length c0_10] 26 (0,0)) (by (with_reducible repeat (first|refine blk_drewN ?_ _|refine blk_drew ?_|refine blk_alloc ?_ _));exact BK101.out) hb);have n1_:=Aside0.mk (below_step (by repeat (first|(with_reducible first|exact HB.out|apply bwA|apply pwbN|apply bw1|refine below_set ?_ GE101.out)|exact HB.out)) hb);clear BK101;clear HB;have BK101:=n0_;have HB:=n1_;clear n0_ n1_;(try clear hb);(try clear hb2);(try clear hk);(try clear hi)))
  go_ret
  exact ⟨by first|rfl|(simp [errW_none,errW_some] <;> rfl)|(simp [*,errW_none,errW_some] <;> rfl),by repeat (first|(with_reducible first|exact HB.out|apply bwA|apply pwbN|apply bw1|refine below_set ?_ GE101.out)|exact HB.out)⟩
end Go.Proofs.YtenbelecmmpdgaaGreatDoor.All
end
section
namespace Go.Proofs.YtenbelecmmpdgaaGreatDoorW.Blks
open Go Go.RowKit Go.Proofs.YtenbelecmmpdgaaGreatDoorW.PrintWords Go.Proofs.YtenbelecmmpdgaaGreatDoorW.MapOwn
structure Blks (w W:World) (L:List (Nat × Obj)):Prop where
  below:Below w.heap.size w W
  own:∀ p ∈ L,w.heap.size ≤ p.1∧W.heap[p.1]? = some p.2
  apart:(L.map Prod.fst).Nodup
section
variable {w W W':World} {L:List (Nat × Obj)} {g:Nat} {o o':Obj} {j:Nat}
theorem grownBy_setCell (W:World) (g i:Nat) (v:Value):W.grownBy (W.setCell ⟨g,i,none⟩ v) (some g) :=
  ⟨rfl,rfl,rfl,by simp [World.setCell],fun k hk hne=>Below.heap_setCell W ⟨g,i,none⟩ v k (fun e=>hne (by rw [e]))⟩
end
end Go.Proofs.YtenbelecmmpdgaaGreatDoorW.Blks
end
