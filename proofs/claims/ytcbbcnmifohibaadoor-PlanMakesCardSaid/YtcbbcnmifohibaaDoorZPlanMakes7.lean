/- Made by programs of the prover: walks of Go functions, the words that they use, and plain laws, each text in a section of its own; no condition of its own. -/
import Derived.Test.YtcbbcnmifohibaaDoorZPlanMakes2
section
namespace Go.Proofs.YtcbbcnmifohibaaDoor.All
open Go.RowKit Go.Proofs.YtcbbcnmifohibaaDoorW.PrintWords Go.Proofs.YtcbbcnmifohibaaDoorW.PrintLast Go.Proofs.YtcbbcnmifohibaaDoorW.PrintMore
open Go.Proofs.YtcbbcnmifohibaaDoorW.Mine
attribute [local go_sem] gtr_string leq_string geq_string
attribute [local go_sem] max2_int min2_int max_two min_two max_three min_three max_four min_four
set_option linter.unusedVariables false
set_option linter.unusedSimpArgs false
def creelref_parts.l0:Nat→ByteArray→Int→List ByteArray→Int→Option (List ByteArray)
 | 0,_,_,_,_=>none
 | k + 1,x0,x1,x5,x6=>if x6 < (x0.size:Int) then (if 0 ≤ x6 then (if (bt x0 x6) = x1 then (if x5.length < 8796093022208 then (creelref_parts.l0 k x0 x1 (x5 ++ [(⟨#[]⟩:ByteArray)]) (wrap64 (x6 + 1))) else (none)) else (if 0 ≤ (wrap64 ((x5.length:Int) - 1)) then (if (wrap64 ((x5.length:Int) - 1)) < (x5.length:Int) then (if x6 ≤ (wrap64 (x6 + 1)) then (if (wrap64 (x6 + 1)) ≤ (x0.size:Int) then (if (rdOf ByteArray.empty x5 (wrap64 ((x5.length:Int) - 1))).size + (x0.extract (x6:Int).toNat ((wrap64 (x6 + 1)):Int).toNat).size ≤ 9223372036854775807 then (creelref_parts.l0 k x0 x1 (x5.set ((wrap64 ((x5.length:Int) - 1)):Int).toNat ((rdOf ByteArray.empty x5 (wrap64 ((x5.length:Int) - 1))) ++ (x0.extract (x6:Int).toNat ((wrap64 (x6 + 1)):Int).toNat))) (wrap64 (x6 + 1))) else (none)) else (none)) else (none)) else (none)) else (none))) else (none)) else (some x5)
def creelref_parts.f (k:Nat) (a0:ByteArray) (a1:Int):Option (List ByteArray):=creelref_parts.l0 k a0 a1 (([(⟨#[]⟩:ByteArray)]:List ByteArray)) 0
def creelref_parts.T7:Bool × List (List Nat × List Nat):=(true,[([],[]),([],[]),([1],[1]),([2],[2]),([0,3],[0,3]),([4],[4]),([],[]),([],[]),([],[]),([8],[8]),([6,7,9],[6,7,9]),([5,10],[5,10]),([0,3,0,1,2,3,4,5,6,7,8,9,10,11],[0,3]),([12,11,0,1,2,3,4,5,6,7,8,9,10,11],[11,12])])
def creelref_parts.B7:List Nat:=[0,0,2,6,15,31,0,0,0,256,960,2047,4095,8191]
theorem creelref_parts.tab7:rtab .any (opsOf Tryd.f33 7) = creelref_parts.T7:=by kernel_rfl
theorem creelref_parts.bits7:waitsOk creelref_parts.T7.2 creelref_parts.B7 = true:=by kernel_rfl
set_option maxHeartbeats 8000000 in
set_option maxRecDepth 100000 in
theorem creelref_parts.calls (k:Nat) (a0:ByteArray) (a1:Int) (r:List ByteArray) (w:World) (h:creelref_parts.f k a0 a1 = some r) :
 Calls Tryd.prog 33 #[.string a0,.int .u8 a1] w fun e w'=>∃ v0_:Value,e = .returned (v0_)∧Kd.R Kd.string 9 w' w.heap.size (fun _=>True) v0_ r∧Below w.heap.size w w':=by
 have HB:=Aside0.mk (Below.refl w.heap.size w);have H:(creelref_parts.l0 k a0 a1 (([(⟨#[]⟩:ByteArray)]:List ByteArray)) 0) = some r:=h;clear h;obtain ⟨y101,hy101⟩:∃ y_:List ByteArray,y_ = (([(⟨#[]⟩:ByteArray)]:List ByteArray)):=⟨_,rfl⟩
 replace H:(creelref_parts.l0 k a0 a1 y101 0) = some r:=by first|(rw [hy101];with_reducible exact H)|(have H2_:=(Option.bind_some _ _).symm.trans H;rw [hy101];with_reducible exact H2_)|(have H2_:=(Option.bind_some _ _).symm.trans H;with_reducible exact H2_)|with_reducible exact H|(rw [hy101];exact H)|exact H
 have Ny101:=Aside0.mk hy101;clear hy101;have H':=Aside0.mk H;clear H;go_enter Tryd.func33,Tryd.ntmps33;go_wp2_with (first|((with_reducible refine gate_dst (N:=7) rfl ?_);refine Kd.R_lit Kd.string _ 9 ?hg (N:=7) ?hd (xs:=([(⟨#[]⟩:ByteArray)]:List ByteArray)) (inner:=[.string (⟨#[]⟩:ByteArray)]) (ok:=fun _=>True) (okp:=fun _=>True) ?hr ?hp (fun _ hk=>hk) trivial (Below.refl _ _) (Nat.le_refl _) (by simp) ?_;(case hd=>rfl);(case hg=>rfl);(case hr=>first|(go_simp;done)|(go_simp;rfl));(case hp=>exact (Reps.one (show Kd.M Kd.string _ _ _ (⟨#[]⟩:ByteArray) [.string (⟨#[]⟩:ByteArray)] from rfl) (Reps.none _ _)));intro v102 w3 ho4 hb hg_ hnew_;clear hg_ hnew_;(first|rw [← Ny101.out] at ho4|(simp only [Int.reduceToNat] at ho4;rw [← Ny101.out] at ho4));have n0_:=Aside0.mk (Kd.R_lower ho4 (below_size (by repeat (first|(with_reducible first|exact HB.out|apply bwA|apply pwbN|apply bw1)|exact HB.out))));have n1_:=Aside0.mk (below_step (by repeat (first|(with_reducible first|exact HB.out|apply bwA|apply pwbN|apply bw1)|exact HB.out)) hb);clear HB;have HO103:=n0_;have HB:=n1_;clear n0_ n1_;clear hb ho4))
 go_loopg [5,6] k (fun kq v5 v6 w'=>∃ (x5_1:List ByteArray) (x6_1:Int),v6 = .int .i64 x6_1∧Aside0 (creelref_parts.l0 kq a0 a1 x5_1 x6_1 = some r)∧Aside0 (kq ≤ k)∧Aside0 (Kd.R Kd.string 9 w' w.heap.size (fun _=>True) v5 x5_1)∧Aside0 (Below w.heap.size w w'))
 case atStart=>exact ⟨(y101),(0),(by first|rfl|(simp;done)|(simp [*];done)),H',⟨Nat.le_refl _⟩,⟨by (with_reducible repeat (first|apply Kd.R_alloc|apply Kd.R_drewN|apply Kd.R_drew));exact HO103.out⟩,⟨by repeat (first|(with_reducible first|exact HB.out|apply bwA|apply pwbN|apply bw1)|exact HB.out)⟩⟩
 case round =>
  clear H';obtain ⟨x5_1,x6_1,rfl,HA,HK1,HO_5,HB⟩:=hrel;cases gk with
  | zero=>exact absurd HA.out (by simp [creelref_parts.l0])
  | succ k1 =>
   have H:=HA.out;clear HA;simp only [creelref_parts.l0] at H;by_cases c5:x6_1 < (a0.size:Int)
   ·rw [if_pos c5] at H;have c5b0:decide (x6_1 < (a0.size:Int)) = true:=decide_eq_true c5;clear c5;by_cases c6:0 ≤ x6_1
    ·rw [if_pos c6] at H;have c6b0:decide (0 ≤ x6_1) = true:=decide_eq_true c6;clear c6;by_cases c8:(bt a0 x6_1) = a1
     ·rw [if_pos c8] at H;have c8b0:((bt a0 x6_1) == a1) = true:=beq_iff_eq.mpr c8;have c8b1:((bt a0 x6_1) != a1) = false:=bne_eq_false_iff_eq.mpr c8;clear c8;by_cases c9:x5_1.length < 8796093022208
      ·rw [if_pos c9] at H;have LMc9:=Aside0.mk c9;clear c9;obtain ⟨y104,hy104⟩:∃ y_:List ByteArray,y_ = (x5_1 ++ [(⟨#[]⟩:ByteArray)]):=⟨_,rfl⟩
       replace H:(creelref_parts.l0 k1 a0 a1 y104 (wrap64 (x6_1 + 1))) = some r:=by first|(rw [hy104];with_reducible exact H)|(have H2_:=(Option.bind_some _ _).symm.trans H;rw [hy104];with_reducible exact H2_)|(have H2_:=(Option.bind_some _ _).symm.trans H;with_reducible exact H2_)|with_reducible exact H|(rw [hy104];exact H)|exact H
       have Ny104:=Aside0.mk hy104;clear hy104;have H':=Aside0.mk H;clear H;have p7:0 ≤ (x6_1:Int):=of_decide_eq_true (by first|(with_reducible assumption)|assumption);have q7:x6_1 < (a0.size:Int):=of_decide_eq_true (by first|(with_reducible assumption)|assumption);have hx7:=bt_at a0 x6_1;replace p7:=eq_true p7;replace q7:=eq_true q7;go_wp2_with (first|((with_reducible refine gate_builtin (b := .append) (xs:=#[.tmp 19,.tmp 20]) rfl ?_);at_builtin;refine Kd.R_append Kd.string (w0:=w) w.heap.size rfl (.tmp 19) (.tmp 20) 51 9 (.string ⟨#[]⟩) 16 rfl Tryd.underlying51 info9 rfl (by decide) (by omega) u5 x5_1 (⟨#[]⟩:ByteArray) [.string (⟨#[]⟩:ByteArray)] (fun _=>True) (fun _=>False) rfl rfl ?aP (fun _ hk=>hk.elim) ?aF ?aO ?aB ?aS ?aL ?_;(case aP=>exact rfl);(case aB=>exact (by repeat (first|(with_reducible first|exact HB.out|apply bwA|apply pwbN|apply bw1)|exact HB.out)));(case aF=>exact (fun _ _=>trivial));(case aO=>exact (by (with_reducible repeat (first|apply Kd.R_alloc|apply Kd.R_drewN|apply Kd.R_drew));exact HO_5.out));(case aS=>exact (below_size (by repeat (first|(with_reducible first|exact HB.out|apply bwA|apply pwbN|apply bw1)|exact HB.out))));(case aL=>have:=LMc9.out;omega);intro v105 w10 ho hb hg hat;rw [← Ny104.out] at ho;have n0_:=Aside0.mk (hb);have n1_:=Aside0.mk (ho);clear HB;clear HO_5;have HB:=n0_;have HO106:=n1_;clear n0_ n1_;clear ho hb hg hat))
       go_roundg k1
       case measure=>have:=HK1.out;omega
       case rel=>exact ⟨(y104),(wrap64 (x6_1 + 1)),(by first|rfl|(simp;done)|(simp [*];done)),H',⟨by have:=HK1.out;omega⟩,⟨by (with_reducible repeat (first|apply Kd.R_alloc|apply Kd.R_drewN|apply Kd.R_drew));exact HO106.out⟩,⟨by repeat (first|(with_reducible first|exact HB.out|apply bwA|apply pwbN|apply bw1)|exact HB.out)⟩⟩
      ·rw [if_neg c9] at H;exact absurd H (by simp)
     ·rw [if_neg c8] at H;have c8b0:((bt a0 x6_1) == a1) = false:=beq_eq_false_iff_ne.mpr c8;have c8b1:((bt a0 x6_1) != a1) = true:=bne_iff_ne.mpr c8;obtain ⟨ji11,hji11⟩:∃ j_:Int,(wrap64 ((x5_1.length:Int) - 1)) = j_:=⟨_,rfl⟩
      replace H:(if 0 ≤ (ji11) then (if (ji11) < (x5_1.length:Int) then (if x6_1 ≤ (wrap64 (x6_1 + 1)) then (if (wrap64 (x6_1 + 1)) ≤ (a0.size:Int) then (if (rdOf ByteArray.empty x5_1 (ji11)).size + (a0.extract (x6_1:Int).toNat ((wrap64 (x6_1 + 1)):Int).toNat).size ≤ 9223372036854775807 then (creelref_parts.l0 k1 a0 a1 (x5_1.set ((ji11):Int).toNat ((rdOf ByteArray.empty x5_1 (ji11)) ++ (a0.extract (x6_1:Int).toNat ((wrap64 (x6_1 + 1)):Int).toNat))) (wrap64 (x6_1 + 1))) else (none)) else (none)) else (none)) else (none)) else (none)) = some r:=by first|(rw [hji11] at H;exact H)|(simp only [hji11] at H ⊢;exact H)
      have hji11w:(IntKind.i64.wrap ((x5_1.length:Int) - 1)) = ji11:=(i64_w _).trans hji11;by_cases c12:0 ≤ (ji11)
      ·rw [if_pos c12] at H;have c12b0:decide (0 ≤ (ji11)) = true:=decide_eq_true c12;clear c12;by_cases c13:(ji11) < (x5_1.length:Int)
       ·rw [if_pos c13] at H;have c13b0:decide ((ji11) < (x5_1.length:Int)) = true:=decide_eq_true c13;clear c13;have c14b0:=eq_true (of_decide_eq_true (by first|(with_reducible assumption)|assumption):0 ≤ x6_1);by_cases c15:x6_1 ≤ (wrap64 (x6_1 + 1))
        ·rw [if_pos c15] at H;have c15b0:=eq_true c15;have c15b1:decide (x6_1 ≤ (wrap64 (x6_1 + 1))) = true:=decide_eq_true c15;by_cases c16:(wrap64 (x6_1 + 1)) ≤ (a0.size:Int)
         ·rw [if_pos c16] at H;have c16b0:=eq_true c16;have c16b1:decide ((wrap64 (x6_1 + 1)) ≤ (a0.size:Int)) = true:=decide_eq_true c16;by_cases c17:(rdOf ByteArray.empty x5_1 (ji11)).size + (a0.extract (x6_1:Int).toNat ((wrap64 (x6_1 + 1)):Int).toNat).size ≤ 9223372036854775807
          ·rw [if_pos c17] at H;have c17b0:=eq_true c17;have c17b1:decide ((rdOf ByteArray.empty x5_1 (ji11)).size + (a0.extract (x6_1:Int).toNat ((wrap64 (x6_1 + 1)):Int).toNat).size ≤ 9223372036854775807) = true:=decide_eq_true c17;try have c17b2:(9223372036854775807 < (rdOf ByteArray.empty x5_1 (ji11)).size + (a0.extract (x6_1:Int).toNat ((wrap64 (x6_1 + 1)):Int).toNat).size) = False:=eq_false (Nat.not_lt.2 c17)
           try have c17b3:(9223372036854775807 < (rdOf ByteArray.empty x5_1 (ji11)).size + (((wrap64 (x6_1 + 1))).toNat - (x6_1).toNat)) = False:=eq_false (by have h_:=c17;simp only [ByteArray.size_extract] at h_;omega)
           obtain ⟨y108,hy108⟩:∃ y_:List ByteArray,y_ = (x5_1.set ((ji11):Int).toNat ((rdOf ByteArray.empty x5_1 (ji11)) ++ (a0.extract (x6_1:Int).toNat ((wrap64 (x6_1 + 1)):Int).toNat))):=⟨_,rfl⟩
           replace H:(creelref_parts.l0 k1 a0 a1 y108 (wrap64 (x6_1 + 1))) = some r:=by first|(rw [hy108];with_reducible exact H)|(have H2_:=(Option.bind_some _ _).symm.trans H;rw [hy108];with_reducible exact H2_)|(have H2_:=(Option.bind_some _ _).symm.trans H;with_reducible exact H2_)|with_reducible exact H|(rw [hy108];exact H)|exact H
           have Ny108:=Aside0.mk hy108;clear hy108;have H':=Aside0.mk H;clear H;have p7:0 ≤ (x6_1:Int):=of_decide_eq_true (by first|(with_reducible assumption)|assumption);have q7:x6_1 < (a0.size:Int):=of_decide_eq_true (by first|(with_reducible assumption)|assumption);have hx7:=bt_at a0 x6_1;replace p7:=eq_true p7;replace q7:=eq_true q7;try go_wp2
           have n0_:=Aside0.mk (Kd.R_drew HO_5.out);have n1_:=Aside0.mk (bw1 HB.out);clear HO_5;clear HB;have HO_5:=n0_;have HB:=n1_;clear n0_ n1_;obtain ⟨Ao20,co20,eo20⟩:=Kd.R_slice HO_5.out;(first|subst eo20|(injection eo20 with f1_ f2_ f3_;have f4_:=f1_.symm;have f5_:=f3_.symm;clear f1_ f2_ f3_;subst f4_;subst f5_));have p107:0 ≤ ((ji11):Int):=of_decide_eq_true (by first|(with_reducible assumption)|assumption);have q107:(ji11) < (x5_1.length:Int):=of_decide_eq_true (by first|(with_reducible assumption)|assumption);obtain ⟨ad107,e107,hx107_0⟩:=Kd.at_string (Kd.R_reads' HO_5.out).2.2 (ji11) p107 q107;cases e107;replace p107:=eq_true p107;replace q107:=eq_true q107;have p18:0 ≤ ((ji11):Int):=of_decide_eq_true (by first|(with_reducible assumption)|assumption);have q18:((ji11):Int) < ((x5_1.length:Int):Int):=of_decide_eq_true (by first|(with_reducible assumption)|assumption);obtain ⟨go18,co18,eo18,gb18,gl18,cl18,HG18⟩:=Kd.R_form HO_5.out (by omega);(first|cases eo18|(injection eo18 with ea_ en_ ec_;(first|subst ea_|(injection ea_ with ea_;subst ea_));subst ec_;clear en_));have GB18:=Aside0.mk gb18;have GG18:=Aside0.mk HG18;clear gb18 gl18 HG18;(first|simp only [add_plain] at hx107_0|skip);obtain ⟨hx18_0,hf18_0⟩:=Kd.R_celln (⟨#[]⟩:ByteArray) HO_5.out ((ji11):Int) p18 q18;replace p18:=eq_true p18;replace q18:=eq_true q18;have HP21:=Kd.R_putn HO_5.out ((ji11):Int) ((rdOf ByteArray.empty x5_1 (ji11)) ++ (a0.extract (x6_1:Int).toNat ((wrap64 (x6_1 + 1)):Int).toNat));rw [← Ny108.out] at HP21;have HQ21:=Aside0.mk HP21;clear HP21;refine start_ (n:=14) (S:=fun w'=>w'.cell? ⟨go18,((ji11)).toNat,none⟩ = some (.string (rdOf ByteArray.empty x5_1 (ji11)))) (ds:=[13]) #[false,false,false,false,false,false,false,false,false,false,false,false,false,false] (by kernel_rfl) rfl rfl (hx107_0) (fun hHeld=>?_);refine with_tabW creelref_parts.tab7 creelref_parts.bits7 (fun HT_ HW_=>?_);generalize wr.drew = w19 at HO_5 HB GG18 HQ21 hf18_0 hx107_0 hx18_0 hHeld ⊢;refine pure_ (i:=0) (N:=some 22) (v:=?_) (a':=?_) #[true,false,false,false,false,false,false,false,false,false,false,false,false,false] rfl rfl (any_of HT_.out (by kernel_rfl)) (fun _ _ _ h=>h) (Or.inl ⟨by rfl,?_⟩) ?_ ?_;rotate_left
           ·intro w';go_simp
            with_reducible rfl
           rotate_left
           ·simp only [Act.put,List.setIfInBounds_toArray,List.set_cons_zero,List.set_cons_succ,i64_w,i32_w];rfl
           refine pure_ (i:=1) (N:=some 23) (v:=?_) (a':=?_) #[true,true,false,false,false,false,false,false,false,false,false,false,false,false] rfl rfl (any_of HT_.out (by kernel_rfl)) (fun _ _ _ h=>h) (Or.inl ⟨by rfl,?_⟩) ?_ ?_;rotate_left
           ·intro w';go_simp
            with_reducible rfl
           rotate_left
           ·simp only [Act.put,List.setIfInBounds_toArray,List.set_cons_zero,List.set_cons_succ,i64_w,i32_w];rfl
           refine pure_ (i:=2) (N:=some 24) (v:=?_) (a':=?_) #[true,true,true,false,false,false,false,false,false,false,false,false,false,false] rfl rfl (any_of HT_.out (by kernel_rfl)) (fun _ _ _ h=>h) (Or.inl ⟨by rfl,?_⟩) ?_ ?_;rotate_left
           ·intro w';go_simp
            with_reducible rfl
           rotate_left
           ·simp only [Act.put,List.setIfInBounds_toArray,List.set_cons_zero,List.set_cons_succ,i64_w,i32_w];rfl
           refine pure_ (i:=3) (N:=some 25) (v:=?_) (a':=?_) #[true,true,true,true,false,false,false,false,false,false,false,false,false,false] rfl rfl (any_of HT_.out (by kernel_rfl)) (fun _ _ _ h=>h) (Or.inl ⟨by rfl,?_⟩) ?_ ?_;rotate_left
           ·intro w';go_simp
            with_reducible rfl
           rotate_left
           ·simp only [Act.put,List.setIfInBounds_toArray,List.set_cons_zero,List.set_cons_succ,i64_w,i32_w];rfl
           refine pure_ (i:=4) (N:=some 26) (v:=?_) (a':=?_) #[true,true,true,true,true,false,false,false,false,false,false,false,false,false] rfl rfl (any_of HT_.out (by kernel_rfl)) (fun _ _ _ h=>h) (Or.inl ⟨by rfl,?_⟩) ?_ ?_;rotate_left
           ·intro w';go_simp
            with_reducible rfl
           rotate_left
           ·simp only [Act.put,List.setIfInBounds_toArray,List.set_cons_zero,List.set_cons_succ,i64_w,i32_w];rfl
           refine pure_ (i:=6) (N:=some 28) (v:=?_) (a':=?_) #[true,true,true,true,true,false,true,false,false,false,false,false,false,false] rfl rfl (any_of HT_.out (by kernel_rfl)) (fun _ _ _ h=>h) (Or.inl ⟨by rfl,?_⟩) ?_ ?_;rotate_left
           ·intro w';go_simp
            with_reducible rfl
           rotate_left
           ·simp only [Act.put,List.setIfInBounds_toArray,List.set_cons_zero,List.set_cons_succ,i64_w,i32_w];rfl
           refine pure_ (i:=7) (N:=some 29) (v:=?_) (a':=?_) #[true,true,true,true,true,false,true,true,false,false,false,false,false,false] rfl rfl (any_of HT_.out (by kernel_rfl)) (fun _ _ _ h=>h) (Or.inl ⟨by rfl,?_⟩) ?_ ?_;rotate_left
           ·intro w';go_simp
            with_reducible rfl
           rotate_left
           ·simp only [Act.put,List.setIfInBounds_toArray,List.set_cons_zero,List.set_cons_succ,i64_w,i32_w];rfl
           refine pure_ (i:=8) (N:=some 30) (v:=?_) (a':=?_) #[true,true,true,true,true,false,true,true,true,false,false,false,false,false] rfl rfl (any_of HT_.out (by kernel_rfl)) (fun _ _ _ h=>h) (Or.inl ⟨by rfl,?_⟩) ?_ ?_;rotate_left
           ·intro w';go_simp
            with_reducible rfl
           rotate_left
           ·simp only [Act.put,List.setIfInBounds_toArray,List.set_cons_zero,List.set_cons_succ,i64_w,i32_w];rfl
           refine pure_ (i:=9) (N:=some 31) (v:=?_) (a':=?_) #[true,true,true,true,true,false,true,true,true,true,false,false,false,false] rfl rfl (any_of HT_.out (by kernel_rfl)) (fun _ _ _ h=>h) (Or.inl ⟨by rfl,?_⟩) ?_ ?_;rotate_left
           ·intro w';go_simp
            with_reducible rfl
           rotate_left
           ·simp only [Act.put,List.setIfInBounds_toArray,List.set_cons_zero,List.set_cons_succ,i64_w,i32_w];rfl
           refine pure_ (i:=10) (N:=some 32) (v:=?_) (a':=?_) #[true,true,true,true,true,false,true,true,true,true,true,false,false,false] rfl rfl (any_of HT_.out (by kernel_rfl)) (fun _ _ _ h=>h) (Or.inl ⟨by rfl,?_⟩) ?_ ?_;rotate_left
           ·intro w';go_simp
            with_reducible rfl
           rotate_left
           ·simp only [Act.put,List.setIfInBounds_toArray,List.set_cons_zero,List.set_cons_succ,i64_w,i32_w];rfl
           refine take_ (i:=5) (N:=some 27) (v:=?_) (a':=?_) #[true,true,true,true,true,true,true,true,true,true,true,false,false,false] rfl rfl (take_ofW HT_.out HW_.out (by kernel_rfl)) (fun _ _ _ h=>h) (Or.inl ⟨by rfl,?_⟩) hHeld ?_ ?_;rotate_left
           ·intro w' s0;go_simp
            with_reducible rfl
           rotate_left
           ·simp only [Act.put,List.setIfInBounds_toArray,List.set_cons_zero,List.set_cons_succ,i64_w,i32_w];rfl
           refine pure_ (i:=11) (N:=some 33) (v:=?_) (a':=?_) #[true,true,true,true,true,true,true,true,true,true,true,true,false,false] rfl rfl (any_of HT_.out (by kernel_rfl)) (fun _ _ _ h=>h) (Or.inl ⟨by rfl,?_⟩) ?_ ?_;rotate_left
           ·intro w';go_simp
            with_reducible rfl
           rotate_left
           ·simp only [Act.put,List.setIfInBounds_toArray,List.set_cons_zero,List.set_cons_succ,i64_w,i32_w];rfl
           refine pure_ (i:=12) (N:=some 34) (v:=?_) (a':=?_) #[true,true,true,true,true,true,true,true,true,true,true,true,true,false] rfl rfl (any_of HT_.out (by kernel_rfl)) (fun _ _ _ h=>h) (Or.inl ⟨by rfl,?_⟩) ?_ ?_;rotate_left
           ·intro w';go_simp
            with_reducible rfl
           rotate_left
           ·simp only [Act.put,List.setIfInBounds_toArray,List.set_cons_zero,List.set_cons_succ,i64_w,i32_w];rfl
           refine last_ (i:=13) (N:=none) #[true,true,true,true,true,true,true,true,true,true,true,true,true,true] rfl rfl (one_of HT_.out (by kernel_rfl)) (by decide) (fun K hK=>?_);refine skip_ (w1:=?_) (by rfl) rfl ?_ ?_;rotate_left
           ·go_simp
            rfl
           refine hK.out _ _ ?_;clear hK K;refine done_ (done_of HT_.out (by kernel_rfl)) ?_;try go_wp2
           go_roundg k1
           case measure=>have:=HK1.out;omega
           case rel=>exact ⟨(y108),(wrap64 (x6_1 + 1)),(by first|rfl|(simp;done)|(simp [*];done)),H',⟨by have:=HK1.out;omega⟩,⟨by (with_reducible repeat (first|apply Kd.R_alloc|apply Kd.R_drewN|apply Kd.R_drew));exact HQ21.out⟩,⟨by repeat (first|(with_reducible first|exact HB.out|apply bwA|apply pwbN|apply bw1|refine below_set ?_ GB18.out)|exact HB.out)⟩⟩
          ·rw [if_neg c17] at H;exact absurd H (by simp)
         ·rw [if_neg c16] at H;exact absurd H (by simp)
        ·rw [if_neg c15] at H;exact absurd H (by simp)
       ·rw [if_neg c13] at H;exact absurd H (by simp)
      ·rw [if_neg c12] at H;exact absurd H (by simp)
    ·rw [if_neg c6] at H;exact absurd H (by simp)
   ·rw [if_neg c5] at H;have c5b0:decide (x6_1 < (a0.size:Int)) = false:=decide_eq_false c5;clear c5;obtain rfl:=Option.some.inj H;go_wp2;go_ret
    exact ⟨_,by first|rfl|(simp [errW_none,errW_some] <;> rfl)|(simp [*,errW_none,errW_some] <;> rfl),by (with_reducible repeat (first|apply Kd.R_alloc|apply Kd.R_drewN|apply Kd.R_drew));exact HO_5.out,by repeat (first|(with_reducible first|exact HB.out|apply bwA|apply pwbN|apply bw1)|exact HB.out)⟩
end Go.Proofs.YtcbbcnmifohibaaDoor.All
end
