/- Made by programs of the prover: walks of Go functions, the words that they use, and plain laws, each text in a section of its own; no condition of its own. -/
import Derived.Great.BuildSlice
import Derived.Test.YtcbbcnmifohibaaDoorZPlanMakes2
import Derived.Test.YtcbbcnmifohibaaDoorZPlanMakes6
import Derived.Test.YtcbbcnmifohibaaDoorZPlanMakes7
section
namespace Go.Proofs.YtcbbcnmifohibaaDoor.All
open Go.RowKit Go.Proofs.YtcbbcnmifohibaaDoorW.PrintWords Go.Proofs.YtcbbcnmifohibaaDoorW.PrintLast Go.Proofs.YtcbbcnmifohibaaDoorW.PrintMore
open Go.Proofs.YtcbbcnmifohibaaDoorW.Mine
attribute [local go_sem] gtr_string leq_string geq_string
attribute [local go_sem] max2_int min2_int max_two min_two max_three min_three max_four min_four
set_option linter.unusedVariables false
set_option linter.unusedSimpArgs false
open Go.Proofs.YtcbbcnmifohibaaDoorW.MapOwn Go.Proofs.YtcbbcnmifohibaaDoorW.Blks
def rGF.kT:Kd (List Bool) where
 sz:=257
 E:=[]
 K:=fun _ x cs=>x.length = 257∧cs = x.map Value.bool
 M:=fun _ _ _ x cs=>x.length = 257∧cs = x.map Value.bool
 K_len:=by rintro w x cs ⟨h,rfl⟩;rw [List.length_map];exact h
 K_one:=by rintro w x cs ⟨_,rfl⟩ u hu;obtain ⟨b,_,rfl⟩:=List.mem_map.1 hu;rfl
 K_below:=fun _ h=>h
 K_of_M:=fun h=>h
 M_mono:=fun _ h=>h
 M_bound:=fun h=>h
 M_move:=fun _ h=>h
 M_lower:=fun _ h=>h
abbrev rGF.Bk (W:World) (g:Nat) (x:List Bool):Prop:=W.heap[g]? = some (.cells (x.map Value.bool).toArray 91 (0,0))
section
variable {P:Program} {ops:Array Oper} {rest:List Oper} {o:Oper} {a:Act} {Q:Exit→Act→World→Prop} {W:World}
theorem rGF.build_event (hgd:o.guard = none) {t:TypeId} {parts:Array (Nat × Operand)} (ho:o.op = .build t parts) {cells:Array Value} (hp:P.built t (parts.map fun (i,x)=>(i,a.eval x)).toList = some cells) (h:wpList P ops Q rest (a.put o.dst (.agg cells)) W):wpList P ops Q (o :: rest) a W:=by
 refine wpList_build hgd t parts ho (by rw [hp];rfl) ?_;rw [hp];exact h
theorem rGF.idx_event (hgd:o.guard = none) {t e:TypeId} {n:Nat} {x y:Operand} (ho:o.op = .indexAddr t x y) {g j m:Nat} {k:IntKind} {i:Int} (hx:a.eval x = .pointer (some ⟨g,j,none⟩)) (hy:a.eval y = .int k i) (hu:P.underlying t = some (.array n e)) (hsz:(P.info? e).map (·.size) = some 1) (h0:0 ≤ i) (h1:i < n) (hm:j + i.toNat = m) (h:wpList P ops Q rest (a.put o.dst (.pointer (some ⟨g,m,none⟩))) W):wpList P ops Q (o :: rest) a W:=by
 subst hm;refine wpList_plain hgd fun K hK=>?_
 unfold Oper.wp execOp;obtain ⟨i0,hi0,hi1⟩:=Option.map_eq_some_iff.1 hsz;have he:P.elem t = e:=by unfold Program.elem;simp [hu]
 have hn:P.arrayLen t = n:=by unfold Program.arrayLen;simp [hu]
 have hrun:(Instr.indexAt t (.pointer (some ⟨g,j,none⟩)) (.int k i)).run P W = .ok (.pointer (some ⟨g,j + i.toNat,none⟩)) W:=by
  rw [run_indexAt_array W t _ k i (by rw [he,hn];exact hu),hn,he,if_pos ⟨h0,h1⟩];simp [sizeOf,typeInfo,hi0,hi1,Addr.add]
 simp only [ho,hx,hy,Sem.run_bind,hrun,Result.andThen_ok];exact hK _ _ h
theorem rGF.setB_event (hgd:o.guard = none) (hd:o.dst = none) {t:TypeId} {x y:Operand} (ho:o.op = .store t x y) {g j:Nat} {b:Bool} {l:List Bool} (hx:a.eval x = .pointer (some ⟨g,j,none⟩)) (hy:a.eval y = .bool b) (hsz:(P.info? t).map (·.size) = some 1) (hg:rGF.Bk W g l) (hj:j < l.length) (h:∀ W',rGF.Bk W' g (l.set j b)→W.grownBy W' (some g)→wpList P ops Q rest a W'):wpList P ops Q (o :: rest) a W:=by
 refine wpList_plain hgd fun K hK=>?_
 obtain ⟨i0,hi0,hi1⟩:=Option.map_eq_some_iff.1 hsz;have hc:W.cell? ⟨g,j,none⟩ = some (.bool (l[j])):=(blk_cell hg j).trans (by simp [hj]);have hrun:(Instr.storeAt t (.pointer (some ⟨g,j,none⟩)) (.bool b)).run P W = .ok () (W.setCell ⟨g,j,none⟩ (.bool b)):=by
  simp [Instr.storeAt,Instr.sureAddr,storeVar,sizeOf,typeInfo,hi0,hi1,Value.cells,storeCells,go_sem,hc,blkF hg j]
 unfold Oper.wp execOp;simp only [ho,hx,hy,Sem.run_bind,hrun,Result.andThen_ok];refine hK _ _ ?_;rw [hd];refine h _ (blk_put hg j _ ?_) (grownBy_setCell W g j _);simp [List.map_set]
end
def rGF.z256:List Bool:=List.replicate 256 false
theorem rGF.z_len:rGF.z256.length = 256:=by unfold rGF.z256;rw [List.length_replicate]
def rGF.zz:List Bool:=false :: rGF.z256
theorem rGF.built (b:Bool):Tryd.prog.built 91 [(0,.bool b)] = some ((b :: rGF.z256).map Value.bool).toArray:=by cases b <;> kernel_rfl
theorem rGF.zero (w:World):(zeroValue 91).run Tryd.prog w = .ok (.agg (rGF.zz.map Value.bool).toArray) w:=by kernel_rfl
theorem rGF.info:(Tryd.prog.info? 91).map (fun i=>(i.zero,i.size,i.bytes)) = some (some (.agg (rGF.zz.map Value.bool).toArray),257,257):=by kernel_rfl
theorem rGF.sz4:(Tryd.prog.info? 4).map (·.size) = some 1:=by kernel_rfl
theorem rGF.szT:(Tryd.prog.info? 91).map (·.size) = some 257:=by kernel_rfl
theorem rGF.alloc_run {o:Oper} {a:Act} (ho:o.op = .alloc 91) (W:World):(execOp a.eval o).run Tryd.prog W = .ok (.value (.pointer (some ⟨W.heap.size,0,none⟩))) (W.alloc (.cells (rGF.zz.map Value.bool).toArray 91 (0,0))):=by
 unfold execOp;simp only [ho,Instr.alloc,Sem.run_bind,rGF.zero,Result.andThen_ok];rfl
section
variable {P:Program} {ops:Array Oper} {rest:List Oper} {o:Oper} {a:Act} {Q:Exit→Act→World→Prop} {W:World}
theorem rGF.put_event (hgd:Region.wanted o (yielded ops a.tmps) = true) (hd:o.dst = none) {ty:TypeId} {x y:Operand} (ho:o.op = .store ty x y) {g:Nat} {l l0:List Bool} (hx:a.eval x = .pointer (some ⟨g,0,none⟩)) (hy:a.eval y = .agg (l.map Value.bool).toArray) (hg:rGF.Bk W g l0) (hsz:(P.info? ty).map (·.size) = some 257) (h0:l0.length = 257) (h1:l.length = 257) (h:∀ W',rGF.Bk W' g l→W.grownBy W' (some g)→wpList P ops Q rest a W'):wpList P ops Q (o :: rest) a W :=
 Go.Proofs.YtcbbcnmifohibaaDoorW.MapOwn.put_event hgd hd ho hx hy hg (by rw [hsz];simp [h1]) (by simp [h0,h1]) (by rw [List.all_eq_true];intro v hv;obtain ⟨b,_,rfl⟩:=List.mem_map.1 hv;rfl) h
theorem rGF.one_event (hgd:o.guard = none) {t e:TypeId} {x:Operand} (ho:o.op = .buildSlice t 1 #[(0,x)]) {l:List Bool} (hx:a.eval x = .agg (l.map Value.bool).toArray) (hl:l.length = 257) (hu:P.underlying t = some (.slice e)) {z:Value} {bytes:Nat} (hinfo:(P.info? e).map (fun i=>(i.zero,i.size,i.bytes)) = some (some z,257,bytes)) (h:wpList P ops Q rest (a.put o.dst (.slice (some ⟨W.heap.size,0,none⟩) 1 1)) (W.alloc (.cells (l.map Value.bool).toArray e))):wpList P ops Q (o :: rest) a W:=by
 obtain ⟨ie,hie,hz⟩:=Option.map_eq_some_iff.1 hinfo;simp only [Prod.mk.injEq] at hz;obtain ⟨hz0,hz1,hz2⟩:=hz;refine wpList_buildSlice hgd t e 1 #[(0,x)] ho _ ie z hu hie hz0 (by omega) (by omega) ?_ h;have hf:=Great.fill_whole (s:=257) (by omega) [.agg (l.map Value.bool).toArray] ((Array.range (1 * ie.size)).map (z.cells[· % z.cells.size]!)) (fun v hv=>by rw [List.mem_singleton.1 hv];simp [Value.cells,hl]) (by simp [hz1]);rw [hz1] at hf ⊢;simp only [List.map_toArray,List.map_cons,List.map_nil,hx];simpa [Value.cells] using hf
end
def rGF.ran:Nat→List Bool→Nat→List Bool
 | 0,x,_=>x
 | n + 1,x,c=>rGF.ran n (x.set (c + 1) true) (c + 1)
def rGF.flip:Nat→List Bool→Nat→List Bool
 | 0,x,_=>x
 | n + 1,x,c=>rGF.flip n (x.set (c + 1) (!(x.getD (c + 1) false))) (c + 1)
theorem rGF.ran_len:∀ n x c,(rGF.ran n x c).length = x.length
 | 0,_,_=>rfl
 | n + 1,x,c=>by unfold rGF.ran;rw [rGF.ran_len n,List.length_set]
theorem rGF.flip_len:∀ n x c,(rGF.flip n x c).length = x.length
 | 0,_,_=>rfl
 | n + 1,x,c=>by unfold rGF.flip;rw [rGF.flip_len n,List.length_set]
def rGF.x0 (s:ByteArray) (i:Int):List Bool:=(bt s i == 42) :: rGF.z256
theorem rGF.x0_len (s:ByteArray) (i:Int):(rGF.x0 s i).length = 257:=by unfold rGF.x0;rw [List.length_cons,rGF.z_len]
theorem rGF.built0 (s:ByteArray) (i:Int):Tryd.prog.built 91 [(0,.bool (bt s i == 42))] = some ((rGF.x0 s i).map Value.bool).toArray:=rGF.built _
theorem rGF.zz_len:rGF.zz.length = 257:=by unfold rGF.zz;rw [List.length_cons,rGF.z_len]
def rGF.two (s:ByteArray) (k:Int):Bool:=decide (wrap64 (k + 2) < (s.size:Int)) && (bt s (wrap64 (k + 1)) == 45 && bt s (wrap64 (k + 2)) != 93)
theorem rGF.ran_zero (x:List Bool) (c:Nat):rGF.ran 0 x c = x:=rfl
theorem rGF.ran_succ (n:Nat) (x:List Bool) (c:Nat):rGF.ran (n + 1) x c = rGF.ran n (x.set (c + 1) true) (c + 1):=rfl
theorem rGF.flip_zero (x:List Bool) (c:Nat):rGF.flip 0 x c = x:=rfl
theorem rGF.flip_succ (n:Nat) (x:List Bool) (c:Nat):rGF.flip (n + 1) x c = rGF.flip n (x.set (c + 1) (!(x.getD (c + 1) false))) (c + 1):=rfl
attribute [irreducible] rGF.ran rGF.flip rGF.x0 rGF.zz rGF.z256
theorem rGF.wb (s:ByteArray) (j:Int):wrap64 (bt s j) = bt s j:=by have:=bt_range s j;unfold wrap64;omega
def rGF.hgh (s:ByteArray) (k:Int):Int:=if rGF.two s k = true then bt s (wrap64 (k + 2)) else bt s k
def rGF.nx (s:ByteArray) (k:Int):Int:=if rGF.two s k = true then wrap64 (wrap64 (k + 2) + 1) else wrap64 (k + 1)
def rGF.l1:Nat→ByteArray→Int→List Bool→Int→Option (List Bool × Int)
 | 0,_,_,_,_=>none
 | n + 1,s,fr,x,k=>if k < (s.size:Int) then (if k = fr ∨ bt s k ≠ 93 then rGF.l1 n s fr (rGF.ran ((rGF.hgh s k).toNat + 1 - (bt s k).toNat) x (bt s k).toNat) (rGF.nx s k) else some (x,k)) else some (x,k)
def rGF.nt (s:ByteArray) (i:Int):Bool:=decide (wrap64 (i + 1) < (s.size:Int)) && bt s (wrap64 (i + 1)) == 33
def rGF.fr (s:ByteArray) (i:Int):Int:=if rGF.nt s i = true then wrap64 (wrap64 (i + 1) + 1) else wrap64 (i + 1)
def rGF.l0:Nat→ByteArray→List (List Bool)→Int→Option (List (List Bool) × Bool)
 | 0,_,_,_=>none
 | n + 1,s,acc,i=>if i < (s.size:Int) then (if bt s i = 63 then rGF.l0 n s (acc ++ [rGF.ran 256 (rGF.x0 s i) 0]) (i + 1) else if bt s i = 91 then ((rGF.l1 (s.size + 1) s (rGF.fr s i) (rGF.x0 s i) (rGF.fr s i)).bind fun r=>if (s.size:Int) ≤ r.2 ∨ r.2 = rGF.fr s i then some ([],false) else rGF.l0 n s (acc ++ [if rGF.nt s i = true then rGF.flip 256 r.1 0 else r.1]) (r.2 + 1)) else rGF.l0 n s (acc ++ [(rGF.x0 s i).set ((bt s i).toNat + 1) true]) (i + 1)) else some (acc,true)
def rGF.tok (s:ByteArray):Option (List (List Bool) × Bool):=if s.size ≤ 1000000 then rGF.l0 (s.size + 1) s [] 0 else none
set_option maxHeartbeats 40000000 in
set_option maxRecDepth 100000 in
theorem rGF.tokens (s:ByteArray) (r1:List (List Bool)) (r2:Bool) (w:World) (h:rGF.tok s = some (r1,r2)) :
 Calls Tryd.prog 64 #[.string s] w fun e w'=>∃ v0_:Value,e = .returned (.tuple #[v0_,.bool r2])∧Kd.R rGF.kT 91 w' w.heap.size (fun _=>True) v0_ r1∧Below w.heap.size w w':=by
 unfold rGF.tok at h;by_cases hl:s.size ≤ 1000000
 ·rw [if_pos hl] at h;have H':=Aside0.mk h;have HL:=Aside0.mk hl;have HB:=Aside0.mk (Below.refl w.heap.size w);clear h hl;go_enter Tryd.func64,Tryd.ntmps64;go_wp2;go_loopg [4,5] (s.size + 1) (fun kq v4 v5 wx=>∃ (acc:List (List Bool)) (i:Int),v5 = .int .i64 i∧Aside0 (rGF.l0 kq s acc i = some (r1,r2))∧Aside0 (kq ≤ s.size + 1)∧Aside0 (0 ≤ i∧i ≤ (s.size:Int)∧(acc.length:Int) ≤ i)∧Aside0 (Kd.R rGF.kT 91 wx w.heap.size (fun _=>True) v4 acc)∧Aside0 (Below w.heap.size w wx))
  case atStart=>exact ⟨[],0,rfl,H',⟨Nat.le_refl _⟩,⟨by omega,by omega,by simp⟩,⟨Kd.R_nil _ _ _ _ _⟩,HB⟩
  case round =>
   clear H' HB;obtain ⟨acc,i,rfl,HA,HK1,HI,HO,HB⟩:=hrel;cases gk with
   | zero=>exact absurd HA.out (by simp [rGF.l0])
   | succ k1 =>
    have H:=HA.out;clear HA;simp only [rGF.l0] at H;by_cases c3:i < (s.size:Int)
    ·rw [if_pos c3] at H;have c3b:decide (i < (s.size:Int)) = true:=decide_eq_true c3;have p3:(i < (s.size:Int)) = True:=eq_true c3;have p0:(0 ≤ i) = True:=eq_true HI.out.1;have HLT:=Aside0.mk c3;have HLT0:=Aside0.mk c3;have hx:=bt_at s i;have wi:wrap64 (i + 1) = i + 1:=by have:=HI.out;have:=HL.out;have:=HLT.out;unfold wrap64;omega
     have wi':IntKind.i64.wrap (i + 1) = i + 1:=(i64_w _).trans wi;clear c3;by_cases c63:bt s i = 63
     ·rw [if_pos c63] at H;have c63b:(bt s i == 63) = true:=beq_iff_eq.mpr c63;obtain ⟨X2,hX2⟩:∃ X2,rGF.ran 256 (rGF.x0 s i) 0 = X2:=⟨_,rfl⟩
      rw [hX2] at H;have HX2:=Aside0.mk hX2;have H':=Aside0.mk H;clear H c63 hX2;go_wp2_with (first|((with_reducible refine gate_dst (N:=23) rfl ?_);refine rGF.build_event rfl rfl (cells:=((rGF.x0 s i).map Value.bool).toArray) (by (try simp only [List.map_toArray,List.map_cons,List.map_nil]);exact rGF.built0 s i) ?_)|((with_reducible refine gate_dst (N:=6) rfl ?_);refine box_event ?hg (N:=6) ?hd (cs:=(rGF.zz.map Value.bool).toArray) (t:=91) ?hr ?_;(case hd=>rfl);(case hg=>rfl);(case hr=>exact rGF.alloc_run rfl _);intro gb hg w2 hbox hb2;have HG:=Aside0.mk (show w.heap.size ≤ gb by rw [hg];exact HB.out.size);have HO2:=Aside0.mk (Kd.R_below (Kd.R_elderB HO.out gb (Nat.le_of_eq hg.symm)) hb2);have HB2:=Aside0.mk (below_step HB.out hb2);have HK0:=Aside0.mk (show rGF.Bk w2 gb rGF.zz from hbox);clear hg hbox hb2 HO HB;have HO:=HO2;have HB:=HB2;clear HO2 HB2)|((with_reducible refine gate_store (t:=91) (p:=6) rfl ?_);refine rGF.put_event (l:=rGF.x0 s i) rfl rfl rfl rfl rfl HK0.out rGF.szT rGF.zz_len (rGF.x0_len s i) ?_;intro w3 hk3 hg3;have HK:=HK0;clear HK0;have HO_:=Aside0.mk (Kd.R_grown HO.out hg3 (fun k hk=>(fun e=>hk.2 (Option.some.inj e))));have HB_:=Aside0.mk (below_grown HB.out hg3 HG.out (blk_lt HK.out));have HK_:=Aside0.mk (hk3);clear HO HB HK;have HO:=HO_;have HB:=HB_;have HK:=HK_;clear HO_ HB_ HK_;clear hk3 hg3))
      have HXL:=Aside0.mk (rGF.x0_len s i);go_loopg [7] 256 (fun kq v7 wx=>∃ (c:Nat) (x:List Bool),Aside0 (c + kq = 256)∧v7 = .int .i64 (c:Int)∧Aside0 (rGF.ran kq x c = X2)∧Aside0 (x.length = 257)∧Aside0 (rGF.Bk wx gb x)∧Aside0 (Kd.R rGF.kT 91 wx w.heap.size (fun k_=>True∧k_ ≠ gb) u4 acc)∧Aside0 (Below w.heap.size w wx))
      case atStart=>exact ⟨0,_,⟨rfl⟩,rfl,HX2,HXL,HK,HO,HB⟩
      case round =>
       clear HX2 HXL HK HO HB;obtain ⟨c,x,HQ,rfl,HF,HXL,HK,HO,HB⟩:=hrel;cases gk with
       | zero =>
        have hc:c = 256:=by have:=HQ.out;omega
        subst hc;have hX:x = X2:=(rGF.ran_zero x 256).symm.trans HF.out;subst hX;clear HF HQ;have d1:decide (((256:Nat):Int) < 256) = false:=rfl;have d2:decide ((256:Int) < 256) = false:=rfl;go_wp2_with (first|((with_reducible refine gate_dst (N:=140) rfl ?_);refine load_event rfl rfl Tryd.underlying91 rfl rfl (cs:=x.map Value.bool) (by rw [rGF.szT,List.length_map,HXL.out]) (cells_of_blk HK.out) ?_)|((with_reducible refine gate_dst (N:=141) rfl ?_);refine rGF.one_event rfl rfl (l:=x) rfl HXL.out Tryd.underlying84 rGF.info ?_)|((with_reducible refine gate_builtin (b := .append) (xs:=#[.tmp 139,.tmp 141]) rfl ?_);at_builtin;refine Kd.R_append rGF.kT (w0:=w) w.heap.size rfl (.tmp 139) (.tmp 141) 84 91 (.agg (rGF.zz.map Value.bool).toArray) 257 rfl Tryd.underlying84 rGF.info (by simp [Value.cells,rGF.zz_len,rGF.kT]) (by decide) (by omega) u4 acc x (x.map Value.bool) (fun _=>True) (fun _=>False) rfl rfl ⟨HXL.out,rfl⟩ (fun _ hk=>hk.elim) (fun _ _=>trivial) (Kd.R_mono HO.out (fun _ _=>trivial)) HB.out (below_size HB.out) (by have:=HI.out;have:=HL.out;omega) ?_;intro v142 w7 ho hb hg hat;have HO7:=Aside0.mk ho;have HB7:=Aside0.mk hb;clear HO HB HK ho hb hg hat;have HO:=HO7;have HB:=HB7;clear HO7 HB7))
        go_roundg k1
        case measure=>have:=HK1.out;omega
        case rel=>exact ⟨acc ++ [x],i + 1,(by first|rfl|rw [wi]|simp [wi]),H',⟨by have:=HK1.out;omega⟩,⟨by have:=HI.out;have:=HLT.out;omega,by have:=HI.out;have:=HLT.out;omega,by have:=HI.out;have:=HLT.out;rw [List.length_append,List.length_singleton];omega⟩,HO,HB⟩
       | succ kk =>
        have HC:=Aside0.mk (show c < 256 by have:=HQ.out;omega);have d1:decide ((c:Int) < 256) = true:=decide_eq_true (by have:=HC.out;omega);have d2:((c:Int) < 256) = True:=eq_true (by have:=HC.out;omega);have d3:(0 ≤ (c:Int)) = True:=eq_true (by omega);have wc:wrap64 ((c:Int) + 1) = ((c + 1:Nat):Int):=by have:=HC.out;unfold wrap64;omega
        have wc':IntKind.i64.wrap ((c:Int) + 1) = ((c + 1:Nat):Int):=(i64_w _).trans wc;have HF2:=Aside0.mk ((rGF.ran_succ kk x c).symm.trans HF.out);clear HF;go_wp2_with (first|((with_reducible refine gate_dst (N:=40) rfl ?_);refine rGF.idx_event rfl rfl rfl rfl Tryd.underlying89 rGF.sz4 (by have:=HC.out;omega) (by have:=HC.out;omega) (m:=c + 1) (by have:=HC.out;omega) ?_)|((with_reducible refine gate_store (t:=4) (p:=40) rfl ?_);refine rGF.setB_event rfl rfl rfl rfl rfl rGF.sz4 HK.out (by have:=HXL.out;have:=HC.out;omega) ?_;intro w9 hk9 hg9;have HO_:=Aside0.mk (Kd.R_grown HO.out hg9 (fun k hk=>(fun e=>hk.2 (Option.some.inj e))));have HB_:=Aside0.mk (below_grown HB.out hg9 HG.out (blk_lt HK.out));have HK_:=Aside0.mk (hk9);clear HO HB HK;have HO:=HO_;have HB:=HB_;have HK:=HK_;clear HO_ HB_ HK_;clear hk9 hg9))
        go_roundg kk
        case measure=>omega
        case rel=>exact ⟨c + 1,_,⟨by have:=HQ.out;omega⟩,(by first|rfl|rw [wc]|simp [wc]),HF2,⟨by rw [List.length_set];exact HXL.out⟩,HK,HO,HB⟩
     ·rw [if_neg c63] at H;have c63b:(bt s i == 63) = false:=beq_eq_false_iff_ne.mpr c63;clear c63;by_cases c91:bt s i = 91
      ·rw [if_pos c91] at H;have c91b:(bt s i == 91) = true:=beq_iff_eq.mpr c91;obtain ⟨⟨x9,k9⟩,A9,H9⟩:=Option.bind_eq_some_iff.mp H;dsimp only at H9
       have HI1:=Aside0.mk wi;clear H c91 HLT wi wi';by_cases n1:(wrap64 (i + 1)) < (s.size:Int)
       ·have n1b:decide ((wrap64 (i + 1)) < (s.size:Int)) = true:=decide_eq_true n1;have n1p:((wrap64 (i + 1)) < (s.size:Int)) = True:=eq_true n1;have n10:(0 ≤ (wrap64 (i + 1))) = True:=eq_true (by have:=HI1.out;have:=HI.out;omega);have HN1:=Aside0.mk n1;have hxi1:=bt_at s (wrap64 (i + 1));clear n1;by_cases n33:bt s (wrap64 (i + 1)) = 33
        ·skip
         have n33b:(bt s (wrap64 (i + 1)) == 33) = true:=beq_iff_eq.mpr n33;have hnt:rGF.nt s i = true:=by unfold rGF.nt;rw [n1b,n33b];rfl
         have hfr:rGF.fr s i = (wrap64 ((wrap64 (i + 1)) + 1)):=by unfold rGF.fr;rw [if_pos hnt]
         have HF0:=Aside0.mk (show i + 1 ≤ (wrap64 ((wrap64 (i + 1)) + 1))∧(wrap64 ((wrap64 (i + 1)) + 1)) ≤ i + 2 by have:=HI.out;have:=HL.out;have:=HLT0.out;unfold wrap64;omega);clear n33;rw [hfr] at A9 H9;have HA9:=Aside0.mk A9;clear A9 hfr;go_wp2_with (first|((with_reducible refine gate_dst (N:=23) rfl ?_);refine rGF.build_event rfl rfl (cells:=((rGF.x0 s i).map Value.bool).toArray) (by (try simp only [List.map_toArray,List.map_cons,List.map_nil]);exact rGF.built0 s i) ?_)|((with_reducible refine gate_dst (N:=6) rfl ?_);refine box_event ?hg (N:=6) ?hd (cs:=(rGF.zz.map Value.bool).toArray) (t:=91) ?hr ?_;(case hd=>rfl);(case hg=>rfl);(case hr=>exact rGF.alloc_run rfl _);intro gb hg w2 hbox hb2;have HG:=Aside0.mk (show w.heap.size ≤ gb by rw [hg];exact HB.out.size);have HO2:=Aside0.mk (Kd.R_below (Kd.R_elderB HO.out gb (Nat.le_of_eq hg.symm)) hb2);have HB2:=Aside0.mk (below_step HB.out hb2);have HK0:=Aside0.mk (show rGF.Bk w2 gb rGF.zz from hbox);clear hg hbox hb2 HO HB;have HO:=HO2;have HB:=HB2;clear HO2 HB2)|((with_reducible refine gate_store (t:=91) (p:=6) rfl ?_);refine rGF.put_event (l:=rGF.x0 s i) rfl rfl rfl rfl rfl HK0.out rGF.szT rGF.zz_len (rGF.x0_len s i) ?_;intro w3 hk3 hg3;have HK:=HK0;clear HK0;have HO_:=Aside0.mk (Kd.R_grown HO.out hg3 (fun k hk=>(fun e=>hk.2 (Option.some.inj e))));have HB_:=Aside0.mk (below_grown HB.out hg3 HG.out (blk_lt HK.out));have HK_:=Aside0.mk (hk3);clear HO HB HK;have HO:=HO_;have HB:=HB_;have HK:=HK_;clear HO_ HB_ HK_;clear hk3 hg3))
         have HXL:=Aside0.mk (rGF.x0_len s i);go_loopg [8] (s.size + 1) (fun kq v8 wx=>∃ (k:Int) (x:List Bool),v8 = .int .i64 k∧Aside0 (rGF.l1 kq s (wrap64 ((wrap64 (i + 1)) + 1)) x k = some (x9,k9))∧Aside0 (kq ≤ s.size + 1)∧Aside0 ((wrap64 ((wrap64 (i + 1)) + 1)) ≤ k∧k ≤ (s.size:Int) + 1)∧Aside0 (x.length = 257)∧Aside0 (rGF.Bk wx gb x)∧Aside0 (Kd.R rGF.kT 91 wx w.heap.size (fun k_=>True∧k_ ≠ gb) u4 acc)∧Aside0 (Below w.heap.size w wx))
         case atStart=>exact ⟨(wrap64 ((wrap64 (i + 1)) + 1)),_,(by first|rfl|simp),HA9,⟨Nat.le_refl _⟩,⟨Int.le_refl _,by have:=HF0.out;have:=HLT0.out;omega⟩,HXL,HK,HO,HB⟩
         case round =>
          clear HA9 HXL HK HO HB;obtain ⟨k,x,rfl,HA1,HK2,HKI,HXL,HK,HO,HB⟩:=hrel;cases gk with
          | zero=>exact absurd HA1.out (by simp [rGF.l1])
          | succ kk1 =>
           have H1:=HA1.out;clear HA1;simp only [rGF.l1] at H1;by_cases ck:k < (s.size:Int)
           ·rw [if_pos ck] at H1;have ckb:decide (k < (s.size:Int)) = true:=decide_eq_true ck;have ckp:(k < (s.size:Int)) = True:=eq_true ck;have ck0:(0 ≤ k) = True:=eq_true (by have:=HKI.out;have:=HF0.out;have:=HI.out;omega);have ckn:decide (k ≥ (s.size:Int)) = false:=decide_eq_false (by omega);have ckm:decide ((s.size:Int) ≤ k) = false:=decide_eq_false (by omega);have HKL:=Aside0.mk ck;have hxk:=bt_at s k;clear ck;have HE:=Aside0.mk (show (wrap64 (k + 1)) = k + 1∧(wrap64 (k + 2)) = k + 2∧(wrap64 ((wrap64 (k + 2)) + 1)) = k + 3 by have:=HKL.out;have:=HL.out;have:=HKI.out;have:=HF0.out;have:=HI.out;unfold wrap64;omega);by_cases ef:k = (wrap64 ((wrap64 (i + 1)) + 1))
            ·have efb:(k == (wrap64 ((wrap64 (i + 1)) + 1))) = true:=beq_iff_eq.mpr ef;rw [if_pos (Or.inl ef)] at H1;clear ef;by_cases t2:(wrap64 (k + 2)) < (s.size:Int)
             ·have t2b:decide ((wrap64 (k + 2)) < (s.size:Int)) = true:=decide_eq_true t2;have t2p:((wrap64 (k + 2)) < (s.size:Int)) = True:=eq_true t2;have HTW:=Aside0.mk t2;have t1p:((wrap64 (k + 1)) < (s.size:Int)) = True:=eq_true (by have:=HE.out;omega);have t10:(0 ≤ (wrap64 (k + 1))) = True:=eq_true (by have:=HE.out;have:=HKI.out;have:=HF0.out;have:=HI.out;omega);have t20:(0 ≤ (wrap64 (k + 2))) = True:=eq_true (by have:=HE.out;have:=HKI.out;have:=HF0.out;have:=HI.out;omega);have hxk1:=bt_at s (wrap64 (k + 1));have hxk2:=bt_at s (wrap64 (k + 2));clear t2;by_cases t45:bt s (wrap64 (k + 1)) = 45
              ·have t45b:(bt s (wrap64 (k + 1)) == 45) = true:=beq_iff_eq.mpr t45;by_cases t93:bt s (wrap64 (k + 2)) = 93
               ·have t93b:(bt s (wrap64 (k + 2)) == 93) = true:=beq_iff_eq.mpr t93;have t93n:(bt s (wrap64 (k + 2)) != 93) = false:=bne_eq_false_iff_eq.mpr t93;clear t45 t93;have htwo:rGF.two s k = false:=by unfold rGF.two;simp [*]
                have hhi:rGF.hgh s k = bt s k:=by unfold rGF.hgh;rw [htwo];rfl
                have hnx:rGF.nx s k = (wrap64 (k + 1)):=by unfold rGF.nx;rw [htwo];rfl
                rw [hhi,hnx] at H1;have HLO:=Aside0.mk (show 0 ≤ (bt s k)∧(bt s k) ≤ 255∧0 ≤ (bt s k)∧(bt s k) ≤ 255 from ⟨(bt_range s _).1,(bt_range s _).2,(bt_range s _).1,(bt_range s _).2⟩);have wlo:wrap64 (bt s k) = (bt s k):=rGF.wb _ _;have wlo':IntKind.i64.wrap (bt s k) = (bt s k):=(i64_w _).trans wlo;have whi:wrap64 (bt s k) = (bt s k):=rGF.wb _ _;have whi':IntKind.i64.wrap (bt s k) = (bt s k):=(i64_w _).trans whi;obtain ⟨X2,hX2⟩:∃ X2,rGF.ran ((bt s k).toNat + 1 - (bt s k).toNat) x (bt s k).toNat = X2:=⟨_,rfl⟩
                rw [hX2] at H1;have HX2:=Aside0.mk hX2;have HN:=Aside0.mk H1;clear H1 hX2 htwo hhi hnx;go_wp2;go_loopg [13] ((bt s k).toNat + 1 - (bt s k).toNat) (fun kq v13 wx=>∃ (c:Nat) (y:List Bool),Aside0 (kq = (bt s k).toNat + 1 - c)∧v13 = .int .i64 (c:Int)∧Aside0 (rGF.ran kq y c = X2)∧Aside0 (y.length = 257)∧Aside0 (rGF.Bk wx gb y)∧Aside0 (Kd.R rGF.kT 91 wx w.heap.size (fun k_=>True∧k_ ≠ gb) u4 acc)∧Aside0 (Below w.heap.size w wx))
                case atStart=>exact ⟨(bt s k).toNat,x,⟨rfl⟩,(by rw [Int.toNat_of_nonneg HLO.out.1]),HX2,HXL,HK,HO,HB⟩
                case round =>
                 clear HX2 HXL HK HO HB;obtain ⟨c,y,HQ,rfl,HF,HXL,HK,HO,HB⟩:=hrel;by_cases cl:(c:Int) ≤ (bt s k)
                 ·obtain ⟨kk,rfl⟩:∃ kk,gk = kk + 1:=⟨gk - 1,by have:=HQ.out;omega⟩
                  have HC:=Aside0.mk (show c < 256 by have:=HLO.out;omega);have d1:decide ((c:Int) ≤ (bt s k)) = true:=decide_eq_true cl;have d2:((c:Int) ≤ (bt s k)) = True:=eq_true cl;have d3:(0 ≤ (c:Int)) = True:=eq_true (by omega);have wc:wrap64 ((c:Int) + 1) = ((c + 1:Nat):Int):=by have:=HC.out;unfold wrap64;omega
                  have wc':IntKind.i64.wrap ((c:Int) + 1) = ((c + 1:Nat):Int):=(i64_w _).trans wc;have HF2:=Aside0.mk ((rGF.ran_succ kk y c).symm.trans HF.out);clear HF cl;go_wp2_with (first|((with_reducible refine gate_dst (N:=113) rfl ?_);refine rGF.idx_event rfl rfl rfl rfl Tryd.underlying89 rGF.sz4 (by have:=HC.out;omega) (by have:=HC.out;omega) (m:=c + 1) (by have:=HC.out;omega) ?_)|((with_reducible refine gate_store (t:=4) (p:=113) rfl ?_);refine rGF.setB_event rfl rfl rfl rfl rfl rGF.sz4 HK.out (by have:=HXL.out;have:=HC.out;omega) ?_;intro w9 hk9 hg9;have HO_:=Aside0.mk (Kd.R_grown HO.out hg9 (fun k hk=>(fun e=>hk.2 (Option.some.inj e))));have HB_:=Aside0.mk (below_grown HB.out hg9 HG.out (blk_lt HK.out));have HK_:=Aside0.mk (hk9);clear HO HB HK;have HO:=HO_;have HB:=HB_;have HK:=HK_;clear HO_ HB_ HK_;clear hk9 hg9))
                  go_roundg kk
                  case measure=>omega
                  case rel=>exact ⟨c + 1,_,⟨by have:=HQ.out;omega⟩,(by first|rfl|rw [wc]|simp [wc]),HF2,⟨by rw [List.length_set];exact HXL.out⟩,HK,HO,HB⟩
                 ·have hz:gk = 0:=by have:=HQ.out;have:=HLO.out;omega
                  subst hz;have hX:y = X2:=(rGF.ran_zero y c).symm.trans HF.out;subst hX;have d1:decide ((c:Int) ≤ (bt s k)) = false:=decide_eq_false cl;clear HF HQ cl;go_wp2;go_roundg kk1
                  case measure=>have:=HK2.out;omega
                  case rel=>exact ⟨(wrap64 (k + 1)),y,(by first|rfl|simp),HN,⟨by have:=HK2.out;omega⟩,⟨by have:=HKI.out;have:=HE.out;omega,by have:=HKI.out;have:=HE.out;have:=HKL.out;omega⟩,HXL,HK,HO,HB⟩
               ·have t93b:(bt s (wrap64 (k + 2)) == 93) = false:=beq_eq_false_iff_ne.mpr t93;have t93n:(bt s (wrap64 (k + 2)) != 93) = true:=bne_iff_ne.mpr t93;clear t45 t93;have htwo:rGF.two s k = true:=by unfold rGF.two;simp [*]
                have hhi:rGF.hgh s k = bt s (wrap64 (k + 2)):=by unfold rGF.hgh;rw [htwo];rfl
                have hnx:rGF.nx s k = (wrap64 ((wrap64 (k + 2)) + 1)):=by unfold rGF.nx;rw [htwo];rfl
                rw [hhi,hnx] at H1;have HLO:=Aside0.mk (show 0 ≤ (bt s k)∧(bt s k) ≤ 255∧0 ≤ (bt s (wrap64 (k + 2)))∧(bt s (wrap64 (k + 2))) ≤ 255 from ⟨(bt_range s _).1,(bt_range s _).2,(bt_range s _).1,(bt_range s _).2⟩);have wlo:wrap64 (bt s k) = (bt s k):=rGF.wb _ _;have wlo':IntKind.i64.wrap (bt s k) = (bt s k):=(i64_w _).trans wlo;have whi:wrap64 (bt s (wrap64 (k + 2))) = (bt s (wrap64 (k + 2))):=rGF.wb _ _;have whi':IntKind.i64.wrap (bt s (wrap64 (k + 2))) = (bt s (wrap64 (k + 2))):=(i64_w _).trans whi;obtain ⟨X2,hX2⟩:∃ X2,rGF.ran ((bt s (wrap64 (k + 2))).toNat + 1 - (bt s k).toNat) x (bt s k).toNat = X2:=⟨_,rfl⟩
                rw [hX2] at H1;have HX2:=Aside0.mk hX2;have HN:=Aside0.mk H1;clear H1 hX2 htwo hhi hnx;go_wp2;go_loopg [13] ((bt s (wrap64 (k + 2))).toNat + 1 - (bt s k).toNat) (fun kq v13 wx=>∃ (c:Nat) (y:List Bool),Aside0 (kq = (bt s (wrap64 (k + 2))).toNat + 1 - c)∧v13 = .int .i64 (c:Int)∧Aside0 (rGF.ran kq y c = X2)∧Aside0 (y.length = 257)∧Aside0 (rGF.Bk wx gb y)∧Aside0 (Kd.R rGF.kT 91 wx w.heap.size (fun k_=>True∧k_ ≠ gb) u4 acc)∧Aside0 (Below w.heap.size w wx))
                case atStart=>exact ⟨(bt s k).toNat,x,⟨rfl⟩,(by rw [Int.toNat_of_nonneg HLO.out.1]),HX2,HXL,HK,HO,HB⟩
                case round =>
                 clear HX2 HXL HK HO HB;obtain ⟨c,y,HQ,rfl,HF,HXL,HK,HO,HB⟩:=hrel;by_cases cl:(c:Int) ≤ (bt s (wrap64 (k + 2)))
                 ·obtain ⟨kk,rfl⟩:∃ kk,gk = kk + 1:=⟨gk - 1,by have:=HQ.out;omega⟩
                  have HC:=Aside0.mk (show c < 256 by have:=HLO.out;omega);have d1:decide ((c:Int) ≤ (bt s (wrap64 (k + 2)))) = true:=decide_eq_true cl;have d2:((c:Int) ≤ (bt s (wrap64 (k + 2)))) = True:=eq_true cl;have d3:(0 ≤ (c:Int)) = True:=eq_true (by omega);have wc:wrap64 ((c:Int) + 1) = ((c + 1:Nat):Int):=by have:=HC.out;unfold wrap64;omega
                  have wc':IntKind.i64.wrap ((c:Int) + 1) = ((c + 1:Nat):Int):=(i64_w _).trans wc;have HF2:=Aside0.mk ((rGF.ran_succ kk y c).symm.trans HF.out);clear HF cl;go_wp2_with (first|((with_reducible refine gate_dst (N:=113) rfl ?_);refine rGF.idx_event rfl rfl rfl rfl Tryd.underlying89 rGF.sz4 (by have:=HC.out;omega) (by have:=HC.out;omega) (m:=c + 1) (by have:=HC.out;omega) ?_)|((with_reducible refine gate_store (t:=4) (p:=113) rfl ?_);refine rGF.setB_event rfl rfl rfl rfl rfl rGF.sz4 HK.out (by have:=HXL.out;have:=HC.out;omega) ?_;intro w9 hk9 hg9;have HO_:=Aside0.mk (Kd.R_grown HO.out hg9 (fun k hk=>(fun e=>hk.2 (Option.some.inj e))));have HB_:=Aside0.mk (below_grown HB.out hg9 HG.out (blk_lt HK.out));have HK_:=Aside0.mk (hk9);clear HO HB HK;have HO:=HO_;have HB:=HB_;have HK:=HK_;clear HO_ HB_ HK_;clear hk9 hg9))
                  go_roundg kk
                  case measure=>omega
                  case rel=>exact ⟨c + 1,_,⟨by have:=HQ.out;omega⟩,(by first|rfl|rw [wc]|simp [wc]),HF2,⟨by rw [List.length_set];exact HXL.out⟩,HK,HO,HB⟩
                 ·have hz:gk = 0:=by have:=HQ.out;have:=HLO.out;omega
                  subst hz;have hX:y = X2:=(rGF.ran_zero y c).symm.trans HF.out;subst hX;have d1:decide ((c:Int) ≤ (bt s (wrap64 (k + 2)))) = false:=decide_eq_false cl;clear HF HQ cl;go_wp2;go_roundg kk1
                  case measure=>have:=HK2.out;omega
                  case rel=>exact ⟨(wrap64 ((wrap64 (k + 2)) + 1)),y,(by first|rfl|simp),HN,⟨by have:=HK2.out;omega⟩,⟨by have:=HKI.out;have:=HE.out;omega,by have:=HKI.out;have:=HE.out;have:=HKL.out;have:=HTW.out;omega⟩,HXL,HK,HO,HB⟩
              ·have t45b:(bt s (wrap64 (k + 1)) == 45) = false:=beq_eq_false_iff_ne.mpr t45;clear t45;have htwo:rGF.two s k = false:=by unfold rGF.two;simp [*]
               have hhi:rGF.hgh s k = bt s k:=by unfold rGF.hgh;rw [htwo];rfl
               have hnx:rGF.nx s k = (wrap64 (k + 1)):=by unfold rGF.nx;rw [htwo];rfl
               rw [hhi,hnx] at H1;have HLO:=Aside0.mk (show 0 ≤ (bt s k)∧(bt s k) ≤ 255∧0 ≤ (bt s k)∧(bt s k) ≤ 255 from ⟨(bt_range s _).1,(bt_range s _).2,(bt_range s _).1,(bt_range s _).2⟩);have wlo:wrap64 (bt s k) = (bt s k):=rGF.wb _ _;have wlo':IntKind.i64.wrap (bt s k) = (bt s k):=(i64_w _).trans wlo;have whi:wrap64 (bt s k) = (bt s k):=rGF.wb _ _;have whi':IntKind.i64.wrap (bt s k) = (bt s k):=(i64_w _).trans whi;obtain ⟨X2,hX2⟩:∃ X2,rGF.ran ((bt s k).toNat + 1 - (bt s k).toNat) x (bt s k).toNat = X2:=⟨_,rfl⟩
               rw [hX2] at H1;have HX2:=Aside0.mk hX2;have HN:=Aside0.mk H1;clear H1 hX2 htwo hhi hnx;go_wp2;go_loopg [13] ((bt s k).toNat + 1 - (bt s k).toNat) (fun kq v13 wx=>∃ (c:Nat) (y:List Bool),Aside0 (kq = (bt s k).toNat + 1 - c)∧v13 = .int .i64 (c:Int)∧Aside0 (rGF.ran kq y c = X2)∧Aside0 (y.length = 257)∧Aside0 (rGF.Bk wx gb y)∧Aside0 (Kd.R rGF.kT 91 wx w.heap.size (fun k_=>True∧k_ ≠ gb) u4 acc)∧Aside0 (Below w.heap.size w wx))
               case atStart=>exact ⟨(bt s k).toNat,x,⟨rfl⟩,(by rw [Int.toNat_of_nonneg HLO.out.1]),HX2,HXL,HK,HO,HB⟩
               case round =>
                clear HX2 HXL HK HO HB;obtain ⟨c,y,HQ,rfl,HF,HXL,HK,HO,HB⟩:=hrel;by_cases cl:(c:Int) ≤ (bt s k)
                ·obtain ⟨kk,rfl⟩:∃ kk,gk = kk + 1:=⟨gk - 1,by have:=HQ.out;omega⟩
                 have HC:=Aside0.mk (show c < 256 by have:=HLO.out;omega);have d1:decide ((c:Int) ≤ (bt s k)) = true:=decide_eq_true cl;have d2:((c:Int) ≤ (bt s k)) = True:=eq_true cl;have d3:(0 ≤ (c:Int)) = True:=eq_true (by omega);have wc:wrap64 ((c:Int) + 1) = ((c + 1:Nat):Int):=by have:=HC.out;unfold wrap64;omega
                 have wc':IntKind.i64.wrap ((c:Int) + 1) = ((c + 1:Nat):Int):=(i64_w _).trans wc;have HF2:=Aside0.mk ((rGF.ran_succ kk y c).symm.trans HF.out);clear HF cl;go_wp2_with (first|((with_reducible refine gate_dst (N:=113) rfl ?_);refine rGF.idx_event rfl rfl rfl rfl Tryd.underlying89 rGF.sz4 (by have:=HC.out;omega) (by have:=HC.out;omega) (m:=c + 1) (by have:=HC.out;omega) ?_)|((with_reducible refine gate_store (t:=4) (p:=113) rfl ?_);refine rGF.setB_event rfl rfl rfl rfl rfl rGF.sz4 HK.out (by have:=HXL.out;have:=HC.out;omega) ?_;intro w9 hk9 hg9;have HO_:=Aside0.mk (Kd.R_grown HO.out hg9 (fun k hk=>(fun e=>hk.2 (Option.some.inj e))));have HB_:=Aside0.mk (below_grown HB.out hg9 HG.out (blk_lt HK.out));have HK_:=Aside0.mk (hk9);clear HO HB HK;have HO:=HO_;have HB:=HB_;have HK:=HK_;clear HO_ HB_ HK_;clear hk9 hg9))
                 go_roundg kk
                 case measure=>omega
                 case rel=>exact ⟨c + 1,_,⟨by have:=HQ.out;omega⟩,(by first|rfl|rw [wc]|simp [wc]),HF2,⟨by rw [List.length_set];exact HXL.out⟩,HK,HO,HB⟩
                ·have hz:gk = 0:=by have:=HQ.out;have:=HLO.out;omega
                 subst hz;have hX:y = X2:=(rGF.ran_zero y c).symm.trans HF.out;subst hX;have d1:decide ((c:Int) ≤ (bt s k)) = false:=decide_eq_false cl;clear HF HQ cl;go_wp2;go_roundg kk1
                 case measure=>have:=HK2.out;omega
                 case rel=>exact ⟨(wrap64 (k + 1)),y,(by first|rfl|simp),HN,⟨by have:=HK2.out;omega⟩,⟨by have:=HKI.out;have:=HE.out;omega,by have:=HKI.out;have:=HE.out;have:=HKL.out;omega⟩,HXL,HK,HO,HB⟩
             ·have t2b:decide ((wrap64 (k + 2)) < (s.size:Int)) = false:=decide_eq_false t2;clear t2;have htwo:rGF.two s k = false:=by unfold rGF.two;simp [*]
              have hhi:rGF.hgh s k = bt s k:=by unfold rGF.hgh;rw [htwo];rfl
              have hnx:rGF.nx s k = (wrap64 (k + 1)):=by unfold rGF.nx;rw [htwo];rfl
              rw [hhi,hnx] at H1;have HLO:=Aside0.mk (show 0 ≤ (bt s k)∧(bt s k) ≤ 255∧0 ≤ (bt s k)∧(bt s k) ≤ 255 from ⟨(bt_range s _).1,(bt_range s _).2,(bt_range s _).1,(bt_range s _).2⟩);have wlo:wrap64 (bt s k) = (bt s k):=rGF.wb _ _;have wlo':IntKind.i64.wrap (bt s k) = (bt s k):=(i64_w _).trans wlo;have whi:wrap64 (bt s k) = (bt s k):=rGF.wb _ _;have whi':IntKind.i64.wrap (bt s k) = (bt s k):=(i64_w _).trans whi;obtain ⟨X2,hX2⟩:∃ X2,rGF.ran ((bt s k).toNat + 1 - (bt s k).toNat) x (bt s k).toNat = X2:=⟨_,rfl⟩
              rw [hX2] at H1;have HX2:=Aside0.mk hX2;have HN:=Aside0.mk H1;clear H1 hX2 htwo hhi hnx;go_wp2;go_loopg [13] ((bt s k).toNat + 1 - (bt s k).toNat) (fun kq v13 wx=>∃ (c:Nat) (y:List Bool),Aside0 (kq = (bt s k).toNat + 1 - c)∧v13 = .int .i64 (c:Int)∧Aside0 (rGF.ran kq y c = X2)∧Aside0 (y.length = 257)∧Aside0 (rGF.Bk wx gb y)∧Aside0 (Kd.R rGF.kT 91 wx w.heap.size (fun k_=>True∧k_ ≠ gb) u4 acc)∧Aside0 (Below w.heap.size w wx))
              case atStart=>exact ⟨(bt s k).toNat,x,⟨rfl⟩,(by rw [Int.toNat_of_nonneg HLO.out.1]),HX2,HXL,HK,HO,HB⟩
              case round =>
               clear HX2 HXL HK HO HB;obtain ⟨c,y,HQ,rfl,HF,HXL,HK,HO,HB⟩:=hrel;by_cases cl:(c:Int) ≤ (bt s k)
               ·obtain ⟨kk,rfl⟩:∃ kk,gk = kk + 1:=⟨gk - 1,by have:=HQ.out;omega⟩
                have HC:=Aside0.mk (show c < 256 by have:=HLO.out;omega);have d1:decide ((c:Int) ≤ (bt s k)) = true:=decide_eq_true cl;have d2:((c:Int) ≤ (bt s k)) = True:=eq_true cl;have d3:(0 ≤ (c:Int)) = True:=eq_true (by omega);have wc:wrap64 ((c:Int) + 1) = ((c + 1:Nat):Int):=by have:=HC.out;unfold wrap64;omega
                have wc':IntKind.i64.wrap ((c:Int) + 1) = ((c + 1:Nat):Int):=(i64_w _).trans wc;have HF2:=Aside0.mk ((rGF.ran_succ kk y c).symm.trans HF.out);clear HF cl;go_wp2_with (first|((with_reducible refine gate_dst (N:=113) rfl ?_);refine rGF.idx_event rfl rfl rfl rfl Tryd.underlying89 rGF.sz4 (by have:=HC.out;omega) (by have:=HC.out;omega) (m:=c + 1) (by have:=HC.out;omega) ?_)|((with_reducible refine gate_store (t:=4) (p:=113) rfl ?_);refine rGF.setB_event rfl rfl rfl rfl rfl rGF.sz4 HK.out (by have:=HXL.out;have:=HC.out;omega) ?_;intro w9 hk9 hg9;have HO_:=Aside0.mk (Kd.R_grown HO.out hg9 (fun k hk=>(fun e=>hk.2 (Option.some.inj e))));have HB_:=Aside0.mk (below_grown HB.out hg9 HG.out (blk_lt HK.out));have HK_:=Aside0.mk (hk9);clear HO HB HK;have HO:=HO_;have HB:=HB_;have HK:=HK_;clear HO_ HB_ HK_;clear hk9 hg9))
                go_roundg kk
                case measure=>omega
                case rel=>exact ⟨c + 1,_,⟨by have:=HQ.out;omega⟩,(by first|rfl|rw [wc]|simp [wc]),HF2,⟨by rw [List.length_set];exact HXL.out⟩,HK,HO,HB⟩
               ·have hz:gk = 0:=by have:=HQ.out;have:=HLO.out;omega
                subst hz;have hX:y = X2:=(rGF.ran_zero y c).symm.trans HF.out;subst hX;have d1:decide ((c:Int) ≤ (bt s k)) = false:=decide_eq_false cl;clear HF HQ cl;go_wp2;go_roundg kk1
                case measure=>have:=HK2.out;omega
                case rel=>exact ⟨(wrap64 (k + 1)),y,(by first|rfl|simp),HN,⟨by have:=HK2.out;omega⟩,⟨by have:=HKI.out;have:=HE.out;omega,by have:=HKI.out;have:=HE.out;have:=HKL.out;omega⟩,HXL,HK,HO,HB⟩
            ·have efb:(k == (wrap64 ((wrap64 (i + 1)) + 1))) = false:=beq_eq_false_iff_ne.mpr ef;have HNF:=Aside0.mk ef;by_cases e93:bt s k = 93
             ·have e93b:(bt s k == 93) = true:=beq_iff_eq.mpr e93;have e93n:(bt s k != 93) = false:=bne_eq_false_iff_eq.mpr e93;rw [if_neg (show ¬ (k = (wrap64 ((wrap64 (i + 1)) + 1)) ∨ bt s k ≠ 93) from fun h=>h.elim ef (fun h=>h e93))] at H1;simp only [Option.some.injEq,Prod.mk.injEq] at H1;obtain ⟨rfl,rfl⟩:=H1;clear ef e93 HE;rw [if_neg (show ¬ ((s.size:Int) ≤ k ∨ k = (wrap64 ((wrap64 (i + 1)) + 1))) by have:=HKL.out;intro h;rcases h with h|h;omega;exact HNF.out h)] at H9;rw [if_pos hnt] at H9;obtain ⟨X2,hX2⟩:∃ X2,rGF.flip 256 x 0 = X2:=⟨_,rfl⟩
              rw [hX2] at H9;have HX2:=Aside0.mk hX2;have H':=Aside0.mk H9;clear H9 hX2;have wk:wrap64 (k + 1) = k + 1:=by have:=HKL.out;have:=HI.out;have:=HKI.out;have:=HF0.out;have:=HL.out;unfold wrap64;omega
              have wk':IntKind.i64.wrap (k + 1) = k + 1:=(i64_w _).trans wk;have HLT:=Aside0.mk (show 0 ≤ k∧i ≤ k∧k < (s.size:Int) from ⟨by have:=HI.out;have:=HKI.out;have:=HF0.out;omega,by have:=HKI.out;have:=HF0.out;omega,HKL.out⟩);go_wp2;go_loopg [14] 256 (fun kq v14 wx=>∃ (c:Nat) (x:List Bool),Aside0 (c + kq = 256)∧v14 = .int .i64 (c:Int)∧Aside0 (rGF.flip kq x c = X2)∧Aside0 (x.length = 257)∧Aside0 (rGF.Bk wx gb x)∧Aside0 (Kd.R rGF.kT 91 wx w.heap.size (fun k_=>True∧k_ ≠ gb) u4 acc)∧Aside0 (Below w.heap.size w wx))
              case atStart=>exact ⟨0,_,⟨rfl⟩,rfl,HX2,HXL,HK,HO,HB⟩
              case round =>
               clear HX2 HXL HK HO HB;obtain ⟨c,x,HQ,rfl,HF,HXL,HK,HO,HB⟩:=hrel;cases gk with
               | zero =>
                have hc:c = 256:=by have:=HQ.out;omega
                subst hc;have hX:x = X2:=(rGF.flip_zero x 256).symm.trans HF.out;subst hX;clear HF HQ;have d1:decide (((256:Nat):Int) < 256) = false:=rfl;have d2:decide ((256:Int) < 256) = false:=rfl;go_wp2_with (first|((with_reducible refine gate_dst (N:=140) rfl ?_);refine load_event rfl rfl Tryd.underlying91 rfl rfl (cs:=x.map Value.bool) (by rw [rGF.szT,List.length_map,HXL.out]) (cells_of_blk HK.out) ?_)|((with_reducible refine gate_dst (N:=141) rfl ?_);refine rGF.one_event rfl rfl (l:=x) rfl HXL.out Tryd.underlying84 rGF.info ?_)|((with_reducible refine gate_builtin (b := .append) (xs:=#[.tmp 139,.tmp 141]) rfl ?_);at_builtin;refine Kd.R_append rGF.kT (w0:=w) w.heap.size rfl (.tmp 139) (.tmp 141) 84 91 (.agg (rGF.zz.map Value.bool).toArray) 257 rfl Tryd.underlying84 rGF.info (by simp [Value.cells,rGF.zz_len,rGF.kT]) (by decide) (by omega) u4 acc x (x.map Value.bool) (fun _=>True) (fun _=>False) rfl rfl ⟨HXL.out,rfl⟩ (fun _ hk=>hk.elim) (fun _ _=>trivial) (Kd.R_mono HO.out (fun _ _=>trivial)) HB.out (below_size HB.out) (by have:=HI.out;have:=HL.out;omega) ?_;intro v142 w7 ho hb hg hat;have HO7:=Aside0.mk ho;have HB7:=Aside0.mk hb;clear HO HB HK ho hb hg hat;have HO:=HO7;have HB:=HB7;clear HO7 HB7))
                go_roundg k1
                case measure=>have:=HK1.out;omega
                case rel=>exact ⟨acc ++ [x],k + 1,(by first|rfl|rw [wk]|simp [wk]),H',⟨by have:=HK1.out;omega⟩,⟨by have:=HI.out;have:=HLT.out;omega,by have:=HI.out;have:=HLT.out;omega,by have:=HI.out;have:=HLT.out;rw [List.length_append,List.length_singleton];omega⟩,HO,HB⟩
               | succ kk =>
                have HC:=Aside0.mk (show c < 256 by have:=HQ.out;omega);have d1:decide ((c:Int) < 256) = true:=decide_eq_true (by have:=HC.out;omega);have d2:((c:Int) < 256) = True:=eq_true (by have:=HC.out;omega);have d3:(0 ≤ (c:Int)) = True:=eq_true (by omega);have wc:wrap64 ((c:Int) + 1) = ((c + 1:Nat):Int):=by have:=HC.out;unfold wrap64;omega
                have wc':IntKind.i64.wrap ((c:Int) + 1) = ((c + 1:Nat):Int):=(i64_w _).trans wc;have HF2:=Aside0.mk ((rGF.flip_succ kk x c).symm.trans HF.out);clear HF;have hc:wr.cell? ⟨gb,c + 1,none⟩ = some (.bool (x.getD (c + 1) false)):=(blk_cell HK.out (c + 1)).trans (by have:=HXL.out;have:=HC.out;rw [List.getElem?_toArray,List.getElem?_map,List.getElem?_eq_getElem (by omega)];simp [List.getD_eq_getElem?_getD,List.getElem?_eq_getElem (show c + 1 < x.length by omega)]);go_wp2_with (first|((with_reducible refine gate_dst (N:=133) rfl ?_);refine rGF.idx_event rfl rfl rfl rfl Tryd.underlying89 rGF.sz4 (by have:=HC.out;omega) (by have:=HC.out;omega) (m:=c + 1) (by have:=HC.out;omega) ?_)|((with_reducible refine gate_dst (N:=137) rfl ?_);refine rGF.idx_event rfl rfl rfl rfl Tryd.underlying89 rGF.sz4 (by have:=HC.out;omega) (by have:=HC.out;omega) (m:=c + 1) (by have:=HC.out;omega) ?_)|((with_reducible refine gate_store (t:=4) (p:=137) rfl ?_);refine rGF.setB_event rfl rfl rfl rfl rfl rGF.sz4 HK.out (by have:=HXL.out;have:=HC.out;omega) ?_;intro w9 hk hg9;have HO_:=Aside0.mk (Kd.R_grown HO.out hg9 (fun k hk=>(fun e=>hk.2 (Option.some.inj e))));have HB_:=Aside0.mk (below_grown HB.out hg9 HG.out (blk_lt HK.out));have HK_:=Aside0.mk (hk);clear HO HB HK;have HO:=HO_;have HB:=HB_;have HK:=HK_;clear HO_ HB_ HK_;clear hk hg9))
                go_roundg kk
                case measure=>omega
                case rel=>exact ⟨c + 1,_,⟨by have:=HQ.out;omega⟩,(by first|rfl|rw [wc]|simp [wc]),HF2,⟨by rw [List.length_set];exact HXL.out⟩,HK,HO,HB⟩
             ·have e93b:(bt s k == 93) = false:=beq_eq_false_iff_ne.mpr e93;have e93n:(bt s k != 93) = true:=bne_iff_ne.mpr e93;rw [if_pos (Or.inr e93)] at H1;clear ef e93;by_cases t2:(wrap64 (k + 2)) < (s.size:Int)
              ·have t2b:decide ((wrap64 (k + 2)) < (s.size:Int)) = true:=decide_eq_true t2;have t2p:((wrap64 (k + 2)) < (s.size:Int)) = True:=eq_true t2;have HTW:=Aside0.mk t2;have t1p:((wrap64 (k + 1)) < (s.size:Int)) = True:=eq_true (by have:=HE.out;omega);have t10:(0 ≤ (wrap64 (k + 1))) = True:=eq_true (by have:=HE.out;have:=HKI.out;have:=HF0.out;have:=HI.out;omega);have t20:(0 ≤ (wrap64 (k + 2))) = True:=eq_true (by have:=HE.out;have:=HKI.out;have:=HF0.out;have:=HI.out;omega);have hxk1:=bt_at s (wrap64 (k + 1));have hxk2:=bt_at s (wrap64 (k + 2));clear t2;by_cases t45:bt s (wrap64 (k + 1)) = 45
               ·have t45b:(bt s (wrap64 (k + 1)) == 45) = true:=beq_iff_eq.mpr t45;by_cases t93:bt s (wrap64 (k + 2)) = 93
                ·have t93b:(bt s (wrap64 (k + 2)) == 93) = true:=beq_iff_eq.mpr t93;have t93n:(bt s (wrap64 (k + 2)) != 93) = false:=bne_eq_false_iff_eq.mpr t93;clear t45 t93;have htwo:rGF.two s k = false:=by unfold rGF.two;simp [*]
                 have hhi:rGF.hgh s k = bt s k:=by unfold rGF.hgh;rw [htwo];rfl
                 have hnx:rGF.nx s k = (wrap64 (k + 1)):=by unfold rGF.nx;rw [htwo];rfl
                 rw [hhi,hnx] at H1;have HLO:=Aside0.mk (show 0 ≤ (bt s k)∧(bt s k) ≤ 255∧0 ≤ (bt s k)∧(bt s k) ≤ 255 from ⟨(bt_range s _).1,(bt_range s _).2,(bt_range s _).1,(bt_range s _).2⟩);have wlo:wrap64 (bt s k) = (bt s k):=rGF.wb _ _;have wlo':IntKind.i64.wrap (bt s k) = (bt s k):=(i64_w _).trans wlo;have whi:wrap64 (bt s k) = (bt s k):=rGF.wb _ _;have whi':IntKind.i64.wrap (bt s k) = (bt s k):=(i64_w _).trans whi;obtain ⟨X2,hX2⟩:∃ X2,rGF.ran ((bt s k).toNat + 1 - (bt s k).toNat) x (bt s k).toNat = X2:=⟨_,rfl⟩
                 rw [hX2] at H1;have HX2:=Aside0.mk hX2;have HN:=Aside0.mk H1;clear H1 hX2 htwo hhi hnx;go_wp2;go_loopg [13] ((bt s k).toNat + 1 - (bt s k).toNat) (fun kq v13 wx=>∃ (c:Nat) (y:List Bool),Aside0 (kq = (bt s k).toNat + 1 - c)∧v13 = .int .i64 (c:Int)∧Aside0 (rGF.ran kq y c = X2)∧Aside0 (y.length = 257)∧Aside0 (rGF.Bk wx gb y)∧Aside0 (Kd.R rGF.kT 91 wx w.heap.size (fun k_=>True∧k_ ≠ gb) u4 acc)∧Aside0 (Below w.heap.size w wx))
                 case atStart=>exact ⟨(bt s k).toNat,x,⟨rfl⟩,(by rw [Int.toNat_of_nonneg HLO.out.1]),HX2,HXL,HK,HO,HB⟩
                 case round =>
                  clear HX2 HXL HK HO HB;obtain ⟨c,y,HQ,rfl,HF,HXL,HK,HO,HB⟩:=hrel;by_cases cl:(c:Int) ≤ (bt s k)
                  ·obtain ⟨kk,rfl⟩:∃ kk,gk = kk + 1:=⟨gk - 1,by have:=HQ.out;omega⟩
                   have HC:=Aside0.mk (show c < 256 by have:=HLO.out;omega);have d1:decide ((c:Int) ≤ (bt s k)) = true:=decide_eq_true cl;have d2:((c:Int) ≤ (bt s k)) = True:=eq_true cl;have d3:(0 ≤ (c:Int)) = True:=eq_true (by omega);have wc:wrap64 ((c:Int) + 1) = ((c + 1:Nat):Int):=by have:=HC.out;unfold wrap64;omega
                   have wc':IntKind.i64.wrap ((c:Int) + 1) = ((c + 1:Nat):Int):=(i64_w _).trans wc;have HF2:=Aside0.mk ((rGF.ran_succ kk y c).symm.trans HF.out);clear HF cl;go_wp2_with (first|((with_reducible refine gate_dst (N:=113) rfl ?_);refine rGF.idx_event rfl rfl rfl rfl Tryd.underlying89 rGF.sz4 (by have:=HC.out;omega) (by have:=HC.out;omega) (m:=c + 1) (by have:=HC.out;omega) ?_)|((with_reducible refine gate_store (t:=4) (p:=113) rfl ?_);refine rGF.setB_event rfl rfl rfl rfl rfl rGF.sz4 HK.out (by have:=HXL.out;have:=HC.out;omega) ?_;intro w9 hk9 hg9;have HO_:=Aside0.mk (Kd.R_grown HO.out hg9 (fun k hk=>(fun e=>hk.2 (Option.some.inj e))));have HB_:=Aside0.mk (below_grown HB.out hg9 HG.out (blk_lt HK.out));have HK_:=Aside0.mk (hk9);clear HO HB HK;have HO:=HO_;have HB:=HB_;have HK:=HK_;clear HO_ HB_ HK_;clear hk9 hg9))
                   go_roundg kk
                   case measure=>omega
                   case rel=>exact ⟨c + 1,_,⟨by have:=HQ.out;omega⟩,(by first|rfl|rw [wc]|simp [wc]),HF2,⟨by rw [List.length_set];exact HXL.out⟩,HK,HO,HB⟩
                  ·have hz:gk = 0:=by have:=HQ.out;have:=HLO.out;omega
                   subst hz;have hX:y = X2:=(rGF.ran_zero y c).symm.trans HF.out;subst hX;have d1:decide ((c:Int) ≤ (bt s k)) = false:=decide_eq_false cl;clear HF HQ cl;go_wp2;go_roundg kk1
                   case measure=>have:=HK2.out;omega
                   case rel=>exact ⟨(wrap64 (k + 1)),y,(by first|rfl|simp),HN,⟨by have:=HK2.out;omega⟩,⟨by have:=HKI.out;have:=HE.out;omega,by have:=HKI.out;have:=HE.out;have:=HKL.out;omega⟩,HXL,HK,HO,HB⟩
                ·have t93b:(bt s (wrap64 (k + 2)) == 93) = false:=beq_eq_false_iff_ne.mpr t93;have t93n:(bt s (wrap64 (k + 2)) != 93) = true:=bne_iff_ne.mpr t93;clear t45 t93;have htwo:rGF.two s k = true:=by unfold rGF.two;simp [*]
                 have hhi:rGF.hgh s k = bt s (wrap64 (k + 2)):=by unfold rGF.hgh;rw [htwo];rfl
                 have hnx:rGF.nx s k = (wrap64 ((wrap64 (k + 2)) + 1)):=by unfold rGF.nx;rw [htwo];rfl
                 rw [hhi,hnx] at H1;have HLO:=Aside0.mk (show 0 ≤ (bt s k)∧(bt s k) ≤ 255∧0 ≤ (bt s (wrap64 (k + 2)))∧(bt s (wrap64 (k + 2))) ≤ 255 from ⟨(bt_range s _).1,(bt_range s _).2,(bt_range s _).1,(bt_range s _).2⟩);have wlo:wrap64 (bt s k) = (bt s k):=rGF.wb _ _;have wlo':IntKind.i64.wrap (bt s k) = (bt s k):=(i64_w _).trans wlo;have whi:wrap64 (bt s (wrap64 (k + 2))) = (bt s (wrap64 (k + 2))):=rGF.wb _ _;have whi':IntKind.i64.wrap (bt s (wrap64 (k + 2))) = (bt s (wrap64 (k + 2))):=(i64_w _).trans whi;obtain ⟨X2,hX2⟩:∃ X2,rGF.ran ((bt s (wrap64 (k + 2))).toNat + 1 - (bt s k).toNat) x (bt s k).toNat = X2:=⟨_,rfl⟩
                 rw [hX2] at H1;have HX2:=Aside0.mk hX2;have HN:=Aside0.mk H1;clear H1 hX2 htwo hhi hnx;go_wp2;go_loopg [13] ((bt s (wrap64 (k + 2))).toNat + 1 - (bt s k).toNat) (fun kq v13 wx=>∃ (c:Nat) (y:List Bool),Aside0 (kq = (bt s (wrap64 (k + 2))).toNat + 1 - c)∧v13 = .int .i64 (c:Int)∧Aside0 (rGF.ran kq y c = X2)∧Aside0 (y.length = 257)∧Aside0 (rGF.Bk wx gb y)∧Aside0 (Kd.R rGF.kT 91 wx w.heap.size (fun k_=>True∧k_ ≠ gb) u4 acc)∧Aside0 (Below w.heap.size w wx))
                 case atStart=>exact ⟨(bt s k).toNat,x,⟨rfl⟩,(by rw [Int.toNat_of_nonneg HLO.out.1]),HX2,HXL,HK,HO,HB⟩
                 case round =>
                  clear HX2 HXL HK HO HB;obtain ⟨c,y,HQ,rfl,HF,HXL,HK,HO,HB⟩:=hrel;by_cases cl:(c:Int) ≤ (bt s (wrap64 (k + 2)))
                  ·obtain ⟨kk,rfl⟩:∃ kk,gk = kk + 1:=⟨gk - 1,by have:=HQ.out;omega⟩
                   have HC:=Aside0.mk (show c < 256 by have:=HLO.out;omega);have d1:decide ((c:Int) ≤ (bt s (wrap64 (k + 2)))) = true:=decide_eq_true cl;have d2:((c:Int) ≤ (bt s (wrap64 (k + 2)))) = True:=eq_true cl;have d3:(0 ≤ (c:Int)) = True:=eq_true (by omega);have wc:wrap64 ((c:Int) + 1) = ((c + 1:Nat):Int):=by have:=HC.out;unfold wrap64;omega
                   have wc':IntKind.i64.wrap ((c:Int) + 1) = ((c + 1:Nat):Int):=(i64_w _).trans wc;have HF2:=Aside0.mk ((rGF.ran_succ kk y c).symm.trans HF.out);clear HF cl;go_wp2_with (first|((with_reducible refine gate_dst (N:=113) rfl ?_);refine rGF.idx_event rfl rfl rfl rfl Tryd.underlying89 rGF.sz4 (by have:=HC.out;omega) (by have:=HC.out;omega) (m:=c + 1) (by have:=HC.out;omega) ?_)|((with_reducible refine gate_store (t:=4) (p:=113) rfl ?_);refine rGF.setB_event rfl rfl rfl rfl rfl rGF.sz4 HK.out (by have:=HXL.out;have:=HC.out;omega) ?_;intro w9 hk9 hg9;have HO_:=Aside0.mk (Kd.R_grown HO.out hg9 (fun k hk=>(fun e=>hk.2 (Option.some.inj e))));have HB_:=Aside0.mk (below_grown HB.out hg9 HG.out (blk_lt HK.out));have HK_:=Aside0.mk (hk9);clear HO HB HK;have HO:=HO_;have HB:=HB_;have HK:=HK_;clear HO_ HB_ HK_;clear hk9 hg9))
                   go_roundg kk
                   case measure=>omega
                   case rel=>exact ⟨c + 1,_,⟨by have:=HQ.out;omega⟩,(by first|rfl|rw [wc]|simp [wc]),HF2,⟨by rw [List.length_set];exact HXL.out⟩,HK,HO,HB⟩
                  ·have hz:gk = 0:=by have:=HQ.out;have:=HLO.out;omega
                   subst hz;have hX:y = X2:=(rGF.ran_zero y c).symm.trans HF.out;subst hX;have d1:decide ((c:Int) ≤ (bt s (wrap64 (k + 2)))) = false:=decide_eq_false cl;clear HF HQ cl;go_wp2;go_roundg kk1
                   case measure=>have:=HK2.out;omega
                   case rel=>exact ⟨(wrap64 ((wrap64 (k + 2)) + 1)),y,(by first|rfl|simp),HN,⟨by have:=HK2.out;omega⟩,⟨by have:=HKI.out;have:=HE.out;omega,by have:=HKI.out;have:=HE.out;have:=HKL.out;have:=HTW.out;omega⟩,HXL,HK,HO,HB⟩
               ·have t45b:(bt s (wrap64 (k + 1)) == 45) = false:=beq_eq_false_iff_ne.mpr t45;clear t45;have htwo:rGF.two s k = false:=by unfold rGF.two;simp [*]
                have hhi:rGF.hgh s k = bt s k:=by unfold rGF.hgh;rw [htwo];rfl
                have hnx:rGF.nx s k = (wrap64 (k + 1)):=by unfold rGF.nx;rw [htwo];rfl
                rw [hhi,hnx] at H1;have HLO:=Aside0.mk (show 0 ≤ (bt s k)∧(bt s k) ≤ 255∧0 ≤ (bt s k)∧(bt s k) ≤ 255 from ⟨(bt_range s _).1,(bt_range s _).2,(bt_range s _).1,(bt_range s _).2⟩);have wlo:wrap64 (bt s k) = (bt s k):=rGF.wb _ _;have wlo':IntKind.i64.wrap (bt s k) = (bt s k):=(i64_w _).trans wlo;have whi:wrap64 (bt s k) = (bt s k):=rGF.wb _ _;have whi':IntKind.i64.wrap (bt s k) = (bt s k):=(i64_w _).trans whi;obtain ⟨X2,hX2⟩:∃ X2,rGF.ran ((bt s k).toNat + 1 - (bt s k).toNat) x (bt s k).toNat = X2:=⟨_,rfl⟩
                rw [hX2] at H1;have HX2:=Aside0.mk hX2;have HN:=Aside0.mk H1;clear H1 hX2 htwo hhi hnx;go_wp2;go_loopg [13] ((bt s k).toNat + 1 - (bt s k).toNat) (fun kq v13 wx=>∃ (c:Nat) (y:List Bool),Aside0 (kq = (bt s k).toNat + 1 - c)∧v13 = .int .i64 (c:Int)∧Aside0 (rGF.ran kq y c = X2)∧Aside0 (y.length = 257)∧Aside0 (rGF.Bk wx gb y)∧Aside0 (Kd.R rGF.kT 91 wx w.heap.size (fun k_=>True∧k_ ≠ gb) u4 acc)∧Aside0 (Below w.heap.size w wx))
                case atStart=>exact ⟨(bt s k).toNat,x,⟨rfl⟩,(by rw [Int.toNat_of_nonneg HLO.out.1]),HX2,HXL,HK,HO,HB⟩
                case round =>
                 clear HX2 HXL HK HO HB;obtain ⟨c,y,HQ,rfl,HF,HXL,HK,HO,HB⟩:=hrel;by_cases cl:(c:Int) ≤ (bt s k)
                 ·obtain ⟨kk,rfl⟩:∃ kk,gk = kk + 1:=⟨gk - 1,by have:=HQ.out;omega⟩
                  have HC:=Aside0.mk (show c < 256 by have:=HLO.out;omega);have d1:decide ((c:Int) ≤ (bt s k)) = true:=decide_eq_true cl;have d2:((c:Int) ≤ (bt s k)) = True:=eq_true cl;have d3:(0 ≤ (c:Int)) = True:=eq_true (by omega);have wc:wrap64 ((c:Int) + 1) = ((c + 1:Nat):Int):=by have:=HC.out;unfold wrap64;omega
                  have wc':IntKind.i64.wrap ((c:Int) + 1) = ((c + 1:Nat):Int):=(i64_w _).trans wc;have HF2:=Aside0.mk ((rGF.ran_succ kk y c).symm.trans HF.out);clear HF cl;go_wp2_with (first|((with_reducible refine gate_dst (N:=113) rfl ?_);refine rGF.idx_event rfl rfl rfl rfl Tryd.underlying89 rGF.sz4 (by have:=HC.out;omega) (by have:=HC.out;omega) (m:=c + 1) (by have:=HC.out;omega) ?_)|((with_reducible refine gate_store (t:=4) (p:=113) rfl ?_);refine rGF.setB_event rfl rfl rfl rfl rfl rGF.sz4 HK.out (by have:=HXL.out;have:=HC.out;omega) ?_;intro w9 hk9 hg9;have HO_:=Aside0.mk (Kd.R_grown HO.out hg9 (fun k hk=>(fun e=>hk.2 (Option.some.inj e))));have HB_:=Aside0.mk (below_grown HB.out hg9 HG.out (blk_lt HK.out));have HK_:=Aside0.mk (hk9);clear HO HB HK;have HO:=HO_;have HB:=HB_;have HK:=HK_;clear HO_ HB_ HK_;clear hk9 hg9))
                  go_roundg kk
                  case measure=>omega
                  case rel=>exact ⟨c + 1,_,⟨by have:=HQ.out;omega⟩,(by first|rfl|rw [wc]|simp [wc]),HF2,⟨by rw [List.length_set];exact HXL.out⟩,HK,HO,HB⟩
                 ·have hz:gk = 0:=by have:=HQ.out;have:=HLO.out;omega
                  subst hz;have hX:y = X2:=(rGF.ran_zero y c).symm.trans HF.out;subst hX;have d1:decide ((c:Int) ≤ (bt s k)) = false:=decide_eq_false cl;clear HF HQ cl;go_wp2;go_roundg kk1
                  case measure=>have:=HK2.out;omega
                  case rel=>exact ⟨(wrap64 (k + 1)),y,(by first|rfl|simp),HN,⟨by have:=HK2.out;omega⟩,⟨by have:=HKI.out;have:=HE.out;omega,by have:=HKI.out;have:=HE.out;have:=HKL.out;omega⟩,HXL,HK,HO,HB⟩
              ·have t2b:decide ((wrap64 (k + 2)) < (s.size:Int)) = false:=decide_eq_false t2;clear t2;have htwo:rGF.two s k = false:=by unfold rGF.two;simp [*]
               have hhi:rGF.hgh s k = bt s k:=by unfold rGF.hgh;rw [htwo];rfl
               have hnx:rGF.nx s k = (wrap64 (k + 1)):=by unfold rGF.nx;rw [htwo];rfl
               rw [hhi,hnx] at H1;have HLO:=Aside0.mk (show 0 ≤ (bt s k)∧(bt s k) ≤ 255∧0 ≤ (bt s k)∧(bt s k) ≤ 255 from ⟨(bt_range s _).1,(bt_range s _).2,(bt_range s _).1,(bt_range s _).2⟩);have wlo:wrap64 (bt s k) = (bt s k):=rGF.wb _ _;have wlo':IntKind.i64.wrap (bt s k) = (bt s k):=(i64_w _).trans wlo;have whi:wrap64 (bt s k) = (bt s k):=rGF.wb _ _;have whi':IntKind.i64.wrap (bt s k) = (bt s k):=(i64_w _).trans whi;obtain ⟨X2,hX2⟩:∃ X2,rGF.ran ((bt s k).toNat + 1 - (bt s k).toNat) x (bt s k).toNat = X2:=⟨_,rfl⟩
               rw [hX2] at H1;have HX2:=Aside0.mk hX2;have HN:=Aside0.mk H1;clear H1 hX2 htwo hhi hnx;go_wp2;go_loopg [13] ((bt s k).toNat + 1 - (bt s k).toNat) (fun kq v13 wx=>∃ (c:Nat) (y:List Bool),Aside0 (kq = (bt s k).toNat + 1 - c)∧v13 = .int .i64 (c:Int)∧Aside0 (rGF.ran kq y c = X2)∧Aside0 (y.length = 257)∧Aside0 (rGF.Bk wx gb y)∧Aside0 (Kd.R rGF.kT 91 wx w.heap.size (fun k_=>True∧k_ ≠ gb) u4 acc)∧Aside0 (Below w.heap.size w wx))
               case atStart=>exact ⟨(bt s k).toNat,x,⟨rfl⟩,(by rw [Int.toNat_of_nonneg HLO.out.1]),HX2,HXL,HK,HO,HB⟩
               case round =>
                clear HX2 HXL HK HO HB;obtain ⟨c,y,HQ,rfl,HF,HXL,HK,HO,HB⟩:=hrel;by_cases cl:(c:Int) ≤ (bt s k)
                ·obtain ⟨kk,rfl⟩:∃ kk,gk = kk + 1:=⟨gk - 1,by have:=HQ.out;omega⟩
                 have HC:=Aside0.mk (show c < 256 by have:=HLO.out;omega);have d1:decide ((c:Int) ≤ (bt s k)) = true:=decide_eq_true cl;have d2:((c:Int) ≤ (bt s k)) = True:=eq_true cl;have d3:(0 ≤ (c:Int)) = True:=eq_true (by omega);have wc:wrap64 ((c:Int) + 1) = ((c + 1:Nat):Int):=by have:=HC.out;unfold wrap64;omega
                 have wc':IntKind.i64.wrap ((c:Int) + 1) = ((c + 1:Nat):Int):=(i64_w _).trans wc;have HF2:=Aside0.mk ((rGF.ran_succ kk y c).symm.trans HF.out);clear HF cl;go_wp2_with (first|((with_reducible refine gate_dst (N:=113) rfl ?_);refine rGF.idx_event rfl rfl rfl rfl Tryd.underlying89 rGF.sz4 (by have:=HC.out;omega) (by have:=HC.out;omega) (m:=c + 1) (by have:=HC.out;omega) ?_)|((with_reducible refine gate_store (t:=4) (p:=113) rfl ?_);refine rGF.setB_event rfl rfl rfl rfl rfl rGF.sz4 HK.out (by have:=HXL.out;have:=HC.out;omega) ?_;intro w9 hk9 hg9;have HO_:=Aside0.mk (Kd.R_grown HO.out hg9 (fun k hk=>(fun e=>hk.2 (Option.some.inj e))));have HB_:=Aside0.mk (below_grown HB.out hg9 HG.out (blk_lt HK.out));have HK_:=Aside0.mk (hk9);clear HO HB HK;have HO:=HO_;have HB:=HB_;have HK:=HK_;clear HO_ HB_ HK_;clear hk9 hg9))
                 go_roundg kk
                 case measure=>omega
                 case rel=>exact ⟨c + 1,_,⟨by have:=HQ.out;omega⟩,(by first|rfl|rw [wc]|simp [wc]),HF2,⟨by rw [List.length_set];exact HXL.out⟩,HK,HO,HB⟩
                ·have hz:gk = 0:=by have:=HQ.out;have:=HLO.out;omega
                 subst hz;have hX:y = X2:=(rGF.ran_zero y c).symm.trans HF.out;subst hX;have d1:decide ((c:Int) ≤ (bt s k)) = false:=decide_eq_false cl;clear HF HQ cl;go_wp2;go_roundg kk1
                 case measure=>have:=HK2.out;omega
                 case rel=>exact ⟨(wrap64 (k + 1)),y,(by first|rfl|simp),HN,⟨by have:=HK2.out;omega⟩,⟨by have:=HKI.out;have:=HE.out;omega,by have:=HKI.out;have:=HE.out;have:=HKL.out;omega⟩,HXL,HK,HO,HB⟩
           ·rw [if_neg ck] at H1;simp only [Option.some.injEq,Prod.mk.injEq] at H1;obtain ⟨rfl,rfl⟩:=H1;have ckb:decide (k < (s.size:Int)) = false:=decide_eq_false ck;have ckn:decide (k ≥ (s.size:Int)) = true:=decide_eq_true (by omega);have ckm:decide ((s.size:Int) ≤ k) = true:=decide_eq_true (by omega);rw [if_pos (Or.inl (show (s.size:Int) ≤ k by omega))] at H9;simp only [Option.some.injEq,Prod.mk.injEq] at H9;obtain ⟨rfl,rfl⟩:=H9;clear ck;go_wp2;go_ret2
            exact ⟨_,rfl,Kd.R_nil _ _ _ _ _,HB.out⟩
        ·skip
         have n33b:(bt s (wrap64 (i + 1)) == 33) = false:=beq_eq_false_iff_ne.mpr n33;have hnt:rGF.nt s i = false:=by unfold rGF.nt;rw [n33b,Bool.and_false]
         have hfr:rGF.fr s i = (wrap64 (i + 1)):=by unfold rGF.fr;rw [hnt];rfl
         have HF0:=Aside0.mk (show i + 1 ≤ (wrap64 (i + 1))∧(wrap64 (i + 1)) ≤ i + 2 by have:=HI.out;have:=HL.out;have:=HLT0.out;unfold wrap64;omega);clear n33;rw [hfr] at A9 H9;have HA9:=Aside0.mk A9;clear A9 hfr;go_wp2_with (first|((with_reducible refine gate_dst (N:=23) rfl ?_);refine rGF.build_event rfl rfl (cells:=((rGF.x0 s i).map Value.bool).toArray) (by (try simp only [List.map_toArray,List.map_cons,List.map_nil]);exact rGF.built0 s i) ?_)|((with_reducible refine gate_dst (N:=6) rfl ?_);refine box_event ?hg (N:=6) ?hd (cs:=(rGF.zz.map Value.bool).toArray) (t:=91) ?hr ?_;(case hd=>rfl);(case hg=>rfl);(case hr=>exact rGF.alloc_run rfl _);intro gb hg w2 hbox hb2;have HG:=Aside0.mk (show w.heap.size ≤ gb by rw [hg];exact HB.out.size);have HO2:=Aside0.mk (Kd.R_below (Kd.R_elderB HO.out gb (Nat.le_of_eq hg.symm)) hb2);have HB2:=Aside0.mk (below_step HB.out hb2);have HK0:=Aside0.mk (show rGF.Bk w2 gb rGF.zz from hbox);clear hg hbox hb2 HO HB;have HO:=HO2;have HB:=HB2;clear HO2 HB2)|((with_reducible refine gate_store (t:=91) (p:=6) rfl ?_);refine rGF.put_event (l:=rGF.x0 s i) rfl rfl rfl rfl rfl HK0.out rGF.szT rGF.zz_len (rGF.x0_len s i) ?_;intro w3 hk3 hg3;have HK:=HK0;clear HK0;have HO_:=Aside0.mk (Kd.R_grown HO.out hg3 (fun k hk=>(fun e=>hk.2 (Option.some.inj e))));have HB_:=Aside0.mk (below_grown HB.out hg3 HG.out (blk_lt HK.out));have HK_:=Aside0.mk (hk3);clear HO HB HK;have HO:=HO_;have HB:=HB_;have HK:=HK_;clear HO_ HB_ HK_;clear hk3 hg3))
         have HXL:=Aside0.mk (rGF.x0_len s i);go_loopg [8] (s.size + 1) (fun kq v8 wx=>∃ (k:Int) (x:List Bool),v8 = .int .i64 k∧Aside0 (rGF.l1 kq s (wrap64 (i + 1)) x k = some (x9,k9))∧Aside0 (kq ≤ s.size + 1)∧Aside0 ((wrap64 (i + 1)) ≤ k∧k ≤ (s.size:Int) + 1)∧Aside0 (x.length = 257)∧Aside0 (rGF.Bk wx gb x)∧Aside0 (Kd.R rGF.kT 91 wx w.heap.size (fun k_=>True∧k_ ≠ gb) u4 acc)∧Aside0 (Below w.heap.size w wx))
         case atStart=>exact ⟨(wrap64 (i + 1)),_,(by first|rfl|simp),HA9,⟨Nat.le_refl _⟩,⟨Int.le_refl _,by have:=HF0.out;have:=HLT0.out;omega⟩,HXL,HK,HO,HB⟩
         case round =>
          clear HA9 HXL HK HO HB;obtain ⟨k,x,rfl,HA1,HK2,HKI,HXL,HK,HO,HB⟩:=hrel;cases gk with
          | zero=>exact absurd HA1.out (by simp [rGF.l1])
          | succ kk1 =>
           have H1:=HA1.out;clear HA1;simp only [rGF.l1] at H1;by_cases ck:k < (s.size:Int)
           ·rw [if_pos ck] at H1;have ckb:decide (k < (s.size:Int)) = true:=decide_eq_true ck;have ckp:(k < (s.size:Int)) = True:=eq_true ck;have ck0:(0 ≤ k) = True:=eq_true (by have:=HKI.out;have:=HF0.out;have:=HI.out;omega);have ckn:decide (k ≥ (s.size:Int)) = false:=decide_eq_false (by omega);have ckm:decide ((s.size:Int) ≤ k) = false:=decide_eq_false (by omega);have HKL:=Aside0.mk ck;have hxk:=bt_at s k;clear ck;have HE:=Aside0.mk (show (wrap64 (k + 1)) = k + 1∧(wrap64 (k + 2)) = k + 2∧(wrap64 ((wrap64 (k + 2)) + 1)) = k + 3 by have:=HKL.out;have:=HL.out;have:=HKI.out;have:=HF0.out;have:=HI.out;unfold wrap64;omega);by_cases ef:k = (wrap64 (i + 1))
            ·have efb:(k == (wrap64 (i + 1))) = true:=beq_iff_eq.mpr ef;rw [if_pos (Or.inl ef)] at H1;clear ef;by_cases t2:(wrap64 (k + 2)) < (s.size:Int)
             ·have t2b:decide ((wrap64 (k + 2)) < (s.size:Int)) = true:=decide_eq_true t2;have t2p:((wrap64 (k + 2)) < (s.size:Int)) = True:=eq_true t2;have HTW:=Aside0.mk t2;have t1p:((wrap64 (k + 1)) < (s.size:Int)) = True:=eq_true (by have:=HE.out;omega);have t10:(0 ≤ (wrap64 (k + 1))) = True:=eq_true (by have:=HE.out;have:=HKI.out;have:=HF0.out;have:=HI.out;omega);have t20:(0 ≤ (wrap64 (k + 2))) = True:=eq_true (by have:=HE.out;have:=HKI.out;have:=HF0.out;have:=HI.out;omega);have hxk1:=bt_at s (wrap64 (k + 1));have hxk2:=bt_at s (wrap64 (k + 2));clear t2;by_cases t45:bt s (wrap64 (k + 1)) = 45
              ·have t45b:(bt s (wrap64 (k + 1)) == 45) = true:=beq_iff_eq.mpr t45;by_cases t93:bt s (wrap64 (k + 2)) = 93
               ·have t93b:(bt s (wrap64 (k + 2)) == 93) = true:=beq_iff_eq.mpr t93;have t93n:(bt s (wrap64 (k + 2)) != 93) = false:=bne_eq_false_iff_eq.mpr t93;clear t45 t93;have htwo:rGF.two s k = false:=by unfold rGF.two;simp [*]
                have hhi:rGF.hgh s k = bt s k:=by unfold rGF.hgh;rw [htwo];rfl
                have hnx:rGF.nx s k = (wrap64 (k + 1)):=by unfold rGF.nx;rw [htwo];rfl
                rw [hhi,hnx] at H1;have HLO:=Aside0.mk (show 0 ≤ (bt s k)∧(bt s k) ≤ 255∧0 ≤ (bt s k)∧(bt s k) ≤ 255 from ⟨(bt_range s _).1,(bt_range s _).2,(bt_range s _).1,(bt_range s _).2⟩);have wlo:wrap64 (bt s k) = (bt s k):=rGF.wb _ _;have wlo':IntKind.i64.wrap (bt s k) = (bt s k):=(i64_w _).trans wlo;have whi:wrap64 (bt s k) = (bt s k):=rGF.wb _ _;have whi':IntKind.i64.wrap (bt s k) = (bt s k):=(i64_w _).trans whi;obtain ⟨X2,hX2⟩:∃ X2,rGF.ran ((bt s k).toNat + 1 - (bt s k).toNat) x (bt s k).toNat = X2:=⟨_,rfl⟩
                rw [hX2] at H1;have HX2:=Aside0.mk hX2;have HN:=Aside0.mk H1;clear H1 hX2 htwo hhi hnx;go_wp2;go_loopg [13] ((bt s k).toNat + 1 - (bt s k).toNat) (fun kq v13 wx=>∃ (c:Nat) (y:List Bool),Aside0 (kq = (bt s k).toNat + 1 - c)∧v13 = .int .i64 (c:Int)∧Aside0 (rGF.ran kq y c = X2)∧Aside0 (y.length = 257)∧Aside0 (rGF.Bk wx gb y)∧Aside0 (Kd.R rGF.kT 91 wx w.heap.size (fun k_=>True∧k_ ≠ gb) u4 acc)∧Aside0 (Below w.heap.size w wx))
                case atStart=>exact ⟨(bt s k).toNat,x,⟨rfl⟩,(by rw [Int.toNat_of_nonneg HLO.out.1]),HX2,HXL,HK,HO,HB⟩
                case round =>
                 clear HX2 HXL HK HO HB;obtain ⟨c,y,HQ,rfl,HF,HXL,HK,HO,HB⟩:=hrel;by_cases cl:(c:Int) ≤ (bt s k)
                 ·obtain ⟨kk,rfl⟩:∃ kk,gk = kk + 1:=⟨gk - 1,by have:=HQ.out;omega⟩
                  have HC:=Aside0.mk (show c < 256 by have:=HLO.out;omega);have d1:decide ((c:Int) ≤ (bt s k)) = true:=decide_eq_true cl;have d2:((c:Int) ≤ (bt s k)) = True:=eq_true cl;have d3:(0 ≤ (c:Int)) = True:=eq_true (by omega);have wc:wrap64 ((c:Int) + 1) = ((c + 1:Nat):Int):=by have:=HC.out;unfold wrap64;omega
                  have wc':IntKind.i64.wrap ((c:Int) + 1) = ((c + 1:Nat):Int):=(i64_w _).trans wc;have HF2:=Aside0.mk ((rGF.ran_succ kk y c).symm.trans HF.out);clear HF cl;go_wp2_with (first|((with_reducible refine gate_dst (N:=113) rfl ?_);refine rGF.idx_event rfl rfl rfl rfl Tryd.underlying89 rGF.sz4 (by have:=HC.out;omega) (by have:=HC.out;omega) (m:=c + 1) (by have:=HC.out;omega) ?_)|((with_reducible refine gate_store (t:=4) (p:=113) rfl ?_);refine rGF.setB_event rfl rfl rfl rfl rfl rGF.sz4 HK.out (by have:=HXL.out;have:=HC.out;omega) ?_;intro w9 hk9 hg9;have HO_:=Aside0.mk (Kd.R_grown HO.out hg9 (fun k hk=>(fun e=>hk.2 (Option.some.inj e))));have HB_:=Aside0.mk (below_grown HB.out hg9 HG.out (blk_lt HK.out));have HK_:=Aside0.mk (hk9);clear HO HB HK;have HO:=HO_;have HB:=HB_;have HK:=HK_;clear HO_ HB_ HK_;clear hk9 hg9))
                  go_roundg kk
                  case measure=>omega
                  case rel=>exact ⟨c + 1,_,⟨by have:=HQ.out;omega⟩,(by first|rfl|rw [wc]|simp [wc]),HF2,⟨by rw [List.length_set];exact HXL.out⟩,HK,HO,HB⟩
                 ·have hz:gk = 0:=by have:=HQ.out;have:=HLO.out;omega
                  subst hz;have hX:y = X2:=(rGF.ran_zero y c).symm.trans HF.out;subst hX;have d1:decide ((c:Int) ≤ (bt s k)) = false:=decide_eq_false cl;clear HF HQ cl;go_wp2;go_roundg kk1
                  case measure=>have:=HK2.out;omega
                  case rel=>exact ⟨(wrap64 (k + 1)),y,(by first|rfl|simp),HN,⟨by have:=HK2.out;omega⟩,⟨by have:=HKI.out;have:=HE.out;omega,by have:=HKI.out;have:=HE.out;have:=HKL.out;omega⟩,HXL,HK,HO,HB⟩
               ·have t93b:(bt s (wrap64 (k + 2)) == 93) = false:=beq_eq_false_iff_ne.mpr t93;have t93n:(bt s (wrap64 (k + 2)) != 93) = true:=bne_iff_ne.mpr t93;clear t45 t93;have htwo:rGF.two s k = true:=by unfold rGF.two;simp [*]
                have hhi:rGF.hgh s k = bt s (wrap64 (k + 2)):=by unfold rGF.hgh;rw [htwo];rfl
                have hnx:rGF.nx s k = (wrap64 ((wrap64 (k + 2)) + 1)):=by unfold rGF.nx;rw [htwo];rfl
                rw [hhi,hnx] at H1;have HLO:=Aside0.mk (show 0 ≤ (bt s k)∧(bt s k) ≤ 255∧0 ≤ (bt s (wrap64 (k + 2)))∧(bt s (wrap64 (k + 2))) ≤ 255 from ⟨(bt_range s _).1,(bt_range s _).2,(bt_range s _).1,(bt_range s _).2⟩);have wlo:wrap64 (bt s k) = (bt s k):=rGF.wb _ _;have wlo':IntKind.i64.wrap (bt s k) = (bt s k):=(i64_w _).trans wlo;have whi:wrap64 (bt s (wrap64 (k + 2))) = (bt s (wrap64 (k + 2))):=rGF.wb _ _;have whi':IntKind.i64.wrap (bt s (wrap64 (k + 2))) = (bt s (wrap64 (k + 2))):=(i64_w _).trans whi;obtain ⟨X2,hX2⟩:∃ X2,rGF.ran ((bt s (wrap64 (k + 2))).toNat + 1 - (bt s k).toNat) x (bt s k).toNat = X2:=⟨_,rfl⟩
                rw [hX2] at H1;have HX2:=Aside0.mk hX2;have HN:=Aside0.mk H1;clear H1 hX2 htwo hhi hnx;go_wp2;go_loopg [13] ((bt s (wrap64 (k + 2))).toNat + 1 - (bt s k).toNat) (fun kq v13 wx=>∃ (c:Nat) (y:List Bool),Aside0 (kq = (bt s (wrap64 (k + 2))).toNat + 1 - c)∧v13 = .int .i64 (c:Int)∧Aside0 (rGF.ran kq y c = X2)∧Aside0 (y.length = 257)∧Aside0 (rGF.Bk wx gb y)∧Aside0 (Kd.R rGF.kT 91 wx w.heap.size (fun k_=>True∧k_ ≠ gb) u4 acc)∧Aside0 (Below w.heap.size w wx))
                case atStart=>exact ⟨(bt s k).toNat,x,⟨rfl⟩,(by rw [Int.toNat_of_nonneg HLO.out.1]),HX2,HXL,HK,HO,HB⟩
                case round =>
                 clear HX2 HXL HK HO HB;obtain ⟨c,y,HQ,rfl,HF,HXL,HK,HO,HB⟩:=hrel;by_cases cl:(c:Int) ≤ (bt s (wrap64 (k + 2)))
                 ·obtain ⟨kk,rfl⟩:∃ kk,gk = kk + 1:=⟨gk - 1,by have:=HQ.out;omega⟩
                  have HC:=Aside0.mk (show c < 256 by have:=HLO.out;omega);have d1:decide ((c:Int) ≤ (bt s (wrap64 (k + 2)))) = true:=decide_eq_true cl;have d2:((c:Int) ≤ (bt s (wrap64 (k + 2)))) = True:=eq_true cl;have d3:(0 ≤ (c:Int)) = True:=eq_true (by omega);have wc:wrap64 ((c:Int) + 1) = ((c + 1:Nat):Int):=by have:=HC.out;unfold wrap64;omega
                  have wc':IntKind.i64.wrap ((c:Int) + 1) = ((c + 1:Nat):Int):=(i64_w _).trans wc;have HF2:=Aside0.mk ((rGF.ran_succ kk y c).symm.trans HF.out);clear HF cl;go_wp2_with (first|((with_reducible refine gate_dst (N:=113) rfl ?_);refine rGF.idx_event rfl rfl rfl rfl Tryd.underlying89 rGF.sz4 (by have:=HC.out;omega) (by have:=HC.out;omega) (m:=c + 1) (by have:=HC.out;omega) ?_)|((with_reducible refine gate_store (t:=4) (p:=113) rfl ?_);refine rGF.setB_event rfl rfl rfl rfl rfl rGF.sz4 HK.out (by have:=HXL.out;have:=HC.out;omega) ?_;intro w9 hk9 hg9;have HO_:=Aside0.mk (Kd.R_grown HO.out hg9 (fun k hk=>(fun e=>hk.2 (Option.some.inj e))));have HB_:=Aside0.mk (below_grown HB.out hg9 HG.out (blk_lt HK.out));have HK_:=Aside0.mk (hk9);clear HO HB HK;have HO:=HO_;have HB:=HB_;have HK:=HK_;clear HO_ HB_ HK_;clear hk9 hg9))
                  go_roundg kk
                  case measure=>omega
                  case rel=>exact ⟨c + 1,_,⟨by have:=HQ.out;omega⟩,(by first|rfl|rw [wc]|simp [wc]),HF2,⟨by rw [List.length_set];exact HXL.out⟩,HK,HO,HB⟩
                 ·have hz:gk = 0:=by have:=HQ.out;have:=HLO.out;omega
                  subst hz;have hX:y = X2:=(rGF.ran_zero y c).symm.trans HF.out;subst hX;have d1:decide ((c:Int) ≤ (bt s (wrap64 (k + 2)))) = false:=decide_eq_false cl;clear HF HQ cl;go_wp2;go_roundg kk1
                  case measure=>have:=HK2.out;omega
                  case rel=>exact ⟨(wrap64 ((wrap64 (k + 2)) + 1)),y,(by first|rfl|simp),HN,⟨by have:=HK2.out;omega⟩,⟨by have:=HKI.out;have:=HE.out;omega,by have:=HKI.out;have:=HE.out;have:=HKL.out;have:=HTW.out;omega⟩,HXL,HK,HO,HB⟩
              ·have t45b:(bt s (wrap64 (k + 1)) == 45) = false:=beq_eq_false_iff_ne.mpr t45;clear t45;have htwo:rGF.two s k = false:=by unfold rGF.two;simp [*]
               have hhi:rGF.hgh s k = bt s k:=by unfold rGF.hgh;rw [htwo];rfl
               have hnx:rGF.nx s k = (wrap64 (k + 1)):=by unfold rGF.nx;rw [htwo];rfl
               rw [hhi,hnx] at H1;have HLO:=Aside0.mk (show 0 ≤ (bt s k)∧(bt s k) ≤ 255∧0 ≤ (bt s k)∧(bt s k) ≤ 255 from ⟨(bt_range s _).1,(bt_range s _).2,(bt_range s _).1,(bt_range s _).2⟩);have wlo:wrap64 (bt s k) = (bt s k):=rGF.wb _ _;have wlo':IntKind.i64.wrap (bt s k) = (bt s k):=(i64_w _).trans wlo;have whi:wrap64 (bt s k) = (bt s k):=rGF.wb _ _;have whi':IntKind.i64.wrap (bt s k) = (bt s k):=(i64_w _).trans whi;obtain ⟨X2,hX2⟩:∃ X2,rGF.ran ((bt s k).toNat + 1 - (bt s k).toNat) x (bt s k).toNat = X2:=⟨_,rfl⟩
               rw [hX2] at H1;have HX2:=Aside0.mk hX2;have HN:=Aside0.mk H1;clear H1 hX2 htwo hhi hnx;go_wp2;go_loopg [13] ((bt s k).toNat + 1 - (bt s k).toNat) (fun kq v13 wx=>∃ (c:Nat) (y:List Bool),Aside0 (kq = (bt s k).toNat + 1 - c)∧v13 = .int .i64 (c:Int)∧Aside0 (rGF.ran kq y c = X2)∧Aside0 (y.length = 257)∧Aside0 (rGF.Bk wx gb y)∧Aside0 (Kd.R rGF.kT 91 wx w.heap.size (fun k_=>True∧k_ ≠ gb) u4 acc)∧Aside0 (Below w.heap.size w wx))
               case atStart=>exact ⟨(bt s k).toNat,x,⟨rfl⟩,(by rw [Int.toNat_of_nonneg HLO.out.1]),HX2,HXL,HK,HO,HB⟩
               case round =>
                clear HX2 HXL HK HO HB;obtain ⟨c,y,HQ,rfl,HF,HXL,HK,HO,HB⟩:=hrel;by_cases cl:(c:Int) ≤ (bt s k)
                ·obtain ⟨kk,rfl⟩:∃ kk,gk = kk + 1:=⟨gk - 1,by have:=HQ.out;omega⟩
                 have HC:=Aside0.mk (show c < 256 by have:=HLO.out;omega);have d1:decide ((c:Int) ≤ (bt s k)) = true:=decide_eq_true cl;have d2:((c:Int) ≤ (bt s k)) = True:=eq_true cl;have d3:(0 ≤ (c:Int)) = True:=eq_true (by omega);have wc:wrap64 ((c:Int) + 1) = ((c + 1:Nat):Int):=by have:=HC.out;unfold wrap64;omega
                 have wc':IntKind.i64.wrap ((c:Int) + 1) = ((c + 1:Nat):Int):=(i64_w _).trans wc;have HF2:=Aside0.mk ((rGF.ran_succ kk y c).symm.trans HF.out);clear HF cl;go_wp2_with (first|((with_reducible refine gate_dst (N:=113) rfl ?_);refine rGF.idx_event rfl rfl rfl rfl Tryd.underlying89 rGF.sz4 (by have:=HC.out;omega) (by have:=HC.out;omega) (m:=c + 1) (by have:=HC.out;omega) ?_)|((with_reducible refine gate_store (t:=4) (p:=113) rfl ?_);refine rGF.setB_event rfl rfl rfl rfl rfl rGF.sz4 HK.out (by have:=HXL.out;have:=HC.out;omega) ?_;intro w9 hk9 hg9;have HO_:=Aside0.mk (Kd.R_grown HO.out hg9 (fun k hk=>(fun e=>hk.2 (Option.some.inj e))));have HB_:=Aside0.mk (below_grown HB.out hg9 HG.out (blk_lt HK.out));have HK_:=Aside0.mk (hk9);clear HO HB HK;have HO:=HO_;have HB:=HB_;have HK:=HK_;clear HO_ HB_ HK_;clear hk9 hg9))
                 go_roundg kk
                 case measure=>omega
                 case rel=>exact ⟨c + 1,_,⟨by have:=HQ.out;omega⟩,(by first|rfl|rw [wc]|simp [wc]),HF2,⟨by rw [List.length_set];exact HXL.out⟩,HK,HO,HB⟩
                ·have hz:gk = 0:=by have:=HQ.out;have:=HLO.out;omega
                 subst hz;have hX:y = X2:=(rGF.ran_zero y c).symm.trans HF.out;subst hX;have d1:decide ((c:Int) ≤ (bt s k)) = false:=decide_eq_false cl;clear HF HQ cl;go_wp2;go_roundg kk1
                 case measure=>have:=HK2.out;omega
                 case rel=>exact ⟨(wrap64 (k + 1)),y,(by first|rfl|simp),HN,⟨by have:=HK2.out;omega⟩,⟨by have:=HKI.out;have:=HE.out;omega,by have:=HKI.out;have:=HE.out;have:=HKL.out;omega⟩,HXL,HK,HO,HB⟩
             ·have t2b:decide ((wrap64 (k + 2)) < (s.size:Int)) = false:=decide_eq_false t2;clear t2;have htwo:rGF.two s k = false:=by unfold rGF.two;simp [*]
              have hhi:rGF.hgh s k = bt s k:=by unfold rGF.hgh;rw [htwo];rfl
              have hnx:rGF.nx s k = (wrap64 (k + 1)):=by unfold rGF.nx;rw [htwo];rfl
              rw [hhi,hnx] at H1;have HLO:=Aside0.mk (show 0 ≤ (bt s k)∧(bt s k) ≤ 255∧0 ≤ (bt s k)∧(bt s k) ≤ 255 from ⟨(bt_range s _).1,(bt_range s _).2,(bt_range s _).1,(bt_range s _).2⟩);have wlo:wrap64 (bt s k) = (bt s k):=rGF.wb _ _;have wlo':IntKind.i64.wrap (bt s k) = (bt s k):=(i64_w _).trans wlo;have whi:wrap64 (bt s k) = (bt s k):=rGF.wb _ _;have whi':IntKind.i64.wrap (bt s k) = (bt s k):=(i64_w _).trans whi;obtain ⟨X2,hX2⟩:∃ X2,rGF.ran ((bt s k).toNat + 1 - (bt s k).toNat) x (bt s k).toNat = X2:=⟨_,rfl⟩
              rw [hX2] at H1;have HX2:=Aside0.mk hX2;have HN:=Aside0.mk H1;clear H1 hX2 htwo hhi hnx;go_wp2;go_loopg [13] ((bt s k).toNat + 1 - (bt s k).toNat) (fun kq v13 wx=>∃ (c:Nat) (y:List Bool),Aside0 (kq = (bt s k).toNat + 1 - c)∧v13 = .int .i64 (c:Int)∧Aside0 (rGF.ran kq y c = X2)∧Aside0 (y.length = 257)∧Aside0 (rGF.Bk wx gb y)∧Aside0 (Kd.R rGF.kT 91 wx w.heap.size (fun k_=>True∧k_ ≠ gb) u4 acc)∧Aside0 (Below w.heap.size w wx))
              case atStart=>exact ⟨(bt s k).toNat,x,⟨rfl⟩,(by rw [Int.toNat_of_nonneg HLO.out.1]),HX2,HXL,HK,HO,HB⟩
              case round =>
               clear HX2 HXL HK HO HB;obtain ⟨c,y,HQ,rfl,HF,HXL,HK,HO,HB⟩:=hrel;by_cases cl:(c:Int) ≤ (bt s k)
               ·obtain ⟨kk,rfl⟩:∃ kk,gk = kk + 1:=⟨gk - 1,by have:=HQ.out;omega⟩
                have HC:=Aside0.mk (show c < 256 by have:=HLO.out;omega);have d1:decide ((c:Int) ≤ (bt s k)) = true:=decide_eq_true cl;have d2:((c:Int) ≤ (bt s k)) = True:=eq_true cl;have d3:(0 ≤ (c:Int)) = True:=eq_true (by omega);have wc:wrap64 ((c:Int) + 1) = ((c + 1:Nat):Int):=by have:=HC.out;unfold wrap64;omega
                have wc':IntKind.i64.wrap ((c:Int) + 1) = ((c + 1:Nat):Int):=(i64_w _).trans wc;have HF2:=Aside0.mk ((rGF.ran_succ kk y c).symm.trans HF.out);clear HF cl;go_wp2_with (first|((with_reducible refine gate_dst (N:=113) rfl ?_);refine rGF.idx_event rfl rfl rfl rfl Tryd.underlying89 rGF.sz4 (by have:=HC.out;omega) (by have:=HC.out;omega) (m:=c + 1) (by have:=HC.out;omega) ?_)|((with_reducible refine gate_store (t:=4) (p:=113) rfl ?_);refine rGF.setB_event rfl rfl rfl rfl rfl rGF.sz4 HK.out (by have:=HXL.out;have:=HC.out;omega) ?_;intro w9 hk9 hg9;have HO_:=Aside0.mk (Kd.R_grown HO.out hg9 (fun k hk=>(fun e=>hk.2 (Option.some.inj e))));have HB_:=Aside0.mk (below_grown HB.out hg9 HG.out (blk_lt HK.out));have HK_:=Aside0.mk (hk9);clear HO HB HK;have HO:=HO_;have HB:=HB_;have HK:=HK_;clear HO_ HB_ HK_;clear hk9 hg9))
                go_roundg kk
                case measure=>omega
                case rel=>exact ⟨c + 1,_,⟨by have:=HQ.out;omega⟩,(by first|rfl|rw [wc]|simp [wc]),HF2,⟨by rw [List.length_set];exact HXL.out⟩,HK,HO,HB⟩
               ·have hz:gk = 0:=by have:=HQ.out;have:=HLO.out;omega
                subst hz;have hX:y = X2:=(rGF.ran_zero y c).symm.trans HF.out;subst hX;have d1:decide ((c:Int) ≤ (bt s k)) = false:=decide_eq_false cl;clear HF HQ cl;go_wp2;go_roundg kk1
                case measure=>have:=HK2.out;omega
                case rel=>exact ⟨(wrap64 (k + 1)),y,(by first|rfl|simp),HN,⟨by have:=HK2.out;omega⟩,⟨by have:=HKI.out;have:=HE.out;omega,by have:=HKI.out;have:=HE.out;have:=HKL.out;omega⟩,HXL,HK,HO,HB⟩
            ·have efb:(k == (wrap64 (i + 1))) = false:=beq_eq_false_iff_ne.mpr ef;have HNF:=Aside0.mk ef;by_cases e93:bt s k = 93
             ·have e93b:(bt s k == 93) = true:=beq_iff_eq.mpr e93;have e93n:(bt s k != 93) = false:=bne_eq_false_iff_eq.mpr e93;rw [if_neg (show ¬ (k = (wrap64 (i + 1)) ∨ bt s k ≠ 93) from fun h=>h.elim ef (fun h=>h e93))] at H1;simp only [Option.some.injEq,Prod.mk.injEq] at H1;obtain ⟨rfl,rfl⟩:=H1;clear ef e93 HE;rw [if_neg (show ¬ ((s.size:Int) ≤ k ∨ k = (wrap64 (i + 1))) by have:=HKL.out;intro h;rcases h with h|h;omega;exact HNF.out h)] at H9;rw [if_neg (show ¬ rGF.nt s i = true by rw [hnt];decide)] at H9;have H':=Aside0.mk H9;clear H9;have wk:wrap64 (k + 1) = k + 1:=by have:=HKL.out;have:=HI.out;have:=HKI.out;have:=HF0.out;have:=HL.out;unfold wrap64;omega
              have wk':IntKind.i64.wrap (k + 1) = k + 1:=(i64_w _).trans wk;have HLT:=Aside0.mk (show 0 ≤ k∧i ≤ k∧k < (s.size:Int) from ⟨by have:=HI.out;have:=HKI.out;have:=HF0.out;omega,by have:=HKI.out;have:=HF0.out;omega,HKL.out⟩);go_wp2_with (first|((with_reducible refine gate_dst (N:=140) rfl ?_);refine load_event rfl rfl Tryd.underlying91 rfl rfl (cs:=x.map Value.bool) (by rw [rGF.szT,List.length_map,HXL.out]) (cells_of_blk HK.out) ?_)|((with_reducible refine gate_dst (N:=141) rfl ?_);refine rGF.one_event rfl rfl (l:=x) rfl HXL.out Tryd.underlying84 rGF.info ?_)|((with_reducible refine gate_builtin (b := .append) (xs:=#[.tmp 139,.tmp 141]) rfl ?_);at_builtin;refine Kd.R_append rGF.kT (w0:=w) w.heap.size rfl (.tmp 139) (.tmp 141) 84 91 (.agg (rGF.zz.map Value.bool).toArray) 257 rfl Tryd.underlying84 rGF.info (by simp [Value.cells,rGF.zz_len,rGF.kT]) (by decide) (by omega) u4 acc x (x.map Value.bool) (fun _=>True) (fun _=>False) rfl rfl ⟨HXL.out,rfl⟩ (fun _ hk=>hk.elim) (fun _ _=>trivial) (Kd.R_mono HO.out (fun _ _=>trivial)) HB.out (below_size HB.out) (by have:=HI.out;have:=HL.out;omega) ?_;intro v142 w7 ho hb hg hat;have HO7:=Aside0.mk ho;have HB7:=Aside0.mk hb;clear HO HB HK ho hb hg hat;have HO:=HO7;have HB:=HB7;clear HO7 HB7))
              go_roundg k1
              case measure=>have:=HK1.out;omega
              case rel=>exact ⟨acc ++ [x],k + 1,(by first|rfl|rw [wk]|simp [wk]),H',⟨by have:=HK1.out;omega⟩,⟨by have:=HI.out;have:=HLT.out;omega,by have:=HI.out;have:=HLT.out;omega,by have:=HI.out;have:=HLT.out;rw [List.length_append,List.length_singleton];omega⟩,HO,HB⟩
             ·have e93b:(bt s k == 93) = false:=beq_eq_false_iff_ne.mpr e93;have e93n:(bt s k != 93) = true:=bne_iff_ne.mpr e93;rw [if_pos (Or.inr e93)] at H1;clear ef e93;by_cases t2:(wrap64 (k + 2)) < (s.size:Int)
              ·have t2b:decide ((wrap64 (k + 2)) < (s.size:Int)) = true:=decide_eq_true t2;have t2p:((wrap64 (k + 2)) < (s.size:Int)) = True:=eq_true t2;have HTW:=Aside0.mk t2;have t1p:((wrap64 (k + 1)) < (s.size:Int)) = True:=eq_true (by have:=HE.out;omega);have t10:(0 ≤ (wrap64 (k + 1))) = True:=eq_true (by have:=HE.out;have:=HKI.out;have:=HF0.out;have:=HI.out;omega);have t20:(0 ≤ (wrap64 (k + 2))) = True:=eq_true (by have:=HE.out;have:=HKI.out;have:=HF0.out;have:=HI.out;omega);have hxk1:=bt_at s (wrap64 (k + 1));have hxk2:=bt_at s (wrap64 (k + 2));clear t2;by_cases t45:bt s (wrap64 (k + 1)) = 45
               ·have t45b:(bt s (wrap64 (k + 1)) == 45) = true:=beq_iff_eq.mpr t45;by_cases t93:bt s (wrap64 (k + 2)) = 93
                ·have t93b:(bt s (wrap64 (k + 2)) == 93) = true:=beq_iff_eq.mpr t93;have t93n:(bt s (wrap64 (k + 2)) != 93) = false:=bne_eq_false_iff_eq.mpr t93;clear t45 t93;have htwo:rGF.two s k = false:=by unfold rGF.two;simp [*]
                 have hhi:rGF.hgh s k = bt s k:=by unfold rGF.hgh;rw [htwo];rfl
                 have hnx:rGF.nx s k = (wrap64 (k + 1)):=by unfold rGF.nx;rw [htwo];rfl
                 rw [hhi,hnx] at H1;have HLO:=Aside0.mk (show 0 ≤ (bt s k)∧(bt s k) ≤ 255∧0 ≤ (bt s k)∧(bt s k) ≤ 255 from ⟨(bt_range s _).1,(bt_range s _).2,(bt_range s _).1,(bt_range s _).2⟩);have wlo:wrap64 (bt s k) = (bt s k):=rGF.wb _ _;have wlo':IntKind.i64.wrap (bt s k) = (bt s k):=(i64_w _).trans wlo;have whi:wrap64 (bt s k) = (bt s k):=rGF.wb _ _;have whi':IntKind.i64.wrap (bt s k) = (bt s k):=(i64_w _).trans whi;obtain ⟨X2,hX2⟩:∃ X2,rGF.ran ((bt s k).toNat + 1 - (bt s k).toNat) x (bt s k).toNat = X2:=⟨_,rfl⟩
                 rw [hX2] at H1;have HX2:=Aside0.mk hX2;have HN:=Aside0.mk H1;clear H1 hX2 htwo hhi hnx;go_wp2;go_loopg [13] ((bt s k).toNat + 1 - (bt s k).toNat) (fun kq v13 wx=>∃ (c:Nat) (y:List Bool),Aside0 (kq = (bt s k).toNat + 1 - c)∧v13 = .int .i64 (c:Int)∧Aside0 (rGF.ran kq y c = X2)∧Aside0 (y.length = 257)∧Aside0 (rGF.Bk wx gb y)∧Aside0 (Kd.R rGF.kT 91 wx w.heap.size (fun k_=>True∧k_ ≠ gb) u4 acc)∧Aside0 (Below w.heap.size w wx))
                 case atStart=>exact ⟨(bt s k).toNat,x,⟨rfl⟩,(by rw [Int.toNat_of_nonneg HLO.out.1]),HX2,HXL,HK,HO,HB⟩
                 case round =>
                  clear HX2 HXL HK HO HB;obtain ⟨c,y,HQ,rfl,HF,HXL,HK,HO,HB⟩:=hrel;by_cases cl:(c:Int) ≤ (bt s k)
                  ·obtain ⟨kk,rfl⟩:∃ kk,gk = kk + 1:=⟨gk - 1,by have:=HQ.out;omega⟩
                   have HC:=Aside0.mk (show c < 256 by have:=HLO.out;omega);have d1:decide ((c:Int) ≤ (bt s k)) = true:=decide_eq_true cl;have d2:((c:Int) ≤ (bt s k)) = True:=eq_true cl;have d3:(0 ≤ (c:Int)) = True:=eq_true (by omega);have wc:wrap64 ((c:Int) + 1) = ((c + 1:Nat):Int):=by have:=HC.out;unfold wrap64;omega
                   have wc':IntKind.i64.wrap ((c:Int) + 1) = ((c + 1:Nat):Int):=(i64_w _).trans wc;have HF2:=Aside0.mk ((rGF.ran_succ kk y c).symm.trans HF.out);clear HF cl;go_wp2_with (first|((with_reducible refine gate_dst (N:=113) rfl ?_);refine rGF.idx_event rfl rfl rfl rfl Tryd.underlying89 rGF.sz4 (by have:=HC.out;omega) (by have:=HC.out;omega) (m:=c + 1) (by have:=HC.out;omega) ?_)|((with_reducible refine gate_store (t:=4) (p:=113) rfl ?_);refine rGF.setB_event rfl rfl rfl rfl rfl rGF.sz4 HK.out (by have:=HXL.out;have:=HC.out;omega) ?_;intro w9 hk9 hg9;have HO_:=Aside0.mk (Kd.R_grown HO.out hg9 (fun k hk=>(fun e=>hk.2 (Option.some.inj e))));have HB_:=Aside0.mk (below_grown HB.out hg9 HG.out (blk_lt HK.out));have HK_:=Aside0.mk (hk9);clear HO HB HK;have HO:=HO_;have HB:=HB_;have HK:=HK_;clear HO_ HB_ HK_;clear hk9 hg9))
                   go_roundg kk
                   case measure=>omega
                   case rel=>exact ⟨c + 1,_,⟨by have:=HQ.out;omega⟩,(by first|rfl|rw [wc]|simp [wc]),HF2,⟨by rw [List.length_set];exact HXL.out⟩,HK,HO,HB⟩
                  ·have hz:gk = 0:=by have:=HQ.out;have:=HLO.out;omega
                   subst hz;have hX:y = X2:=(rGF.ran_zero y c).symm.trans HF.out;subst hX;have d1:decide ((c:Int) ≤ (bt s k)) = false:=decide_eq_false cl;clear HF HQ cl;go_wp2;go_roundg kk1
                   case measure=>have:=HK2.out;omega
                   case rel=>exact ⟨(wrap64 (k + 1)),y,(by first|rfl|simp),HN,⟨by have:=HK2.out;omega⟩,⟨by have:=HKI.out;have:=HE.out;omega,by have:=HKI.out;have:=HE.out;have:=HKL.out;omega⟩,HXL,HK,HO,HB⟩
                ·have t93b:(bt s (wrap64 (k + 2)) == 93) = false:=beq_eq_false_iff_ne.mpr t93;have t93n:(bt s (wrap64 (k + 2)) != 93) = true:=bne_iff_ne.mpr t93;clear t45 t93;have htwo:rGF.two s k = true:=by unfold rGF.two;simp [*]
                 have hhi:rGF.hgh s k = bt s (wrap64 (k + 2)):=by unfold rGF.hgh;rw [htwo];rfl
                 have hnx:rGF.nx s k = (wrap64 ((wrap64 (k + 2)) + 1)):=by unfold rGF.nx;rw [htwo];rfl
                 rw [hhi,hnx] at H1;have HLO:=Aside0.mk (show 0 ≤ (bt s k)∧(bt s k) ≤ 255∧0 ≤ (bt s (wrap64 (k + 2)))∧(bt s (wrap64 (k + 2))) ≤ 255 from ⟨(bt_range s _).1,(bt_range s _).2,(bt_range s _).1,(bt_range s _).2⟩);have wlo:wrap64 (bt s k) = (bt s k):=rGF.wb _ _;have wlo':IntKind.i64.wrap (bt s k) = (bt s k):=(i64_w _).trans wlo;have whi:wrap64 (bt s (wrap64 (k + 2))) = (bt s (wrap64 (k + 2))):=rGF.wb _ _;have whi':IntKind.i64.wrap (bt s (wrap64 (k + 2))) = (bt s (wrap64 (k + 2))):=(i64_w _).trans whi;obtain ⟨X2,hX2⟩:∃ X2,rGF.ran ((bt s (wrap64 (k + 2))).toNat + 1 - (bt s k).toNat) x (bt s k).toNat = X2:=⟨_,rfl⟩
                 rw [hX2] at H1;have HX2:=Aside0.mk hX2;have HN:=Aside0.mk H1;clear H1 hX2 htwo hhi hnx;go_wp2;go_loopg [13] ((bt s (wrap64 (k + 2))).toNat + 1 - (bt s k).toNat) (fun kq v13 wx=>∃ (c:Nat) (y:List Bool),Aside0 (kq = (bt s (wrap64 (k + 2))).toNat + 1 - c)∧v13 = .int .i64 (c:Int)∧Aside0 (rGF.ran kq y c = X2)∧Aside0 (y.length = 257)∧Aside0 (rGF.Bk wx gb y)∧Aside0 (Kd.R rGF.kT 91 wx w.heap.size (fun k_=>True∧k_ ≠ gb) u4 acc)∧Aside0 (Below w.heap.size w wx))
                 case atStart=>exact ⟨(bt s k).toNat,x,⟨rfl⟩,(by rw [Int.toNat_of_nonneg HLO.out.1]),HX2,HXL,HK,HO,HB⟩
                 case round =>
                  clear HX2 HXL HK HO HB;obtain ⟨c,y,HQ,rfl,HF,HXL,HK,HO,HB⟩:=hrel;by_cases cl:(c:Int) ≤ (bt s (wrap64 (k + 2)))
                  ·obtain ⟨kk,rfl⟩:∃ kk,gk = kk + 1:=⟨gk - 1,by have:=HQ.out;omega⟩
                   have HC:=Aside0.mk (show c < 256 by have:=HLO.out;omega);have d1:decide ((c:Int) ≤ (bt s (wrap64 (k + 2)))) = true:=decide_eq_true cl;have d2:((c:Int) ≤ (bt s (wrap64 (k + 2)))) = True:=eq_true cl;have d3:(0 ≤ (c:Int)) = True:=eq_true (by omega);have wc:wrap64 ((c:Int) + 1) = ((c + 1:Nat):Int):=by have:=HC.out;unfold wrap64;omega
                   have wc':IntKind.i64.wrap ((c:Int) + 1) = ((c + 1:Nat):Int):=(i64_w _).trans wc;have HF2:=Aside0.mk ((rGF.ran_succ kk y c).symm.trans HF.out);clear HF cl;go_wp2_with (first|((with_reducible refine gate_dst (N:=113) rfl ?_);refine rGF.idx_event rfl rfl rfl rfl Tryd.underlying89 rGF.sz4 (by have:=HC.out;omega) (by have:=HC.out;omega) (m:=c + 1) (by have:=HC.out;omega) ?_)|((with_reducible refine gate_store (t:=4) (p:=113) rfl ?_);refine rGF.setB_event rfl rfl rfl rfl rfl rGF.sz4 HK.out (by have:=HXL.out;have:=HC.out;omega) ?_;intro w9 hk9 hg9;have HO_:=Aside0.mk (Kd.R_grown HO.out hg9 (fun k hk=>(fun e=>hk.2 (Option.some.inj e))));have HB_:=Aside0.mk (below_grown HB.out hg9 HG.out (blk_lt HK.out));have HK_:=Aside0.mk (hk9);clear HO HB HK;have HO:=HO_;have HB:=HB_;have HK:=HK_;clear HO_ HB_ HK_;clear hk9 hg9))
                   go_roundg kk
                   case measure=>omega
                   case rel=>exact ⟨c + 1,_,⟨by have:=HQ.out;omega⟩,(by first|rfl|rw [wc]|simp [wc]),HF2,⟨by rw [List.length_set];exact HXL.out⟩,HK,HO,HB⟩
                  ·have hz:gk = 0:=by have:=HQ.out;have:=HLO.out;omega
                   subst hz;have hX:y = X2:=(rGF.ran_zero y c).symm.trans HF.out;subst hX;have d1:decide ((c:Int) ≤ (bt s (wrap64 (k + 2)))) = false:=decide_eq_false cl;clear HF HQ cl;go_wp2;go_roundg kk1
                   case measure=>have:=HK2.out;omega
                   case rel=>exact ⟨(wrap64 ((wrap64 (k + 2)) + 1)),y,(by first|rfl|simp),HN,⟨by have:=HK2.out;omega⟩,⟨by have:=HKI.out;have:=HE.out;omega,by have:=HKI.out;have:=HE.out;have:=HKL.out;have:=HTW.out;omega⟩,HXL,HK,HO,HB⟩
               ·have t45b:(bt s (wrap64 (k + 1)) == 45) = false:=beq_eq_false_iff_ne.mpr t45;clear t45;have htwo:rGF.two s k = false:=by unfold rGF.two;simp [*]
                have hhi:rGF.hgh s k = bt s k:=by unfold rGF.hgh;rw [htwo];rfl
                have hnx:rGF.nx s k = (wrap64 (k + 1)):=by unfold rGF.nx;rw [htwo];rfl
                rw [hhi,hnx] at H1;have HLO:=Aside0.mk (show 0 ≤ (bt s k)∧(bt s k) ≤ 255∧0 ≤ (bt s k)∧(bt s k) ≤ 255 from ⟨(bt_range s _).1,(bt_range s _).2,(bt_range s _).1,(bt_range s _).2⟩);have wlo:wrap64 (bt s k) = (bt s k):=rGF.wb _ _;have wlo':IntKind.i64.wrap (bt s k) = (bt s k):=(i64_w _).trans wlo;have whi:wrap64 (bt s k) = (bt s k):=rGF.wb _ _;have whi':IntKind.i64.wrap (bt s k) = (bt s k):=(i64_w _).trans whi;obtain ⟨X2,hX2⟩:∃ X2,rGF.ran ((bt s k).toNat + 1 - (bt s k).toNat) x (bt s k).toNat = X2:=⟨_,rfl⟩
                rw [hX2] at H1;have HX2:=Aside0.mk hX2;have HN:=Aside0.mk H1;clear H1 hX2 htwo hhi hnx;go_wp2;go_loopg [13] ((bt s k).toNat + 1 - (bt s k).toNat) (fun kq v13 wx=>∃ (c:Nat) (y:List Bool),Aside0 (kq = (bt s k).toNat + 1 - c)∧v13 = .int .i64 (c:Int)∧Aside0 (rGF.ran kq y c = X2)∧Aside0 (y.length = 257)∧Aside0 (rGF.Bk wx gb y)∧Aside0 (Kd.R rGF.kT 91 wx w.heap.size (fun k_=>True∧k_ ≠ gb) u4 acc)∧Aside0 (Below w.heap.size w wx))
                case atStart=>exact ⟨(bt s k).toNat,x,⟨rfl⟩,(by rw [Int.toNat_of_nonneg HLO.out.1]),HX2,HXL,HK,HO,HB⟩
                case round =>
                 clear HX2 HXL HK HO HB;obtain ⟨c,y,HQ,rfl,HF,HXL,HK,HO,HB⟩:=hrel;by_cases cl:(c:Int) ≤ (bt s k)
                 ·obtain ⟨kk,rfl⟩:∃ kk,gk = kk + 1:=⟨gk - 1,by have:=HQ.out;omega⟩
                  have HC:=Aside0.mk (show c < 256 by have:=HLO.out;omega);have d1:decide ((c:Int) ≤ (bt s k)) = true:=decide_eq_true cl;have d2:((c:Int) ≤ (bt s k)) = True:=eq_true cl;have d3:(0 ≤ (c:Int)) = True:=eq_true (by omega);have wc:wrap64 ((c:Int) + 1) = ((c + 1:Nat):Int):=by have:=HC.out;unfold wrap64;omega
                  have wc':IntKind.i64.wrap ((c:Int) + 1) = ((c + 1:Nat):Int):=(i64_w _).trans wc;have HF2:=Aside0.mk ((rGF.ran_succ kk y c).symm.trans HF.out);clear HF cl;go_wp2_with (first|((with_reducible refine gate_dst (N:=113) rfl ?_);refine rGF.idx_event rfl rfl rfl rfl Tryd.underlying89 rGF.sz4 (by have:=HC.out;omega) (by have:=HC.out;omega) (m:=c + 1) (by have:=HC.out;omega) ?_)|((with_reducible refine gate_store (t:=4) (p:=113) rfl ?_);refine rGF.setB_event rfl rfl rfl rfl rfl rGF.sz4 HK.out (by have:=HXL.out;have:=HC.out;omega) ?_;intro w9 hk9 hg9;have HO_:=Aside0.mk (Kd.R_grown HO.out hg9 (fun k hk=>(fun e=>hk.2 (Option.some.inj e))));have HB_:=Aside0.mk (below_grown HB.out hg9 HG.out (blk_lt HK.out));have HK_:=Aside0.mk (hk9);clear HO HB HK;have HO:=HO_;have HB:=HB_;have HK:=HK_;clear HO_ HB_ HK_;clear hk9 hg9))
                  go_roundg kk
                  case measure=>omega
                  case rel=>exact ⟨c + 1,_,⟨by have:=HQ.out;omega⟩,(by first|rfl|rw [wc]|simp [wc]),HF2,⟨by rw [List.length_set];exact HXL.out⟩,HK,HO,HB⟩
                 ·have hz:gk = 0:=by have:=HQ.out;have:=HLO.out;omega
                  subst hz;have hX:y = X2:=(rGF.ran_zero y c).symm.trans HF.out;subst hX;have d1:decide ((c:Int) ≤ (bt s k)) = false:=decide_eq_false cl;clear HF HQ cl;go_wp2;go_roundg kk1
                  case measure=>have:=HK2.out;omega
                  case rel=>exact ⟨(wrap64 (k + 1)),y,(by first|rfl|simp),HN,⟨by have:=HK2.out;omega⟩,⟨by have:=HKI.out;have:=HE.out;omega,by have:=HKI.out;have:=HE.out;have:=HKL.out;omega⟩,HXL,HK,HO,HB⟩
              ·have t2b:decide ((wrap64 (k + 2)) < (s.size:Int)) = false:=decide_eq_false t2;clear t2;have htwo:rGF.two s k = false:=by unfold rGF.two;simp [*]
               have hhi:rGF.hgh s k = bt s k:=by unfold rGF.hgh;rw [htwo];rfl
               have hnx:rGF.nx s k = (wrap64 (k + 1)):=by unfold rGF.nx;rw [htwo];rfl
               rw [hhi,hnx] at H1;have HLO:=Aside0.mk (show 0 ≤ (bt s k)∧(bt s k) ≤ 255∧0 ≤ (bt s k)∧(bt s k) ≤ 255 from ⟨(bt_range s _).1,(bt_range s _).2,(bt_range s _).1,(bt_range s _).2⟩);have wlo:wrap64 (bt s k) = (bt s k):=rGF.wb _ _;have wlo':IntKind.i64.wrap (bt s k) = (bt s k):=(i64_w _).trans wlo;have whi:wrap64 (bt s k) = (bt s k):=rGF.wb _ _;have whi':IntKind.i64.wrap (bt s k) = (bt s k):=(i64_w _).trans whi;obtain ⟨X2,hX2⟩:∃ X2,rGF.ran ((bt s k).toNat + 1 - (bt s k).toNat) x (bt s k).toNat = X2:=⟨_,rfl⟩
               rw [hX2] at H1;have HX2:=Aside0.mk hX2;have HN:=Aside0.mk H1;clear H1 hX2 htwo hhi hnx;go_wp2;go_loopg [13] ((bt s k).toNat + 1 - (bt s k).toNat) (fun kq v13 wx=>∃ (c:Nat) (y:List Bool),Aside0 (kq = (bt s k).toNat + 1 - c)∧v13 = .int .i64 (c:Int)∧Aside0 (rGF.ran kq y c = X2)∧Aside0 (y.length = 257)∧Aside0 (rGF.Bk wx gb y)∧Aside0 (Kd.R rGF.kT 91 wx w.heap.size (fun k_=>True∧k_ ≠ gb) u4 acc)∧Aside0 (Below w.heap.size w wx))
               case atStart=>exact ⟨(bt s k).toNat,x,⟨rfl⟩,(by rw [Int.toNat_of_nonneg HLO.out.1]),HX2,HXL,HK,HO,HB⟩
               case round =>
                clear HX2 HXL HK HO HB;obtain ⟨c,y,HQ,rfl,HF,HXL,HK,HO,HB⟩:=hrel;by_cases cl:(c:Int) ≤ (bt s k)
                ·obtain ⟨kk,rfl⟩:∃ kk,gk = kk + 1:=⟨gk - 1,by have:=HQ.out;omega⟩
                 have HC:=Aside0.mk (show c < 256 by have:=HLO.out;omega);have d1:decide ((c:Int) ≤ (bt s k)) = true:=decide_eq_true cl;have d2:((c:Int) ≤ (bt s k)) = True:=eq_true cl;have d3:(0 ≤ (c:Int)) = True:=eq_true (by omega);have wc:wrap64 ((c:Int) + 1) = ((c + 1:Nat):Int):=by have:=HC.out;unfold wrap64;omega
                 have wc':IntKind.i64.wrap ((c:Int) + 1) = ((c + 1:Nat):Int):=(i64_w _).trans wc;have HF2:=Aside0.mk ((rGF.ran_succ kk y c).symm.trans HF.out);clear HF cl;go_wp2_with (first|((with_reducible refine gate_dst (N:=113) rfl ?_);refine rGF.idx_event rfl rfl rfl rfl Tryd.underlying89 rGF.sz4 (by have:=HC.out;omega) (by have:=HC.out;omega) (m:=c + 1) (by have:=HC.out;omega) ?_)|((with_reducible refine gate_store (t:=4) (p:=113) rfl ?_);refine rGF.setB_event rfl rfl rfl rfl rfl rGF.sz4 HK.out (by have:=HXL.out;have:=HC.out;omega) ?_;intro w9 hk9 hg9;have HO_:=Aside0.mk (Kd.R_grown HO.out hg9 (fun k hk=>(fun e=>hk.2 (Option.some.inj e))));have HB_:=Aside0.mk (below_grown HB.out hg9 HG.out (blk_lt HK.out));have HK_:=Aside0.mk (hk9);clear HO HB HK;have HO:=HO_;have HB:=HB_;have HK:=HK_;clear HO_ HB_ HK_;clear hk9 hg9))
                 go_roundg kk
                 case measure=>omega
                 case rel=>exact ⟨c + 1,_,⟨by have:=HQ.out;omega⟩,(by first|rfl|rw [wc]|simp [wc]),HF2,⟨by rw [List.length_set];exact HXL.out⟩,HK,HO,HB⟩
                ·have hz:gk = 0:=by have:=HQ.out;have:=HLO.out;omega
                 subst hz;have hX:y = X2:=(rGF.ran_zero y c).symm.trans HF.out;subst hX;have d1:decide ((c:Int) ≤ (bt s k)) = false:=decide_eq_false cl;clear HF HQ cl;go_wp2;go_roundg kk1
                 case measure=>have:=HK2.out;omega
                 case rel=>exact ⟨(wrap64 (k + 1)),y,(by first|rfl|simp),HN,⟨by have:=HK2.out;omega⟩,⟨by have:=HKI.out;have:=HE.out;omega,by have:=HKI.out;have:=HE.out;have:=HKL.out;omega⟩,HXL,HK,HO,HB⟩
           ·rw [if_neg ck] at H1;simp only [Option.some.injEq,Prod.mk.injEq] at H1;obtain ⟨rfl,rfl⟩:=H1;have ckb:decide (k < (s.size:Int)) = false:=decide_eq_false ck;have ckn:decide (k ≥ (s.size:Int)) = true:=decide_eq_true (by omega);have ckm:decide ((s.size:Int) ≤ k) = true:=decide_eq_true (by omega);rw [if_pos (Or.inl (show (s.size:Int) ≤ k by omega))] at H9;simp only [Option.some.injEq,Prod.mk.injEq] at H9;obtain ⟨rfl,rfl⟩:=H9;clear ck;go_wp2;go_ret2
            exact ⟨_,rfl,Kd.R_nil _ _ _ _ _,HB.out⟩
       ·have n1b:decide ((wrap64 (i + 1)) < (s.size:Int)) = false:=decide_eq_false n1;clear n1;have hnt:rGF.nt s i = false:=by unfold rGF.nt;rw [n1b,Bool.false_and]
        have hfr:rGF.fr s i = (wrap64 (i + 1)):=by unfold rGF.fr;rw [hnt];rfl
        have HF0:=Aside0.mk (show i + 1 ≤ (wrap64 (i + 1))∧(wrap64 (i + 1)) ≤ i + 2 by have:=HI.out;have:=HL.out;have:=HLT0.out;unfold wrap64;omega);rw [hfr] at A9 H9;have HA9:=Aside0.mk A9;clear A9 hfr;go_wp2_with (first|((with_reducible refine gate_dst (N:=23) rfl ?_);refine rGF.build_event rfl rfl (cells:=((rGF.x0 s i).map Value.bool).toArray) (by (try simp only [List.map_toArray,List.map_cons,List.map_nil]);exact rGF.built0 s i) ?_)|((with_reducible refine gate_dst (N:=6) rfl ?_);refine box_event ?hg (N:=6) ?hd (cs:=(rGF.zz.map Value.bool).toArray) (t:=91) ?hr ?_;(case hd=>rfl);(case hg=>rfl);(case hr=>exact rGF.alloc_run rfl _);intro gb hg w2 hbox hb2;have HG:=Aside0.mk (show w.heap.size ≤ gb by rw [hg];exact HB.out.size);have HO2:=Aside0.mk (Kd.R_below (Kd.R_elderB HO.out gb (Nat.le_of_eq hg.symm)) hb2);have HB2:=Aside0.mk (below_step HB.out hb2);have HK0:=Aside0.mk (show rGF.Bk w2 gb rGF.zz from hbox);clear hg hbox hb2 HO HB;have HO:=HO2;have HB:=HB2;clear HO2 HB2)|((with_reducible refine gate_store (t:=91) (p:=6) rfl ?_);refine rGF.put_event (l:=rGF.x0 s i) rfl rfl rfl rfl rfl HK0.out rGF.szT rGF.zz_len (rGF.x0_len s i) ?_;intro w3 hk3 hg3;have HK:=HK0;clear HK0;have HO_:=Aside0.mk (Kd.R_grown HO.out hg3 (fun k hk=>(fun e=>hk.2 (Option.some.inj e))));have HB_:=Aside0.mk (below_grown HB.out hg3 HG.out (blk_lt HK.out));have HK_:=Aside0.mk (hk3);clear HO HB HK;have HO:=HO_;have HB:=HB_;have HK:=HK_;clear HO_ HB_ HK_;clear hk3 hg3))
        have HXL:=Aside0.mk (rGF.x0_len s i);go_loopg [8] (s.size + 1) (fun kq v8 wx=>∃ (k:Int) (x:List Bool),v8 = .int .i64 k∧Aside0 (rGF.l1 kq s (wrap64 (i + 1)) x k = some (x9,k9))∧Aside0 (kq ≤ s.size + 1)∧Aside0 ((wrap64 (i + 1)) ≤ k∧k ≤ (s.size:Int) + 1)∧Aside0 (x.length = 257)∧Aside0 (rGF.Bk wx gb x)∧Aside0 (Kd.R rGF.kT 91 wx w.heap.size (fun k_=>True∧k_ ≠ gb) u4 acc)∧Aside0 (Below w.heap.size w wx))
        case atStart=>exact ⟨(wrap64 (i + 1)),_,(by first|rfl|simp),HA9,⟨Nat.le_refl _⟩,⟨Int.le_refl _,by have:=HF0.out;have:=HLT0.out;omega⟩,HXL,HK,HO,HB⟩
        case round =>
         clear HA9 HXL HK HO HB;obtain ⟨k,x,rfl,HA1,HK2,HKI,HXL,HK,HO,HB⟩:=hrel;cases gk with
         | zero=>exact absurd HA1.out (by simp [rGF.l1])
         | succ kk1 =>
          have H1:=HA1.out;clear HA1;simp only [rGF.l1] at H1;by_cases ck:k < (s.size:Int)
          ·rw [if_pos ck] at H1;have ckb:decide (k < (s.size:Int)) = true:=decide_eq_true ck;have ckp:(k < (s.size:Int)) = True:=eq_true ck;have ck0:(0 ≤ k) = True:=eq_true (by have:=HKI.out;have:=HF0.out;have:=HI.out;omega);have ckn:decide (k ≥ (s.size:Int)) = false:=decide_eq_false (by omega);have ckm:decide ((s.size:Int) ≤ k) = false:=decide_eq_false (by omega);have HKL:=Aside0.mk ck;have hxk:=bt_at s k;clear ck;have HE:=Aside0.mk (show (wrap64 (k + 1)) = k + 1∧(wrap64 (k + 2)) = k + 2∧(wrap64 ((wrap64 (k + 2)) + 1)) = k + 3 by have:=HKL.out;have:=HL.out;have:=HKI.out;have:=HF0.out;have:=HI.out;unfold wrap64;omega);by_cases ef:k = (wrap64 (i + 1))
           ·have efb:(k == (wrap64 (i + 1))) = true:=beq_iff_eq.mpr ef;rw [if_pos (Or.inl ef)] at H1;clear ef;by_cases t2:(wrap64 (k + 2)) < (s.size:Int)
            ·have t2b:decide ((wrap64 (k + 2)) < (s.size:Int)) = true:=decide_eq_true t2;have t2p:((wrap64 (k + 2)) < (s.size:Int)) = True:=eq_true t2;have HTW:=Aside0.mk t2;have t1p:((wrap64 (k + 1)) < (s.size:Int)) = True:=eq_true (by have:=HE.out;omega);have t10:(0 ≤ (wrap64 (k + 1))) = True:=eq_true (by have:=HE.out;have:=HKI.out;have:=HF0.out;have:=HI.out;omega);have t20:(0 ≤ (wrap64 (k + 2))) = True:=eq_true (by have:=HE.out;have:=HKI.out;have:=HF0.out;have:=HI.out;omega);have hxk1:=bt_at s (wrap64 (k + 1));have hxk2:=bt_at s (wrap64 (k + 2));clear t2;by_cases t45:bt s (wrap64 (k + 1)) = 45
             ·have t45b:(bt s (wrap64 (k + 1)) == 45) = true:=beq_iff_eq.mpr t45;by_cases t93:bt s (wrap64 (k + 2)) = 93
              ·have t93b:(bt s (wrap64 (k + 2)) == 93) = true:=beq_iff_eq.mpr t93;have t93n:(bt s (wrap64 (k + 2)) != 93) = false:=bne_eq_false_iff_eq.mpr t93;clear t45 t93;have htwo:rGF.two s k = false:=by unfold rGF.two;simp [*]
               have hhi:rGF.hgh s k = bt s k:=by unfold rGF.hgh;rw [htwo];rfl
               have hnx:rGF.nx s k = (wrap64 (k + 1)):=by unfold rGF.nx;rw [htwo];rfl
               rw [hhi,hnx] at H1;have HLO:=Aside0.mk (show 0 ≤ (bt s k)∧(bt s k) ≤ 255∧0 ≤ (bt s k)∧(bt s k) ≤ 255 from ⟨(bt_range s _).1,(bt_range s _).2,(bt_range s _).1,(bt_range s _).2⟩);have wlo:wrap64 (bt s k) = (bt s k):=rGF.wb _ _;have wlo':IntKind.i64.wrap (bt s k) = (bt s k):=(i64_w _).trans wlo;have whi:wrap64 (bt s k) = (bt s k):=rGF.wb _ _;have whi':IntKind.i64.wrap (bt s k) = (bt s k):=(i64_w _).trans whi;obtain ⟨X2,hX2⟩:∃ X2,rGF.ran ((bt s k).toNat + 1 - (bt s k).toNat) x (bt s k).toNat = X2:=⟨_,rfl⟩
               rw [hX2] at H1;have HX2:=Aside0.mk hX2;have HN:=Aside0.mk H1;clear H1 hX2 htwo hhi hnx;go_wp2;go_loopg [13] ((bt s k).toNat + 1 - (bt s k).toNat) (fun kq v13 wx=>∃ (c:Nat) (y:List Bool),Aside0 (kq = (bt s k).toNat + 1 - c)∧v13 = .int .i64 (c:Int)∧Aside0 (rGF.ran kq y c = X2)∧Aside0 (y.length = 257)∧Aside0 (rGF.Bk wx gb y)∧Aside0 (Kd.R rGF.kT 91 wx w.heap.size (fun k_=>True∧k_ ≠ gb) u4 acc)∧Aside0 (Below w.heap.size w wx))
               case atStart=>exact ⟨(bt s k).toNat,x,⟨rfl⟩,(by rw [Int.toNat_of_nonneg HLO.out.1]),HX2,HXL,HK,HO,HB⟩
               case round =>
                clear HX2 HXL HK HO HB;obtain ⟨c,y,HQ,rfl,HF,HXL,HK,HO,HB⟩:=hrel;by_cases cl:(c:Int) ≤ (bt s k)
                ·obtain ⟨kk,rfl⟩:∃ kk,gk = kk + 1:=⟨gk - 1,by have:=HQ.out;omega⟩
                 have HC:=Aside0.mk (show c < 256 by have:=HLO.out;omega);have d1:decide ((c:Int) ≤ (bt s k)) = true:=decide_eq_true cl;have d2:((c:Int) ≤ (bt s k)) = True:=eq_true cl;have d3:(0 ≤ (c:Int)) = True:=eq_true (by omega);have wc:wrap64 ((c:Int) + 1) = ((c + 1:Nat):Int):=by have:=HC.out;unfold wrap64;omega
                 have wc':IntKind.i64.wrap ((c:Int) + 1) = ((c + 1:Nat):Int):=(i64_w _).trans wc;have HF2:=Aside0.mk ((rGF.ran_succ kk y c).symm.trans HF.out);clear HF cl;go_wp2_with (first|((with_reducible refine gate_dst (N:=113) rfl ?_);refine rGF.idx_event rfl rfl rfl rfl Tryd.underlying89 rGF.sz4 (by have:=HC.out;omega) (by have:=HC.out;omega) (m:=c + 1) (by have:=HC.out;omega) ?_)|((with_reducible refine gate_store (t:=4) (p:=113) rfl ?_);refine rGF.setB_event rfl rfl rfl rfl rfl rGF.sz4 HK.out (by have:=HXL.out;have:=HC.out;omega) ?_;intro w9 hk9 hg9;have HO_:=Aside0.mk (Kd.R_grown HO.out hg9 (fun k hk=>(fun e=>hk.2 (Option.some.inj e))));have HB_:=Aside0.mk (below_grown HB.out hg9 HG.out (blk_lt HK.out));have HK_:=Aside0.mk (hk9);clear HO HB HK;have HO:=HO_;have HB:=HB_;have HK:=HK_;clear HO_ HB_ HK_;clear hk9 hg9))
                 go_roundg kk
                 case measure=>omega
                 case rel=>exact ⟨c + 1,_,⟨by have:=HQ.out;omega⟩,(by first|rfl|rw [wc]|simp [wc]),HF2,⟨by rw [List.length_set];exact HXL.out⟩,HK,HO,HB⟩
                ·have hz:gk = 0:=by have:=HQ.out;have:=HLO.out;omega
                 subst hz;have hX:y = X2:=(rGF.ran_zero y c).symm.trans HF.out;subst hX;have d1:decide ((c:Int) ≤ (bt s k)) = false:=decide_eq_false cl;clear HF HQ cl;go_wp2;go_roundg kk1
                 case measure=>have:=HK2.out;omega
                 case rel=>exact ⟨(wrap64 (k + 1)),y,(by first|rfl|simp),HN,⟨by have:=HK2.out;omega⟩,⟨by have:=HKI.out;have:=HE.out;omega,by have:=HKI.out;have:=HE.out;have:=HKL.out;omega⟩,HXL,HK,HO,HB⟩
              ·have t93b:(bt s (wrap64 (k + 2)) == 93) = false:=beq_eq_false_iff_ne.mpr t93;have t93n:(bt s (wrap64 (k + 2)) != 93) = true:=bne_iff_ne.mpr t93;clear t45 t93;have htwo:rGF.two s k = true:=by unfold rGF.two;simp [*]
               have hhi:rGF.hgh s k = bt s (wrap64 (k + 2)):=by unfold rGF.hgh;rw [htwo];rfl
               have hnx:rGF.nx s k = (wrap64 ((wrap64 (k + 2)) + 1)):=by unfold rGF.nx;rw [htwo];rfl
               rw [hhi,hnx] at H1;have HLO:=Aside0.mk (show 0 ≤ (bt s k)∧(bt s k) ≤ 255∧0 ≤ (bt s (wrap64 (k + 2)))∧(bt s (wrap64 (k + 2))) ≤ 255 from ⟨(bt_range s _).1,(bt_range s _).2,(bt_range s _).1,(bt_range s _).2⟩);have wlo:wrap64 (bt s k) = (bt s k):=rGF.wb _ _;have wlo':IntKind.i64.wrap (bt s k) = (bt s k):=(i64_w _).trans wlo;have whi:wrap64 (bt s (wrap64 (k + 2))) = (bt s (wrap64 (k + 2))):=rGF.wb _ _;have whi':IntKind.i64.wrap (bt s (wrap64 (k + 2))) = (bt s (wrap64 (k + 2))):=(i64_w _).trans whi;obtain ⟨X2,hX2⟩:∃ X2,rGF.ran ((bt s (wrap64 (k + 2))).toNat + 1 - (bt s k).toNat) x (bt s k).toNat = X2:=⟨_,rfl⟩
               rw [hX2] at H1;have HX2:=Aside0.mk hX2;have HN:=Aside0.mk H1;clear H1 hX2 htwo hhi hnx;go_wp2;go_loopg [13] ((bt s (wrap64 (k + 2))).toNat + 1 - (bt s k).toNat) (fun kq v13 wx=>∃ (c:Nat) (y:List Bool),Aside0 (kq = (bt s (wrap64 (k + 2))).toNat + 1 - c)∧v13 = .int .i64 (c:Int)∧Aside0 (rGF.ran kq y c = X2)∧Aside0 (y.length = 257)∧Aside0 (rGF.Bk wx gb y)∧Aside0 (Kd.R rGF.kT 91 wx w.heap.size (fun k_=>True∧k_ ≠ gb) u4 acc)∧Aside0 (Below w.heap.size w wx))
               case atStart=>exact ⟨(bt s k).toNat,x,⟨rfl⟩,(by rw [Int.toNat_of_nonneg HLO.out.1]),HX2,HXL,HK,HO,HB⟩
               case round =>
                clear HX2 HXL HK HO HB;obtain ⟨c,y,HQ,rfl,HF,HXL,HK,HO,HB⟩:=hrel;by_cases cl:(c:Int) ≤ (bt s (wrap64 (k + 2)))
                ·obtain ⟨kk,rfl⟩:∃ kk,gk = kk + 1:=⟨gk - 1,by have:=HQ.out;omega⟩
                 have HC:=Aside0.mk (show c < 256 by have:=HLO.out;omega);have d1:decide ((c:Int) ≤ (bt s (wrap64 (k + 2)))) = true:=decide_eq_true cl;have d2:((c:Int) ≤ (bt s (wrap64 (k + 2)))) = True:=eq_true cl;have d3:(0 ≤ (c:Int)) = True:=eq_true (by omega);have wc:wrap64 ((c:Int) + 1) = ((c + 1:Nat):Int):=by have:=HC.out;unfold wrap64;omega
                 have wc':IntKind.i64.wrap ((c:Int) + 1) = ((c + 1:Nat):Int):=(i64_w _).trans wc;have HF2:=Aside0.mk ((rGF.ran_succ kk y c).symm.trans HF.out);clear HF cl;go_wp2_with (first|((with_reducible refine gate_dst (N:=113) rfl ?_);refine rGF.idx_event rfl rfl rfl rfl Tryd.underlying89 rGF.sz4 (by have:=HC.out;omega) (by have:=HC.out;omega) (m:=c + 1) (by have:=HC.out;omega) ?_)|((with_reducible refine gate_store (t:=4) (p:=113) rfl ?_);refine rGF.setB_event rfl rfl rfl rfl rfl rGF.sz4 HK.out (by have:=HXL.out;have:=HC.out;omega) ?_;intro w9 hk9 hg9;have HO_:=Aside0.mk (Kd.R_grown HO.out hg9 (fun k hk=>(fun e=>hk.2 (Option.some.inj e))));have HB_:=Aside0.mk (below_grown HB.out hg9 HG.out (blk_lt HK.out));have HK_:=Aside0.mk (hk9);clear HO HB HK;have HO:=HO_;have HB:=HB_;have HK:=HK_;clear HO_ HB_ HK_;clear hk9 hg9))
                 go_roundg kk
                 case measure=>omega
                 case rel=>exact ⟨c + 1,_,⟨by have:=HQ.out;omega⟩,(by first|rfl|rw [wc]|simp [wc]),HF2,⟨by rw [List.length_set];exact HXL.out⟩,HK,HO,HB⟩
                ·have hz:gk = 0:=by have:=HQ.out;have:=HLO.out;omega
                 subst hz;have hX:y = X2:=(rGF.ran_zero y c).symm.trans HF.out;subst hX;have d1:decide ((c:Int) ≤ (bt s (wrap64 (k + 2)))) = false:=decide_eq_false cl;clear HF HQ cl;go_wp2;go_roundg kk1
                 case measure=>have:=HK2.out;omega
                 case rel=>exact ⟨(wrap64 ((wrap64 (k + 2)) + 1)),y,(by first|rfl|simp),HN,⟨by have:=HK2.out;omega⟩,⟨by have:=HKI.out;have:=HE.out;omega,by have:=HKI.out;have:=HE.out;have:=HKL.out;have:=HTW.out;omega⟩,HXL,HK,HO,HB⟩
             ·have t45b:(bt s (wrap64 (k + 1)) == 45) = false:=beq_eq_false_iff_ne.mpr t45;clear t45;have htwo:rGF.two s k = false:=by unfold rGF.two;simp [*]
              have hhi:rGF.hgh s k = bt s k:=by unfold rGF.hgh;rw [htwo];rfl
              have hnx:rGF.nx s k = (wrap64 (k + 1)):=by unfold rGF.nx;rw [htwo];rfl
              rw [hhi,hnx] at H1;have HLO:=Aside0.mk (show 0 ≤ (bt s k)∧(bt s k) ≤ 255∧0 ≤ (bt s k)∧(bt s k) ≤ 255 from ⟨(bt_range s _).1,(bt_range s _).2,(bt_range s _).1,(bt_range s _).2⟩);have wlo:wrap64 (bt s k) = (bt s k):=rGF.wb _ _;have wlo':IntKind.i64.wrap (bt s k) = (bt s k):=(i64_w _).trans wlo;have whi:wrap64 (bt s k) = (bt s k):=rGF.wb _ _;have whi':IntKind.i64.wrap (bt s k) = (bt s k):=(i64_w _).trans whi;obtain ⟨X2,hX2⟩:∃ X2,rGF.ran ((bt s k).toNat + 1 - (bt s k).toNat) x (bt s k).toNat = X2:=⟨_,rfl⟩
              rw [hX2] at H1;have HX2:=Aside0.mk hX2;have HN:=Aside0.mk H1;clear H1 hX2 htwo hhi hnx;go_wp2;go_loopg [13] ((bt s k).toNat + 1 - (bt s k).toNat) (fun kq v13 wx=>∃ (c:Nat) (y:List Bool),Aside0 (kq = (bt s k).toNat + 1 - c)∧v13 = .int .i64 (c:Int)∧Aside0 (rGF.ran kq y c = X2)∧Aside0 (y.length = 257)∧Aside0 (rGF.Bk wx gb y)∧Aside0 (Kd.R rGF.kT 91 wx w.heap.size (fun k_=>True∧k_ ≠ gb) u4 acc)∧Aside0 (Below w.heap.size w wx))
              case atStart=>exact ⟨(bt s k).toNat,x,⟨rfl⟩,(by rw [Int.toNat_of_nonneg HLO.out.1]),HX2,HXL,HK,HO,HB⟩
              case round =>
               clear HX2 HXL HK HO HB;obtain ⟨c,y,HQ,rfl,HF,HXL,HK,HO,HB⟩:=hrel;by_cases cl:(c:Int) ≤ (bt s k)
               ·obtain ⟨kk,rfl⟩:∃ kk,gk = kk + 1:=⟨gk - 1,by have:=HQ.out;omega⟩
                have HC:=Aside0.mk (show c < 256 by have:=HLO.out;omega);have d1:decide ((c:Int) ≤ (bt s k)) = true:=decide_eq_true cl;have d2:((c:Int) ≤ (bt s k)) = True:=eq_true cl;have d3:(0 ≤ (c:Int)) = True:=eq_true (by omega);have wc:wrap64 ((c:Int) + 1) = ((c + 1:Nat):Int):=by have:=HC.out;unfold wrap64;omega
                have wc':IntKind.i64.wrap ((c:Int) + 1) = ((c + 1:Nat):Int):=(i64_w _).trans wc;have HF2:=Aside0.mk ((rGF.ran_succ kk y c).symm.trans HF.out);clear HF cl;go_wp2_with (first|((with_reducible refine gate_dst (N:=113) rfl ?_);refine rGF.idx_event rfl rfl rfl rfl Tryd.underlying89 rGF.sz4 (by have:=HC.out;omega) (by have:=HC.out;omega) (m:=c + 1) (by have:=HC.out;omega) ?_)|((with_reducible refine gate_store (t:=4) (p:=113) rfl ?_);refine rGF.setB_event rfl rfl rfl rfl rfl rGF.sz4 HK.out (by have:=HXL.out;have:=HC.out;omega) ?_;intro w9 hk9 hg9;have HO_:=Aside0.mk (Kd.R_grown HO.out hg9 (fun k hk=>(fun e=>hk.2 (Option.some.inj e))));have HB_:=Aside0.mk (below_grown HB.out hg9 HG.out (blk_lt HK.out));have HK_:=Aside0.mk (hk9);clear HO HB HK;have HO:=HO_;have HB:=HB_;have HK:=HK_;clear HO_ HB_ HK_;clear hk9 hg9))
                go_roundg kk
                case measure=>omega
                case rel=>exact ⟨c + 1,_,⟨by have:=HQ.out;omega⟩,(by first|rfl|rw [wc]|simp [wc]),HF2,⟨by rw [List.length_set];exact HXL.out⟩,HK,HO,HB⟩
               ·have hz:gk = 0:=by have:=HQ.out;have:=HLO.out;omega
                subst hz;have hX:y = X2:=(rGF.ran_zero y c).symm.trans HF.out;subst hX;have d1:decide ((c:Int) ≤ (bt s k)) = false:=decide_eq_false cl;clear HF HQ cl;go_wp2;go_roundg kk1
                case measure=>have:=HK2.out;omega
                case rel=>exact ⟨(wrap64 (k + 1)),y,(by first|rfl|simp),HN,⟨by have:=HK2.out;omega⟩,⟨by have:=HKI.out;have:=HE.out;omega,by have:=HKI.out;have:=HE.out;have:=HKL.out;omega⟩,HXL,HK,HO,HB⟩
            ·have t2b:decide ((wrap64 (k + 2)) < (s.size:Int)) = false:=decide_eq_false t2;clear t2;have htwo:rGF.two s k = false:=by unfold rGF.two;simp [*]
             have hhi:rGF.hgh s k = bt s k:=by unfold rGF.hgh;rw [htwo];rfl
             have hnx:rGF.nx s k = (wrap64 (k + 1)):=by unfold rGF.nx;rw [htwo];rfl
             rw [hhi,hnx] at H1;have HLO:=Aside0.mk (show 0 ≤ (bt s k)∧(bt s k) ≤ 255∧0 ≤ (bt s k)∧(bt s k) ≤ 255 from ⟨(bt_range s _).1,(bt_range s _).2,(bt_range s _).1,(bt_range s _).2⟩);have wlo:wrap64 (bt s k) = (bt s k):=rGF.wb _ _;have wlo':IntKind.i64.wrap (bt s k) = (bt s k):=(i64_w _).trans wlo;have whi:wrap64 (bt s k) = (bt s k):=rGF.wb _ _;have whi':IntKind.i64.wrap (bt s k) = (bt s k):=(i64_w _).trans whi;obtain ⟨X2,hX2⟩:∃ X2,rGF.ran ((bt s k).toNat + 1 - (bt s k).toNat) x (bt s k).toNat = X2:=⟨_,rfl⟩
             rw [hX2] at H1;have HX2:=Aside0.mk hX2;have HN:=Aside0.mk H1;clear H1 hX2 htwo hhi hnx;go_wp2;go_loopg [13] ((bt s k).toNat + 1 - (bt s k).toNat) (fun kq v13 wx=>∃ (c:Nat) (y:List Bool),Aside0 (kq = (bt s k).toNat + 1 - c)∧v13 = .int .i64 (c:Int)∧Aside0 (rGF.ran kq y c = X2)∧Aside0 (y.length = 257)∧Aside0 (rGF.Bk wx gb y)∧Aside0 (Kd.R rGF.kT 91 wx w.heap.size (fun k_=>True∧k_ ≠ gb) u4 acc)∧Aside0 (Below w.heap.size w wx))
             case atStart=>exact ⟨(bt s k).toNat,x,⟨rfl⟩,(by rw [Int.toNat_of_nonneg HLO.out.1]),HX2,HXL,HK,HO,HB⟩
             case round =>
              clear HX2 HXL HK HO HB;obtain ⟨c,y,HQ,rfl,HF,HXL,HK,HO,HB⟩:=hrel;by_cases cl:(c:Int) ≤ (bt s k)
              ·obtain ⟨kk,rfl⟩:∃ kk,gk = kk + 1:=⟨gk - 1,by have:=HQ.out;omega⟩
               have HC:=Aside0.mk (show c < 256 by have:=HLO.out;omega);have d1:decide ((c:Int) ≤ (bt s k)) = true:=decide_eq_true cl;have d2:((c:Int) ≤ (bt s k)) = True:=eq_true cl;have d3:(0 ≤ (c:Int)) = True:=eq_true (by omega);have wc:wrap64 ((c:Int) + 1) = ((c + 1:Nat):Int):=by have:=HC.out;unfold wrap64;omega
               have wc':IntKind.i64.wrap ((c:Int) + 1) = ((c + 1:Nat):Int):=(i64_w _).trans wc;have HF2:=Aside0.mk ((rGF.ran_succ kk y c).symm.trans HF.out);clear HF cl;go_wp2_with (first|((with_reducible refine gate_dst (N:=113) rfl ?_);refine rGF.idx_event rfl rfl rfl rfl Tryd.underlying89 rGF.sz4 (by have:=HC.out;omega) (by have:=HC.out;omega) (m:=c + 1) (by have:=HC.out;omega) ?_)|((with_reducible refine gate_store (t:=4) (p:=113) rfl ?_);refine rGF.setB_event rfl rfl rfl rfl rfl rGF.sz4 HK.out (by have:=HXL.out;have:=HC.out;omega) ?_;intro w9 hk9 hg9;have HO_:=Aside0.mk (Kd.R_grown HO.out hg9 (fun k hk=>(fun e=>hk.2 (Option.some.inj e))));have HB_:=Aside0.mk (below_grown HB.out hg9 HG.out (blk_lt HK.out));have HK_:=Aside0.mk (hk9);clear HO HB HK;have HO:=HO_;have HB:=HB_;have HK:=HK_;clear HO_ HB_ HK_;clear hk9 hg9))
               go_roundg kk
               case measure=>omega
               case rel=>exact ⟨c + 1,_,⟨by have:=HQ.out;omega⟩,(by first|rfl|rw [wc]|simp [wc]),HF2,⟨by rw [List.length_set];exact HXL.out⟩,HK,HO,HB⟩
              ·have hz:gk = 0:=by have:=HQ.out;have:=HLO.out;omega
               subst hz;have hX:y = X2:=(rGF.ran_zero y c).symm.trans HF.out;subst hX;have d1:decide ((c:Int) ≤ (bt s k)) = false:=decide_eq_false cl;clear HF HQ cl;go_wp2;go_roundg kk1
               case measure=>have:=HK2.out;omega
               case rel=>exact ⟨(wrap64 (k + 1)),y,(by first|rfl|simp),HN,⟨by have:=HK2.out;omega⟩,⟨by have:=HKI.out;have:=HE.out;omega,by have:=HKI.out;have:=HE.out;have:=HKL.out;omega⟩,HXL,HK,HO,HB⟩
           ·have efb:(k == (wrap64 (i + 1))) = false:=beq_eq_false_iff_ne.mpr ef;have HNF:=Aside0.mk ef;by_cases e93:bt s k = 93
            ·have e93b:(bt s k == 93) = true:=beq_iff_eq.mpr e93;have e93n:(bt s k != 93) = false:=bne_eq_false_iff_eq.mpr e93;rw [if_neg (show ¬ (k = (wrap64 (i + 1)) ∨ bt s k ≠ 93) from fun h=>h.elim ef (fun h=>h e93))] at H1;simp only [Option.some.injEq,Prod.mk.injEq] at H1;obtain ⟨rfl,rfl⟩:=H1;clear ef e93 HE;rw [if_neg (show ¬ ((s.size:Int) ≤ k ∨ k = (wrap64 (i + 1))) by have:=HKL.out;intro h;rcases h with h|h;omega;exact HNF.out h)] at H9;rw [if_neg (show ¬ rGF.nt s i = true by rw [hnt];decide)] at H9;have H':=Aside0.mk H9;clear H9;have wk:wrap64 (k + 1) = k + 1:=by have:=HKL.out;have:=HI.out;have:=HKI.out;have:=HF0.out;have:=HL.out;unfold wrap64;omega
             have wk':IntKind.i64.wrap (k + 1) = k + 1:=(i64_w _).trans wk;have HLT:=Aside0.mk (show 0 ≤ k∧i ≤ k∧k < (s.size:Int) from ⟨by have:=HI.out;have:=HKI.out;have:=HF0.out;omega,by have:=HKI.out;have:=HF0.out;omega,HKL.out⟩);go_wp2_with (first|((with_reducible refine gate_dst (N:=140) rfl ?_);refine load_event rfl rfl Tryd.underlying91 rfl rfl (cs:=x.map Value.bool) (by rw [rGF.szT,List.length_map,HXL.out]) (cells_of_blk HK.out) ?_)|((with_reducible refine gate_dst (N:=141) rfl ?_);refine rGF.one_event rfl rfl (l:=x) rfl HXL.out Tryd.underlying84 rGF.info ?_)|((with_reducible refine gate_builtin (b := .append) (xs:=#[.tmp 139,.tmp 141]) rfl ?_);at_builtin;refine Kd.R_append rGF.kT (w0:=w) w.heap.size rfl (.tmp 139) (.tmp 141) 84 91 (.agg (rGF.zz.map Value.bool).toArray) 257 rfl Tryd.underlying84 rGF.info (by simp [Value.cells,rGF.zz_len,rGF.kT]) (by decide) (by omega) u4 acc x (x.map Value.bool) (fun _=>True) (fun _=>False) rfl rfl ⟨HXL.out,rfl⟩ (fun _ hk=>hk.elim) (fun _ _=>trivial) (Kd.R_mono HO.out (fun _ _=>trivial)) HB.out (below_size HB.out) (by have:=HI.out;have:=HL.out;omega) ?_;intro v142 w7 ho hb hg hat;have HO7:=Aside0.mk ho;have HB7:=Aside0.mk hb;clear HO HB HK ho hb hg hat;have HO:=HO7;have HB:=HB7;clear HO7 HB7))
             go_roundg k1
             case measure=>have:=HK1.out;omega
             case rel=>exact ⟨acc ++ [x],k + 1,(by first|rfl|rw [wk]|simp [wk]),H',⟨by have:=HK1.out;omega⟩,⟨by have:=HI.out;have:=HLT.out;omega,by have:=HI.out;have:=HLT.out;omega,by have:=HI.out;have:=HLT.out;rw [List.length_append,List.length_singleton];omega⟩,HO,HB⟩
            ·have e93b:(bt s k == 93) = false:=beq_eq_false_iff_ne.mpr e93;have e93n:(bt s k != 93) = true:=bne_iff_ne.mpr e93;rw [if_pos (Or.inr e93)] at H1;clear ef e93;by_cases t2:(wrap64 (k + 2)) < (s.size:Int)
             ·have t2b:decide ((wrap64 (k + 2)) < (s.size:Int)) = true:=decide_eq_true t2;have t2p:((wrap64 (k + 2)) < (s.size:Int)) = True:=eq_true t2;have HTW:=Aside0.mk t2;have t1p:((wrap64 (k + 1)) < (s.size:Int)) = True:=eq_true (by have:=HE.out;omega);have t10:(0 ≤ (wrap64 (k + 1))) = True:=eq_true (by have:=HE.out;have:=HKI.out;have:=HF0.out;have:=HI.out;omega);have t20:(0 ≤ (wrap64 (k + 2))) = True:=eq_true (by have:=HE.out;have:=HKI.out;have:=HF0.out;have:=HI.out;omega);have hxk1:=bt_at s (wrap64 (k + 1));have hxk2:=bt_at s (wrap64 (k + 2));clear t2;by_cases t45:bt s (wrap64 (k + 1)) = 45
              ·have t45b:(bt s (wrap64 (k + 1)) == 45) = true:=beq_iff_eq.mpr t45;by_cases t93:bt s (wrap64 (k + 2)) = 93
               ·have t93b:(bt s (wrap64 (k + 2)) == 93) = true:=beq_iff_eq.mpr t93;have t93n:(bt s (wrap64 (k + 2)) != 93) = false:=bne_eq_false_iff_eq.mpr t93;clear t45 t93;have htwo:rGF.two s k = false:=by unfold rGF.two;simp [*]
                have hhi:rGF.hgh s k = bt s k:=by unfold rGF.hgh;rw [htwo];rfl
                have hnx:rGF.nx s k = (wrap64 (k + 1)):=by unfold rGF.nx;rw [htwo];rfl
                rw [hhi,hnx] at H1;have HLO:=Aside0.mk (show 0 ≤ (bt s k)∧(bt s k) ≤ 255∧0 ≤ (bt s k)∧(bt s k) ≤ 255 from ⟨(bt_range s _).1,(bt_range s _).2,(bt_range s _).1,(bt_range s _).2⟩);have wlo:wrap64 (bt s k) = (bt s k):=rGF.wb _ _;have wlo':IntKind.i64.wrap (bt s k) = (bt s k):=(i64_w _).trans wlo;have whi:wrap64 (bt s k) = (bt s k):=rGF.wb _ _;have whi':IntKind.i64.wrap (bt s k) = (bt s k):=(i64_w _).trans whi;obtain ⟨X2,hX2⟩:∃ X2,rGF.ran ((bt s k).toNat + 1 - (bt s k).toNat) x (bt s k).toNat = X2:=⟨_,rfl⟩
                rw [hX2] at H1;have HX2:=Aside0.mk hX2;have HN:=Aside0.mk H1;clear H1 hX2 htwo hhi hnx;go_wp2;go_loopg [13] ((bt s k).toNat + 1 - (bt s k).toNat) (fun kq v13 wx=>∃ (c:Nat) (y:List Bool),Aside0 (kq = (bt s k).toNat + 1 - c)∧v13 = .int .i64 (c:Int)∧Aside0 (rGF.ran kq y c = X2)∧Aside0 (y.length = 257)∧Aside0 (rGF.Bk wx gb y)∧Aside0 (Kd.R rGF.kT 91 wx w.heap.size (fun k_=>True∧k_ ≠ gb) u4 acc)∧Aside0 (Below w.heap.size w wx))
                case atStart=>exact ⟨(bt s k).toNat,x,⟨rfl⟩,(by rw [Int.toNat_of_nonneg HLO.out.1]),HX2,HXL,HK,HO,HB⟩
                case round =>
                 clear HX2 HXL HK HO HB;obtain ⟨c,y,HQ,rfl,HF,HXL,HK,HO,HB⟩:=hrel;by_cases cl:(c:Int) ≤ (bt s k)
                 ·obtain ⟨kk,rfl⟩:∃ kk,gk = kk + 1:=⟨gk - 1,by have:=HQ.out;omega⟩
                  have HC:=Aside0.mk (show c < 256 by have:=HLO.out;omega);have d1:decide ((c:Int) ≤ (bt s k)) = true:=decide_eq_true cl;have d2:((c:Int) ≤ (bt s k)) = True:=eq_true cl;have d3:(0 ≤ (c:Int)) = True:=eq_true (by omega);have wc:wrap64 ((c:Int) + 1) = ((c + 1:Nat):Int):=by have:=HC.out;unfold wrap64;omega
                  have wc':IntKind.i64.wrap ((c:Int) + 1) = ((c + 1:Nat):Int):=(i64_w _).trans wc;have HF2:=Aside0.mk ((rGF.ran_succ kk y c).symm.trans HF.out);clear HF cl;go_wp2_with (first|((with_reducible refine gate_dst (N:=113) rfl ?_);refine rGF.idx_event rfl rfl rfl rfl Tryd.underlying89 rGF.sz4 (by have:=HC.out;omega) (by have:=HC.out;omega) (m:=c + 1) (by have:=HC.out;omega) ?_)|((with_reducible refine gate_store (t:=4) (p:=113) rfl ?_);refine rGF.setB_event rfl rfl rfl rfl rfl rGF.sz4 HK.out (by have:=HXL.out;have:=HC.out;omega) ?_;intro w9 hk9 hg9;have HO_:=Aside0.mk (Kd.R_grown HO.out hg9 (fun k hk=>(fun e=>hk.2 (Option.some.inj e))));have HB_:=Aside0.mk (below_grown HB.out hg9 HG.out (blk_lt HK.out));have HK_:=Aside0.mk (hk9);clear HO HB HK;have HO:=HO_;have HB:=HB_;have HK:=HK_;clear HO_ HB_ HK_;clear hk9 hg9))
                  go_roundg kk
                  case measure=>omega
                  case rel=>exact ⟨c + 1,_,⟨by have:=HQ.out;omega⟩,(by first|rfl|rw [wc]|simp [wc]),HF2,⟨by rw [List.length_set];exact HXL.out⟩,HK,HO,HB⟩
                 ·have hz:gk = 0:=by have:=HQ.out;have:=HLO.out;omega
                  subst hz;have hX:y = X2:=(rGF.ran_zero y c).symm.trans HF.out;subst hX;have d1:decide ((c:Int) ≤ (bt s k)) = false:=decide_eq_false cl;clear HF HQ cl;go_wp2;go_roundg kk1
                  case measure=>have:=HK2.out;omega
                  case rel=>exact ⟨(wrap64 (k + 1)),y,(by first|rfl|simp),HN,⟨by have:=HK2.out;omega⟩,⟨by have:=HKI.out;have:=HE.out;omega,by have:=HKI.out;have:=HE.out;have:=HKL.out;omega⟩,HXL,HK,HO,HB⟩
               ·have t93b:(bt s (wrap64 (k + 2)) == 93) = false:=beq_eq_false_iff_ne.mpr t93;have t93n:(bt s (wrap64 (k + 2)) != 93) = true:=bne_iff_ne.mpr t93;clear t45 t93;have htwo:rGF.two s k = true:=by unfold rGF.two;simp [*]
                have hhi:rGF.hgh s k = bt s (wrap64 (k + 2)):=by unfold rGF.hgh;rw [htwo];rfl
                have hnx:rGF.nx s k = (wrap64 ((wrap64 (k + 2)) + 1)):=by unfold rGF.nx;rw [htwo];rfl
                rw [hhi,hnx] at H1;have HLO:=Aside0.mk (show 0 ≤ (bt s k)∧(bt s k) ≤ 255∧0 ≤ (bt s (wrap64 (k + 2)))∧(bt s (wrap64 (k + 2))) ≤ 255 from ⟨(bt_range s _).1,(bt_range s _).2,(bt_range s _).1,(bt_range s _).2⟩);have wlo:wrap64 (bt s k) = (bt s k):=rGF.wb _ _;have wlo':IntKind.i64.wrap (bt s k) = (bt s k):=(i64_w _).trans wlo;have whi:wrap64 (bt s (wrap64 (k + 2))) = (bt s (wrap64 (k + 2))):=rGF.wb _ _;have whi':IntKind.i64.wrap (bt s (wrap64 (k + 2))) = (bt s (wrap64 (k + 2))):=(i64_w _).trans whi;obtain ⟨X2,hX2⟩:∃ X2,rGF.ran ((bt s (wrap64 (k + 2))).toNat + 1 - (bt s k).toNat) x (bt s k).toNat = X2:=⟨_,rfl⟩
                rw [hX2] at H1;have HX2:=Aside0.mk hX2;have HN:=Aside0.mk H1;clear H1 hX2 htwo hhi hnx;go_wp2;go_loopg [13] ((bt s (wrap64 (k + 2))).toNat + 1 - (bt s k).toNat) (fun kq v13 wx=>∃ (c:Nat) (y:List Bool),Aside0 (kq = (bt s (wrap64 (k + 2))).toNat + 1 - c)∧v13 = .int .i64 (c:Int)∧Aside0 (rGF.ran kq y c = X2)∧Aside0 (y.length = 257)∧Aside0 (rGF.Bk wx gb y)∧Aside0 (Kd.R rGF.kT 91 wx w.heap.size (fun k_=>True∧k_ ≠ gb) u4 acc)∧Aside0 (Below w.heap.size w wx))
                case atStart=>exact ⟨(bt s k).toNat,x,⟨rfl⟩,(by rw [Int.toNat_of_nonneg HLO.out.1]),HX2,HXL,HK,HO,HB⟩
                case round =>
                 clear HX2 HXL HK HO HB;obtain ⟨c,y,HQ,rfl,HF,HXL,HK,HO,HB⟩:=hrel;by_cases cl:(c:Int) ≤ (bt s (wrap64 (k + 2)))
                 ·obtain ⟨kk,rfl⟩:∃ kk,gk = kk + 1:=⟨gk - 1,by have:=HQ.out;omega⟩
                  have HC:=Aside0.mk (show c < 256 by have:=HLO.out;omega);have d1:decide ((c:Int) ≤ (bt s (wrap64 (k + 2)))) = true:=decide_eq_true cl;have d2:((c:Int) ≤ (bt s (wrap64 (k + 2)))) = True:=eq_true cl;have d3:(0 ≤ (c:Int)) = True:=eq_true (by omega);have wc:wrap64 ((c:Int) + 1) = ((c + 1:Nat):Int):=by have:=HC.out;unfold wrap64;omega
                  have wc':IntKind.i64.wrap ((c:Int) + 1) = ((c + 1:Nat):Int):=(i64_w _).trans wc;have HF2:=Aside0.mk ((rGF.ran_succ kk y c).symm.trans HF.out);clear HF cl;go_wp2_with (first|((with_reducible refine gate_dst (N:=113) rfl ?_);refine rGF.idx_event rfl rfl rfl rfl Tryd.underlying89 rGF.sz4 (by have:=HC.out;omega) (by have:=HC.out;omega) (m:=c + 1) (by have:=HC.out;omega) ?_)|((with_reducible refine gate_store (t:=4) (p:=113) rfl ?_);refine rGF.setB_event rfl rfl rfl rfl rfl rGF.sz4 HK.out (by have:=HXL.out;have:=HC.out;omega) ?_;intro w9 hk9 hg9;have HO_:=Aside0.mk (Kd.R_grown HO.out hg9 (fun k hk=>(fun e=>hk.2 (Option.some.inj e))));have HB_:=Aside0.mk (below_grown HB.out hg9 HG.out (blk_lt HK.out));have HK_:=Aside0.mk (hk9);clear HO HB HK;have HO:=HO_;have HB:=HB_;have HK:=HK_;clear HO_ HB_ HK_;clear hk9 hg9))
                  go_roundg kk
                  case measure=>omega
                  case rel=>exact ⟨c + 1,_,⟨by have:=HQ.out;omega⟩,(by first|rfl|rw [wc]|simp [wc]),HF2,⟨by rw [List.length_set];exact HXL.out⟩,HK,HO,HB⟩
                 ·have hz:gk = 0:=by have:=HQ.out;have:=HLO.out;omega
                  subst hz;have hX:y = X2:=(rGF.ran_zero y c).symm.trans HF.out;subst hX;have d1:decide ((c:Int) ≤ (bt s (wrap64 (k + 2)))) = false:=decide_eq_false cl;clear HF HQ cl;go_wp2;go_roundg kk1
                  case measure=>have:=HK2.out;omega
                  case rel=>exact ⟨(wrap64 ((wrap64 (k + 2)) + 1)),y,(by first|rfl|simp),HN,⟨by have:=HK2.out;omega⟩,⟨by have:=HKI.out;have:=HE.out;omega,by have:=HKI.out;have:=HE.out;have:=HKL.out;have:=HTW.out;omega⟩,HXL,HK,HO,HB⟩
              ·have t45b:(bt s (wrap64 (k + 1)) == 45) = false:=beq_eq_false_iff_ne.mpr t45;clear t45;have htwo:rGF.two s k = false:=by unfold rGF.two;simp [*]
               have hhi:rGF.hgh s k = bt s k:=by unfold rGF.hgh;rw [htwo];rfl
               have hnx:rGF.nx s k = (wrap64 (k + 1)):=by unfold rGF.nx;rw [htwo];rfl
               rw [hhi,hnx] at H1;have HLO:=Aside0.mk (show 0 ≤ (bt s k)∧(bt s k) ≤ 255∧0 ≤ (bt s k)∧(bt s k) ≤ 255 from ⟨(bt_range s _).1,(bt_range s _).2,(bt_range s _).1,(bt_range s _).2⟩);have wlo:wrap64 (bt s k) = (bt s k):=rGF.wb _ _;have wlo':IntKind.i64.wrap (bt s k) = (bt s k):=(i64_w _).trans wlo;have whi:wrap64 (bt s k) = (bt s k):=rGF.wb _ _;have whi':IntKind.i64.wrap (bt s k) = (bt s k):=(i64_w _).trans whi;obtain ⟨X2,hX2⟩:∃ X2,rGF.ran ((bt s k).toNat + 1 - (bt s k).toNat) x (bt s k).toNat = X2:=⟨_,rfl⟩
               rw [hX2] at H1;have HX2:=Aside0.mk hX2;have HN:=Aside0.mk H1;clear H1 hX2 htwo hhi hnx;go_wp2;go_loopg [13] ((bt s k).toNat + 1 - (bt s k).toNat) (fun kq v13 wx=>∃ (c:Nat) (y:List Bool),Aside0 (kq = (bt s k).toNat + 1 - c)∧v13 = .int .i64 (c:Int)∧Aside0 (rGF.ran kq y c = X2)∧Aside0 (y.length = 257)∧Aside0 (rGF.Bk wx gb y)∧Aside0 (Kd.R rGF.kT 91 wx w.heap.size (fun k_=>True∧k_ ≠ gb) u4 acc)∧Aside0 (Below w.heap.size w wx))
               case atStart=>exact ⟨(bt s k).toNat,x,⟨rfl⟩,(by rw [Int.toNat_of_nonneg HLO.out.1]),HX2,HXL,HK,HO,HB⟩
               case round =>
                clear HX2 HXL HK HO HB;obtain ⟨c,y,HQ,rfl,HF,HXL,HK,HO,HB⟩:=hrel;by_cases cl:(c:Int) ≤ (bt s k)
                ·obtain ⟨kk,rfl⟩:∃ kk,gk = kk + 1:=⟨gk - 1,by have:=HQ.out;omega⟩
                 have HC:=Aside0.mk (show c < 256 by have:=HLO.out;omega);have d1:decide ((c:Int) ≤ (bt s k)) = true:=decide_eq_true cl;have d2:((c:Int) ≤ (bt s k)) = True:=eq_true cl;have d3:(0 ≤ (c:Int)) = True:=eq_true (by omega);have wc:wrap64 ((c:Int) + 1) = ((c + 1:Nat):Int):=by have:=HC.out;unfold wrap64;omega
                 have wc':IntKind.i64.wrap ((c:Int) + 1) = ((c + 1:Nat):Int):=(i64_w _).trans wc;have HF2:=Aside0.mk ((rGF.ran_succ kk y c).symm.trans HF.out);clear HF cl;go_wp2_with (first|((with_reducible refine gate_dst (N:=113) rfl ?_);refine rGF.idx_event rfl rfl rfl rfl Tryd.underlying89 rGF.sz4 (by have:=HC.out;omega) (by have:=HC.out;omega) (m:=c + 1) (by have:=HC.out;omega) ?_)|((with_reducible refine gate_store (t:=4) (p:=113) rfl ?_);refine rGF.setB_event rfl rfl rfl rfl rfl rGF.sz4 HK.out (by have:=HXL.out;have:=HC.out;omega) ?_;intro w9 hk9 hg9;have HO_:=Aside0.mk (Kd.R_grown HO.out hg9 (fun k hk=>(fun e=>hk.2 (Option.some.inj e))));have HB_:=Aside0.mk (below_grown HB.out hg9 HG.out (blk_lt HK.out));have HK_:=Aside0.mk (hk9);clear HO HB HK;have HO:=HO_;have HB:=HB_;have HK:=HK_;clear HO_ HB_ HK_;clear hk9 hg9))
                 go_roundg kk
                 case measure=>omega
                 case rel=>exact ⟨c + 1,_,⟨by have:=HQ.out;omega⟩,(by first|rfl|rw [wc]|simp [wc]),HF2,⟨by rw [List.length_set];exact HXL.out⟩,HK,HO,HB⟩
                ·have hz:gk = 0:=by have:=HQ.out;have:=HLO.out;omega
                 subst hz;have hX:y = X2:=(rGF.ran_zero y c).symm.trans HF.out;subst hX;have d1:decide ((c:Int) ≤ (bt s k)) = false:=decide_eq_false cl;clear HF HQ cl;go_wp2;go_roundg kk1
                 case measure=>have:=HK2.out;omega
                 case rel=>exact ⟨(wrap64 (k + 1)),y,(by first|rfl|simp),HN,⟨by have:=HK2.out;omega⟩,⟨by have:=HKI.out;have:=HE.out;omega,by have:=HKI.out;have:=HE.out;have:=HKL.out;omega⟩,HXL,HK,HO,HB⟩
             ·have t2b:decide ((wrap64 (k + 2)) < (s.size:Int)) = false:=decide_eq_false t2;clear t2;have htwo:rGF.two s k = false:=by unfold rGF.two;simp [*]
              have hhi:rGF.hgh s k = bt s k:=by unfold rGF.hgh;rw [htwo];rfl
              have hnx:rGF.nx s k = (wrap64 (k + 1)):=by unfold rGF.nx;rw [htwo];rfl
              rw [hhi,hnx] at H1;have HLO:=Aside0.mk (show 0 ≤ (bt s k)∧(bt s k) ≤ 255∧0 ≤ (bt s k)∧(bt s k) ≤ 255 from ⟨(bt_range s _).1,(bt_range s _).2,(bt_range s _).1,(bt_range s _).2⟩);have wlo:wrap64 (bt s k) = (bt s k):=rGF.wb _ _;have wlo':IntKind.i64.wrap (bt s k) = (bt s k):=(i64_w _).trans wlo;have whi:wrap64 (bt s k) = (bt s k):=rGF.wb _ _;have whi':IntKind.i64.wrap (bt s k) = (bt s k):=(i64_w _).trans whi;obtain ⟨X2,hX2⟩:∃ X2,rGF.ran ((bt s k).toNat + 1 - (bt s k).toNat) x (bt s k).toNat = X2:=⟨_,rfl⟩
              rw [hX2] at H1;have HX2:=Aside0.mk hX2;have HN:=Aside0.mk H1;clear H1 hX2 htwo hhi hnx;go_wp2;go_loopg [13] ((bt s k).toNat + 1 - (bt s k).toNat) (fun kq v13 wx=>∃ (c:Nat) (y:List Bool),Aside0 (kq = (bt s k).toNat + 1 - c)∧v13 = .int .i64 (c:Int)∧Aside0 (rGF.ran kq y c = X2)∧Aside0 (y.length = 257)∧Aside0 (rGF.Bk wx gb y)∧Aside0 (Kd.R rGF.kT 91 wx w.heap.size (fun k_=>True∧k_ ≠ gb) u4 acc)∧Aside0 (Below w.heap.size w wx))
              case atStart=>exact ⟨(bt s k).toNat,x,⟨rfl⟩,(by rw [Int.toNat_of_nonneg HLO.out.1]),HX2,HXL,HK,HO,HB⟩
              case round =>
               clear HX2 HXL HK HO HB;obtain ⟨c,y,HQ,rfl,HF,HXL,HK,HO,HB⟩:=hrel;by_cases cl:(c:Int) ≤ (bt s k)
               ·obtain ⟨kk,rfl⟩:∃ kk,gk = kk + 1:=⟨gk - 1,by have:=HQ.out;omega⟩
                have HC:=Aside0.mk (show c < 256 by have:=HLO.out;omega);have d1:decide ((c:Int) ≤ (bt s k)) = true:=decide_eq_true cl;have d2:((c:Int) ≤ (bt s k)) = True:=eq_true cl;have d3:(0 ≤ (c:Int)) = True:=eq_true (by omega);have wc:wrap64 ((c:Int) + 1) = ((c + 1:Nat):Int):=by have:=HC.out;unfold wrap64;omega
                have wc':IntKind.i64.wrap ((c:Int) + 1) = ((c + 1:Nat):Int):=(i64_w _).trans wc;have HF2:=Aside0.mk ((rGF.ran_succ kk y c).symm.trans HF.out);clear HF cl;go_wp2_with (first|((with_reducible refine gate_dst (N:=113) rfl ?_);refine rGF.idx_event rfl rfl rfl rfl Tryd.underlying89 rGF.sz4 (by have:=HC.out;omega) (by have:=HC.out;omega) (m:=c + 1) (by have:=HC.out;omega) ?_)|((with_reducible refine gate_store (t:=4) (p:=113) rfl ?_);refine rGF.setB_event rfl rfl rfl rfl rfl rGF.sz4 HK.out (by have:=HXL.out;have:=HC.out;omega) ?_;intro w9 hk9 hg9;have HO_:=Aside0.mk (Kd.R_grown HO.out hg9 (fun k hk=>(fun e=>hk.2 (Option.some.inj e))));have HB_:=Aside0.mk (below_grown HB.out hg9 HG.out (blk_lt HK.out));have HK_:=Aside0.mk (hk9);clear HO HB HK;have HO:=HO_;have HB:=HB_;have HK:=HK_;clear HO_ HB_ HK_;clear hk9 hg9))
                go_roundg kk
                case measure=>omega
                case rel=>exact ⟨c + 1,_,⟨by have:=HQ.out;omega⟩,(by first|rfl|rw [wc]|simp [wc]),HF2,⟨by rw [List.length_set];exact HXL.out⟩,HK,HO,HB⟩
               ·have hz:gk = 0:=by have:=HQ.out;have:=HLO.out;omega
                subst hz;have hX:y = X2:=(rGF.ran_zero y c).symm.trans HF.out;subst hX;have d1:decide ((c:Int) ≤ (bt s k)) = false:=decide_eq_false cl;clear HF HQ cl;go_wp2;go_roundg kk1
                case measure=>have:=HK2.out;omega
                case rel=>exact ⟨(wrap64 (k + 1)),y,(by first|rfl|simp),HN,⟨by have:=HK2.out;omega⟩,⟨by have:=HKI.out;have:=HE.out;omega,by have:=HKI.out;have:=HE.out;have:=HKL.out;omega⟩,HXL,HK,HO,HB⟩
          ·rw [if_neg ck] at H1;simp only [Option.some.injEq,Prod.mk.injEq] at H1;obtain ⟨rfl,rfl⟩:=H1;have ckb:decide (k < (s.size:Int)) = false:=decide_eq_false ck;have ckn:decide (k ≥ (s.size:Int)) = true:=decide_eq_true (by omega);have ckm:decide ((s.size:Int) ≤ k) = true:=decide_eq_true (by omega);rw [if_pos (Or.inl (show (s.size:Int) ≤ k by omega))] at H9;simp only [Option.some.injEq,Prod.mk.injEq] at H9;obtain ⟨rfl,rfl⟩:=H9;clear ck;go_wp2;go_ret2
           exact ⟨_,rfl,Kd.R_nil _ _ _ _ _,HB.out⟩
      ·rw [if_neg c91] at H;have c91b:(bt s i == 91) = false:=beq_eq_false_iff_ne.mpr c91;have H':=Aside0.mk H;have hbr:=bt_range s i;have HBR:=Aside0.mk hbr;clear H c91 hbr;have HX0:=Aside0.mk (rGF.x0_len s i);have HXL:=HX0;have HXS:=Aside0.mk (show ((rGF.x0 s i).set ((bt s i).toNat + 1) true).length = 257 by rw [List.length_set];exact HX0.out);go_wp2_with (first|((with_reducible refine gate_dst (N:=23) rfl ?_);refine rGF.build_event rfl rfl (cells:=((rGF.x0 s i).map Value.bool).toArray) (by (try simp only [List.map_toArray,List.map_cons,List.map_nil]);exact rGF.built0 s i) ?_)|((with_reducible refine gate_dst (N:=6) rfl ?_);refine box_event ?hg (N:=6) ?hd (cs:=(rGF.zz.map Value.bool).toArray) (t:=91) ?hr ?_;(case hd=>rfl);(case hg=>rfl);(case hr=>exact rGF.alloc_run rfl _);intro gb hg w2 hbox hb2;have HG:=Aside0.mk (show w.heap.size ≤ gb by rw [hg];exact HB.out.size);have HO2:=Aside0.mk (Kd.R_below (Kd.R_elderB HO.out gb (Nat.le_of_eq hg.symm)) hb2);have HB2:=Aside0.mk (below_step HB.out hb2);have HK0:=Aside0.mk (show rGF.Bk w2 gb rGF.zz from hbox);clear hg hbox hb2 HO HB;have HO:=HO2;have HB:=HB2;clear HO2 HB2)|((with_reducible refine gate_store (t:=91) (p:=6) rfl ?_);refine rGF.put_event (l:=rGF.x0 s i) rfl rfl rfl rfl rfl HK0.out rGF.szT rGF.zz_len (rGF.x0_len s i) ?_;intro w3 hk3 hg3;have HK:=HK0;clear HK0;have HO_:=Aside0.mk (Kd.R_grown HO.out hg3 (fun k hk=>(fun e=>hk.2 (Option.some.inj e))));have HB_:=Aside0.mk (below_grown HB.out hg3 HG.out (blk_lt HK.out));have HK_:=Aside0.mk (hk3);clear HO HB HK;have HO:=HO_;have HB:=HB_;have HK:=HK_;clear HO_ HB_ HK_;clear hk3 hg3)|((with_reducible refine gate_dst (N:=31) rfl ?_);refine rGF.idx_event rfl rfl rfl rfl Tryd.underlying89 rGF.sz4 (by have:=HBR.out;omega) (by have:=HBR.out;omega) (m:=(bt s i).toNat + 1) (by have:=HBR.out;omega) ?_)|((with_reducible refine gate_store (t:=4) (p:=31) rfl ?_);refine rGF.setB_event rfl rfl rfl rfl rfl rGF.sz4 HK.out (by have:=HXL.out;have:=HBR.out;omega) ?_;intro w9 hk9 hg9;have HO_:=Aside0.mk (Kd.R_grown HO.out hg9 (fun k hk=>(fun e=>hk.2 (Option.some.inj e))));have HB_:=Aside0.mk (below_grown HB.out hg9 HG.out (blk_lt HK.out));have HK_:=Aside0.mk (hk9);clear HO HB HK;have HO:=HO_;have HB:=HB_;have HK:=HK_;clear HO_ HB_ HK_;clear hk9 hg9)|((with_reducible refine gate_dst (N:=140) rfl ?_);refine load_event rfl rfl Tryd.underlying91 rfl rfl (cs:=((rGF.x0 s i).set ((bt s i).toNat + 1) true).map Value.bool) (by rw [rGF.szT,List.length_map,HXS.out]) (cells_of_blk HK.out) ?_)|((with_reducible refine gate_dst (N:=141) rfl ?_);refine rGF.one_event rfl rfl (l:=((rGF.x0 s i).set ((bt s i).toNat + 1) true)) rfl HXS.out Tryd.underlying84 rGF.info ?_)|((with_reducible refine gate_builtin (b := .append) (xs:=#[.tmp 139,.tmp 141]) rfl ?_);at_builtin;refine Kd.R_append rGF.kT (w0:=w) w.heap.size rfl (.tmp 139) (.tmp 141) 84 91 (.agg (rGF.zz.map Value.bool).toArray) 257 rfl Tryd.underlying84 rGF.info (by simp [Value.cells,rGF.zz_len,rGF.kT]) (by decide) (by omega) u4 acc ((rGF.x0 s i).set ((bt s i).toNat + 1) true) (((rGF.x0 s i).set ((bt s i).toNat + 1) true).map Value.bool) (fun _=>True) (fun _=>False) rfl rfl ⟨HXS.out,rfl⟩ (fun _ hk=>hk.elim) (fun _ _=>trivial) (Kd.R_mono HO.out (fun _ _=>trivial)) HB.out (below_size HB.out) (by have:=HI.out;have:=HL.out;omega) ?_;intro v142 w7 ho hb hg hat;have HO7:=Aside0.mk ho;have HB7:=Aside0.mk hb;clear HO HB HK ho hb hg hat;have HO:=HO7;have HB:=HB7;clear HO7 HB7))
       go_roundg k1
       case measure=>have:=HK1.out;omega
       case rel=>exact ⟨acc ++ [((rGF.x0 s i).set ((bt s i).toNat + 1) true)],i + 1,(by first|rfl|rw [wi]|simp [wi]),H',⟨by have:=HK1.out;omega⟩,⟨by have:=HI.out;have:=HLT.out;omega,by have:=HI.out;have:=HLT.out;omega,by have:=HI.out;have:=HLT.out;rw [List.length_append,List.length_singleton];omega⟩,HO,HB⟩
    ·rw [if_neg c3] at H;have c3b:decide (i < (s.size:Int)) = false:=decide_eq_false c3;simp only [Option.some.injEq,Prod.mk.injEq] at H;obtain ⟨rfl,rfl⟩:=H;obtain ⟨Ao,co,eo⟩:=Kd.R_slice HO.out;subst eo;clear c3;go_wp2;go_ret2
     exact ⟨_,rfl,HO.out,HB.out⟩
 ·rw [if_neg hl] at h;cases h
def rGF.run:List ByteArray→Option Int
 | []=>some 0
 | x :: xs=>if x.toList = ([]:List UInt8) then some 9 else (rGF.tok x).bind fun r=>if r.2 = true then rGF.run xs else some 3
def rGF.f (k:Nat) (a0:ByteArray):Option Int:=if a0.toList = ([]:List UInt8) then some 1 else if 400 < a0.size then some 1 else (creelref_parts.f k a0 47).bind fun l=>if l.length ≤ 1000000 then rGF.run l else none
theorem rGF.at_ (l:List ByteArray) (n:Nat) (h:n < l.length):l.drop n = rdOf ByteArray.empty l (n:Int) :: l.drop (n + 1):=by
 rw [List.drop_eq_getElem_cons h];congr 1
 unfold rdOf;rw [Int.toNat_natCast,List.getD_eq_getElem?_getD,List.getElem?_eq_getElem h];rfl
set_option maxHeartbeats 8000000 in
set_option maxRecDepth 100000 in
theorem rGF.calls (k:Nat) (a0:ByteArray) (r:Int) (w:World) (h:rGF.f k a0 = some r) :
 Calls Tryd.prog 31 #[.string a0] w fun e w'=>e = .returned (.int .i64 r)∧Below w.heap.size w w':=by
 unfold rGF.f at h;by_cases c1:a0.toList = ([]:List UInt8)
 ·rw [if_pos c1] at h;obtain rfl:=Option.some.inj h;have c1b:(a0.toList == ([]:List UInt8)) = true:=beq_iff_eq.mpr c1;have c1e:a0.toList.isEmpty = true:=by rw [c1];rfl
  clear c1 h;go_enter Tryd.func31,Tryd.ntmps31;go_wp2;go_ret
  exact ⟨rfl,Below.refl _ _⟩
 ·rw [if_neg c1] at h;have c1b:(a0.toList == ([]:List UInt8)) = false:=beq_eq_false_iff_ne.mpr c1;have c1e:a0.toList.isEmpty = false:=by simpa using c1
  clear c1;by_cases c2:400 < a0.size
  ·rw [if_pos c2] at h;obtain rfl:=Option.some.inj h;have c2b:decide (400 < (a0.size:Int)) = true:=decide_eq_true (by omega);have c2c:(400 < (a0.size:Int)) = True:=eq_true (by omega);clear c2 h;go_enter Tryd.func31,Tryd.ntmps31;go_wp2;go_ret
   exact ⟨rfl,Below.refl _ _⟩
  ·rw [if_neg c2] at h;have c2b:decide (400 < (a0.size:Int)) = false:=decide_eq_false (by omega);have c2c:(400 < (a0.size:Int)) = False:=eq_false (by omega);clear c2;obtain ⟨l,A1,H⟩:=Option.bind_eq_some_iff.mp h;have HA1:=Aside0.mk A1;clear A1 h;by_cases hl:l.length ≤ 1000000
   ·rw [if_pos hl] at H;have H':=Aside0.mk H;have HL:=Aside0.mk hl;clear H hl;go_enter Tryd.func31,Tryd.ntmps31;go_wp2_with (go_at_call 33;refine (creelref_parts.calls k a0 47 l _ HA1.out).mono ?_;rintro e w2 ⟨vl,rfl,hr2,hb2⟩;obtain ⟨Al,cl,el⟩:=Kd.R_slice hr2;subst el;have HRL:=Aside0.mk hr2;have HB:=Aside0.mk hb2;clear hr2 hb2)
    clear c1b c1e c2b c2c;go_loopg [17] l.length (fun kq v17 wx=>∃ (n:Nat),Aside0 (kq = l.length - n)∧Aside0 (n ≤ l.length)∧v17 = .int .i64 (n:Int)∧Aside0 (rGF.run (l.drop n) = some r)∧Aside0 (Kd.R Kd.string 9 wx w.heap.size (fun _=>True) (.slice Al l.length cl) l)∧Aside0 (Below w.heap.size w wx))
    case atStart=>exact ⟨0,⟨rfl⟩,⟨Nat.zero_le _⟩,rfl,⟨by rw [List.drop_zero];exact H'.out⟩,HRL,HB⟩
    case round =>
     clear H' HRL HB;obtain ⟨n,HQ,HN,rfl,HA,HRL,HB⟩:=hrel;by_cases c3:n < l.length
     ·have H:=HA.out;clear HA;rw [rGF.at_ l n c3] at H;obtain ⟨ad,e,hx⟩:=Kd.at_string (Kd.R_reads' HRL.out).2.2 (n:Int) (by omega) (by omega);subst e;try rw [Int.toNat_natCast] at hx
      have HLT:=Aside0.mk c3;have p3:((n:Int) < (l.length:Int)) = True:=eq_true (by omega);have p3b:decide ((n:Int) < (l.length:Int)) = true:=decide_eq_true (by omega);have p4:(0 ≤ (n:Int)) = True:=eq_true (by omega);have hw1:wrap64 ((n:Int) + 1) = ((n + 1:Nat):Int):=by have:=HL.out;unfold wrap64;omega
      clear c3;generalize hxx:rdOf ByteArray.empty l (n:Int) = x at *;clear hxx;by_cases c5:x.toList = ([]:List UInt8)
      ·have H2:some 9 = some r:=by rw [← H];exact (if_pos c5).symm
       obtain rfl:=Option.some.inj H2;have c5b:(x.toList == ([]:List UInt8)) = true:=beq_iff_eq.mpr c5;have c5e:x.toList.isEmpty = true:=by rw [c5];rfl
       clear c5 H H2;go_wp2;go_ret
       exact ⟨rfl,HB.out⟩
      ·have H2:((rGF.tok x).bind fun r=>if r.2 = true then rGF.run (l.drop (n + 1)) else some 3) = some r:=by rw [← H];exact (if_neg c5).symm
       have c5b:(x.toList == ([]:List UInt8)) = false:=beq_eq_false_iff_ne.mpr c5;have c5e:x.toList.isEmpty = false:=by simpa using c5
       clear c5 H;obtain ⟨⟨rl,ok⟩,A2,H3⟩:=Option.bind_eq_some_iff.mp H2;clear H2;cases ok with
       | true =>
        have H':=Aside0.mk (show rGF.run (l.drop (n + 1)) = some r from H3);have HT:=Aside0.mk A2;clear A2 H3;go_wp2_with (go_at_call 64;refine (rGF.tokens x rl _ _ HT.out).mono ?_;rintro e w3 ⟨vt,rfl,ht,hb3⟩;have HRL_:=Aside0.mk (Kd.R_below HRL.out hb3);have HB_:=Aside0.mk (below_step HB.out hb3);clear HRL HB;have HRL:=HRL_;have HB:=HB_;clear HRL_ HB_;clear ht hb3)
        go_roundg (l.length - (n + 1))
        case measure=>have:=HQ.out;have:=HLT.out;omega
        case rel=>exact ⟨n + 1,⟨rfl⟩,⟨HLT.out⟩,(by first|rfl|rw [hw1]),H',HRL,HB⟩
       | false =>
        obtain rfl:=Option.some.inj (show some 3 = some r from H3);have HT:=Aside0.mk A2;clear A2 H3;go_wp2_with (go_at_call 64;refine (rGF.tokens x rl _ _ HT.out).mono ?_;rintro e w3 ⟨vt,rfl,ht,hb3⟩;have HRL_:=Aside0.mk (Kd.R_below HRL.out hb3);have HB_:=Aside0.mk (below_step HB.out hb3);clear HRL HB;have HRL:=HRL_;have HB:=HB_;clear HRL_ HB_;clear ht hb3)
        go_ret
        exact ⟨rfl,HB.out⟩
     ·have c3b:decide ((n:Int) < (l.length:Int)) = false:=decide_eq_false (by omega);have c3n:decide (n < l.length) = false:=decide_eq_false c3;have c3m:(n < l.length) = False:=eq_false c3;have H:=HA.out;rw [List.drop_of_length_le (by omega)] at H;obtain rfl:=Option.some.inj (show some 0 = some r from H);clear c3 H HA;go_wp2;go_ret
      exact ⟨rfl,HB.out⟩
   ·rw [if_neg hl] at H;cases H
end Go.Proofs.YtcbbcnmifohibaaDoor.All
end
