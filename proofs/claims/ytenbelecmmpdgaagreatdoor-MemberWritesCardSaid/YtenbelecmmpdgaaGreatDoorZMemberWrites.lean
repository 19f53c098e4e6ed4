/- Made by programs of the prover: walks of Go functions, the words that they use, and plain laws, each text in a section of its own; no condition of its own. -/
import Derived.Test.YtenbelecmmpdgaaGreatDoorRows
import Derived.Test.YtenbelecmmpdgaaGreatDoorCards
import Derived.Test.YtenbelecmmpdgaaGreatDoorTie
import Derived.WalkKit
import Derived.ProofKit
import Derived.OpenShut
import Derived.ShutString
import Derived.ChangeOld
import Derived.Below
import Derived.SizedLaws
import Derived.WideShapes
import Derived.Deep.DeepHandedRow
import Derived.Lib.LaidTab
import Derived.Test.YtenbelecmmpdgaaGreatDoorZMemberWrites2
import Derived.Test.YtenbelecmmpdgaaGreatDoorZMemberWrites3
import Derived.Test.YtenbelecmmpdgaaGreatDoorZMemberWrites5
import Derived.Test.YtenbelecmmpdgaaGreatDoorZMemberWrites6
import Derived.Test.YtenbelecmmpdgaaGreatDoorZMemberWrites7
import Derived.Test.YtenbelecmmpdgaaGreatDoorZMemberWrites8
import Derived.Test.YtenbelecmmpdgaaGreatDoorZMemberWrites9
import Derived.Test.YtenbelecmmpdgaaGreatDoorZMemberWrites10
section
namespace Go.Proofs.YtenbelecmmpdgaaGreatDoor.All
open Go.RowKit Go.Proofs.YtenbelecmmpdgaaGreatDoorW.PrintWords Go.Proofs.YtenbelecmmpdgaaGreatDoorW.PrintLast Go.Proofs.YtenbelecmmpdgaaGreatDoorW.PrintMore
open Go.Proofs.YtenbelecmmpdgaaGreatDoorW.Mine
attribute [local go_sem] gtr_string leq_string geq_string
attribute [local go_sem] max2_int min2_int max_two min_two max_three min_three max_four min_four
set_option linter.unusedVariables false
set_option linter.unusedSimpArgs false
def pad_Blocks.f (a0:Int):Option (Int × Int):=if a0 < 0 then (some (0,4)) else (if a0 > 8589934591 then (some (0,4)) else (some (wrap64 (Int.tdiv (wrap64 ((wrap64 (a0 + 512)) - 1)) 512),0)))
def creelref_PadBlocks.j0:Nat→Int→Bool→Option (Int × Int)
 | 0,_,_=>none
 | k + 1,x0,x10=>if x10 = true then (some (0,4)) else (if (wrap64 ((wrap64 (Int.tdiv x0 512)) * 512)) < x0 then (some (wrap64 ((wrap64 (Int.tdiv x0 512)) + 1),0)) else (some (wrap64 (Int.tdiv x0 512),0)))
def creelref_PadBlocks.f (k:Nat) (a0:Int):Option (Int × Int):=if a0 < 0 then (creelref_PadBlocks.j0 k a0 true) else (creelref_PadBlocks.j0 k a0 (decide (a0 ≥ 8589934592)))
end Go.Proofs.YtenbelecmmpdgaaGreatDoor.All
end
section
namespace Go.Proofs.YtenbelecmmpdgaaGreatDoor.Q
set_option linter.unusedVariables false
set_option linter.unusedSimpArgs false
open Go.RowKit Go.Proofs.YtenbelecmmpdgaaGreatDoor.All Go.Proofs.YtenbelecmmpdgaaGreatDoorW.PrintWords Go.Proofs.YtenbelecmmpdgaaGreatDoorW.PrintLast Go.Proofs.YtenbelecmmpdgaaGreatDoorW.PrintMore Go.Proofs.YtenbelecmmpdgaaGreatDoorW.PureBase
theorem fill_loop (d:Nat):∀ (k:Nat) (l:List Int),d < k→((512 - ((l.length:Int) % 512)) % 512) = d→l.length + d < 140737488355328→creelref_PadFill.l0 k l = some (l ++ List.replicate d 0):=by
  induction d with
  | zero =>
    intro k l hk hd hl
    obtain ⟨k,rfl⟩:∃ m,k = m + 1:=⟨k - 1,by omega⟩
    simp only [creelref_PadFill.l0]
    rw [if_pos (by omega)];simp
  | succ d ih =>
    intro k l hk hd hl
    obtain ⟨k,rfl⟩:∃ m,k = m + 1:=⟨k - 1,by omega⟩
    simp only [creelref_PadFill.l0]
    rw [if_neg (by omega),if_pos (by omega),ih k (l ++ [0]) (by omega) (by simp only [List.length_append,List.length_singleton];omega) (by simp only [List.length_append,List.length_singleton];omega)]
    rw [List.append_assoc];rfl
theorem fill_same (l:List Int) (h:l.length ≤ 140737488351232):∃ r,pad_Fill.f l = some r∧Ev (fun k=>creelref_PadFill.f k l) r∧r.length ≤ l.length + 511:=by
  obtain ⟨d,hd⟩:∃ d:Nat,((512 - ((l.length:Int) % 512)) % 512) = (d:Int):=⟨((512 - ((l.length:Int) % 512)) % 512).toNat,by omega⟩
  refine ⟨l ++ List.replicate d 0,?_,⟨600,fun k hk=>?_⟩,by rw [List.length_append,List.length_replicate];omega⟩
  · unfold pad_Fill.f
    rw [if_pos (by simp only [List.length_nil];omega)]
    simp only [Option.bind_some,List.nil_append]
    rw [hd,if_pos (by omega),if_pos (by omega)];simp
  · show creelref_PadFill.f k l = _
    unfold creelref_PadFill.f
    simp only [Option.bind_some,List.nil_append,List.length_nil]
    rw [if_pos (by omega),fill_loop d k l (by omega) hd (by omega)]
theorem two_loop_size (s:ByteArray):∀ (k i:Nat) (r:ByteArray × ByteArray × Int),cut_Two.l0 k s i = some r→r.1.size ≤ s.size∧r.2.1.size ≤ s.size
  | 0,i,r,h=>by rw [cut_Two.l0] at h;cases h
  | k + 1,i,r,h=>by
    rw [cut_Two.l0] at h
    split at h
    · split at h
      · obtain rfl:=Option.some.inj h
        show (s.extract 0 i).size ≤ _∧(s.extract (i + 1) s.size).size ≤ _
        rw [ByteArray.size_extract,ByteArray.size_extract]
        omega
      · exact two_loop_size s k _ r h
    · obtain rfl:=Option.some.inj h
      exact ⟨Nat.zero_le _,Nat.zero_le _⟩
theorem two_size (s:ByteArray) (hs:s.size ≤ 140737488351232) (r:ByteArray × ByteArray × Int) (h:Ev (fun k=>cut_Two.f k s) r):r.1.size ≤ s.size∧r.2.1.size ≤ s.size:=by
  obtain ⟨k,h⟩:=h
  have h:=h k (Nat.le_refl _)
  dsimp only at h
  unfold cut_Two.f at h
  split at h
  · split at h
    · obtain rfl:=Option.some.inj h
      exact ⟨Nat.zero_le _,Nat.zero_le _⟩
    · obtain ⟨t,_,h⟩:=Option.bind_eq_some_iff.1 h
      split at h
      · obtain rfl:=Option.some.inj h
        exact ⟨Nat.zero_le _,Nat.zero_le _⟩
      · split at h
        · obtain rfl:=Option.some.inj h
          exact ⟨Nat.zero_le _,Nat.le_refl _⟩
        · exact two_loop_size s k _ r h
  · cases h
theorem pre_same (l:List RR):∃ o:List Int,o.length ≤ 30000∧Ev (fun k=>member_Write.pre k l) o∧∀ out:List Int,Ev (fun k=>creelref_MemberBytes.tail k l out) (o ++ out,0):=by
  by_cases h0:l.length = 0
  · refine ⟨[],Nat.zero_le _,?_,fun out=>?_⟩
    · unfold member_Write.pre
      exact Ev.ifn (by omega) (Ev.now _)
    · unfold creelref_MemberBytes.tail
      exact Ev.ifp h0 (Ev.now _)
  · obtain ⟨s,p1,p2,p3⟩:=pax_same l
    obtain ⟨h,q1,q2,q3⟩:=both (⟨#[64,112,97,120]⟩:ByteArray) (⟨#[]⟩:ByteArray) (⟨#[]⟩:ByteArray) 0 0 0 (s.1.size:Int) 0 120 (⟨#[]⟩:ByteArray) (⟨#[]⟩:ByteArray) (by show 4 ≤ _;omega) (by show 0 ≤ _;omega) (by show 0 ≤ _;omega) (by show 0 ≤ _;omega) (by show 0 ≤ _;omega) (by omega)
    obtain ⟨f,w1,w2,w3⟩:=fill_same (bytesOf s.1) (by rw [bytesOf_length];omega)
    rw [bytesOf_length] at w3
    refine ⟨bytesOf h.1 ++ f,by rw [List.length_append,bytesOf_length];omega,?_,fun out=>?_⟩
    · unfold member_Write.pre
      exact Ev.ifp (by omega) (Ev.bind p1 (Ev.bind q1 (Ev.bind (Ev.const w1) (Ev.ifp ⟨by omega,by omega⟩ (Ev.now _)))))
    · unfold creelref_MemberBytes.tail
      exact Ev.ifn h0 (Ev.bind p2 (Ev.bind q2 (Ev.bind w2 (Ev.ifp ⟨by omega,by omega,by omega⟩ (Ev.now _)))))
theorem write_same (x:EE) (hp:x.f0.size ≤ 140737488351232) (ht:x.f2.size ≤ 140737488351232) (hu:x.f3.f3.size ≤ 140737488351232) (hg:x.f3.f4.size ≤ 140737488351232) (hd:x.f4.length ≤ 140737488351232) :
    ∃ (b:List Int) (e:Int),Ev (fun k=>member_Write.f k x.f0 x.f1 x.f2 x.f3.f0 x.f3.f1 x.f3.f2 x.f3.f3 x.f3.f4 x.f3.f5 x.f3.f6 x.f4) (b,e)∧Ev (fun k=>creelref_MemberBytes.f k x.f0 x.f1 x.f2 x.f3.f0 x.f3.f1 x.f3.f2 x.f3.f3 x.f3.f4 x.f3.f5 x.f3.f6 x.f4) (b,e):=by
  have e1:=plan_ev x.f0 x.f1 x.f2 x.f3.f0 x.f3.f1 x.f3.f2 x.f3.f3 x.f3.f4 x.f3.f5 x.f3.f6 x.f4 hp ht
  have e2:=refentry_ev x.f0 x.f1 x.f2 x.f3.f0 x.f3.f1 x.f3.f2 x.f3.f3 x.f3.f4 x.f3.f5 x.f3.f6 x.f4 hp ht hu hg
  by_cases h0:entryR x.f0 x.f1 x.f2 x.f3.f0 x.f3.f1 x.f3.f2 x.f3.f3 x.f3.f4 x.f3.f5 x.f3.f6 x.f4.length = 0
  · rw [h0] at e1 e2
    obtain ⟨f1,f2,f3,f4,f5⟩:=fine_of _ _ _ _ _ _ _ _ _ _ _ h0
    obtain ⟨g1,g2,g3,g4,g5,g6⟩:=wrong_zero _ _ _ _ _ _ _ f2
    have hx:=fineE x h0
    obtain ⟨_,hps⟩:=path_size f1
    obtain ⟨r,t1,t2⟩:=two_same x.f0 hp
    have ts:=two_size x.f0 hp r t1
    have k1:Ev (fun k=>member_pack.f k x.f0 x.f1 x.f2 x.f3.f0 x.f3.f1 x.f3.f2 x.f3.f3 x.f3.f4 x.f3.f5 x.f3.f6 x.f4) (headV r x,recsV r x):=by
      obtain ⟨K,h⟩:=t1
      exact ⟨K + 31,fun k hk=>pack_val x hx r k (by omega) (h k (by omega))⟩
    have k2:Ev (fun k=>creelref_MemberRecords.f k x.f0 x.f1 x.f2 x.f3.f0 x.f3.f1 x.f3.f2 x.f3.f3 x.f3.f4 x.f3.f5 x.f3.f6 x.f4) (recsV r x,0):=by
      obtain ⟨K,h⟩:=t2
      obtain ⟨K',h'⟩:=e2
      exact ⟨K + K' + 31,fun k hk=>recs_val x hx r k (by omega) (h' k (by omega)) (h k (by omega))⟩
    have k3:Ev (fun k=>creelref_MemberHead.f k x.f0 x.f1 x.f2 x.f3.f0 x.f3.f1 x.f3.f2 x.f3.f3 x.f3.f4 x.f3.f5 x.f3.f6 x.f4) (tup (headV r x)):=by
      obtain ⟨K,h⟩:=t2
      obtain ⟨K',h'⟩:=e2
      exact ⟨K + K' + 31,fun k hk=>head_val x hx r k (by omega) (h' k (by omega)) (h k (by omega))⟩
    obtain ⟨o,o1,o2,o3⟩:=pre_same (recsV r x)
    obtain ⟨hd_,q1,q2,q3⟩:=both (headV r x).f0 (headV r x).f1 (headV r x).f2 (headV r x).f3 (headV r x).f4 (headV r x).f5 (headV r x).f6 (headV r x).f7 (headV r x).f8 (headV r x).f9 (headV r x).f10 (by have:=nm_size x.f0 r (by omega);show (nm r).size ≤ _;omega) (by show r.1.size ≤ _;omega) (by show ByteArray.size (if _ then _ else _) ≤ _;split;(show 5 ≤ _;omega);omega) (by show ByteArray.size (if _ then _ else _) ≤ _;split;(show 0 ≤ _;omega);omega) (by show ByteArray.size (if _ then _ else _) ≤ _;split;(show 0 ≤ _;omega);omega) (bt_range _ _)
    obtain ⟨f,w1,w2,w3⟩:=fill_same x.f4 hd
    refine ⟨(o ++ bytesOf hd_.1) ++ f,0,?_,?_⟩
    · unfold member_Write.f
      exact Ev.bind e1 (Ev.ifp rfl (Ev.bind k1 (Ev.bind o2 (Ev.bind q1 (Ev.bind (Ev.const w1) (Ev.ifp ⟨by omega,by omega,by omega⟩ (Ev.now _)))))))
    · unfold creelref_MemberBytes.f
      rw [List.append_assoc]
      exact Ev.bind k3 (Ev.ifp rfl (Ev.bind k2 (Ev.bind q2 (Ev.bind w2 (Ev.ifp ⟨trivial,by omega,by omega⟩ (o3 _))))))
  · refine ⟨[],entryR x.f0 x.f1 x.f2 x.f3.f0 x.f3.f1 x.f3.f2 x.f3.f3 x.f3.f4 x.f3.f5 x.f3.f6 x.f4.length,?_,?_⟩
    · unfold member_Write.f
      exact Ev.bind e1 (Ev.ifn h0 (Ev.now _))
    · have m1:Ev (fun k=>creelref_MemberRecords.f k x.f0 x.f1 x.f2 x.f3.f0 x.f3.f1 x.f3.f2 x.f3.f3 x.f3.f4 x.f3.f5 x.f3.f6 x.f4) ([],entryR x.f0 x.f1 x.f2 x.f3.f0 x.f3.f1 x.f3.f2 x.f3.f3 x.f3.f4 x.f3.f5 x.f3.f6 x.f4.length):=by
        unfold creelref_MemberRecords.f
        exact Ev.bind e2 (Ev.ifn h0 (Ev.now _))
      have m2:Ev (fun k=>creelref_MemberHead.f k x.f0 x.f1 x.f2 x.f3.f0 x.f3.f1 x.f3.f2 x.f3.f3 x.f3.f4 x.f3.f5 x.f3.f6 x.f4) ((⟨#[]⟩:ByteArray),(⟨#[]⟩:ByteArray),(⟨#[]⟩:ByteArray),0,0,0,0,0,0,(⟨#[]⟩:ByteArray),(⟨#[]⟩:ByteArray),entryR x.f0 x.f1 x.f2 x.f3.f0 x.f3.f1 x.f3.f2 x.f3.f3 x.f3.f4 x.f3.f5 x.f3.f6 x.f4.length):=by
        unfold creelref_MemberHead.f
        exact Ev.bind m1 (Ev.ifn h0 (Ev.now _))
      unfold creelref_MemberBytes.f
      exact Ev.bind m2 (Ev.ifn h0 (Ev.now _))
end Go.Proofs.YtenbelecmmpdgaaGreatDoor.Q
end
section
namespace Go.Proofs.YtenbelecmmpdgaaGreatDoor.PuMemberWrites
set_option linter.unusedVariables false
set_option linter.unusedSimpArgs false
open Go.RowKit Go.Proofs.YtenbelecmmpdgaaGreatDoor.All Go.Proofs.YtenbelecmmpdgaaGreatDoor.GMemberWrites Go.Proofs.YtenbelecmmpdgaaGreatDoorW.PrintWords Go.Proofs.YtenbelecmmpdgaaGreatDoorW.PrintLast Go.Proofs.YtenbelecmmpdgaaGreatDoorW.PrintMore Go.Proofs.YtenbelecmmpdgaaGreatDoorW.PureBase Go.Proofs.YtenbelecmmpdgaaGreatDoor.Q
theorem pure:Pure:=by
  intro x gx
  obtain ⟨hp,_,ht,gm,gd⟩:=gx
  obtain ⟨_,_,_,hu,hg,_⟩:=gm
  obtain ⟨b,e,a1,a2⟩:=write_same x hp ht hu hg (by have:=gd.1;omega)
  obtain ⟨K1,e1⟩:=a1
  obtain ⟨K2,e2⟩:=a2
  have c1:=e1 (K1 + K2) (by omega)
  have c2:=e2 (K1 + K2) (by omega)
  dsimp only at c1 c2
  refine ⟨K1 + K2,?_⟩
  unfold creellaw_MemberWrites.f
  rw [c1,c2]
  simp [creellaw_sameBytes.f]
end Go.Proofs.YtenbelecmmpdgaaGreatDoor.PuMemberWrites
end
section
namespace Go.Proofs.YtenbelecmmpdgaaGreatDoor.memberWrites
open Go.ChangeShapes Go.WideShapes Go.ChangeAt Go.RowKit Go.Proofs.YtenbelecmmpdgaaGreatDoorW.PrintWords Go.Proofs.YtenbelecmmpdgaaGreatDoorW.Opens
open Go.ChangeMaps (open_string shut_string)
set_option linter.unusedVariables false
theorem own:ownKnob Tryz.prog.godebug = none:=by kernel_rfl
theorem laidOut:laidOutB Tryz.prog = true:=by kernel_rfl
set_option maxRecDepth 100000 in
theorem contract (H:Type) (enc:TypeId × Value→H) (W:World) (base:Nat) (args:Array Value) (ds gs:List (DataW H)) (before:List MemPlace)
    (hval0:∀ (j:Nat) t v,Tryz.f3.params[j]? = some t→args[j]? = some v→Value.okWide Tryz.prog W .any base t v)
    (hW:DataW.Whole enc Tryz.prog Tryz.f3.params.toList Rows.memberWritesSpec.vars false W args.toList ds gs before)
    (hsz0:(DataW.weightsEach Tryz.prog (Tryz.f3.params.toList ++ Rows.memberWritesSpec.plain.varTypes Tryz.prog) (ds ++ gs)).all (· ≤ reachBytes) = true) (hL:laidMetH Tryz.prog Rows.memberWritesRow.laid W) (hsh:W.ShapedOpen Tryz.prog) :
    Calls Tryz.prog 3 args W fun e W'=>∃ v,e = .returned v∧Rows.memberWritesSpec.post enc Tryz.prog Tryz.f3 false true false false W args v W':=by
  have hsz:=hsz0
  have hval:=hval0
  have hW':=hW
  obtain ⟨p,q,hA0,hV,rfl,hfz,hnd⟩:=hW
  have hA:DataW.TrodAll enc Tryz.prog W 0 (fun _=>true) true Tryz.f3.params.toList args.toList ds p:=hA0
  rw [Tryz.params3] at hA hval hsz
  obtain ⟨v0,vs0,d0,ds0,p0,q0,hargs,rfl,rfl,h0,r0⟩:=trodAll_cons hA
  obtain ⟨rfl,rfl,rfl⟩:=trodAll_nil r0
  obtain rfl:args = #[v0]:=by cases args;simp_all
  obtain ⟨rfl,rfl⟩:=trodVars_none hV
  obtain ⟨cs0,rfl,sz0⟩:=okWide_struct Tryz.underlying26 (hval 0 26 v0 rfl rfl)
  have m0:=h0
  have lt0:∀ x ∈ p0,x.block < W.heap.size:=by obtain ⟨m,hm⟩:=m0;exact DataW.trod_lt m _ _ _ hm
  obtain ⟨x0,hk0,g0⟩:=opens_at GMemberWrites.opens26 hsz (j:=0) rfl rfl h0
  obtain ⟨A0_10,c0_10,e0,hc0_10,hr0_10⟩:=All.k26_open hk0
  have f0:cs0 = #[.string x0.f0,.int .i64 x0.f1,.string x0.f2,.int .i64 x0.f3.f0,.int .i64 x0.f3.f1,.int .i64 x0.f3.f2,.string x0.f3.f3,.string x0.f3.f4,.int .i64 x0.f3.f5,.int .i64 x0.f3.f6,.slice A0_10 x0.f4.length c0_10]:=Array.ext' (by simpa [Value.cells] using e0)
  subst f0
  have htab:Go.Proofs.YtenbelecmmpdgaaGreatDoorW.Mine.Tab W:=Lib.tabIs_of_head (g:=3) (t:=215) (e:=186) (n:=20) (by kernel_rfl) (by kernel_rfl) Tryz.underlying215 Tryz.underlying186 (by kernel_rfl) (by kernel_rfl) (Go.Proofs.YtenbelecmmpdgaaGreatDoorW.Mine.laidMet_tail (Go.Proofs.YtenbelecmmpdgaaGreatDoorW.Mine.laidMet_tail hL))
  clear hA0 hval0 hsz0 hsz
  refine (GMemberWrites.walk PuMemberWrites.pure x0 W g0 hr0_10 hc0_10 ⟨htab⟩).mono fun e W' ⟨he,bel⟩=>?_
  subst he
  exact ⟨_,rfl,_,_,_,[],_,[],hW',trodAll_mk1 (shut_bool Tryz.underlying4 _),(trodAll_cons_mk (Below.trod laidOut (by kernel_rfl) (of_decide_eq_true (by kernel_rfl)) m0 bel lt0) trodAll_mk0),rfl,bel.frame _,fun h=>by cases h⟩
set_option maxRecDepth 100000 in
noncomputable def laidWorld (os:Os):World :=
  { World.holding Tryz.prog os ⟨#[],#[],[]⟩ with heap:=((((((World.holding Tryz.prog os ⟨#[],#[],[]⟩).heap.modify 6 fun
      | .cells _ t frozen => .cells #[.int .u8 0,.int .u8 1,.int .u8 28,.int .u8 2,.int .u8 29,.int .u8 14,.int .u8 24,.int .u8 3,.int .u8 30,.int .u8 22,.int .u8 20,.int .u8 15,.int .u8 25,.int .u8 17,.int .u8 4,.int .u8 8,.int .u8 31,.int .u8 27,.int .u8 13,.int .u8 23,.int .u8 21,.int .u8 19,.int .u8 16,.int .u8 7,.int .u8 26,.int .u8 12,.int .u8 18,.int .u8 6,.int .u8 11,.int .u8 5,.int .u8 10,.int .u8 9] t frozen
      | o=>o).modify 7 fun
      | .cells _ t frozen => .cells #[.int .u8 0,.int .u8 1,.int .u8 56,.int .u8 2,.int .u8 57,.int .u8 49,.int .u8 28,.int .u8 3,.int .u8 61,.int .u8 58,.int .u8 42,.int .u8 50,.int .u8 38,.int .u8 29,.int .u8 17,.int .u8 4,.int .u8 62,.int .u8 47,.int .u8 59,.int .u8 36,.int .u8 45,.int .u8 43,.int .u8 51,.int .u8 22,.int .u8 53,.int .u8 39,.int .u8 33,.int .u8 30,.int .u8 24,.int .u8 18,.int .u8 12,.int .u8 5,.int .u8 63,.int .u8 55,.int .u8 48,.int .u8 27,.int .u8 60,.int .u8 41,.int .u8 37,.int .u8 16,.int .u8 46,.int .u8 35,.int .u8 44,.int .u8 21,.int .u8 52,.int .u8 32,.int .u8 23,.int .u8 11,.int .u8 54,.int .u8 26,.int .u8 40,.int .u8 15,.int .u8 34,.int .u8 20,.int .u8 31,.int .u8 10,.int .u8 25,.int .u8 14,.int .u8 19,.int .u8 9,.int .u8 13,.int .u8 8,.int .u8 7,.int .u8 6] t frozen
      | o=>o).modify 3 fun
      | .cells _ t frozen => .cells #[.int .u64 1,.int .u64 10,.int .u64 100,.int .u64 1000,.int .u64 10000,.int .u64 100000,.int .u64 1000000,.int .u64 10000000,.int .u64 100000000,.int .u64 1000000000,.int .u64 10000000000,.int .u64 100000000000,.int .u64 1000000000000,.int .u64 10000000000000,.int .u64 100000000000000,.int .u64 1000000000000000,.int .u64 10000000000000000,.int .u64 100000000000000000,.int .u64 1000000000000000000,.int .u64 10000000000000000000] t frozen
      | o=>o).modify 5 fun
      | .cells _ t frozen => .cells #[.int .u8 128,.int .u8 191,.int .u8 160,.int .u8 191,.int .u8 128,.int .u8 159,.int .u8 144,.int .u8 191,.int .u8 128,.int .u8 143,.int .u8 0,.int .u8 0,.int .u8 0,.int .u8 0,.int .u8 0,.int .u8 0,.int .u8 0,.int .u8 0,.int .u8 0,.int .u8 0,.int .u8 0,.int .u8 0,.int .u8 0,.int .u8 0,.int .u8 0,.int .u8 0,.int .u8 0,.int .u8 0,.int .u8 0,.int .u8 0,.int .u8 0,.int .u8 0] t frozen
      | o=>o).modify 4 fun
      | .cells _ t frozen => .cells #[.int .u8 240,.int .u8 240,.int .u8 240,.int .u8 240,.int .u8 240,.int .u8 240,.int .u8 240,.int .u8 240,.int .u8 240,.int .u8 240,.int .u8 240,.int .u8 240,.int .u8 240,.int .u8 240,.int .u8 240,.int .u8 240,.int .u8 240,.int .u8 240,.int .u8 240,.int .u8 240,.int .u8 240,.int .u8 240,.int .u8 240,.int .u8 240,.int .u8 240,.int .u8 240,.int .u8 240,.int .u8 240,.int .u8 240,.int .u8 240,.int .u8 240,.int .u8 240,.int .u8 240,.int .u8 240,.int .u8 240,.int .u8 240,.int .u8 240,.int .u8 240,.int .u8 240,.int .u8 240,.int .u8 240,.int .u8 240,.int .u8 240,.int .u8 240,.int .u8 240,.int .u8 240,.int .u8 240,.int .u8 240,.int .u8 240,.int .u8 240,.int .u8 240,.int .u8 240,.int .u8 240,.int .u8 240,.int .u8 240,.int .u8 240,.int .u8 240,.int .u8 240,.int .u8 240,.int .u8 240,.int .u8 240,.int .u8 240,.int .u8 240,.int .u8 240,.int .u8 240,.int .u8 240,.int .u8 240,.int .u8 240,.int .u8 240,.int .u8 240,.int .u8 240,.int .u8 240,.int .u8 240,.int .u8 240,.int .u8 240,.int .u8 240,.int .u8 240,.int .u8 240,.int .u8 240,.int .u8 240,.int .u8 240,.int .u8 240,.int .u8 240,.int .u8 240,.int .u8 240,.int .u8 240,.int .u8 240,.int .u8 240,.int .u8 240,.int .u8 240,.int .u8 240,.int .u8 240,.int .u8 240,.int .u8 240,.int .u8 240,.int .u8 240,.int .u8 240,.int .u8 240,.int .u8 240,.int .u8 240,.int .u8 240,.int .u8 240,.int .u8 240,.int .u8 240,.int .u8 240,.int .u8 240,.int .u8 240,.int .u8 240,.int .u8 240,.int .u8 240,.int .u8 240,.int .u8 240,.int .u8 240,.int .u8 240,.int .u8 240,.int .u8 240,.int .u8 240,.int .u8 240,.int .u8 240,.int .u8 240,.int .u8 240,.int .u8 240,.int .u8 240,.int .u8 240,.int .u8 240,.int .u8 240,.int .u8 240,.int .u8 240,.int .u8 241,.int .u8 241,.int .u8 241,.int .u8 241,.int .u8 241,.int .u8 241,.int .u8 241,.int .u8 241,.int .u8 241,.int .u8 241,.int .u8 241,.int .u8 241,.int .u8 241,.int .u8 241,.int .u8 241,.int .u8 241,.int .u8 241,.int .u8 241,.int .u8 241,.int .u8 241,.int .u8 241,.int .u8 241,.int .u8 241,.int .u8 241,.int .u8 241,.int .u8 241,.int .u8 241,.int .u8 241,.int .u8 241,.int .u8 241,.int .u8 241,.int .u8 241,.int .u8 241,.int .u8 241,.int .u8 241,.int .u8 241,.int .u8 241,.int .u8 241,.int .u8 241,.int .u8 241,.int .u8 241,.int .u8 241,.int .u8 241,.int .u8 241,.int .u8 241,.int .u8 241,.int .u8 241,.int .u8 241,.int .u8 241,.int .u8 241,.int .u8 241,.int .u8 241,.int .u8 241,.int .u8 241,.int .u8 241,.int .u8 241,.int .u8 241,.int .u8 241,.int .u8 241,.int .u8 241,.int .u8 241,.int .u8 241,.int .u8 241,.int .u8 241,.int .u8 241,.int .u8 241,.int .u8 2,.int .u8 2,.int .u8 2,.int .u8 2,.int .u8 2,.int .u8 2,.int .u8 2,.int .u8 2,.int .u8 2,.int .u8 2,.int .u8 2,.int .u8 2,.int .u8 2,.int .u8 2,.int .u8 2,.int .u8 2,.int .u8 2,.int .u8 2,.int .u8 2,.int .u8 2,.int .u8 2,.int .u8 2,.int .u8 2,.int .u8 2,.int .u8 2,.int .u8 2,.int .u8 2,.int .u8 2,.int .u8 2,.int .u8 2,.int .u8 19,.int .u8 3,.int .u8 3,.int .u8 3,.int .u8 3,.int .u8 3,.int .u8 3,.int .u8 3,.int .u8 3,.int .u8 3,.int .u8 3,.int .u8 3,.int .u8 3,.int .u8 35,.int .u8 3,.int .u8 3,.int .u8 52,.int .u8 4,.int .u8 4,.int .u8 4,.int .u8 68,.int .u8 241,.int .u8 241,.int .u8 241,.int .u8 241,.int .u8 241,.int .u8 241,.int .u8 241,.int .u8 241,.int .u8 241,.int .u8 241,.int .u8 241] t frozen
      | o=>o) }
theorem laid_met (os:Os):laidMet Tryz.prog Rows.memberWritesRow.laid ((laidWorld os).forCall (fun _ _=>0) ⟨#[],#[.agg #[.string ByteArray.empty,.int .i64 0,.string ByteArray.empty,.int .i64 0,.int .i64 0,.int .i64 0,.string ByteArray.empty,.string ByteArray.empty,.int .i64 0,.int .i64 0,.slice none 0 0]],[]⟩).memory :=
  laidMet_of_run' 8 (by kernel_rfl) (by kernel_rfl)
theorem reads (os:Os) {H:Type} (enc:TypeId × Value→H):∃ places,DataW.whole enc Tryz.prog ((laidWorld os).forCall (fun _ _=>0) ⟨#[],#[.agg #[.string ByteArray.empty,.int .i64 0,.string ByteArray.empty,.int .i64 0,.int .i64 0,.int .i64 0,.string ByteArray.empty,.string ByteArray.empty,.int .i64 0,.int .i64 0,.slice none 0 0]],[]⟩).memory Tryz.f3.params.toList Rows.memberWritesSpec.vars false (#[.agg #[.string ByteArray.empty,.int .i64 0,.string ByteArray.empty,.int .i64 0,.int .i64 0,.int .i64 0,.string ByteArray.empty,.string ByteArray.empty,.int .i64 0,.int .i64 0,.slice none 0 0]]:Array Value).toList 8 = some ([.agg [.lit (.string []),.lit (.int .i64 0),.lit (.string []),.agg [.lit (.int .i64 0),.lit (.int .i64 0),.lit (.int .i64 0),.lit (.string []),.lit (.string []),.lit (.int .i64 0),.lit (.int .i64 0)],.nil]],[],places) :=
  ⟨[],by kernel_rfl⟩
set_option maxRecDepth 100000 in
theorem lifted (os:Os) (started:os.Started) (H:Type) (enc:TypeId × Value→H) (F:Stop.Interp) :
    ReturnsInHanded {} Tryz.checked os 3 .any ((OpenSpec.ofChange Rows.memberWritesSpec).preRow enc Tryz.prog Tryz.f3 Rows.memberWritesRow.domain false Rows.memberWritesRow.laid) (((OpenSpec.ofChange Rows.memberWritesSpec).at F).post enc Tryz.prog Tryz.f3 false true false false):=by
  obtain ⟨places,hx⟩:=reads os enc
  refine returnsInHanded_of_row (C:=Tryz.checked) (s:=OpenSpec.ofChange Rows.memberWritesSpec) own started (by kernel_rfl) Tryz.func3
    (witness_row_at (enc:=enc) (C:=Tryz.checked) false (laidWorld os) #[.agg #[.string ByteArray.empty,.int .i64 0,.string ByteArray.empty,.int .i64 0,.int .i64 0,.int .i64 0,.string ByteArray.empty,.string ByteArray.empty,.int .i64 0,.int .i64 0,.slice none 0 0]] rfl (by kernel_rfl) (by kernel_rfl) (by kernel_rfl)
      (OpenSpec.preRow_of_cond 8 hx (by kernel_rfl) (fun k hk=>by cases hk) (by kernel_rfl) (laid_met os))) ?_
  intro W base args ds gs before hval hW _ hcond hsz hL hsh _
  exact contract H enc W base args ds gs before hval hW hsz hL hsh
theorem proved:Rows.MemberWritesSaid :=
  OpenClaim.holds_of_cond 3 Tryz.f3 rfl rfl rfl rfl rfl rfl rfl ⟨rfl,rfl,rfl,rfl,rfl⟩ rfl rfl rfl rfl rfl (by kernel_rfl) Tryz.func3 (by kernel_rfl)
    (of_decide_eq_true (by kernel_rfl)) (by unfold Func.isWrapper;first|(rw [if_pos (by decide +kernel)];kernel_rfl)|(rw [if_neg (by decide +kernel)];exact ⟨rfl,rfl⟩))
    (fun os started H enc _ F=>by rw [OpenClaim.pre_eq_preRow];exact lifted os started H enc F)
theorem plain (f : FuncId) (fn : Func) (hf : Tryz.pinned.checked.prog.funcNamed "creel/creellaw.MemberWrites" = some f) (hfn : Tryz.pinned.checked.prog.funcs[f]? = some fn) :
    true = Tryz.pinned.checked.prog.looks []∧∀ (j:Nat) t,fn.params[j]? = some t→Tryz.pinned.checked.prog.wantsStandIn t = false:=by
  obtain rfl : f = 3 := Option.some.inj ((show Tryz.prog.funcNamed "creel/creellaw.MemberWrites" = some 3 by kernel_rfl).symm.trans hf) |>.symm
  obtain rfl:fn = Tryz.f3:=(Option.some.inj (Tryz.func3.symm.trans hfn)).symm
  refine ⟨by kernel_rfl,fun j t ht=>?_⟩
  rw [Tryz.params3] at ht
  have hm:=Array.mem_of_getElem? ht
  simp only [List.mem_toArray,List.mem_cons,List.not_mem_nil,or_false] at hm
  rcases hm with rfl
  · exact (show Tryz.prog.wantsStandIn 26 = false by kernel_rfl)
theorem card:Rows.MemberWritesCardSaid :=
  Claim7.holds_tied_plain_at .later [] _ _ _ _ proved (fun _ h=>by cases h) (by kernel_rfl) (fun _ h=>by cases h) memberWrites_row_tie rfl ⟨rfl,rfl⟩ (by kernel_rfl) rfl plain (by kernel_rfl)
#print axioms card
end Go.Proofs.YtenbelecmmpdgaaGreatDoor.memberWrites
namespace Go.Proofs.YtenbelecmmpdgaaGreatDoor
theorem memberWrites_holds:Rows.MemberWritesCardSaid:=memberWrites.card
end Go.Proofs.YtenbelecmmpdgaaGreatDoor
end
