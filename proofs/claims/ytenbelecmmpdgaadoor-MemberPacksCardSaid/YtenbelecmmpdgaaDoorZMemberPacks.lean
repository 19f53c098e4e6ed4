/- Made by programs of the prover: walks of Go functions, the words that they use, and plain laws, each text in a section of its own; no condition of its own. -/
import Derived.Test.YtenbelecmmpdgaaDoorRows
import Derived.Test.YtenbelecmmpdgaaDoorCards
import Derived.Test.YtenbelecmmpdgaaDoorTie
import Derived.WalkKit
import Derived.ProofKit
import Derived.OpenShut
import Derived.ShutString
import Derived.ChangeOld
import Derived.Below
import Derived.SizedLaws
import Derived.WideShapes
import Derived.Deep.DeepHandedRow
import Derived.Lib.LaidTab
import Derived.Test.YtenbelecmmpdgaaDoorZMemberPacks7
section
namespace Go.Proofs.YtenbelecmmpdgaaDoor.PuMemberPacks
set_option linter.unusedVariables false
set_option linter.unusedSimpArgs false
open Go.RowKit Go.Proofs.YtenbelecmmpdgaaDoor.All Go.Proofs.YtenbelecmmpdgaaDoor.GMemberPacks Go.Proofs.YtenbelecmmpdgaaDoorW.PrintWords Go.Proofs.YtenbelecmmpdgaaDoorW.PrintLast Go.Proofs.YtenbelecmmpdgaaDoorW.PrintMore Go.Proofs.YtenbelecmmpdgaaDoorW.PureBase Go.Proofs.YtenbelecmmpdgaaDoor.Q
theorem recs_from (l:List S43) (hl:l.length ≤ 1099511627776) (d:Nat):∀ (k i:Nat),i + d = l.length→d < k→api_Record.l0 k l l (l.length:Int) (i:Int) = some true:=by
  induction d with
  | zero =>
    intro k i hi hk
    obtain ⟨k,rfl⟩:∃ q,k = q + 1:=⟨k - 1,by omega⟩
    simp only [api_Record.l0]
    rw [if_neg (by omega)]
  | succ d ih =>
    intro k i hi hk
    obtain ⟨k,rfl⟩:∃ q,k = q + 1:=⟨k - 1,by omega⟩
    have H:=ih k (i + 1) (by omega) (by omega)
    have e1:wrap64 ((i:Int) + 1) = ((i + 1:Nat):Int):=by rw [wrap_nat (by omega) (by omega)];rfl
    simp only [api_Record.l0]
    rw [e1]
    clear e1
    rw [if_pos (show (i:Int) < (l.length:Int) by omega),if_pos (show (0:Int) ≤ (i:Int) by omega),if_pos (show (i:Int) < (l.length:Int) by omega),if_pos (show (i:Int) < (l.length:Int) by omega),if_neg (by simp)]
    exact H
theorem recs_refl (l:List S43) (hl:l.length ≤ 1099511627776) (k:Nat) (hk:l.length < k):creellaw_sameRecords.f k l l = some true:=by
  unfold creellaw_sameRecords.f api_Record.f
  rw [if_pos rfl]
  have:=recs_from l hl l.length k 0 (by omega) hk
  rw [show ((0:Nat):Int) = 0 from rfl] at this
  rw [this]
  rfl
theorem pure:Pure:=by
  intro x gx
  obtain ⟨hp,_,ht,gm,gd⟩:=gx
  obtain ⟨_,_,_,hu,hg,_⟩:=gm
  have e1:=plan_ev x.f0 x.f1 x.f2 x.f3.f0 x.f3.f1 x.f3.f2 x.f3.f3 x.f3.f4 x.f3.f5 x.f3.f6 x.f4 hp ht
  have e2:=refentry_ev x.f0 x.f1 x.f2 x.f3.f0 x.f3.f1 x.f3.f2 x.f3.f3 x.f3.f4 x.f3.f5 x.f3.f6 x.f4 hp ht hu hg
  have main:∃ (l:List RR) (h:HH) (e:Int),l.length < 8∧Ev (fun k=>member_Records.f k x.f0 x.f1 x.f2 x.f3.f0 x.f3.f1 x.f3.f2 x.f3.f3 x.f3.f4 x.f3.f5 x.f3.f6 x.f4) (l,e)∧Ev (fun k=>creelref_MemberRecords.f k x.f0 x.f1 x.f2 x.f3.f0 x.f3.f1 x.f3.f2 x.f3.f3 x.f3.f4 x.f3.f5 x.f3.f6 x.f4) (l,e)∧Ev (fun k=>member_Head.f k x.f0 x.f1 x.f2 x.f3.f0 x.f3.f1 x.f3.f2 x.f3.f3 x.f3.f4 x.f3.f5 x.f3.f6 x.f4) (h.f0,h.f1,h.f2,h.f3,h.f4,h.f5,h.f6,h.f7,h.f8,h.f9,h.f10,e)∧Ev (fun k=>creelref_MemberHead.f k x.f0 x.f1 x.f2 x.f3.f0 x.f3.f1 x.f3.f2 x.f3.f3 x.f3.f4 x.f3.f5 x.f3.f6 x.f4) (h.f0,h.f1,h.f2,h.f3,h.f4,h.f5,h.f6,h.f7,h.f8,h.f9,h.f10,e):=by
    by_cases h0:entryR x.f0 x.f1 x.f2 x.f3.f0 x.f3.f1 x.f3.f2 x.f3.f3 x.f3.f4 x.f3.f5 x.f3.f6 x.f4.length = 0
    · rw [h0] at e1 e2
      have hx:=fineE x h0
      obtain ⟨r,t1,t2⟩:=two_same x.f0 hp
      have k1:Ev (fun k=>member_pack.f k x.f0 x.f1 x.f2 x.f3.f0 x.f3.f1 x.f3.f2 x.f3.f3 x.f3.f4 x.f3.f5 x.f3.f6 x.f4) (headV r x,recsV r x):=by
        obtain ⟨K,h⟩:=t1
        exact ⟨K + 31,fun k hk=>pack_val x hx r k (by omega) (h k (by omega))⟩
      refine ⟨recsV r x,headV r x,0,recs_len r x,?_,?_,?_,?_⟩
      · unfold member_Records.f
        exact Ev.bind e1 (Ev.ifp rfl (Ev.bind k1 (Ev.now _)))
      · obtain ⟨K,h⟩:=t2
        obtain ⟨K',h'⟩:=e2
        exact ⟨K + K' + 31,fun k hk=>recs_val x hx r k (by omega) (h' k (by omega)) (h k (by omega))⟩
      · unfold member_Head.f
        exact Ev.bind e1 (Ev.ifp rfl (Ev.bind k1 (Ev.now _)))
      · obtain ⟨K,h⟩:=t2
        obtain ⟨K',h'⟩:=e2
        exact ⟨K + K' + 31,fun k hk=>head_val x hx r k (by omega) (h' k (by omega)) (h k (by omega))⟩
    · have m1:Ev (fun k=>creelref_MemberRecords.f k x.f0 x.f1 x.f2 x.f3.f0 x.f3.f1 x.f3.f2 x.f3.f3 x.f3.f4 x.f3.f5 x.f3.f6 x.f4) ([],entryR x.f0 x.f1 x.f2 x.f3.f0 x.f3.f1 x.f3.f2 x.f3.f3 x.f3.f4 x.f3.f5 x.f3.f6 x.f4.length):=by
        unfold creelref_MemberRecords.f
        exact Ev.bind e2 (Ev.ifn h0 (Ev.now _))
      refine ⟨[],⟨(⟨#[]⟩:ByteArray),(⟨#[]⟩:ByteArray),(⟨#[]⟩:ByteArray),0,0,0,0,0,0,(⟨#[]⟩:ByteArray),(⟨#[]⟩:ByteArray)⟩,_,by simp,?_,m1,?_,?_⟩
      · unfold member_Records.f
        exact Ev.bind e1 (Ev.ifn h0 (Ev.now _))
      · unfold member_Head.f
        exact Ev.bind e1 (Ev.ifn h0 (Ev.now _))
      · unfold creelref_MemberHead.f
        exact Ev.bind m1 (Ev.ifn h0 (Ev.now _))
  obtain ⟨l,h,e,hl,a1,a2,a3,a4⟩:=main
  have a5:Ev (fun k=>creellaw_sameRecords.f k l l) true:=⟨l.length + 1,fun k hk=>recs_refl l (by omega) k (by omega)⟩
  have g:Ev (fun k=>creellaw_MemberPacks.f k x.f0 x.f1 x.f2 x.f3.f0 x.f3.f1 x.f3.f2 x.f3.f3 x.f3.f4 x.f3.f5 x.f3.f6 x.f4) true:=by
    unfold creellaw_MemberPacks.f
    refine Ev.bind a1 (Ev.bind a3 (Ev.bind a2 (Ev.bind a4 (Ev.bind a5 (Ev.ifp rfl (Ev.ifp rfl (Ev.ifp (by simp) (Ev.const (by simp)))))))))
  obtain ⟨k,hk⟩:=g
  exact ⟨k,hk k (Nat.le_refl _)⟩
end Go.Proofs.YtenbelecmmpdgaaDoor.PuMemberPacks
end
section
namespace Go.Proofs.YtenbelecmmpdgaaDoor.memberPacks
open Go.ChangeShapes Go.WideShapes Go.ChangeAt Go.RowKit Go.Proofs.YtenbelecmmpdgaaDoorW.PrintWords Go.Proofs.YtenbelecmmpdgaaDoorW.Opens
open Go.ChangeMaps (open_string shut_string)
set_option linter.unusedVariables false
theorem own:ownKnob Tryd.prog.godebug = none:=by kernel_rfl
theorem laidOut:laidOutB Tryd.prog = true:=by kernel_rfl
set_option maxRecDepth 100000 in
theorem contract (H:Type) (enc:TypeId × Value→H) (W:World) (base:Nat) (args:Array Value) (ds gs:List (DataW H)) (before:List MemPlace)
    (hval0:∀ (j:Nat) t v,Tryd.f3.params[j]? = some t→args[j]? = some v→Value.okWide Tryd.prog W .any base t v)
    (hW:DataW.Whole enc Tryd.prog Tryd.f3.params.toList Rows.memberPacksSpec.vars false W args.toList ds gs before)
    (hsz0:(DataW.weightsEach Tryd.prog (Tryd.f3.params.toList ++ Rows.memberPacksSpec.plain.varTypes Tryd.prog) (ds ++ gs)).all (· ≤ reachBytes) = true) (hL:laidMetH Tryd.prog Rows.memberPacksRow.laid W) (hsh:W.ShapedOpen Tryd.prog) :
    Calls Tryd.prog 3 args W fun e W'=>∃ v,e = .returned v∧Rows.memberPacksSpec.post enc Tryd.prog Tryd.f3 false true false false W args v W':=by
  have hsz:=hsz0
  have hval:=hval0
  have hW':=hW
  obtain ⟨p,q,hA0,hV,rfl,hfz,hnd⟩:=hW
  have hA:DataW.TrodAll enc Tryd.prog W 0 (fun _=>true) true Tryd.f3.params.toList args.toList ds p:=hA0
  rw [Tryd.params3] at hA hval hsz
  obtain ⟨v0,vs0,d0,ds0,p0,q0,hargs,rfl,rfl,h0,r0⟩:=trodAll_cons hA
  obtain ⟨rfl,rfl,rfl⟩:=trodAll_nil r0
  obtain rfl:args = #[v0]:=by cases args;simp_all
  obtain ⟨rfl,rfl⟩:=trodVars_none hV
  obtain ⟨cs0,rfl,sz0⟩:=okWide_struct Tryd.underlying26 (hval 0 26 v0 rfl rfl)
  have m0:=h0
  have lt0:∀ x ∈ p0,x.block < W.heap.size:=by obtain ⟨m,hm⟩:=m0;exact DataW.trod_lt m _ _ _ hm
  obtain ⟨x0,hk0,g0⟩:=opens_at GMemberPacks.opens26 hsz (j:=0) rfl rfl h0
  obtain ⟨A0_10,c0_10,e0,hc0_10,hr0_10⟩:=All.k26_open hk0
  have f0:cs0 = #[.string x0.f0,.int .i64 x0.f1,.string x0.f2,.int .i64 x0.f3.f0,.int .i64 x0.f3.f1,.int .i64 x0.f3.f2,.string x0.f3.f3,.string x0.f3.f4,.int .i64 x0.f3.f5,.int .i64 x0.f3.f6,.slice A0_10 x0.f4.length c0_10]:=Array.ext' (by simpa [Value.cells] using e0)
  subst f0
  have htab:Go.Proofs.YtenbelecmmpdgaaDoorW.Mine.Tab W:=Lib.tabIs_of_head (g:=1) (t:=109) (e:=90) (n:=20) (by kernel_rfl) (by kernel_rfl) Tryd.underlying109 Tryd.underlying90 (by kernel_rfl) (by kernel_rfl) (Go.Proofs.YtenbelecmmpdgaaDoorW.Mine.laidMet_tail (Go.Proofs.YtenbelecmmpdgaaDoorW.Mine.laidMet_tail hL))
  clear hA0 hval0 hsz0 hsz
  refine (GMemberPacks.walk PuMemberPacks.pure x0 W g0 hr0_10 hc0_10 ⟨htab⟩).mono fun e W' ⟨he,bel⟩=>?_
  subst he
  exact ⟨_,rfl,_,_,_,[],_,[],hW',trodAll_mk1 (shut_bool Tryd.underlying4 _),(trodAll_cons_mk (Below.trod laidOut (by kernel_rfl) (of_decide_eq_true (by kernel_rfl)) m0 bel lt0) trodAll_mk0),rfl,bel.frame _,fun h=>by cases h⟩
set_option maxRecDepth 100000 in
noncomputable def laidWorld (os:Os):World :=
  { World.holding Tryd.prog os ⟨#[],#[],[]⟩ with heap:=((((((World.holding Tryd.prog os ⟨#[],#[],[]⟩).heap.modify 2 fun
      | .cells _ t frozen => .cells #[.int .u8 0,.int .u8 1,.int .u8 28,.int .u8 2,.int .u8 29,.int .u8 14,.int .u8 24,.int .u8 3,.int .u8 30,.int .u8 22,.int .u8 20,.int .u8 15,.int .u8 25,.int .u8 17,.int .u8 4,.int .u8 8,.int .u8 31,.int .u8 27,.int .u8 13,.int .u8 23,.int .u8 21,.int .u8 19,.int .u8 16,.int .u8 7,.int .u8 26,.int .u8 12,.int .u8 18,.int .u8 6,.int .u8 11,.int .u8 5,.int .u8 10,.int .u8 9] t frozen
      | o=>o).modify 3 fun
      | .cells _ t frozen => .cells #[.int .u8 0,.int .u8 1,.int .u8 56,.int .u8 2,.int .u8 57,.int .u8 49,.int .u8 28,.int .u8 3,.int .u8 61,.int .u8 58,.int .u8 42,.int .u8 50,.int .u8 38,.int .u8 29,.int .u8 17,.int .u8 4,.int .u8 62,.int .u8 47,.int .u8 59,.int .u8 36,.int .u8 45,.int .u8 43,.int .u8 51,.int .u8 22,.int .u8 53,.int .u8 39,.int .u8 33,.int .u8 30,.int .u8 24,.int .u8 18,.int .u8 12,.int .u8 5,.int .u8 63,.int .u8 55,.int .u8 48,.int .u8 27,.int .u8 60,.int .u8 41,.int .u8 37,.int .u8 16,.int .u8 46,.int .u8 35,.int .u8 44,.int .u8 21,.int .u8 52,.int .u8 32,.int .u8 23,.int .u8 11,.int .u8 54,.int .u8 26,.int .u8 40,.int .u8 15,.int .u8 34,.int .u8 20,.int .u8 31,.int .u8 10,.int .u8 25,.int .u8 14,.int .u8 19,.int .u8 9,.int .u8 13,.int .u8 8,.int .u8 7,.int .u8 6] t frozen
      | o=>o).modify 1 fun
      | .cells _ t frozen => .cells #[.int .u64 1,.int .u64 10,.int .u64 100,.int .u64 1000,.int .u64 10000,.int .u64 100000,.int .u64 1000000,.int .u64 10000000,.int .u64 100000000,.int .u64 1000000000,.int .u64 10000000000,.int .u64 100000000000,.int .u64 1000000000000,.int .u64 10000000000000,.int .u64 100000000000000,.int .u64 1000000000000000,.int .u64 10000000000000000,.int .u64 100000000000000000,.int .u64 1000000000000000000,.int .u64 10000000000000000000] t frozen
      | o=>o).modify 5 fun
      | .cells _ t frozen => .cells #[.int .u8 128,.int .u8 191,.int .u8 160,.int .u8 191,.int .u8 128,.int .u8 159,.int .u8 144,.int .u8 191,.int .u8 128,.int .u8 143,.int .u8 0,.int .u8 0,.int .u8 0,.int .u8 0,.int .u8 0,.int .u8 0,.int .u8 0,.int .u8 0,.int .u8 0,.int .u8 0,.int .u8 0,.int .u8 0,.int .u8 0,.int .u8 0,.int .u8 0,.int .u8 0,.int .u8 0,.int .u8 0,.int .u8 0,.int .u8 0,.int .u8 0,.int .u8 0] t frozen
      | o=>o).modify 4 fun
      | .cells _ t frozen => .cells #[.int .u8 240,.int .u8 240,.int .u8 240,.int .u8 240,.int .u8 240,.int .u8 240,.int .u8 240,.int .u8 240,.int .u8 240,.int .u8 240,.int .u8 240,.int .u8 240,.int .u8 240,.int .u8 240,.int .u8 240,.int .u8 240,.int .u8 240,.int .u8 240,.int .u8 240,.int .u8 240,.int .u8 240,.int .u8 240,.int .u8 240,.int .u8 240,.int .u8 240,.int .u8 240,.int .u8 240,.int .u8 240,.int .u8 240,.int .u8 240,.int .u8 240,.int .u8 240,.int .u8 240,.int .u8 240,.int .u8 240,.int .u8 240,.int .u8 240,.int .u8 240,.int .u8 240,.int .u8 240,.int .u8 240,.int .u8 240,.int .u8 240,.int .u8 240,.int .u8 240,.int .u8 240,.int .u8 240,.int .u8 240,.int .u8 240,.int .u8 240,.int .u8 240,.int .u8 240,.int .u8 240,.int .u8 240,.int .u8 240,.int .u8 240,.int .u8 240,.int .u8 240,.int .u8 240,.int .u8 240,.int .u8 240,.int .u8 240,.int .u8 240,.int .u8 240,.int .u8 240,.int .u8 240,.int .u8 240,.int .u8 240,.int .u8 240,.int .u8 240,.int .u8 240,.int .u8 240,.int .u8 240,.int .u8 240,.int .u8 240,.int .u8 240,.int .u8 240,.int .u8 240,.int .u8 240,.int .u8 240,.int .u8 240,.int .u8 240,.int .u8 240,.int .u8 240,.int .u8 240,.int .u8 240,.int .u8 240,.int .u8 240,.int .u8 240,.int .u8 240,.int .u8 240,.int .u8 240,.int .u8 240,.int .u8 240,.int .u8 240,.int .u8 240,.int .u8 240,.int .u8 240,.int .u8 240,.int .u8 240,.int .u8 240,.int .u8 240,.int .u8 240,.int .u8 240,.int .u8 240,.int .u8 240,.int .u8 240,.int .u8 240,.int .u8 240,.int .u8 240,.int .u8 240,.int .u8 240,.int .u8 240,.int .u8 240,.int .u8 240,.int .u8 240,.int .u8 240,.int .u8 240,.int .u8 240,.int .u8 240,.int .u8 240,.int .u8 240,.int .u8 240,.int .u8 240,.int .u8 240,.int .u8 240,.int .u8 240,.int .u8 240,.int .u8 241,.int .u8 241,.int .u8 241,.int .u8 241,.int .u8 241,.int .u8 241,.int .u8 241,.int .u8 241,.int .u8 241,.int .u8 241,.int .u8 241,.int .u8 241,.int .u8 241,.int .u8 241,.int .u8 241,.int .u8 241,.int .u8 241,.int .u8 241,.int .u8 241,.int .u8 241,.int .u8 241,.int .u8 241,.int .u8 241,.int .u8 241,.int .u8 241,.int .u8 241,.int .u8 241,.int .u8 241,.int .u8 241,.int .u8 241,.int .u8 241,.int .u8 241,.int .u8 241,.int .u8 241,.int .u8 241,.int .u8 241,.int .u8 241,.int .u8 241,.int .u8 241,.int .u8 241,.int .u8 241,.int .u8 241,.int .u8 241,.int .u8 241,.int .u8 241,.int .u8 241,.int .u8 241,.int .u8 241,.int .u8 241,.int .u8 241,.int .u8 241,.int .u8 241,.int .u8 241,.int .u8 241,.int .u8 241,.int .u8 241,.int .u8 241,.int .u8 241,.int .u8 241,.int .u8 241,.int .u8 241,.int .u8 241,.int .u8 241,.int .u8 241,.int .u8 241,.int .u8 241,.int .u8 2,.int .u8 2,.int .u8 2,.int .u8 2,.int .u8 2,.int .u8 2,.int .u8 2,.int .u8 2,.int .u8 2,.int .u8 2,.int .u8 2,.int .u8 2,.int .u8 2,.int .u8 2,.int .u8 2,.int .u8 2,.int .u8 2,.int .u8 2,.int .u8 2,.int .u8 2,.int .u8 2,.int .u8 2,.int .u8 2,.int .u8 2,.int .u8 2,.int .u8 2,.int .u8 2,.int .u8 2,.int .u8 2,.int .u8 2,.int .u8 19,.int .u8 3,.int .u8 3,.int .u8 3,.int .u8 3,.int .u8 3,.int .u8 3,.int .u8 3,.int .u8 3,.int .u8 3,.int .u8 3,.int .u8 3,.int .u8 3,.int .u8 35,.int .u8 3,.int .u8 3,.int .u8 52,.int .u8 4,.int .u8 4,.int .u8 4,.int .u8 68,.int .u8 241,.int .u8 241,.int .u8 241,.int .u8 241,.int .u8 241,.int .u8 241,.int .u8 241,.int .u8 241,.int .u8 241,.int .u8 241,.int .u8 241] t frozen
      | o=>o) }
theorem laid_met (os:Os):laidMet Tryd.prog Rows.memberPacksRow.laid ((laidWorld os).forCall (fun _ _=>0) ⟨#[],#[.agg #[.string ByteArray.empty,.int .i64 0,.string ByteArray.empty,.int .i64 0,.int .i64 0,.int .i64 0,.string ByteArray.empty,.string ByteArray.empty,.int .i64 0,.int .i64 0,.slice none 0 0]],[]⟩).memory :=
  laidMet_of_run' 8 (by kernel_rfl) (by kernel_rfl)
theorem reads (os:Os) {H:Type} (enc:TypeId × Value→H):∃ places,DataW.whole enc Tryd.prog ((laidWorld os).forCall (fun _ _=>0) ⟨#[],#[.agg #[.string ByteArray.empty,.int .i64 0,.string ByteArray.empty,.int .i64 0,.int .i64 0,.int .i64 0,.string ByteArray.empty,.string ByteArray.empty,.int .i64 0,.int .i64 0,.slice none 0 0]],[]⟩).memory Tryd.f3.params.toList Rows.memberPacksSpec.vars false (#[.agg #[.string ByteArray.empty,.int .i64 0,.string ByteArray.empty,.int .i64 0,.int .i64 0,.int .i64 0,.string ByteArray.empty,.string ByteArray.empty,.int .i64 0,.int .i64 0,.slice none 0 0]]:Array Value).toList 8 = some ([.agg [.lit (.string []),.lit (.int .i64 0),.lit (.string []),.agg [.lit (.int .i64 0),.lit (.int .i64 0),.lit (.int .i64 0),.lit (.string []),.lit (.string []),.lit (.int .i64 0),.lit (.int .i64 0)],.nil]],[],places) :=
  ⟨[],by kernel_rfl⟩
set_option maxRecDepth 100000 in
theorem lifted (os:Os) (started:os.Started) (H:Type) (enc:TypeId × Value→H) (F:Stop.Interp) :
    ReturnsInHanded {} Tryd.checked os 3 .any ((OpenSpec.ofChange Rows.memberPacksSpec).preRow enc Tryd.prog Tryd.f3 Rows.memberPacksRow.domain false Rows.memberPacksRow.laid) (((OpenSpec.ofChange Rows.memberPacksSpec).at F).post enc Tryd.prog Tryd.f3 false true false false):=by
  obtain ⟨places,hx⟩:=reads os enc
  refine returnsInHanded_of_row (C:=Tryd.checked) (s:=OpenSpec.ofChange Rows.memberPacksSpec) own started (by kernel_rfl) Tryd.func3
    (witness_row_at (enc:=enc) (C:=Tryd.checked) false (laidWorld os) #[.agg #[.string ByteArray.empty,.int .i64 0,.string ByteArray.empty,.int .i64 0,.int .i64 0,.int .i64 0,.string ByteArray.empty,.string ByteArray.empty,.int .i64 0,.int .i64 0,.slice none 0 0]] rfl (by kernel_rfl) (by kernel_rfl) (by kernel_rfl)
      (OpenSpec.preRow_of_cond 8 hx (by kernel_rfl) (fun k hk=>by cases hk) (by kernel_rfl) (laid_met os))) ?_
  intro W base args ds gs before hval hW _ hcond hsz hL hsh _
  exact contract H enc W base args ds gs before hval hW hsz hL hsh
theorem proved:Rows.MemberPacksSaid :=
  OpenClaim.holds_of_cond 3 Tryd.f3 rfl rfl rfl rfl rfl rfl rfl ⟨rfl,rfl,rfl,rfl,rfl⟩ rfl rfl rfl rfl rfl (by kernel_rfl) Tryd.func3 (by kernel_rfl)
    (of_decide_eq_true (by kernel_rfl)) (by unfold Func.isWrapper;first|(rw [if_pos (by decide +kernel)];kernel_rfl)|(rw [if_neg (by decide +kernel)];exact ⟨rfl,rfl⟩))
    (fun os started H enc _ F=>by rw [OpenClaim.pre_eq_preRow];exact lifted os started H enc F)
theorem plain (f : FuncId) (fn : Func) (hf : Tryd.pinned.checked.prog.funcNamed "creel/creellaw.MemberPacks" = some f) (hfn : Tryd.pinned.checked.prog.funcs[f]? = some fn) :
    false = Tryd.pinned.checked.prog.looks []∧∀ (j:Nat) t,fn.params[j]? = some t→Tryd.pinned.checked.prog.wantsStandIn t = false:=by
  obtain rfl : f = 3 := Option.some.inj ((show Tryd.prog.funcNamed "creel/creellaw.MemberPacks" = some 3 by kernel_rfl).symm.trans hf) |>.symm
  obtain rfl:fn = Tryd.f3:=(Option.some.inj (Tryd.func3.symm.trans hfn)).symm
  refine ⟨by kernel_rfl,fun j t ht=>?_⟩
  rw [Tryd.params3] at ht
  have hm:=Array.mem_of_getElem? ht
  simp only [List.mem_toArray,List.mem_cons,List.not_mem_nil,or_false] at hm
  rcases hm with rfl
  · exact (show Tryd.prog.wantsStandIn 26 = false by kernel_rfl)
theorem card:Rows.MemberPacksCardSaid :=
  Claim7.holds_tied_plain_at .later [] _ _ _ _ proved (fun _ h=>by cases h) (by kernel_rfl) (fun _ h=>by cases h) memberPacks_row_tie rfl ⟨rfl,rfl⟩ (by kernel_rfl) rfl plain (by kernel_rfl)
#print axioms card
end Go.Proofs.YtenbelecmmpdgaaDoor.memberPacks
namespace Go.Proofs.YtenbelecmmpdgaaDoor
theorem memberPacks_holds:Rows.MemberPacksCardSaid:=memberPacks.card
end Go.Proofs.YtenbelecmmpdgaaDoor
end
