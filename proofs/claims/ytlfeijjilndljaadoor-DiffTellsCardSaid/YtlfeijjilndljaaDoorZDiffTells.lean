/- Made by programs of the prover: walks of Go functions, the words that they use, and plain laws, each text in a section of its own; no condition of its own. -/
import Derived.Test.YtlfeijjilndljaaDoorRows
import Derived.Test.YtlfeijjilndljaaDoorCards
import Derived.Test.YtlfeijjilndljaaDoorTie
import Derived.WalkKit
import Derived.ProofKit
import Derived.OpenShut
import Derived.ShutString
import Derived.ChangeOld
import Derived.Below
import Derived.SizedLaws
import Derived.WideShapes
import Derived.Deep.DeepHandedRow
import Derived.Lib.LaidTab
import Derived.Test.YtlfeijjilndljaaDoorZDiffTells8
import Derived.Test.YtlfeijjilndljaaDoorZDiffTells9
section
namespace Go.Proofs.YtlfeijjilndljaaDoor.PuDiffTells
set_option linter.unusedVariables false
set_option linter.unusedSimpArgs false
open Go.RowKit Go.Proofs.YtlfeijjilndljaaDoor.All Go.Proofs.YtlfeijjilndljaaDoor.GDiffTells Go.Proofs.YtlfeijjilndljaaDoorW.PrintWords Go.Proofs.YtlfeijjilndljaaDoorW.PrintLast Go.Proofs.YtlfeijjilndljaaDoorW.PrintMore Go.Proofs.YtlfeijjilndljaaDoorW.PureBase Go.Proofs.YtlfeijjilndljaaDoor.Q
theorem psame_is (x y:DN):diff_Of.same x y = some (sameB x y):=(show diff_Of.same x y = creelref_DiffOf.same x y from rfl).trans (dsame_is x y)
theorem prun_is {a b:List DN} (ka:TreeOk a) (kb:TreeOk b) (d:Nat):∀ i j o,i ≤ a.length→j ≤ b.length→a.length + b.length ≤ d + i + j→o.length + d ≤ 100000→Ev (fun k=>diff_Of.run k a b d i j o) (o ++ mC a b d i j):=by
  induction d with
  | zero =>
    intro i j o hi hj hd ho
    simp only [diff_Of.run,mC]
    rw [List.append_nil]
    exact Ev.ifn (by omega) (Ev.now _)
  | succ d ih =>
    intro i j o hi hj hd ho
    have e1:∀ z:DC,(o ++ [z]).length + d ≤ 100000:=fun z=>by rw [List.length_append,List.length_singleton];omega
    have e2:∀ (z:DC) (m:List DC),o ++ z :: m = (o ++ [z]) ++ m:=fun z m=>by rw [List.append_assoc];rfl
    simp only [diff_Of.run,mC]
    by_cases hc:i < a.length ∨ j < b.length
    · rw [if_pos hc]
      refine Ev.ifp hc (Ev.ifp (by omega) ?_)
      have hcmp:Ev (fun k=>diff_Of.cmp k a b i j) (cV a b i j):=by
        unfold diff_Of.cmp cV
        by_cases x1:i = a.length
        · rw [if_pos x1];exact Ev.ifp x1 (Ev.now _)
        · rw [if_neg x1]
          refine Ev.ifn x1 ?_
          by_cases x2:j = b.length
          · rw [if_pos x2];exact Ev.ifp x2 (Ev.now _)
          · rw [if_neg x2]
            refine Ev.ifn x2 ?_
            rw [rd_nd,rd_nd]
            exact (cmp_ev _ _ (ok_size ka _ (nd_mem a i (by omega))) (ok_size kb _ (nd_mem b j (by omega)))).1
      refine Ev.bind hcmp ?_
      by_cases c1:cV a b i j < 0
      · obtain ⟨g1,_⟩:=cV_lt ka kb hi hj hc c1
        rw [if_pos c1,rd_nd]
        have h:=ih (i + 1) j (o ++ [⟨1,nd a i⟩]) (by omega) hj (by omega) (e1 _)
        rw [← e2] at h
        exact Ev.ifp c1 (Ev.ifp g1 h)
      · rw [if_neg c1]
        refine Ev.ifn c1 ?_
        by_cases c2:cV a b i j > 0
        · obtain ⟨g1,_⟩:=cV_gt ka kb hi hj hc c2
          rw [if_pos c2,rd_nd]
          have h:=ih i (j + 1) (o ++ [⟨2,nd b j⟩]) hi (by omega) (by omega) (e1 _)
          rw [← e2] at h
          exact Ev.ifp c2 (Ev.ifp g1 h)
        · obtain ⟨g1,g2,_⟩:=cV_eq ka kb hi hj hc c1 c2
          rw [if_neg c2]
          refine Ev.ifn c2 (Ev.ifp ⟨g1,g2⟩ ?_)
          rw [rd_nd,rd_nd,psame_is]
          simp only [Option.bind_some]
          have he:(sameB (nd a i) (nd b j) && ((nd a i).f2 == (nd b j).f2)) = eqB (nd a i) (nd b j):=by
            unfold eqB
            by_cases x:(nd a i).f2 = (nd b j).f2 <;> simp [x]
          rw [he]
          by_cases c3:eqB (nd a i) (nd b j) = true
          · rw [if_pos c3]
            exact Ev.ifp c3 (ih (i + 1) (j + 1) o (by omega) (by omega) (by omega) (by omega))
          · rw [if_neg c3]
            have h:=ih (i + 1) (j + 1) (o ++ [⟨3,nd b j⟩]) (by omega) (by omega) (by omega) (e1 _)
            rw [← e2] at h
            exact Ev.ifn c3 h
    · rw [if_neg hc,List.append_nil]
      exact Ev.ifn hc (Ev.now _)
theorem chg_same (x:DC) (h:x.f1.f5.length ≤ 140737488351232):creellaw_sameChanges.eq x x = some true:=by
  unfold creellaw_sameChanges.eq creellaw_sameChanges_1.f creellaw_sameNode.f creellaw_sameBytes.f
  simp
theorem chgs_same (l:List DC) (h:∀ y ∈ l,y.f1.f5.length ≤ 140737488351232):creellaw_sameChanges.l0 l l = some true:=by
  induction l with
  | nil=>rfl
  | cons x xs ih =>
    show ((creellaw_sameChanges.eq x x).bind fun b=>if b = true then creellaw_sameChanges.l0 xs xs else some false) = _
    rw [chg_same x (h x (List.mem_cons_self ..))]
    exact ih (fun y hy=>h y (List.mem_cons_of_mem _ hy))
theorem mC_all {a b:List DN} (ka:TreeOk a) (kb:TreeOk b) (da:∀ y ∈ a,y.f5.length ≤ 140737488351232) (db:∀ y ∈ b,y.f5.length ≤ 140737488351232) (d:Nat):∀ i j,i ≤ a.length→j ≤ b.length→(mC a b d i j).length ≤ d∧∀ y ∈ mC a b d i j,y.f1.f5.length ≤ 140737488351232:=by
  induction d with
  | zero=>intro i j _ _;exact ⟨Nat.le_refl _,fun y hy=>by cases hy⟩
  | succ d ih =>
    intro i j hi hj
    rw [mC]
    by_cases hc:i < a.length ∨ j < b.length
    · rw [if_pos hc]
      by_cases c1:cV a b i j < 0
      · obtain ⟨g1,_⟩:=cV_lt ka kb hi hj hc c1
        obtain ⟨h1,h2⟩:=ih (i + 1) j (by omega) hj
        rw [if_pos c1]
        refine ⟨by rw [List.length_cons];omega,fun y hy=>?_⟩
        rcases List.mem_cons.1 hy with rfl|hy
        · exact da _ (nd_mem a i g1)
        · exact h2 y hy
      · rw [if_neg c1]
        by_cases c2:cV a b i j > 0
        · obtain ⟨g1,_⟩:=cV_gt ka kb hi hj hc c2
          obtain ⟨h1,h2⟩:=ih i (j + 1) hi (by omega)
          rw [if_pos c2]
          refine ⟨by rw [List.length_cons];omega,fun y hy=>?_⟩
          rcases List.mem_cons.1 hy with rfl|hy
          · exact db _ (nd_mem b j g1)
          · exact h2 y hy
        · obtain ⟨g1,g2,_⟩:=cV_eq ka kb hi hj hc c1 c2
          obtain ⟨h1,h2⟩:=ih (i + 1) (j + 1) (by omega) (by omega)
          rw [if_neg c2]
          by_cases c3:eqB (nd a i) (nd b j) = true
          · rw [if_pos c3]
            exact ⟨by omega,h2⟩
          · rw [if_neg c3]
            refine ⟨by rw [List.length_cons];omega,fun y hy=>?_⟩
            rcases List.mem_cons.1 hy with rfl|hy
            · exact db _ (nd_mem b j g2)
            · exact h2 y hy
    · rw [if_neg hc]
      exact ⟨Nat.zero_le _,fun y hy=>by cases hy⟩
theorem pure:Pure:=by
  intro a b ha hb
  have hok:∀ l:List DN,(∀ y ∈ l,good56 y)→(∀ y ∈ l,okN y)∧∀ y ∈ l,y.f5.length ≤ 140737488351232:=fun l hl=>⟨fun y hy=>by
    obtain ⟨hp,_,hw,ht,gm,_⟩:=hl y hy
    obtain ⟨_,_,_,hu,hv,_⟩:=gm
    exact ⟨hp,ht,hu,hv,hw⟩,fun y hy=>by
    obtain ⟨_,_,_,_,_,hz⟩:=hl y hy
    have:=hz.1
    omega⟩
  obtain ⟨na,da⟩:=hok a ha.2
  obtain ⟨nb,db⟩:=hok b hb.2
  have p1:=prog_tree a na
  have p2:=prog_tree b nb
  have q1:=ref_tree a na
  have q2:=ref_tree b nb
  have E:Ev (fun k=>creellaw_DiffTells.f k a b) true:=by
    unfold creellaw_DiffTells.f
    by_cases c1:treeR a = 0
    · by_cases c2:treeR b = 0
      · have ka:=treeOk_of a c1
        have kb:=treeOk_of b c2
        have la:=ka.len
        have lb:=kb.len
        have hP:Ev (fun k=>diff_Of.f k a b) (mC a b (a.length + b.length) 0 0,0):=by
          unfold diff_Of.f
          refine Ev.bind p1 (Ev.ifp c1 (Ev.bind p2 (Ev.ifp c2 (Ev.ifp ⟨⟨?_,?_⟩,by omega,by omega⟩ ?_))))
          · exact (good_data a 140737488351232 da).resolve_right (by omega)
          · exact (good_data b 140737488351232 db).resolve_right (by omega)
          · have h:=prun_is ka kb (a.length + b.length) 0 0 [] (by omega) (by omega) (by omega) (by rw [List.length_nil];omega)
            exact Ev.bind h (Ev.now _)
        have hR:=diff_is a b ka kb na nb da db
        rw [diff_merge ka kb] at hR
        obtain ⟨h1,h2⟩:=mC_all ka kb da db (a.length + b.length) 0 0 (by omega) (by omega)
        have hs:creellaw_sameChanges.f (mC a b (a.length + b.length) 0 0) (mC a b (a.length + b.length) 0 0) = some true:=by
          unfold creellaw_sameChanges.f
          rw [if_pos rfl,if_pos (by omega),chgs_same _ h2]
        refine Ev.bind hP (Ev.bind hR ?_)
        rw [hs]
        simp only [Option.bind_some]
        exact Ev.ifp (by trivial) (Ev.const (by simp))
      · have hP:Ev (fun k=>diff_Of.f k a b) ([],treeR b):=by
          unfold diff_Of.f
          exact Ev.bind p1 (Ev.ifp c1 (Ev.bind p2 (Ev.ifn c2 (Ev.now _))))
        have hR:Ev (fun k=>creelref_DiffOf.f k a b) ([],treeR b):=by
          unfold creelref_DiffOf.f
          exact Ev.bind q1 (Ev.ifp c1 (Ev.bind q2 (Ev.ifn c2 (Ev.now _))))
        refine Ev.bind hP (Ev.bind hR ?_)
        exact Ev.const (by simp [creellaw_sameChanges.f,creellaw_sameChanges.l0])
    · have hP:Ev (fun k=>diff_Of.f k a b) ([],treeR a):=by
        unfold diff_Of.f
        exact Ev.bind p1 (Ev.ifn c1 (Ev.now _))
      have hR:Ev (fun k=>creelref_DiffOf.f k a b) ([],treeR a):=by
        unfold creelref_DiffOf.f
        exact Ev.bind q1 (Ev.ifn c1 (Ev.now _))
      refine Ev.bind hP (Ev.bind hR ?_)
      exact Ev.const (by simp [creellaw_sameChanges.f,creellaw_sameChanges.l0])
  obtain ⟨K,hK⟩:=E
  exact ⟨K,hK K (Nat.le_refl _)⟩
end Go.Proofs.YtlfeijjilndljaaDoor.PuDiffTells
end
section
namespace Go.Proofs.YtlfeijjilndljaaDoor.diffTells
open Go.ChangeShapes Go.WideShapes Go.ChangeAt Go.RowKit Go.Proofs.YtlfeijjilndljaaDoorW.PrintWords Go.Proofs.YtlfeijjilndljaaDoorW.Opens
open Go.ChangeMaps (open_string shut_string)
set_option linter.unusedVariables false
theorem own:ownKnob Tryd.prog.godebug = none:=by kernel_rfl
theorem laidOut:laidOutB Tryd.prog = true:=by kernel_rfl
set_option maxRecDepth 100000 in
theorem contract (H:Type) (enc:TypeId × Value→H) (W:World) (base:Nat) (args:Array Value) (ds gs:List (DataW H)) (before:List MemPlace)
    (hval0:∀ (j:Nat) t v,Tryd.f8.params[j]? = some t→args[j]? = some v→Value.okWide Tryd.prog W .any base t v)
    (hW:DataW.Whole enc Tryd.prog Tryd.f8.params.toList Rows.diffTellsSpec.vars false W args.toList ds gs before)
    (hsz0:(DataW.weightsEach Tryd.prog (Tryd.f8.params.toList ++ Rows.diffTellsSpec.plain.varTypes Tryd.prog) (ds ++ gs)).all (· ≤ reachBytes) = true) (hL:laidMetH Tryd.prog Rows.diffTellsRow.laid W) (hsh:W.ShapedOpen Tryd.prog) :
    Calls Tryd.prog 8 args W fun e W'=>∃ v,e = .returned v∧Rows.diffTellsSpec.post enc Tryd.prog Tryd.f8 false true false false W args v W':=by
  have hsz:=hsz0
  have hval:=hval0
  have hW':=hW
  obtain ⟨p,q,hA0,hV,rfl,hfz,hnd⟩:=hW
  have hA:DataW.TrodAll enc Tryd.prog W 0 (fun _=>true) true Tryd.f8.params.toList args.toList ds p:=hA0
  rw [Tryd.params8] at hA hval hsz
  obtain ⟨v0,vs0,d0,ds0,p0,q0,hargs,rfl,rfl,h0,r0⟩:=trodAll_cons hA
  obtain ⟨v1,vs1,d1,ds1,p1,q1,rfl,rfl,rfl,h1,r1⟩:=trodAll_cons r0
  obtain ⟨rfl,rfl,rfl⟩:=trodAll_nil r1
  obtain rfl:args = #[v0,v1]:=by cases args;simp_all
  obtain ⟨rfl,rfl⟩:=trodVars_none hV
  obtain ⟨B0,n0,C0,rfl⟩:=okWide_slice Tryd.underlying23 (hval 0 23 v0 rfl rfl)
  have m0:=h0
  have lt0:∀ x ∈ p0,x.block < W.heap.size:=by obtain ⟨m,hm⟩:=m0;exact DataW.trod_lt m _ _ _ hm
  obtain ⟨x0,⟨A0,c0,e0,hc0,hr0⟩,g0⟩:=opens_at (opens_slice (B:=144) Tryd.underlying23 (by kernel_rfl) (by kernel_rfl) GDiffTells.opens56) hsz (j:=0) rfl rfl h0
  simp only [Value.cells,List.cons.injEq,Value.slice.injEq,and_true] at e0
  obtain ⟨rfl,rfl,rfl⟩:=e0
  obtain ⟨B1,n1,C1,rfl⟩:=okWide_slice Tryd.underlying23 (hval 1 23 v1 rfl rfl)
  have m1:=h1
  have lt1:∀ x ∈ p1,x.block < W.heap.size:=by obtain ⟨m,hm⟩:=m1;exact DataW.trod_lt m _ _ _ hm
  obtain ⟨x1,⟨A1,c1,e1,hc1,hr1⟩,g1⟩:=opens_at (opens_slice (B:=144) Tryd.underlying23 (by kernel_rfl) (by kernel_rfl) GDiffTells.opens56) hsz (j:=1) rfl rfl h1
  simp only [Value.cells,List.cons.injEq,Value.slice.injEq,and_true] at e1
  obtain ⟨rfl,rfl,rfl⟩:=e1
  clear hA0 hval0 hsz0 hsz
  refine (GDiffTells.walk PuDiffTells.pure x0 x1 W g0 g1 hr0 hc0 hr1 hc1).mono fun e W' ⟨he,bel⟩=>?_
  subst he
  exact ⟨_,rfl,_,_,_,[],_,[],hW',trodAll_mk1 (shut_bool Tryd.underlying4 _),(trodAll_cons_mk (Below.trod laidOut (by kernel_rfl) (of_decide_eq_true (by kernel_rfl)) m0 bel lt0) (trodAll_cons_mk (Below.trod laidOut (by kernel_rfl) (of_decide_eq_true (by kernel_rfl)) m1 bel lt1) trodAll_mk0)),rfl,bel.frame _,fun h=>by cases h⟩
set_option maxRecDepth 100000 in
noncomputable def laidWorld (os:Os):World :=
  { World.holding Tryd.prog os ⟨#[],#[],[]⟩ with heap:=(((World.holding Tryd.prog os ⟨#[],#[],[]⟩).heap.modify 5 fun
      | .cells _ t frozen => .cells #[.int .u8 128,.int .u8 191,.int .u8 160,.int .u8 191,.int .u8 128,.int .u8 159,.int .u8 144,.int .u8 191,.int .u8 128,.int .u8 143,.int .u8 0,.int .u8 0,.int .u8 0,.int .u8 0,.int .u8 0,.int .u8 0,.int .u8 0,.int .u8 0,.int .u8 0,.int .u8 0,.int .u8 0,.int .u8 0,.int .u8 0,.int .u8 0,.int .u8 0,.int .u8 0,.int .u8 0,.int .u8 0,.int .u8 0,.int .u8 0,.int .u8 0,.int .u8 0] t frozen
      | o=>o).modify 4 fun
      | .cells _ t frozen => .cells #[.int .u8 240,.int .u8 240,.int .u8 240,.int .u8 240,.int .u8 240,.int .u8 240,.int .u8 240,.int .u8 240,.int .u8 240,.int .u8 240,.int .u8 240,.int .u8 240,.int .u8 240,.int .u8 240,.int .u8 240,.int .u8 240,.int .u8 240,.int .u8 240,.int .u8 240,.int .u8 240,.int .u8 240,.int .u8 240,.int .u8 240,.int .u8 240,.int .u8 240,.int .u8 240,.int .u8 240,.int .u8 240,.int .u8 240,.int .u8 240,.int .u8 240,.int .u8 240,.int .u8 240,.int .u8 240,.int .u8 240,.int .u8 240,.int .u8 240,.int .u8 240,.int .u8 240,.int .u8 240,.int .u8 240,.int .u8 240,.int .u8 240,.int .u8 240,.int .u8 240,.int .u8 240,.int .u8 240,.int .u8 240,.int .u8 240,.int .u8 240,.int .u8 240,.int .u8 240,.int .u8 240,.int .u8 240,.int .u8 240,.int .u8 240,.int .u8 240,.int .u8 240,.int .u8 240,.int .u8 240,.int .u8 240,.int .u8 240,.int .u8 240,.int .u8 240,.int .u8 240,.int .u8 240,.int .u8 240,.int .u8 240,.int .u8 240,.int .u8 240,.int .u8 240,.int .u8 240,.int .u8 240,.int .u8 240,.int .u8 240,.int .u8 240,.int .u8 240,.int .u8 240,.int .u8 240,.int .u8 240,.int .u8 240,.int .u8 240,.int .u8 240,.int .u8 240,.int .u8 240,.int .u8 240,.int .u8 240,.int .u8 240,.int .u8 240,.int .u8 240,.int .u8 240,.int .u8 240,.int .u8 240,.int .u8 240,.int .u8 240,.int .u8 240,.int .u8 240,.int .u8 240,.int .u8 240,.int .u8 240,.int .u8 240,.int .u8 240,.int .u8 240,.int .u8 240,.int .u8 240,.int .u8 240,.int .u8 240,.int .u8 240,.int .u8 240,.int .u8 240,.int .u8 240,.int .u8 240,.int .u8 240,.int .u8 240,.int .u8 240,.int .u8 240,.int .u8 240,.int .u8 240,.int .u8 240,.int .u8 240,.int .u8 240,.int .u8 240,.int .u8 240,.int .u8 240,.int .u8 240,.int .u8 240,.int .u8 240,.int .u8 240,.int .u8 241,.int .u8 241,.int .u8 241,.int .u8 241,.int .u8 241,.int .u8 241,.int .u8 241,.int .u8 241,.int .u8 241,.int .u8 241,.int .u8 241,.int .u8 241,.int .u8 241,.int .u8 241,.int .u8 241,.int .u8 241,.int .u8 241,.int .u8 241,.int .u8 241,.int .u8 241,.int .u8 241,.int .u8 241,.int .u8 241,.int .u8 241,.int .u8 241,.int .u8 241,.int .u8 241,.int .u8 241,.int .u8 241,.int .u8 241,.int .u8 241,.int .u8 241,.int .u8 241,.int .u8 241,.int .u8 241,.int .u8 241,.int .u8 241,.int .u8 241,.int .u8 241,.int .u8 241,.int .u8 241,.int .u8 241,.int .u8 241,.int .u8 241,.int .u8 241,.int .u8 241,.int .u8 241,.int .u8 241,.int .u8 241,.int .u8 241,.int .u8 241,.int .u8 241,.int .u8 241,.int .u8 241,.int .u8 241,.int .u8 241,.int .u8 241,.int .u8 241,.int .u8 241,.int .u8 241,.int .u8 241,.int .u8 241,.int .u8 241,.int .u8 241,.int .u8 241,.int .u8 241,.int .u8 2,.int .u8 2,.int .u8 2,.int .u8 2,.int .u8 2,.int .u8 2,.int .u8 2,.int .u8 2,.int .u8 2,.int .u8 2,.int .u8 2,.int .u8 2,.int .u8 2,.int .u8 2,.int .u8 2,.int .u8 2,.int .u8 2,.int .u8 2,.int .u8 2,.int .u8 2,.int .u8 2,.int .u8 2,.int .u8 2,.int .u8 2,.int .u8 2,.int .u8 2,.int .u8 2,.int .u8 2,.int .u8 2,.int .u8 2,.int .u8 19,.int .u8 3,.int .u8 3,.int .u8 3,.int .u8 3,.int .u8 3,.int .u8 3,.int .u8 3,.int .u8 3,.int .u8 3,.int .u8 3,.int .u8 3,.int .u8 3,.int .u8 35,.int .u8 3,.int .u8 3,.int .u8 52,.int .u8 4,.int .u8 4,.int .u8 4,.int .u8 68,.int .u8 241,.int .u8 241,.int .u8 241,.int .u8 241,.int .u8 241,.int .u8 241,.int .u8 241,.int .u8 241,.int .u8 241,.int .u8 241,.int .u8 241] t frozen
      | o=>o) }
theorem laid_met (os:Os):laidMet Tryd.prog Rows.diffTellsRow.laid ((laidWorld os).forCall (fun _ _=>0) ⟨#[],#[.slice none 0 0,.slice none 0 0],[]⟩).memory :=
  laidMet_of_run' 8 (by kernel_rfl) (by kernel_rfl)
theorem reads (os:Os) {H:Type} (enc:TypeId × Value→H):∃ places,DataW.whole enc Tryd.prog ((laidWorld os).forCall (fun _ _=>0) ⟨#[],#[.slice none 0 0,.slice none 0 0],[]⟩).memory Tryd.f8.params.toList Rows.diffTellsSpec.vars false (#[.slice none 0 0,.slice none 0 0]:Array Value).toList 8 = some ([.nil,.nil],[],places) :=
  ⟨[],by kernel_rfl⟩
set_option maxRecDepth 100000 in
theorem lifted (os:Os) (started:os.Started) (H:Type) (enc:TypeId × Value→H) (F:Stop.Interp) :
    ReturnsInHanded {} Tryd.checked os 8 .any ((OpenSpec.ofChange Rows.diffTellsSpec).preRow enc Tryd.prog Tryd.f8 Rows.diffTellsRow.domain false Rows.diffTellsRow.laid) (((OpenSpec.ofChange Rows.diffTellsSpec).at F).post enc Tryd.prog Tryd.f8 false true false false):=by
  obtain ⟨places,hx⟩:=reads os enc
  refine returnsInHanded_of_row (C:=Tryd.checked) (s:=OpenSpec.ofChange Rows.diffTellsSpec) own started (by kernel_rfl) Tryd.func8
    (witness_row_at (enc:=enc) (C:=Tryd.checked) false (laidWorld os) #[.slice none 0 0,.slice none 0 0] rfl (by kernel_rfl) (by kernel_rfl) (by kernel_rfl)
      (OpenSpec.preRow_of_cond 8 hx (by kernel_rfl) (fun k hk=>by cases hk) (by kernel_rfl) (laid_met os))) ?_
  intro W base args ds gs before hval hW _ hcond hsz hL hsh _
  exact contract H enc W base args ds gs before hval hW hsz hL hsh
theorem proved:Rows.DiffTellsSaid :=
  OpenClaim.holds_of_cond 8 Tryd.f8 rfl rfl rfl rfl rfl rfl rfl ⟨rfl,rfl,rfl,rfl,rfl⟩ rfl rfl rfl rfl rfl (by kernel_rfl) Tryd.func8 (by kernel_rfl)
    (of_decide_eq_true (by kernel_rfl)) (by unfold Func.isWrapper;first|(rw [if_pos (by decide +kernel)];kernel_rfl)|(rw [if_neg (by decide +kernel)];exact ⟨rfl,rfl⟩))
    (fun os started H enc _ F=>by rw [OpenClaim.pre_eq_preRow];exact lifted os started H enc F)
theorem plain (f : FuncId) (fn : Func) (hf : Tryd.pinned.checked.prog.funcNamed "creel/creellaw.DiffTells" = some f) (hfn : Tryd.pinned.checked.prog.funcs[f]? = some fn) :
    false = Tryd.pinned.checked.prog.looks []∧∀ (j:Nat) t,fn.params[j]? = some t→Tryd.pinned.checked.prog.wantsStandIn t = false:=by
  obtain rfl : f = 8 := Option.some.inj ((show Tryd.prog.funcNamed "creel/creellaw.DiffTells" = some 8 by kernel_rfl).symm.trans hf) |>.symm
  obtain rfl:fn = Tryd.f8:=(Option.some.inj (Tryd.func8.symm.trans hfn)).symm
  refine ⟨by kernel_rfl,fun j t ht=>?_⟩
  rw [Tryd.params8] at ht
  have hm:=Array.mem_of_getElem? ht
  simp only [List.mem_toArray,List.mem_cons,List.not_mem_nil,or_false] at hm
  rcases hm with rfl|rfl
  · exact (show Tryd.prog.wantsStandIn 23 = false by kernel_rfl)
  · exact (show Tryd.prog.wantsStandIn 23 = false by kernel_rfl)
theorem card:Rows.DiffTellsCardSaid :=
  Claim7.holds_tied_plain_at .later [] _ _ _ _ proved (fun _ h=>by cases h) (by kernel_rfl) (fun _ h=>by cases h) diffTells_row_tie rfl ⟨rfl,rfl⟩ (by kernel_rfl) rfl plain (by kernel_rfl)
#print axioms card
end Go.Proofs.YtlfeijjilndljaaDoor.diffTells
namespace Go.Proofs.YtlfeijjilndljaaDoor
theorem diffTells_holds:Rows.DiffTellsCardSaid:=diffTells.card
end Go.Proofs.YtlfeijjilndljaaDoor
end
