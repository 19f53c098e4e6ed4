/- Made by programs of the prover: walks of Go functions, the words that they use, and plain laws, each text in a section of its own; no condition of its own. -/
import Derived.Test.YtlfeijjilndljaaDoorRows
import Derived.Test.YtlfeijjilndljaaDoorCards
import Derived.Test.YtlfeijjilndljaaDoorTie
import Derived.WalkKit
import Derived.ProofKit
import Derived.OpenShut
import Derived.ShutString
import Derived.ChangeOld
import Derived.Below
import Derived.SizedLaws
import Derived.WideShapes
import Derived.Deep.DeepHandedRow
import Derived.Lib.LaidTab
import Derived.Test.YtlfeijjilndljaaDoorZDiffAlikes9
section
namespace Go.Proofs.YtlfeijjilndljaaDoor.PuDiffAlikes
set_option linter.unusedVariables false
set_option linter.unusedSimpArgs false
open Go.RowKit Go.Proofs.YtlfeijjilndljaaDoor.All Go.Proofs.YtlfeijjilndljaaDoor.GDiffAlikes Go.Proofs.YtlfeijjilndljaaDoorW.PrintWords Go.Proofs.YtlfeijjilndljaaDoorW.PrintLast Go.Proofs.YtlfeijjilndljaaDoorW.PrintMore Go.Proofs.YtlfeijjilndljaaDoorW.PureBase Go.Proofs.YtlfeijjilndljaaDoor.Q
def allEq:List DN→List DN→Bool
  | [],[]=>true
  | x :: xs,y :: ys=>eqB x y && allEq xs ys
  | _,_=>false
theorem deq_is (x y:DN):diff_Alike.eq x y = some (eqB x y):=by
  show (creelref_DiffOf.same x y).bind (fun t=>if t = true then some (x.f2 == y.f2) else some false) = some (eqB x y)
  rw [dsame_is]
  simp only [Option.bind_some]
  unfold eqB
  by_cases c:sameB x y = true
  · rw [if_pos c,c,Bool.true_and]
    by_cases d:x.f2 = y.f2
    · simp [d]
    · simp [d]
  · rw [if_neg c,Bool.eq_false_iff.mpr c,Bool.false_and]
theorem dl0_is:∀ (x y:List DN),x.length = y.length→diff_Alike.l0 x y = some (allEq x y)
  | [],[],_=>rfl
  | x :: xs,y :: ys,h=>by
    rw [diff_Alike.l0,deq_is]
    simp only [Option.bind_some,allEq]
    by_cases c:eqB x y = true
    · rw [if_pos c,c,Bool.true_and,dl0_is xs ys (by simpa using h)]
    · rw [if_neg c,Bool.eq_false_iff.mpr c,Bool.false_and]
  | [],_ :: _,h=>by simp at h
  | _ :: _,[],h=>by simp at h
theorem allEq_iff:∀ (x y:List DN),allEq x y = true ↔ x.length = y.length∧∀ i,i < x.length→eqB (nd x i) (nd y i) = true
  | [],[]=>by simp [allEq]
  | x :: xs,y :: ys=>by
    have ih:=allEq_iff xs ys
    simp only [allEq,Bool.and_eq_true,ih,List.length_cons]
    constructor
    · rintro ⟨h1,h2,h3⟩
      refine ⟨by omega,fun i hi=>?_⟩
      cases i with
      | zero=>exact h1
      | succ i=>exact h3 i (by omega)
    · rintro ⟨h1,h2⟩
      exact ⟨h2 0 (by omega),by omega,fun i hi=>h2 (i + 1) (by omega)⟩
  | [],_ :: _=>by simp [allEq]
  | _ :: _,[]=>by simp [allEq]
theorem dfind_nd {l:List DN} (hk:TreeOk l) (i:Nat) (hi:i < l.length):findP l (nd l i).f0 = i:=by
  refine findP_at l _ i hi rfl (fun j hj e=>?_)
  exact cmpP_ne ((pair_nd l _).1 hk.ord j i hj hi) (toList_inj e)
theorem sorted_ext:∀ (a b:List ByteArray),a.Pairwise (fun x y=>cmpP x y = -1)→b.Pairwise (fun x y=>cmpP x y = -1)→(∀ s,s ∈ a ↔ s ∈ b)→a = b
  | [],[],_,_,_=>rfl
  | [],t :: b,_,_,h=>absurd ((h t).2 (List.mem_cons_self ..)) (by simp)
  | s :: a,[],_,_,h=>absurd ((h s).1 (List.mem_cons_self ..)) (by simp)
  | s :: a,t :: b,ha,hb,h=>by
    rw [List.pairwise_cons] at ha hb
    have e:s = t:=by
      rcases List.mem_cons.1 ((h s).1 (List.mem_cons_self ..)) with e|h1
      · exact e
      · rcases List.mem_cons.1 ((h t).2 (List.mem_cons_self ..)) with e|h2
        · exact e.symm
        · have q1:=hb.1 s h1
          have q2:=ha.1 t h2
          have:=cmpP_swap s t
          omega
    subst e
    congr 1
    refine sorted_ext a b ha.2 hb.2 (fun u=>⟨fun hu=>?_,fun hu=>?_⟩)
    · rcases List.mem_cons.1 ((h u).1 (List.mem_cons_of_mem _ hu)) with e|h1
      · exact absurd e.symm (cmpP_ne (ha.1 u hu))
      · exact h1
    · rcases List.mem_cons.1 ((h u).2 (List.mem_cons_of_mem _ hu)) with e|h1
      · exact absurd e.symm (cmpP_ne (hb.1 u hu))
      · exact h1
theorem diff_nil {a b:List DN} (ka:TreeOk a) (kb:TreeOk b):diffV a b = [] ↔ allEq a b = true:=by
  unfold diffV
  rw [List.filterMap_eq_nil_iff,allEq_iff]
  constructor
  · intro h
    have h':∀ n ∈ allV a b,chgV a b n = none:=fun n hn=>h n ((sortV_mem _ _).2 hn)
    have hab:∀ n ∈ a,findP b n.f0 < b.length∧eqB n (nd b (findP b n.f0)) = true:=by
      intro n hn
      have hc:=h' n (by unfold allV;rw [List.mem_append];exact Or.inl hn)
      have hl:=findP_le b n.f0
      have hf:=find_mem hn
      obtain ⟨i,hi,rfl⟩:=mem_nd hn
      unfold chgV at hc
      by_cases c1:findP b (nd a i).f0 = b.length
      · rw [if_pos c1] at hc;cases hc
      · rw [if_neg c1,if_neg (by omega),dfind_nd ka i hi] at hc
        by_cases c2:eqB (nd a i) (nd b (findP b (nd a i).f0)) = true
        · exact ⟨by omega,c2⟩
        · rw [if_neg c2] at hc;cases hc
    have hba:∀ n ∈ b,findP a n.f0 < a.length:=by
      intro n hn
      have hl:=findP_le a n.f0
      by_cases c:findP a n.f0 = a.length
      · have hc:=h' n (by unfold allV restV;rw [List.mem_append];exact Or.inr (List.mem_filter.2 ⟨hn,decide_eq_true c⟩))
        have hf:=find_mem hn
        unfold chgV at hc
        rw [if_neg (by omega),if_pos c] at hc
        cases hc
      · omega
    have he:a.map (fun y=>y.f0) = b.map (fun y=>y.f0):=by
      refine sorted_ext _ _ (List.pairwise_map.2 ka.ord) (List.pairwise_map.2 kb.ord) (fun s=>?_)
      rw [List.mem_map,List.mem_map]
      constructor
      · rintro ⟨n,hn,rfl⟩
        obtain ⟨z,hz,e⟩:=(find_lt b n.f0).1 (hab n hn).1
        exact ⟨z,hz,toList_inj e⟩
      · rintro ⟨n,hn,rfl⟩
        obtain ⟨z,hz,e⟩:=(find_lt a n.f0).1 (hba n hn)
        exact ⟨z,hz,toList_inj e⟩
    have hlen:a.length = b.length:=by
      have:=congrArg List.length he
      rwa [List.length_map,List.length_map] at this
    refine ⟨hlen,fun i hi=>?_⟩
    have hp:(nd a i).f0 = (nd b i).f0:=by
      have h1:=congrArg (fun l=>l[i]?) he
      simp only [List.getElem?_map] at h1
      rw [List.getElem?_eq_getElem hi,List.getElem?_eq_getElem (by omega),nd_get a i hi,nd_get b i (by omega)] at h1
      simpa using h1
    have:=(hab _ (nd_mem a i hi)).2
    rw [hp,dfind_nd kb i (by omega)] at this
    exact this
  · rintro ⟨hlen,he⟩ n hn
    have hn:=(sortV_mem _ _).1 hn
    have hpath:∀ i,i < a.length→(nd a i).f0 = (nd b i).f0:=fun i hi=>by
      have:=he i hi
      unfold eqB at this
      rw [Bool.and_eq_true] at this
      exact sameB_path this.1
    unfold allV at hn
    rw [List.mem_append] at hn
    rcases hn with hn|hn
    · obtain ⟨i,hi,rfl⟩:=mem_nd hn
      unfold chgV
      have e1:=dfind_nd ka i hi
      have e2:findP b (nd a i).f0 = i:=by rw [hpath i hi];exact dfind_nd kb i (by omega)
      rw [e1,e2,if_neg (by omega),if_neg (by omega),if_pos (he i hi)]
    · obtain ⟨h1,h2⟩:=List.mem_filter.1 hn
      obtain ⟨i,hi,rfl⟩:=mem_nd h1
      have h3:=of_decide_eq_true h2
      have:=find_mem (nd_mem a i (by omega))
      rw [hpath i (by omega)] at this
      omega
theorem pure:Pure:=by
  intro a b ha hb
  have hok:∀ l:List DN,(∀ y ∈ l,good56 y)→(∀ y ∈ l,okN y)∧∀ y ∈ l,y.f5.length ≤ 140737488351232:=fun l hl=>⟨fun y hy=>by
    obtain ⟨hp,_,hw,ht,gm,_⟩:=hl y hy
    obtain ⟨_,_,_,hu,hv,_⟩:=gm
    exact ⟨hp,ht,hu,hv,hw⟩,fun y hy=>by
    obtain ⟨_,_,_,_,_,hz⟩:=hl y hy
    have:=hz.1
    omega⟩
  obtain ⟨na,da⟩:=hok a ha.2
  obtain ⟨nb,db⟩:=hok b hb.2
  have E:Ev (fun k=>creellaw_DiffAlikes.f k a b) true:=by
    unfold creellaw_DiffAlikes.f diff_Alike.f creelref_DiffAlike.f
    rcases anew_all a na da with ⟨x,x1,x2,kx,nx,dx⟩|⟨e,e0,x1,x2⟩
    · rcases anew_all b nb db with ⟨y,y1,y2,ky,ny,dy⟩|⟨e,e0,y1,y2⟩
      · have hl:=kx.len
        have hl2:=ky.len
        have hE:diff_Alike.e x y = some (allEq x y):=by
          unfold diff_Alike.e
          by_cases c:x.length = y.length
          · rw [if_pos c,if_pos (by omega),dl0_is x y c]
          · rw [if_neg c]
            have:¬ allEq x y = true:=fun h=>c ((allEq_iff x y).1 h).1
            rw [Bool.eq_false_iff.mpr this]
        have hD:=diff_nil kx ky
        have q1:Ev (fun k=>(link_Anew.f k a).bind fun x=>if x.2 = 0 then (link_Anew.f k b).bind fun y=>if y.2 = 0 then (diff_Alike.e x.1 y.1).bind fun b=>some (b,0) else some (false,y.2) else some (false,x.2)) (allEq x y,(0:Int)):=by
          refine Ev.bind x1 (Ev.ifp rfl (Ev.bind y1 (Ev.ifp rfl ?_)))
          rw [hE]
          exact Ev.now _
        refine Ev.bind q1 (Ev.bind (Ev.bind x2 (Ev.ifp rfl (Ev.bind y2 (Ev.ifp rfl (Ev.bind (diff_is x y kx ky nx ny dx dy) (Ev.now _)))))) ?_)
        have e:allEq x y = (((diffV x y).length:Int) == 0):=by
          by_cases c:allEq x y = true
          · rw [c,hD.2 c];rfl
          · rw [Bool.eq_false_iff.mpr c]
            have:diffV x y ≠ []:=fun h=>c (hD.1 h)
            have h2:(diffV x y).length ≠ 0:=fun h=>this (List.eq_nil_of_length_eq_zero h)
            symm
            rw [beq_eq_false_iff_ne]
            omega
        refine Ev.ifp ?_ (Ev.const ?_)
        · rw [e];simp
        · simp
      · refine Ev.bind (Ev.bind x1 (Ev.ifp rfl (Ev.bind y1 (Ev.ifn e0 (Ev.now _))))) (Ev.bind (Ev.bind x2 (Ev.ifp rfl (Ev.bind y2 (Ev.ifn e0 (Ev.now _))))) (Ev.ifp (by rfl) (Ev.const ?_)))
        simp
    · refine Ev.bind (Ev.bind x1 (Ev.ifn e0 (Ev.now _))) (Ev.bind (Ev.bind x2 (Ev.ifn e0 (Ev.now _))) (Ev.ifp (by rfl) (Ev.const ?_)))
      simp
  obtain ⟨K,hK⟩:=E
  exact ⟨K,hK K (Nat.le_refl _)⟩
end Go.Proofs.YtlfeijjilndljaaDoor.PuDiffAlikes
end
section
namespace Go.Proofs.YtlfeijjilndljaaDoor.diffAlikes
open Go.ChangeShapes Go.WideShapes Go.ChangeAt Go.RowKit Go.Proofs.YtlfeijjilndljaaDoorW.PrintWords Go.Proofs.YtlfeijjilndljaaDoorW.Opens
open Go.ChangeMaps (open_string shut_string)
set_option linter.unusedVariables false
theorem own:ownKnob Tryd.prog.godebug = none:=by kernel_rfl
theorem laidOut:laidOutB Tryd.prog = true:=by kernel_rfl
set_option maxRecDepth 100000 in
theorem contract (H:Type) (enc:TypeId × Value→H) (W:World) (base:Nat) (args:Array Value) (ds gs:List (DataW H)) (before:List MemPlace)
    (hval0:∀ (j:Nat) t v,Tryd.f9.params[j]? = some t→args[j]? = some v→Value.okWide Tryd.prog W .any base t v)
    (hW:DataW.Whole enc Tryd.prog Tryd.f9.params.toList Rows.diffAlikesSpec.vars false W args.toList ds gs before)
    (hsz0:(DataW.weightsEach Tryd.prog (Tryd.f9.params.toList ++ Rows.diffAlikesSpec.plain.varTypes Tryd.prog) (ds ++ gs)).all (· ≤ reachBytes) = true) (hL:laidMetH Tryd.prog Rows.diffAlikesRow.laid W) (hsh:W.ShapedOpen Tryd.prog) :
    Calls Tryd.prog 9 args W fun e W'=>∃ v,e = .returned v∧Rows.diffAlikesSpec.post enc Tryd.prog Tryd.f9 false true false false W args v W':=by
  have hsz:=hsz0
  have hval:=hval0
  have hW':=hW
  obtain ⟨p,q,hA0,hV,rfl,hfz,hnd⟩:=hW
  have hA:DataW.TrodAll enc Tryd.prog W 0 (fun _=>true) true Tryd.f9.params.toList args.toList ds p:=hA0
  rw [Tryd.params9] at hA hval hsz
  obtain ⟨v0,vs0,d0,ds0,p0,q0,hargs,rfl,rfl,h0,r0⟩:=trodAll_cons hA
  obtain ⟨v1,vs1,d1,ds1,p1,q1,rfl,rfl,rfl,h1,r1⟩:=trodAll_cons r0
  obtain ⟨rfl,rfl,rfl⟩:=trodAll_nil r1
  obtain rfl:args = #[v0,v1]:=by cases args;simp_all
  obtain ⟨rfl,rfl⟩:=trodVars_none hV
  obtain ⟨B0,n0,C0,rfl⟩:=okWide_slice Tryd.underlying23 (hval 0 23 v0 rfl rfl)
  have m0:=h0
  have lt0:∀ x ∈ p0,x.block < W.heap.size:=by obtain ⟨m,hm⟩:=m0;exact DataW.trod_lt m _ _ _ hm
  obtain ⟨x0,⟨A0,c0,e0,hc0,hr0⟩,g0⟩:=opens_at (opens_slice (B:=144) Tryd.underlying23 (by kernel_rfl) (by kernel_rfl) GDiffAlikes.opens56) hsz (j:=0) rfl rfl h0
  simp only [Value.cells,List.cons.injEq,Value.slice.injEq,and_true] at e0
  obtain ⟨rfl,rfl,rfl⟩:=e0
  obtain ⟨B1,n1,C1,rfl⟩:=okWide_slice Tryd.underlying23 (hval 1 23 v1 rfl rfl)
  have m1:=h1
  have lt1:∀ x ∈ p1,x.block < W.heap.size:=by obtain ⟨m,hm⟩:=m1;exact DataW.trod_lt m _ _ _ hm
  obtain ⟨x1,⟨A1,c1,e1,hc1,hr1⟩,g1⟩:=opens_at (opens_slice (B:=144) Tryd.underlying23 (by kernel_rfl) (by kernel_rfl) GDiffAlikes.opens56) hsz (j:=1) rfl rfl h1
  simp only [Value.cells,List.cons.injEq,Value.slice.injEq,and_true] at e1
  obtain ⟨rfl,rfl,rfl⟩:=e1
  clear hA0 hval0 hsz0 hsz
  refine (GDiffAlikes.walk PuDiffAlikes.pure x0 x1 W g0 g1 hr0 hc0 hr1 hc1).mono fun e W' ⟨he,bel⟩=>?_
  subst he
  exact ⟨_,rfl,_,_,_,[],_,[],hW',trodAll_mk1 (shut_bool Tryd.underlying4 _),(trodAll_cons_mk (Below.trod laidOut (by kernel_rfl) (of_decide_eq_true (by kernel_rfl)) m0 bel lt0) (trodAll_cons_mk (Below.trod laidOut (by kernel_rfl) (of_decide_eq_true (by kernel_rfl)) m1 bel lt1) trodAll_mk0)),rfl,bel.frame _,fun h=>by cases h⟩
set_option maxRecDepth 100000 in
noncomputable def laidWorld (os:Os):World :=
  { World.holding Tryd.prog os ⟨#[],#[],[]⟩ with heap:=(((World.holding Tryd.prog os ⟨#[],#[],[]⟩).heap.modify 5 fun
      | .cells _ t frozen => .cells #[.int .u8 128,.int .u8 191,.int .u8 160,.int .u8 191,.int .u8 128,.int .u8 159,.int .u8 144,.int .u8 191,.int .u8 128,.int .u8 143,.int .u8 0,.int .u8 0,.int .u8 0,.int .u8 0,.int .u8 0,.int .u8 0,.int .u8 0,.int .u8 0,.int .u8 0,.int .u8 0,.int .u8 0,.int .u8 0,.int .u8 0,.int .u8 0,.int .u8 0,.int .u8 0,.int .u8 0,.int .u8 0,.int .u8 0,.int .u8 0,.int .u8 0,.int .u8 0] t frozen
      | o=>o).modify 4 fun
      | .cells _ t frozen => .cells #[.int .u8 240,.int .u8 240,.int .u8 240,.int .u8 240,.int .u8 240,.int .u8 240,.int .u8 240,.int .u8 240,.int .u8 240,.int .u8 240,.int .u8 240,.int .u8 240,.int .u8 240,.int .u8 240,.int .u8 240,.int .u8 240,.int .u8 240,.int .u8 240,.int .u8 240,.int .u8 240,.int .u8 240,.int .u8 240,.int .u8 240,.int .u8 240,.int .u8 240,.int .u8 240,.int .u8 240,.int .u8 240,.int .u8 240,.int .u8 240,.int .u8 240,.int .u8 240,.int .u8 240,.int .u8 240,.int .u8 240,.int .u8 240,.int .u8 240,.int .u8 240,.int .u8 240,.int .u8 240,.int .u8 240,.int .u8 240,.int .u8 240,.int .u8 240,.int .u8 240,.int .u8 240,.int .u8 240,.int .u8 240,.int .u8 240,.int .u8 240,.int .u8 240,.int .u8 240,.int .u8 240,.int .u8 240,.int .u8 240,.int .u8 240,.int .u8 240,.int .u8 240,.int .u8 240,.int .u8 240,.int .u8 240,.int .u8 240,.int .u8 240,.int .u8 240,.int .u8 240,.int .u8 240,.int .u8 240,.int .u8 240,.int .u8 240,.int .u8 240,.int .u8 240,.int .u8 240,.int .u8 240,.int .u8 240,.int .u8 240,.int .u8 240,.int .u8 240,.int .u8 240,.int .u8 240,.int .u8 240,.int .u8 240,.int .u8 240,.int .u8 240,.int .u8 240,.int .u8 240,.int .u8 240,.int .u8 240,.int .u8 240,.int .u8 240,.int .u8 240,.int .u8 240,.int .u8 240,.int .u8 240,.int .u8 240,.int .u8 240,.int .u8 240,.int .u8 240,.int .u8 240,.int .u8 240,.int .u8 240,.int .u8 240,.int .u8 240,.int .u8 240,.int .u8 240,.int .u8 240,.int .u8 240,.int .u8 240,.int .u8 240,.int .u8 240,.int .u8 240,.int .u8 240,.int .u8 240,.int .u8 240,.int .u8 240,.int .u8 240,.int .u8 240,.int .u8 240,.int .u8 240,.int .u8 240,.int .u8 240,.int .u8 240,.int .u8 240,.int .u8 240,.int .u8 240,.int .u8 240,.int .u8 240,.int .u8 240,.int .u8 240,.int .u8 241,.int .u8 241,.int .u8 241,.int .u8 241,.int .u8 241,.int .u8 241,.int .u8 241,.int .u8 241,.int .u8 241,.int .u8 241,.int .u8 241,.int .u8 241,.int .u8 241,.int .u8 241,.int .u8 241,.int .u8 241,.int .u8 241,.int .u8 241,.int .u8 241,.int .u8 241,.int .u8 241,.int .u8 241,.int .u8 241,.int .u8 241,.int .u8 241,.int .u8 241,.int .u8 241,.int .u8 241,.int .u8 241,.int .u8 241,.int .u8 241,.int .u8 241,.int .u8 241,.int .u8 241,.int .u8 241,.int .u8 241,.int .u8 241,.int .u8 241,.int .u8 241,.int .u8 241,.int .u8 241,.int .u8 241,.int .u8 241,.int .u8 241,.int .u8 241,.int .u8 241,.int .u8 241,.int .u8 241,.int .u8 241,.int .u8 241,.int .u8 241,.int .u8 241,.int .u8 241,.int .u8 241,.int .u8 241,.int .u8 241,.int .u8 241,.int .u8 241,.int .u8 241,.int .u8 241,.int .u8 241,.int .u8 241,.int .u8 241,.int .u8 241,.int .u8 241,.int .u8 241,.int .u8 2,.int .u8 2,.int .u8 2,.int .u8 2,.int .u8 2,.int .u8 2,.int .u8 2,.int .u8 2,.int .u8 2,.int .u8 2,.int .u8 2,.int .u8 2,.int .u8 2,.int .u8 2,.int .u8 2,.int .u8 2,.int .u8 2,.int .u8 2,.int .u8 2,.int .u8 2,.int .u8 2,.int .u8 2,.int .u8 2,.int .u8 2,.int .u8 2,.int .u8 2,.int .u8 2,.int .u8 2,.int .u8 2,.int .u8 2,.int .u8 19,.int .u8 3,.int .u8 3,.int .u8 3,.int .u8 3,.int .u8 3,.int .u8 3,.int .u8 3,.int .u8 3,.int .u8 3,.int .u8 3,.int .u8 3,.int .u8 3,.int .u8 35,.int .u8 3,.int .u8 3,.int .u8 52,.int .u8 4,.int .u8 4,.int .u8 4,.int .u8 68,.int .u8 241,.int .u8 241,.int .u8 241,.int .u8 241,.int .u8 241,.int .u8 241,.int .u8 241,.int .u8 241,.int .u8 241,.int .u8 241,.int .u8 241] t frozen
      | o=>o) }
theorem laid_met (os:Os):laidMet Tryd.prog Rows.diffAlikesRow.laid ((laidWorld os).forCall (fun _ _=>0) ⟨#[],#[.slice none 0 0,.slice none 0 0],[]⟩).memory :=
  laidMet_of_run' 8 (by kernel_rfl) (by kernel_rfl)
theorem reads (os:Os) {H:Type} (enc:TypeId × Value→H):∃ places,DataW.whole enc Tryd.prog ((laidWorld os).forCall (fun _ _=>0) ⟨#[],#[.slice none 0 0,.slice none 0 0],[]⟩).memory Tryd.f9.params.toList Rows.diffAlikesSpec.vars false (#[.slice none 0 0,.slice none 0 0]:Array Value).toList 8 = some ([.nil,.nil],[],places) :=
  ⟨[],by kernel_rfl⟩
set_option maxRecDepth 100000 in
theorem lifted (os:Os) (started:os.Started) (H:Type) (enc:TypeId × Value→H) (F:Stop.Interp) :
    ReturnsInHanded {} Tryd.checked os 9 .any ((OpenSpec.ofChange Rows.diffAlikesSpec).preRow enc Tryd.prog Tryd.f9 Rows.diffAlikesRow.domain false Rows.diffAlikesRow.laid) (((OpenSpec.ofChange Rows.diffAlikesSpec).at F).post enc Tryd.prog Tryd.f9 false true false false):=by
  obtain ⟨places,hx⟩:=reads os enc
  refine returnsInHanded_of_row (C:=Tryd.checked) (s:=OpenSpec.ofChange Rows.diffAlikesSpec) own started (by kernel_rfl) Tryd.func9
    (witness_row_at (enc:=enc) (C:=Tryd.checked) false (laidWorld os) #[.slice none 0 0,.slice none 0 0] rfl (by kernel_rfl) (by kernel_rfl) (by kernel_rfl)
      (OpenSpec.preRow_of_cond 8 hx (by kernel_rfl) (fun k hk=>by cases hk) (by kernel_rfl) (laid_met os))) ?_
  intro W base args ds gs before hval hW _ hcond hsz hL hsh _
  exact contract H enc W base args ds gs before hval hW hsz hL hsh
theorem proved:Rows.DiffAlikesSaid :=
  OpenClaim.holds_of_cond 9 Tryd.f9 rfl rfl rfl rfl rfl rfl rfl ⟨rfl,rfl,rfl,rfl,rfl⟩ rfl rfl rfl rfl rfl (by kernel_rfl) Tryd.func9 (by kernel_rfl)
    (of_decide_eq_true (by kernel_rfl)) (by unfold Func.isWrapper;first|(rw [if_pos (by decide +kernel)];kernel_rfl)|(rw [if_neg (by decide +kernel)];exact ⟨rfl,rfl⟩))
    (fun os started H enc _ F=>by rw [OpenClaim.pre_eq_preRow];exact lifted os started H enc F)
theorem plain (f : FuncId) (fn : Func) (hf : Tryd.pinned.checked.prog.funcNamed "creel/creellaw.DiffAlikes" = some f) (hfn : Tryd.pinned.checked.prog.funcs[f]? = some fn) :
    false = Tryd.pinned.checked.prog.looks []∧∀ (j:Nat) t,fn.params[j]? = some t→Tryd.pinned.checked.prog.wantsStandIn t = false:=by
  obtain rfl : f = 9 := Option.some.inj ((show Tryd.prog.funcNamed "creel/creellaw.DiffAlikes" = some 9 by kernel_rfl).symm.trans hf) |>.symm
  obtain rfl:fn = Tryd.f9:=(Option.some.inj (Tryd.func9.symm.trans hfn)).symm
  refine ⟨by kernel_rfl,fun j t ht=>?_⟩
  rw [Tryd.params9] at ht
  have hm:=Array.mem_of_getElem? ht
  simp only [List.mem_toArray,List.mem_cons,List.not_mem_nil,or_false] at hm
  rcases hm with rfl|rfl
  · exact (show Tryd.prog.wantsStandIn 23 = false by kernel_rfl)
  · exact (show Tryd.prog.wantsStandIn 23 = false by kernel_rfl)
theorem card:Rows.DiffAlikesCardSaid :=
  Claim7.holds_tied_plain_at .later [] _ _ _ _ proved (fun _ h=>by cases h) (by kernel_rfl) (fun _ h=>by cases h) diffAlikes_row_tie rfl ⟨rfl,rfl⟩ (by kernel_rfl) rfl plain (by kernel_rfl)
#print axioms card
end Go.Proofs.YtlfeijjilndljaaDoor.diffAlikes
namespace Go.Proofs.YtlfeijjilndljaaDoor
theorem diffAlikes_holds:Rows.DiffAlikesCardSaid:=diffAlikes.card
end Go.Proofs.YtlfeijjilndljaaDoor
end
