/- Made by programs of the prover: walks of Go functions, the words that they use, and plain laws, each text in a section of its own; no condition of its own. -/
import Derived.Test.YtenbelecmmpdgaaGreatDoorRows
import Derived.Test.YtenbelecmmpdgaaGreatDoorCards
import Derived.Test.YtenbelecmmpdgaaGreatDoorTie
import Derived.WalkKit
import Derived.ProofKit
import Derived.OpenShut
import Derived.ShutString
import Derived.ChangeOld
import Derived.Below
import Derived.SizedLaws
import Derived.WideShapes
import Derived.Deep.DeepHandedRow
import Derived.Lib.LaidTab
import Derived.Test.YtenbelecmmpdgaaGreatDoorZWriteArchives2
import Derived.Test.YtenbelecmmpdgaaGreatDoorZWriteArchives3
import Derived.Test.YtenbelecmmpdgaaGreatDoorZWriteArchives4
import Derived.Test.YtenbelecmmpdgaaGreatDoorZWriteArchives5
import Derived.Test.YtenbelecmmpdgaaGreatDoorZWriteArchives6
import Derived.Test.YtenbelecmmpdgaaGreatDoorZWriteArchives7
import Derived.Test.YtenbelecmmpdgaaGreatDoorZWriteArchives8
import Derived.Test.YtenbelecmmpdgaaGreatDoorZWriteArchives9
import Derived.Test.YtenbelecmmpdgaaGreatDoorZWriteArchives10
import Derived.Test.YtenbelecmmpdgaaGreatDoorZWriteArchives11
import Derived.Test.YtenbelecmmpdgaaGreatDoorZWriteArchives12
section
namespace Go.Proofs.YtenbelecmmpdgaaGreatDoor.All
open Go.RowKit Go.Proofs.YtenbelecmmpdgaaGreatDoorW.PrintWords Go.Proofs.YtenbelecmmpdgaaGreatDoorW.PrintLast Go.Proofs.YtenbelecmmpdgaaGreatDoorW.PrintMore
open Go.Proofs.YtenbelecmmpdgaaGreatDoorW.Mine
attribute [local go_sem] gtr_string leq_string geq_string
attribute [local go_sem] max2_int min2_int max_two min_two max_three min_three max_four min_four
set_option linter.unusedVariables false
set_option linter.unusedSimpArgs false
def pad_Blocks.f (a0:Int):Option (Int × Int):=if a0 < 0 then (some (0,4)) else (if a0 > 8589934591 then (some (0,4)) else (some (wrap64 (Int.tdiv (wrap64 ((wrap64 (a0 + 512)) - 1)) 512),0)))
def creelref_PadBlocks.j0:Nat→Int→Bool→Option (Int × Int)
 | 0,_,_=>none
 | k + 1,x0,x10=>if x10 = true then (some (0,4)) else (if (wrap64 ((wrap64 (Int.tdiv x0 512)) * 512)) < x0 then (some (wrap64 ((wrap64 (Int.tdiv x0 512)) + 1),0)) else (some (wrap64 (Int.tdiv x0 512),0)))
def creelref_PadBlocks.f (k:Nat) (a0:Int):Option (Int × Int):=if a0 < 0 then (creelref_PadBlocks.j0 k a0 true) else (creelref_PadBlocks.j0 k a0 (decide (a0 ≥ 8589934592)))
end Go.Proofs.YtenbelecmmpdgaaGreatDoor.All
end
section
namespace Go.Proofs.YtenbelecmmpdgaaGreatDoor.Q
set_option linter.unusedVariables false
set_option linter.unusedSimpArgs false
open Go.RowKit Go.Proofs.YtenbelecmmpdgaaGreatDoor.All Go.Proofs.YtenbelecmmpdgaaGreatDoorW.PrintWords Go.Proofs.YtenbelecmmpdgaaGreatDoorW.PrintLast Go.Proofs.YtenbelecmmpdgaaGreatDoorW.PrintMore Go.Proofs.YtenbelecmmpdgaaGreatDoorW.PureBase
theorem fill_loop (d:Nat):∀ (k:Nat) (l:List Int),d < k→((512 - ((l.length:Int) % 512)) % 512) = d→l.length + d < 140737488355328→creelref_PadFill.l0 k l = some (l ++ List.replicate d 0):=by
  induction d with
  | zero =>
    intro k l hk hd hl
    obtain ⟨k,rfl⟩:∃ m,k = m + 1:=⟨k - 1,by omega⟩
    simp only [creelref_PadFill.l0]
    rw [if_pos (by omega)];simp
  | succ d ih =>
    intro k l hk hd hl
    obtain ⟨k,rfl⟩:∃ m,k = m + 1:=⟨k - 1,by omega⟩
    simp only [creelref_PadFill.l0]
    rw [if_neg (by omega),if_pos (by omega),ih k (l ++ [0]) (by omega) (by simp only [List.length_append,List.length_singleton];omega) (by simp only [List.length_append,List.length_singleton];omega)]
    rw [List.append_assoc];rfl
theorem fill_same (l:List Int) (h:l.length ≤ 140737488351232):∃ r,pad_Fill.f l = some r∧Ev (fun k=>creelref_PadFill.f k l) r∧r.length ≤ l.length + 511:=by
  obtain ⟨d,hd⟩:∃ d:Nat,((512 - ((l.length:Int) % 512)) % 512) = (d:Int):=⟨((512 - ((l.length:Int) % 512)) % 512).toNat,by omega⟩
  refine ⟨l ++ List.replicate d 0,?_,⟨600,fun k hk=>?_⟩,by rw [List.length_append,List.length_replicate];omega⟩
  · unfold pad_Fill.f
    rw [if_pos (by simp only [List.length_nil];omega)]
    simp only [Option.bind_some,List.nil_append]
    rw [hd,if_pos (by omega),if_pos (by omega)];simp
  · show creelref_PadFill.f k l = _
    unfold creelref_PadFill.f
    simp only [Option.bind_some,List.nil_append,List.length_nil]
    rw [if_pos (by omega),fill_loop d k l (by omega) hd (by omega)]
theorem two_loop_size (s:ByteArray):∀ (k i:Nat) (r:ByteArray × ByteArray × Int),cut_Two.l0 k s i = some r→r.1.size ≤ s.size∧r.2.1.size ≤ s.size
  | 0,i,r,h=>by rw [cut_Two.l0] at h;cases h
  | k + 1,i,r,h=>by
    rw [cut_Two.l0] at h
    split at h
    · split at h
      · obtain rfl:=Option.some.inj h
        show (s.extract 0 i).size ≤ _∧(s.extract (i + 1) s.size).size ≤ _
        rw [ByteArray.size_extract,ByteArray.size_extract]
        omega
      · exact two_loop_size s k _ r h
    · obtain rfl:=Option.some.inj h
      exact ⟨Nat.zero_le _,Nat.zero_le _⟩
theorem two_size (s:ByteArray) (hs:s.size ≤ 140737488351232) (r:ByteArray × ByteArray × Int) (h:Ev (fun k=>cut_Two.f k s) r):r.1.size ≤ s.size∧r.2.1.size ≤ s.size:=by
  obtain ⟨k,h⟩:=h
  have h:=h k (Nat.le_refl _)
  dsimp only at h
  unfold cut_Two.f at h
  split at h
  · split at h
    · obtain rfl:=Option.some.inj h
      exact ⟨Nat.zero_le _,Nat.zero_le _⟩
    · obtain ⟨t,_,h⟩:=Option.bind_eq_some_iff.1 h
      split at h
      · obtain rfl:=Option.some.inj h
        exact ⟨Nat.zero_le _,Nat.zero_le _⟩
      · split at h
        · obtain rfl:=Option.some.inj h
          exact ⟨Nat.zero_le _,Nat.le_refl _⟩
        · exact two_loop_size s k _ r h
  · cases h
theorem pre_same (l:List RR):∃ o:List Int,o.length ≤ 30000∧Ev (fun k=>member_Write.pre k l) o∧∀ out:List Int,Ev (fun k=>creelref_MemberBytes.tail k l out) (o ++ out,0):=by
  by_cases h0:l.length = 0
  · refine ⟨[],Nat.zero_le _,?_,fun out=>?_⟩
    · unfold member_Write.pre
      exact Ev.ifn (by omega) (Ev.now _)
    · unfold creelref_MemberBytes.tail
      exact Ev.ifp h0 (Ev.now _)
  · obtain ⟨s,p1,p2,p3⟩:=pax_same l
    obtain ⟨h,q1,q2,q3⟩:=both (⟨#[64,112,97,120]⟩:ByteArray) (⟨#[]⟩:ByteArray) (⟨#[]⟩:ByteArray) 0 0 0 (s.1.size:Int) 0 120 (⟨#[]⟩:ByteArray) (⟨#[]⟩:ByteArray) (by show 4 ≤ _;omega) (by show 0 ≤ _;omega) (by show 0 ≤ _;omega) (by show 0 ≤ _;omega) (by show 0 ≤ _;omega) (by omega)
    obtain ⟨f,w1,w2,w3⟩:=fill_same (bytesOf s.1) (by rw [bytesOf_length];omega)
    rw [bytesOf_length] at w3
    refine ⟨bytesOf h.1 ++ f,by rw [List.length_append,bytesOf_length];omega,?_,fun out=>?_⟩
    · unfold member_Write.pre
      exact Ev.ifp (by omega) (Ev.bind p1 (Ev.bind q1 (Ev.bind (Ev.const w1) (Ev.ifp ⟨by omega,by omega⟩ (Ev.now _)))))
    · unfold creelref_MemberBytes.tail
      exact Ev.ifn h0 (Ev.bind p2 (Ev.bind q2 (Ev.bind w2 (Ev.ifp ⟨by omega,by omega,by omega⟩ (Ev.now _)))))
theorem write_same (x:EE) (hp:x.f0.size ≤ 140737488351232) (ht:x.f2.size ≤ 140737488351232) (hu:x.f3.f3.size ≤ 140737488351232) (hg:x.f3.f4.size ≤ 140737488351232) (hd:x.f4.length ≤ 140737488351232) :
    ∃ (b:List Int) (e:Int),Ev (fun k=>member_Write.f k x.f0 x.f1 x.f2 x.f3.f0 x.f3.f1 x.f3.f2 x.f3.f3 x.f3.f4 x.f3.f5 x.f3.f6 x.f4) (b,e)∧Ev (fun k=>creelref_MemberBytes.f k x.f0 x.f1 x.f2 x.f3.f0 x.f3.f1 x.f3.f2 x.f3.f3 x.f3.f4 x.f3.f5 x.f3.f6 x.f4) (b,e)∧(entryR x.f0 x.f1 x.f2 x.f3.f0 x.f3.f1 x.f3.f2 x.f3.f3 x.f3.f4 x.f3.f5 x.f3.f6 x.f4.length = 0→e = 0∧b.length ≤ 50000):=by
  have e1:=plan_ev x.f0 x.f1 x.f2 x.f3.f0 x.f3.f1 x.f3.f2 x.f3.f3 x.f3.f4 x.f3.f5 x.f3.f6 x.f4 hp ht
  have e2:=refentry_ev x.f0 x.f1 x.f2 x.f3.f0 x.f3.f1 x.f3.f2 x.f3.f3 x.f3.f4 x.f3.f5 x.f3.f6 x.f4 hp ht hu hg
  by_cases h0:entryR x.f0 x.f1 x.f2 x.f3.f0 x.f3.f1 x.f3.f2 x.f3.f3 x.f3.f4 x.f3.f5 x.f3.f6 x.f4.length = 0
  · have h0':=h0
    rw [h0] at e1 e2
    obtain ⟨f1,f2,f3,f4,f5⟩:=fine_of _ _ _ _ _ _ _ _ _ _ _ h0
    obtain ⟨g1,g2,g3,g4,g5,g6⟩:=wrong_zero _ _ _ _ _ _ _ f2
    have hx:=fineE x h0
    obtain ⟨_,hps⟩:=path_size f1
    obtain ⟨r,t1,t2⟩:=two_same x.f0 hp
    have ts:=two_size x.f0 hp r t1
    have k1:Ev (fun k=>member_pack.f k x.f0 x.f1 x.f2 x.f3.f0 x.f3.f1 x.f3.f2 x.f3.f3 x.f3.f4 x.f3.f5 x.f3.f6 x.f4) (headV r x,recsV r x):=by
      obtain ⟨K,h⟩:=t1
      exact ⟨K + 31,fun k hk=>pack_val x hx r k (by omega) (h k (by omega))⟩
    have k2:Ev (fun k=>creelref_MemberRecords.f k x.f0 x.f1 x.f2 x.f3.f0 x.f3.f1 x.f3.f2 x.f3.f3 x.f3.f4 x.f3.f5 x.f3.f6 x.f4) (recsV r x,0):=by
      obtain ⟨K,h⟩:=t2
      obtain ⟨K',h'⟩:=e2
      exact ⟨K + K' + 31,fun k hk=>recs_val x hx r k (by omega) (h' k (by omega)) (h k (by omega))⟩
    have k3:Ev (fun k=>creelref_MemberHead.f k x.f0 x.f1 x.f2 x.f3.f0 x.f3.f1 x.f3.f2 x.f3.f3 x.f3.f4 x.f3.f5 x.f3.f6 x.f4) (tup (headV r x)):=by
      obtain ⟨K,h⟩:=t2
      obtain ⟨K',h'⟩:=e2
      exact ⟨K + K' + 31,fun k hk=>head_val x hx r k (by omega) (h' k (by omega)) (h k (by omega))⟩
    obtain ⟨o,o1,o2,o3⟩:=pre_same (recsV r x)
    obtain ⟨hd_,q1,q2,q3⟩:=both (headV r x).f0 (headV r x).f1 (headV r x).f2 (headV r x).f3 (headV r x).f4 (headV r x).f5 (headV r x).f6 (headV r x).f7 (headV r x).f8 (headV r x).f9 (headV r x).f10 (by have:=nm_size x.f0 r (by omega);show (nm r).size ≤ _;omega) (by show r.1.size ≤ _;omega) (by show ByteArray.size (if _ then _ else _) ≤ _;split;(show 5 ≤ _;omega);omega) (by show ByteArray.size (if _ then _ else _) ≤ _;split;(show 0 ≤ _;omega);omega) (by show ByteArray.size (if _ then _ else _) ≤ _;split;(show 0 ≤ _;omega);omega) (bt_range _ _)
    obtain ⟨f,w1,w2,w3⟩:=fill_same x.f4 hd
    refine ⟨(o ++ bytesOf hd_.1) ++ f,0,?_,?_,fun _=>⟨rfl,by rw [List.length_append,List.length_append,bytesOf_length];omega⟩⟩
    · unfold member_Write.f
      exact Ev.bind e1 (Ev.ifp rfl (Ev.bind k1 (Ev.bind o2 (Ev.bind q1 (Ev.bind (Ev.const w1) (Ev.ifp ⟨by omega,by omega,by omega⟩ (Ev.now _)))))))
    · unfold creelref_MemberBytes.f
      rw [List.append_assoc]
      exact Ev.bind k3 (Ev.ifp rfl (Ev.bind k2 (Ev.bind q2 (Ev.bind w2 (Ev.ifp ⟨trivial,by omega,by omega⟩ (o3 _))))))
  · refine ⟨[],entryR x.f0 x.f1 x.f2 x.f3.f0 x.f3.f1 x.f3.f2 x.f3.f3 x.f3.f4 x.f3.f5 x.f3.f6 x.f4.length,?_,?_,fun h=>absurd h h0⟩
    · unfold member_Write.f
      exact Ev.bind e1 (Ev.ifn h0 (Ev.now _))
    · have m1:Ev (fun k=>creelref_MemberRecords.f k x.f0 x.f1 x.f2 x.f3.f0 x.f3.f1 x.f3.f2 x.f3.f3 x.f3.f4 x.f3.f5 x.f3.f6 x.f4) ([],entryR x.f0 x.f1 x.f2 x.f3.f0 x.f3.f1 x.f3.f2 x.f3.f3 x.f3.f4 x.f3.f5 x.f3.f6 x.f4.length):=by
        unfold creelref_MemberRecords.f
        exact Ev.bind e2 (Ev.ifn h0 (Ev.now _))
      have m2:Ev (fun k=>creelref_MemberHead.f k x.f0 x.f1 x.f2 x.f3.f0 x.f3.f1 x.f3.f2 x.f3.f3 x.f3.f4 x.f3.f5 x.f3.f6 x.f4) ((⟨#[]⟩:ByteArray),(⟨#[]⟩:ByteArray),(⟨#[]⟩:ByteArray),0,0,0,0,0,0,(⟨#[]⟩:ByteArray),(⟨#[]⟩:ByteArray),entryR x.f0 x.f1 x.f2 x.f3.f0 x.f3.f1 x.f3.f2 x.f3.f3 x.f3.f4 x.f3.f5 x.f3.f6 x.f4.length):=by
        unfold creelref_MemberHead.f
        exact Ev.bind m1 (Ev.ifn h0 (Ev.now _))
      unfold creelref_MemberBytes.f
      exact Ev.bind m2 (Ev.ifn h0 (Ev.now _))
theorem write_right_ev (x:EE) (hp:x.f0.size ≤ 140737488351232) (ht:x.f2.size ≤ 140737488351232) (hu:x.f3.f3.size ≤ 140737488351232) (hg:x.f3.f4.size ≤ 140737488351232) (hd:x.f4.length ≤ 140737488351232) (h0:entryR x.f0 x.f1 x.f2 x.f3.f0 x.f3.f1 x.f3.f2 x.f3.f3 x.f3.f4 x.f3.f5 x.f3.f6 x.f4.length = 0) :
    ∃ b:List Int,b.length ≤ 50000∧Ev (fun k=>member_Write.f k x.f0 x.f1 x.f2 x.f3.f0 x.f3.f1 x.f3.f2 x.f3.f3 x.f3.f4 x.f3.f5 x.f3.f6 x.f4) (b,0)∧Ev (fun k=>creelref_MemberBytes.f k x.f0 x.f1 x.f2 x.f3.f0 x.f3.f1 x.f3.f2 x.f3.f3 x.f3.f4 x.f3.f5 x.f3.f6 x.f4) (b,0):=by
  obtain ⟨b,e,a1,a2,a3⟩:=write_same x hp ht hu hg hd
  obtain ⟨h1,h2⟩:=a3 h0
  subst h1
  exact ⟨b,h2,a1,a2⟩
end Go.Proofs.YtenbelecmmpdgaaGreatDoor.Q
end
section
namespace Go.Proofs.YtenbelecmmpdgaaGreatDoor.All
open Go.RowKit Go.Proofs.YtenbelecmmpdgaaGreatDoorW.PrintWords Go.Proofs.YtenbelecmmpdgaaGreatDoorW.PrintLast Go.Proofs.YtenbelecmmpdgaaGreatDoorW.PrintMore
open Go.Proofs.YtenbelecmmpdgaaGreatDoorW.Mine
attribute [local go_sem] gtr_string leq_string geq_string
attribute [local go_sem] max2_int min2_int max_two min_two max_three min_three max_four min_four
set_option linter.unusedVariables false
set_option linter.unusedSimpArgs false
def strings_HasPrefix.f (a0:ByteArray) (a1:ByteArray):Option Bool:=some (Lib.hasPrefix a0.data.toList a1.data.toList)
end Go.Proofs.YtenbelecmmpdgaaGreatDoor.All
end
section
namespace Go.Proofs.YtenbelecmmpdgaaGreatDoor.Q
set_option linter.unusedVariables false
set_option linter.unusedSimpArgs false
open Go.RowKit Go.Proofs.YtenbelecmmpdgaaGreatDoor.All Go.Proofs.YtenbelecmmpdgaaGreatDoorW.PrintWords Go.Proofs.YtenbelecmmpdgaaGreatDoorW.PrintLast Go.Proofs.YtenbelecmmpdgaaGreatDoorW.PrintMore Go.Proofs.YtenbelecmmpdgaaGreatDoorW.PureBase
theorem cmp_is (p q:ByteArray):cmp_Compare_string.f p q = some (if (Op.bytesLess p.toList q.toList) = true then (-1) else if (Op.bytesLess q.toList p.toList) = true then 1 else 0):=by
  unfold cmp_Compare_string.f cmp_isNaN_string.f
  simp only [bne_self_eq_false,Option.bind_some,Bool.false_eq_true,if_false]
  split
  · rfl
  · split <;> rfl
theorem cmp_loop (x y:List ByteArray) (hx:x.length ≤ 1099511627776) (d:Nat):∀ (k q i:Nat),x.length - i = d→i ≤ x.length→i ≤ y.length→d < k→2 * d + 2 < q →
    ∃ r,slices_Compare_string_string.l0 k x y x (x.length:Int) (i:Int) = some r∧creelref_PathOrder.l0 q x y (i:Int) = some r:=by
  induction d with
  | zero =>
    intro k q i hd hi hy hk hq
    obtain ⟨k,rfl⟩:∃ m,k = m + 1:=⟨k - 1,by omega⟩
    obtain ⟨q,rfl⟩:∃ m,q = m + 2:=⟨q - 2,by omega⟩
    have e:i = x.length:=by omega
    subst e
    simp only [slices_Compare_string_string.l0,creelref_PathOrder.l0,creelref_PathOrder.j1]
    rw [if_neg (show ¬ ((x.length:Int) < (x.length:Int)) by omega),if_neg (show ¬ ((x.length:Int) < (x.length:Int)) by omega),if_neg (show ¬ (false = true) by simp)]
    by_cases h:(x.length:Int) < (y.length:Int)
    · exact ⟨-1,by rw [if_pos h],by rw [if_pos h]⟩
    · exact ⟨0,by rw [if_neg h],by rw [if_neg h,if_neg (show ¬ (x.length:Int) > (y.length:Int) by omega)]⟩
  | succ d ih =>
    intro k q i hd hi hy hk hq
    obtain ⟨k,rfl⟩:∃ m,k = m + 1:=⟨k - 1,by omega⟩
    obtain ⟨q,rfl⟩:∃ m,q = m + 2:=⟨q - 2,by omega⟩
    have hlt:(i:Int) < (x.length:Int):=by omega
    simp only [slices_Compare_string_string.l0,creelref_PathOrder.l0,creelref_PathOrder.j1]
    rw [if_pos hlt,if_pos hlt,if_pos (show (0:Int) ≤ (i:Int) by omega),if_pos hlt,if_pos (show (0:Int) ≤ (i:Int) by omega),if_pos hlt]
    by_cases h:(i:Int) < (y.length:Int)
    · rw [if_neg (show ¬ (i:Int) ≥ (y.length:Int) by omega),if_pos h,cmp_is,decide_eq_true h,if_pos h,if_pos rfl]
      simp only [Option.bind_some]
      have hw:wrap64 ((i:Int) + 1) = ((i + 1:Nat):Int):=by rw [wrap_is (by omega) (by omega)];omega
      by_cases l1:(Op.bytesLess (rdOf ByteArray.empty x (i:Int)).toList (rdOf ByteArray.empty y (i:Int)).toList) = true
      · refine ⟨-1,?_,?_⟩
        · rw [if_pos l1,if_neg (by omega)]
        · rw [if_pos l1]
      · by_cases l2:(Op.bytesLess (rdOf ByteArray.empty y (i:Int)).toList (rdOf ByteArray.empty x (i:Int)).toList) = true
        · refine ⟨1,?_,?_⟩
          · rw [if_neg l1,if_pos l2,if_neg (by omega)]
          · rw [if_neg l1,if_pos l2]
        · obtain ⟨r,h1,h2⟩:=ih k q (i + 1) (by omega) (by omega) (by omega) (by omega) (by omega)
          rw [if_neg l1,if_neg l2,if_pos rfl,if_neg l1,if_neg l2,hw]
          exact ⟨r,h1,h2⟩
    · refine ⟨1,?_,?_⟩
      · rw [if_pos (show (i:Int) ≥ (y.length:Int) by omega)]
      · rw [decide_eq_false h,if_neg (show ¬ (false = true) by simp),if_neg (show ¬ (x.length:Int) < (y.length:Int) by omega),if_pos (show (x.length:Int) > (y.length:Int) by omega)]
def cmpL:List ByteArray→List ByteArray→Int
  | [],[]=>0
  | [],_ :: _=>-1
  | _ :: _,[]=>1
  | p :: x,q :: y=>if (Op.bytesLess p.toList q.toList) = true then -1 else if (Op.bytesLess q.toList p.toList) = true then 1 else cmpL x y
def prt (s:ByteArray):List ByteArray:=if s.toList = ([]:List UInt8) then [] else pp s
def cmpP (a b:ByteArray):Int:=cmpL (prt a) (prt b)
theorem drop_getD (x:List ByteArray) (i:Nat) (h:i < x.length):x.drop i = rdOf ByteArray.empty x (i:Int) :: x.drop (i + 1):=by
  rw [List.drop_eq_getElem_cons h]
  simp [rdOf,List.getD_eq_getElem?_getD,List.getElem?_eq_getElem h]
theorem slices_val (x y:List ByteArray) (hx:x.length ≤ 1099511627776) (d:Nat):∀ (k i:Nat),x.length - i = d→i ≤ x.length→i ≤ y.length→d < k →
    slices_Compare_string_string.l0 k x y x (x.length:Int) (i:Int) = some (cmpL (x.drop i) (y.drop i)):=by
  induction d with
  | zero =>
    intro k i hd hi hy hk
    obtain ⟨k,rfl⟩:∃ m,k = m + 1:=⟨k - 1,by omega⟩
    have e:i = x.length:=by omega
    subst e
    simp only [slices_Compare_string_string.l0]
    rw [if_neg (show ¬ ((x.length:Int) < (x.length:Int)) by omega),List.drop_length]
    by_cases h:(x.length:Int) < (y.length:Int)
    · rw [if_pos h,drop_getD y _ (by omega)]
      rfl
    · rw [if_neg h,List.drop_of_length_le (by omega)]
      rfl
  | succ d ih =>
    intro k i hd hi hy hk
    obtain ⟨k,rfl⟩:∃ m,k = m + 1:=⟨k - 1,by omega⟩
    have hlt:(i:Int) < (x.length:Int):=by omega
    simp only [slices_Compare_string_string.l0]
    rw [if_pos hlt,if_pos (show (0:Int) ≤ (i:Int) by omega),if_pos hlt,drop_getD x i (by omega)]
    by_cases h:(i:Int) < (y.length:Int)
    · have hw:wrap64 ((i:Int) + 1) = ((i + 1:Nat):Int):=by rw [wrap_is (by omega) (by omega)];omega
      rw [if_neg (show ¬ (i:Int) ≥ (y.length:Int) by omega),if_pos h,cmp_is,drop_getD y i (by omega)]
      simp only [Option.bind_some,cmpL]
      by_cases l1:(Op.bytesLess (rdOf ByteArray.empty x (i:Int)).toList (rdOf ByteArray.empty y (i:Int)).toList) = true
      · rw [if_pos l1,if_neg (by omega)]
        rw [if_pos l1]
      · by_cases l2:(Op.bytesLess (rdOf ByteArray.empty y (i:Int)).toList (rdOf ByteArray.empty x (i:Int)).toList) = true
        · rw [if_neg l1,if_pos l2,if_neg (by omega),if_neg l1,if_pos l2]
        · rw [if_neg l1,if_neg l2,if_pos rfl,if_neg l1,if_neg l2,hw]
          exact ih k (i + 1) (by omega) (by omega) (by omega) (by omega)
    · rw [if_pos (show (i:Int) ≥ (y.length:Int) by omega),List.drop_of_length_le (show y.length ≤ i by omega)]
      rfl
theorem prt_is (s:ByteArray) (hs:s.size ≤ 1048576) (k:Nat) (hk:s.size < k):(prt s).length ≤ s.size + 1∧path_Parts.f s = some (prt s)∧creelref_PathParts.f k s = some (prt s):=by
  unfold path_Parts.f creelref_PathParts.f prt
  by_cases h0:s.toList = ([]:List UInt8)
  · rw [if_pos h0,if_pos h0,if_pos h0]
    exact ⟨by simp,rfl,rfl⟩
  · rw [if_neg h0,if_neg h0,if_neg h0,split_is s (by omega),parts_is s k (by omega) hk]
    exact ⟨pp_len s,rfl,rfl⟩
theorem cmp_both (a b:ByteArray) (ha:a.size ≤ 1048576) (hb:b.size ≤ 1048576) (k:Nat) (hk:2 * a.size + b.size + 10 ≤ k):path_Compare.f k a b = some (cmpP a b)∧creelref_PathOrder.f k a b = some (cmpP a b):=by
  obtain ⟨hx,x1,x2⟩:=prt_is a ha k (by omega)
  obtain ⟨hy,y1,y2⟩:=prt_is b hb k (by omega)
  have v:=slices_val (prt a) (prt b) (by omega) (prt a).length k 0 (by omega) (by omega) (by omega) (by omega)
  obtain ⟨r,r1,r2⟩:=cmp_loop (prt a) (prt b) (by omega) (prt a).length k k 0 (by omega) (by omega) (by omega) (by omega) (by omega)
  have e:r = cmpP a b:=by
    rw [v] at r1
    simp only [List.drop_zero,Option.some.injEq] at r1
    exact r1.symm
  subst e
  constructor
  · unfold path_Compare.f slices_Compare_string_string.f
    rw [x1,y1]
    simp only [Option.bind_some]
    rw [show slices_Compare_string_string.l0 k (prt a) (prt b) (prt a) ((prt a).length:Int) 0 = some (cmpP a b) from r1]
    rfl
  · unfold creelref_PathOrder.f
    rw [x2,y2]
    exact r2
theorem cmp_ev (a b:ByteArray) (ha:a.size ≤ 1048576) (hb:b.size ≤ 1048576):Ev (fun k=>path_Compare.f k a b) (cmpP a b)∧Ev (fun k=>creelref_PathOrder.f k a b) (cmpP a b) :=
  ⟨⟨_,fun k hk=>(cmp_both a b ha hb k hk).1⟩,⟨_,fun k hk=>(cmp_both a b ha hb k hk).2⟩⟩
theorem cmpL_01:∀ x y:List ByteArray,cmpL x y = -1 ∨ cmpL x y = 0 ∨ cmpL x y = 1
  | [],[]=>Or.inr (Or.inl rfl)
  | [],_ :: _=>Or.inl rfl
  | _ :: _,[]=>Or.inr (Or.inr rfl)
  | p :: x,q :: y=>by
    unfold cmpL
    split
    · exact Or.inl rfl
    · split
      · exact Or.inr (Or.inr rfl)
      · exact cmpL_01 x y
theorem cmpP_01 (a b:ByteArray):cmpP a b = -1 ∨ cmpP a b = 0 ∨ cmpP a b = 1:=cmpL_01 _ _
def upOf (s:ByteArray):ByteArray:=(path_Up.f s).getD (⟨#[]⟩:ByteArray)
theorem up_ev (s:ByteArray) (hs:s.size ≤ 1048576):path_Up.f s = some (upOf s)∧∃ b,Ev (fun k=>creelref_PathSplit.f k s) (upOf s,b):=by
  rcases up_only s (s.size + 3) hs (by omega) with ⟨e,h1,h2⟩|⟨i,hi,e,h1,h2⟩
  · have e1:upOf s = (⟨#[]⟩:ByteArray):=by unfold upOf;rw [h1];rfl
    refine ⟨by rw [e1,h1],s,s.size + 3,fun k hk=>?_⟩
    rcases up_only s k hs (by omega) with ⟨_,_,g2⟩|⟨j,hj,e',_,_⟩
    · rw [e1];exact g2
    · omega
  · have e1:upOf s = s.extract 0 i:=by unfold upOf;rw [h1];rfl
    refine ⟨by rw [e1,h1],s.extract (i + 1) s.size,s.size + 3,fun k hk=>?_⟩
    rcases up_only s k hs (by omega) with ⟨e',_,_⟩|⟨j,hj,e',_,g2⟩
    · omega
    · obtain rfl:i = j:=by omega
      rw [e1];exact g2
theorem less_irrefl (a:List UInt8):Op.bytesLess a a = false:=by
  have:=Go.Proofs.YtenbelecmmpdgaaGreatDoorW.Mine.bytesLess_swap a a
  cases h:Op.bytesLess a a with
  | false=>rfl
  | true=>rw [h] at this;simp at this
theorem less_total {a b:List UInt8} (h1:¬ Op.bytesLess a b = true) (h2:¬ Op.bytesLess b a = true):a = b:=by
  have:=Go.Proofs.YtenbelecmmpdgaaGreatDoorW.Mine.bytesLess_swap a b
  rw [Bool.eq_false_iff.mpr h1,Bool.eq_false_iff.mpr h2] at this
  simpa using this
theorem less_trans:∀ a b c:List UInt8,Op.bytesLess a b = true→Op.bytesLess b c = true→Op.bytesLess a c = true
  | [],[],_,h,_=>by simp [Op.bytesLess] at h
  | [],_ :: _,[],_,h=>by simp [Op.bytesLess] at h
  | [],_ :: _,_ :: _,_,_=>by simp [Op.bytesLess]
  | _ :: _,[],_,h,_=>by simp [Op.bytesLess] at h
  | _ :: _,_ :: _,[],_,h=>by simp [Op.bytesLess] at h
  | x :: a,y :: b,z :: c,h1,h2=>by
    simp only [Op.bytesLess,Bool.or_eq_true,Bool.and_eq_true,decide_eq_true_eq,beq_iff_eq] at h1 h2 ⊢
    rcases h1 with p|⟨rfl,p⟩
    · rcases h2 with q|⟨rfl,q⟩
      · exact Or.inl (by rw [UInt8.lt_iff_toNat_lt] at p q ⊢;omega)
      · exact Or.inl p
    · rcases h2 with q|⟨rfl,q⟩
      · exact Or.inl q
      · exact Or.inr ⟨rfl,less_trans a b c p q⟩
theorem cmpL_self:∀ x:List ByteArray,cmpL x x = 0
  | []=>rfl
  | p :: x=>by
    unfold cmpL
    rw [less_irrefl,if_neg (by decide),if_neg (by decide)]
    exact cmpL_self x
theorem cmpL_trans:∀ x y z:List ByteArray,cmpL x y = -1→cmpL y z = -1→cmpL x z = -1
  | [],[],_,h,_=>by simp [cmpL] at h
  | [],_ :: _,[],_,h=>by simp [cmpL] at h
  | [],_ :: _,_ :: _,_,_=>rfl
  | _ :: _,[],_,h,_=>by simp [cmpL] at h
  | _ :: _,_ :: _,[],_,h=>by simp [cmpL] at h
  | p :: x,q :: y,r :: z,h1,h2=>by
    unfold cmpL at h1 h2 ⊢
    by_cases a:Op.bytesLess p.toList q.toList = true
    · by_cases b:Op.bytesLess q.toList r.toList = true
      · rw [if_pos (less_trans _ _ _ a b)]
      · rw [if_neg b] at h2
        split at h2
        · cases h2
        · rename_i c
          have e:=less_total b c
          rw [← e,if_pos a]
    · rw [if_neg a] at h1
      split at h1
      · cases h1
      · rename_i c
        have e:=less_total a c
        rw [e]
        by_cases b:Op.bytesLess q.toList r.toList = true
        · rw [if_pos b]
        · rw [if_neg b] at h2 ⊢
          split at h2
          · cases h2
          · rename_i d
            rw [if_neg d]
            exact cmpL_trans x y z h1 h2
theorem cmpP_self (a:ByteArray):cmpP a a = 0:=cmpL_self _
theorem cmpP_trans {a b c:ByteArray} (h1:cmpP a b = -1) (h2:cmpP b c = -1):cmpP a c = -1:=cmpL_trans _ _ _ h1 h2
theorem cmpP_ne {a b:ByteArray} (h:cmpP a b = -1):a ≠ b:=fun e=>by rw [e,cmpP_self] at h;cases h
theorem rising {α:Type} (p:α→ByteArray) (g:Nat→α) (n:Nat) (h:∀ i,0 < i→i < n→cmpP (p (g (i - 1))) (p (g i)) = -1):∀ d i j,j = i + d + 1→j < n→cmpP (p (g i)) (p (g j)) = -1
  | 0,i,j,e,hj=>by
    subst e
    exact h (i + 0 + 1) (by omega) hj
  | d + 1,i,j,e,hj=>by
    have h1:=rising p g n h d i (j - 1) (by omega) (by omega)
    have h2:=h j (by omega) hj
    exact cmpP_trans h1 h2
abbrev Entry:=S26
def ne (l:List Entry) (i:Nat):Entry:=l.getD i z26
theorem rd_ne (l:List Entry) (i:Nat):rd_T26 l (i:Int) = ne l i:=by unfold rd_T26 ne;rw [Int.toNat_natCast]
theorem ne_get (l:List Entry) (i:Nat) (h:i < l.length):l[i] = ne l i:=by
  unfold ne
  rw [List.getD_eq_getElem?_getD,List.getElem?_eq_getElem h]
  rfl
theorem ne_mem (l:List Entry) (i:Nat) (h:i < l.length):ne l i ∈ l:=by rw [← ne_get l i h];exact List.getElem_mem h
theorem take_ne (l:List Entry) (n:Nat) (h:n < l.length):l.take (n + 1) = l.take n ++ [ne l n]:=by
  rw [List.take_succ_eq_append_getElem h,ne_get l n h]
def okE (x:Entry):Prop:=x.f0.size ≤ 140737488351232∧x.f2.size ≤ 140737488351232∧x.f3.f3.size ≤ 140737488351232∧x.f3.f4.size ≤ 140737488351232
def entX (x:Entry):Int:=entryR x.f0 x.f1 x.f2 x.f3.f0 x.f3.f1 x.f3.f2 x.f3.f3 x.f3.f4 x.f3.f5 x.f3.f6 x.f4.length
theorem eright_at (x:Entry) (h:okE x):Ev (fun k=>plan_Check.right k x) (entX x):=plan_ev x.f0 x.f1 x.f2 x.f3.f0 x.f3.f1 x.f3.f2 x.f3.f3 x.f3.f4 x.f3.f5 x.f3.f6 x.f4 h.1 h.2.1
theorem refent_at (x:Entry) (h:okE x):Ev (fun k=>creelref_EntriesFault.right k x) (entX x):=refentry_ev x.f0 x.f1 x.f2 x.f3.f0 x.f3.f1 x.f3.f2 x.f3.f3 x.f3.f4 x.f3.f5 x.f3.f6 x.f4 h.1 h.2.1 h.2.2.1 h.2.2.2
theorem entX_path (x:Entry) (h:entX x = 0):1 ≤ x.f0.size∧x.f0.size ≤ 400:=by
  unfold entX entryR at h
  split at h
  · rename_i h0
    unfold pathR at h0
    split at h0
    · cases h0
    · omega
  · contradiction
def metaE (y x:Entry):Bool:=creelref_EntriesFault.meta y x
def isE (s:List UInt8) (y:Entry):Bool:=decide (y.f0.toList = s)
def findE (l:List Entry) (s:List UInt8):Nat:=l.findIdx (isE s)
theorem findE_le (l:List Entry) (s:List UInt8):findE l s ≤ l.length:=List.findIdx_le_length
theorem findE_at (l:List Entry) (s:List UInt8) (i:Nat) (hi:i < l.length) (h:(ne l i).f0.toList = s) (hb:∀ j,j < i→(ne l j).f0.toList ≠ s):findE l s = i:=by
  unfold findE
  rw [List.findIdx_eq hi]
  refine ⟨by rw [ne_get l i hi];exact decide_eq_true h,fun j hj=>?_⟩
  rw [ne_get l j (by omega)]
  exact decide_eq_false (hb j hj)
theorem findE_no (l:List Entry) (s:List UInt8) (hb:∀ j,j < l.length→(ne l j).f0.toList ≠ s):findE l s = l.length:=by
  unfold findE
  rw [List.findIdx_eq_length]
  intro y hy
  obtain ⟨j,hj,rfl⟩:=List.getElem_of_mem hy
  rw [ne_get l j hj]
  exact decide_eq_false (hb j hj)
theorem at_loop (l:List Entry) (s:ByteArray) (hl:l.length ≤ 1099511627776) (d:Nat):∀ (k i:Nat),l.length - i = d→i ≤ l.length→d < k→(∀ j,j < i→(ne l j).f0.toList ≠ s.toList) →
    creelref_EntryAt.l0 k l s (i:Int) = some (findE l s.toList:Int):=by
  induction d with
  | zero =>
    intro k i hd hi hk hb
    obtain ⟨k,rfl⟩:∃ m,k = m + 1:=⟨k - 1,by omega⟩
    have e:i = l.length:=by omega
    subst e
    have hf:=findE_no l s.toList hb
    simp only [creelref_EntryAt.l0]
    rw [if_neg (by omega),hf]
  | succ d ih =>
    intro k i hd hi hk hb
    obtain ⟨k,rfl⟩:∃ m,k = m + 1:=⟨k - 1,by omega⟩
    have hlt:(i:Int) < (l.length:Int):=by omega
    have hw:wrap64 ((i:Int) + 1) = ((i + 1:Nat):Int):=by rw [wrap_is (by omega) (by omega)];omega
    simp only [creelref_EntryAt.l0]
    rw [if_pos hlt,if_pos (show (0:Int) ≤ (i:Int) by omega),rd_ne]
    by_cases h:(ne l i).f0.toList = s.toList
    · have hf:=findE_at l s.toList i (by omega) h hb
      rw [if_pos h,hf]
    · rw [if_neg h,hw]
      refine ih k (i + 1) (by omega) (by omega) (by omega) (fun j hj=>?_)
      by_cases e:j = i
      · subst e;exact h
      · exact hb j (by omega)
theorem at_is (l:List Entry) (s:ByteArray) (hl:l.length ≤ 1099511627776) (k:Nat) (hk:l.length < k):creelref_EntryAt.f k l s = some (findE l s.toList:Int) :=
  at_loop l s hl l.length k 0 (by omega) (by omega) hk (fun j hj=>absurd hj (Nat.not_lt_zero j))
def twoE (l:List Entry) (n:Nat) (x:Entry):Bool:=if 0 < n then decide (0 ≤ cmpP (ne l (n - 1)).f0 x.f0) else false
def upE (l:List Entry) (n:Nat) (x:Entry):Bool:=if (upOf x.f0).toList = ([]:List UInt8) then false else if findE (l.take n) (upOf x.f0).toList < n then ((ne l (findE (l.take n) (upOf x.f0).toList)).f1 != 2) else true
def linkE (l:List Entry) (n:Nat) (x:Entry):Bool:=if x.f1 = 4 then (if findE (l.take n) x.f2.toList < n then (if (ne l (findE (l.take n) x.f2.toList)).f1 = 1 then !metaE (ne l (findE (l.take n) x.f2.toList)) x else true) else true) else false
def stepE (l:List Entry) (n:Nat) (x:Entry):Int:=if entX x = 0 then (if twoE l n x = true then 6 else if upE l n x = true then 10 else if linkE l n x = true then 11 else 0) else entX x
def entFrom (l:List Entry):Nat→Nat→Int
  | 0,_=>0
  | d + 1,n=>if stepE l n (ne l n) = 0 then entFrom l d (n + 1) else stepE l n (ne l n)
def entriesR (l:List Entry):Int:=if 40 < l.length then 1 else entFrom l l.length 0
theorem stepE_zero (l:List Entry) (n:Nat) (x:Entry) (h:stepE l n x = 0):entX x = 0∧twoE l n x = false∧upE l n x = false∧linkE l n x = false:=by
  unfold stepE at h
  split at h
  · rename_i h0
    split at h
    · cases h
    · rename_i h1
      split at h
      · cases h
      · rename_i h2
        split at h
        · cases h
        · rename_i h3
          exact ⟨h0,Bool.eq_false_iff.mpr h1,Bool.eq_false_iff.mpr h2,Bool.eq_false_iff.mpr h3⟩
  · contradiction
theorem esize_le (l:List Entry) {n:Nat} (hn:∀ j,j < n→stepE l j (ne l j) = 0) (i:Nat) (hi:i < n):(ne l i).f0.size ≤ 1048576:=by
  have:=entX_path _ (stepE_zero l i _ (hn i hi)).1
  omega
theorem two_ent (l:List Entry) (x:Entry) (n:Nat) (hx:x.f0.size ≤ 1048576) (hb:∀ j,j < n→stepE l j (ne l j) = 0):Ev (fun k=>creelref_EntriesFault.two k l x n) (twoE l n x)∧Ev (fun k=>plan_Check.two k l x n) (twoE l n x):=by
  unfold twoE creelref_EntriesFault.two plan_Check.two
  by_cases h:0 < n
  · simp only [if_pos h,rd_ne]
    obtain ⟨h1,h2⟩:=cmp_ev (ne l (n - 1)).f0 x.f0 (esize_le l hb (n - 1) (by omega)) hx
    exact ⟨Ev.bind h2 (Ev.const rfl),Ev.bind h1 (Ev.const rfl)⟩
  · simp only [if_neg h]
    exact ⟨Ev.now _,Ev.now _⟩
theorem at_ev (l:List Entry) (s:ByteArray) (n:Nat) (hl:l.length ≤ 40):Ev (fun k=>creelref_EntryAt.f k (l.take n) s) (findE (l.take n) s.toList:Int):=⟨50,fun k hk=>at_is (l.take n) s (by simp;omega) k (by simp;omega)⟩
theorem up_ent (l:List Entry) (x:Entry) (n:Nat) (hx:x.f0.size ≤ 1048576) (hn:n ≤ l.length) (hl:l.length ≤ 40):Ev (fun k=>creelref_EntriesFault.up k l x n) (upE l n x):=by
  obtain ⟨h1,b,h2⟩:=up_ev x.f0 hx
  have hle:=findE_le (l.take n) (upOf x.f0).toList
  rw [show (l.take n).length = n by simp;omega] at hle
  unfold creelref_EntriesFault.up
  refine Ev.bind h2 (Ev.bind (at_ev l (upOf x.f0) n hl) ?_)
  by_cases e:(upOf x.f0).toList = ([]:List UInt8)
  · rw [show upE l n x = false by unfold upE;rw [if_pos e]]
    exact Ev.ifp e (Ev.now _)
  · refine Ev.ifn e ?_
    by_cases g:findE (l.take n) (upOf x.f0).toList < n
    · rw [show upE l n x = ((ne l (findE (l.take n) (upOf x.f0).toList)).f1 != 2) by unfold upE;rw [if_neg e,if_pos g]]
      refine Ev.ifn (by omega) (Ev.ifp (by omega) (Ev.const ?_))
      rw [rd_ne]
    · rw [show upE l n x = true by unfold upE;rw [if_neg e,if_neg g]]
      exact Ev.ifp (by omega) (Ev.now _)
theorem link_ent (l:List Entry) (x:Entry) (n:Nat) (hn:n ≤ l.length) (hl:l.length ≤ 40):Ev (fun k=>creelref_EntriesFault.link k l x n) (linkE l n x):=by
  have hle:=findE_le (l.take n) x.f2.toList
  rw [show (l.take n).length = n by simp;omega] at hle
  unfold creelref_EntriesFault.link
  refine Ev.bind (at_ev l _ n hl) ?_
  by_cases e:x.f1 = 4
  · refine Ev.ifp e ?_
    by_cases g:findE (l.take n) x.f2.toList < n
    · refine Ev.ifn (by omega) (Ev.ifp (by omega) ?_)
      by_cases c:(ne l (findE (l.take n) x.f2.toList)).f1 = 1
      · rw [show linkE l n x = !metaE (ne l (findE (l.take n) x.f2.toList)) x by unfold linkE;rw [if_pos e,if_pos g,if_pos c]]
        refine Ev.const ?_
        rw [rd_ne,if_pos c]
        rfl
      · rw [show linkE l n x = true by unfold linkE;rw [if_pos e,if_pos g,if_neg c]]
        refine Ev.const ?_
        rw [rd_ne,if_neg c]
    · rw [show linkE l n x = true by unfold linkE;rw [if_pos e,if_neg g]]
      exact Ev.ifp (by omega) (Ev.now _)
  · rw [show linkE l n x = false by unfold linkE;rw [if_neg e]]
    exact Ev.ifn e (Ev.now _)
theorem ref_estep (l:List Entry) (n:Nat) (hl:l.length ≤ 40) (hn:n < l.length) (hg:∀ y ∈ l,okE y) (hb:∀ j,j < n→stepE l j (ne l j) = 0):Ev (fun k=>creelref_EntriesFault.step k l (ne l n) n) (stepE l n (ne l n)):=by
  unfold creelref_EntriesFault.step
  refine Ev.bind (refent_at _ (hg _ (ne_mem l n hn))) ?_
  unfold stepE
  by_cases h:entX (ne l n) = 0
  · have hx:(ne l n).f0.size ≤ 1048576:=by have:=entX_path _ h;omega
    refine Ev.ifp h ?_
    rw [if_pos h]
    refine Ev.bind (two_ent l _ n hx hb).1 ?_
    by_cases h1:twoE l n (ne l n) = true
    · refine Ev.ifp h1 ?_
      rw [if_pos h1];exact Ev.now _
    · refine Ev.ifn h1 ?_
      rw [if_neg h1]
      refine Ev.bind (up_ent l _ n hx (by omega) hl) ?_
      by_cases h2:upE l n (ne l n) = true
      · refine Ev.ifp h2 ?_
        rw [if_pos h2];exact Ev.now _
      · refine Ev.ifn h2 ?_
        rw [if_neg h2]
        refine Ev.bind (link_ent l _ n (by omega) hl) ?_
        by_cases h3:linkE l n (ne l n) = true
        · refine Ev.ifp h3 ?_
          rw [if_pos h3];exact Ev.now _
        · refine Ev.ifn h3 ?_
          rw [if_neg h3];exact Ev.now _
  · refine Ev.ifn h ?_
    rw [if_neg h];exact Ev.now _
theorem ref_efrom (l:List Entry) (hl:l.length ≤ 40) (hg:∀ y ∈ l,okE y) (d:Nat):∀ n,n + d = l.length→(∀ j,j < n→stepE l j (ne l j) = 0)→Ev (fun k=>creelref_EntriesFault.l0 k l n) (entFrom l d n):=by
  induction d with
  | zero =>
    intro n hd hb
    exact Ev.step (f:=fun _=>some 0) (fun k=>by simp only [creelref_EntriesFault.l0];rw [if_neg (by omega)]) (Ev.now 0)
  | succ d ih =>
    intro n hd hb
    refine Ev.step (f:=fun k=>(creelref_EntriesFault.step k l (ne l n) n).bind fun e=>if e = 0 then creelref_EntriesFault.l0 k l (n + 1) else some e) (fun k=>by simp only [creelref_EntriesFault.l0];rw [if_pos (by omega),rd_ne]) ?_
    refine Ev.bind (ref_estep l n hl (by omega) hg hb) ?_
    unfold entFrom
    by_cases h:stepE l n (ne l n) = 0
    · rw [if_pos h]
      refine Ev.ifp h (ih (n + 1) (by omega) (fun j hj=>?_))
      by_cases e:j = n
      · subst e;exact h
      · exact hb j (by omega)
    · rw [if_neg h]
      exact Ev.ifn h (Ev.now _)
theorem ref_entries (l:List Entry) (hg:∀ y ∈ l,okE y):Ev (fun k=>creelref_EntriesFault.f k l) (entriesR l):=by
  unfold creelref_EntriesFault.f entriesR
  by_cases h:40 < l.length
  · rw [if_pos h];exact Ev.ifp h (Ev.now _)
  · rw [if_neg h]
    exact Ev.ifn h (ref_efrom l (by omega) hg l.length 0 (by omega) (fun j hj=>absurd hj (Nat.not_lt_zero j)))
def MapRelE (l:List Entry) (n:Nat) (m:List (List UInt8 × Entry)):Prop:=∀ s,Go.Proofs.YtenbelecmmpdgaaGreatDoorW.MapOwn.get m s = if findE (l.take n) s < n then some (ne l (findE (l.take n) s)) else none
theorem ne_take (l:List Entry) (n j:Nat) (h:j < n):ne (l.take n) j = ne l j:=by
  unfold ne
  rw [List.getD_eq_getElem?_getD,List.getD_eq_getElem?_getD,List.getElem?_take_of_lt h]
theorem rising_e (l:List Entry) (n:Nat) (hb:∀ j,j < n→stepE l j (ne l j) = 0) (i j:Nat) (h:i < j) (hj:j < n):cmpP (ne l i).f0 (ne l j).f0 = -1:=by
  refine rising (fun y:Entry=>y.f0) (ne l) n (fun i h0 hi=>?_) (j - i - 1) i j (by omega) hj
  have:=(stepE_zero l i _ (hb i hi)).2.1
  unfold twoE at this
  rw [if_pos h0] at this
  have h2:=of_decide_eq_false this
  rcases cmpP_01 (ne l (i - 1)).f0 (ne l i).f0 with e|e|e
  · exact e
  · omega
  · omega
theorem find_new (l:List Entry) (n:Nat) (hn:n < l.length) (hb:∀ j,j < n + 1→stepE l j (ne l j) = 0):findE (l.take (n + 1)) (ne l n).f0.toList = n:=by
  refine findE_at _ _ n (by simp;omega) (by rw [ne_take l (n + 1) n (by omega)]) (fun j hj e=>?_)
  rw [ne_take l (n + 1) j (by omega)] at e
  exact cmpP_ne (rising_e l (n + 1) hb j n hj (by omega)) (toList_inj e)
theorem find_old (l:List Entry) (n:Nat) (hn:n < l.length) (s:List UInt8) (hs:(ne l n).f0.toList ≠ s):(findE (l.take (n + 1)) s < n + 1 ↔ findE (l.take n) s < n)∧(findE (l.take n) s < n→findE (l.take (n + 1)) s = findE (l.take n) s):=by
  have hlen:(l.take n).length = n:=by simp;omega
  have hp:isE s (ne l n) = false:=decide_eq_false hs
  have key:findE (l.take (n + 1)) s = if findE (l.take n) s < n then findE (l.take n) s else n + 1:=by
    unfold findE
    rw [take_ne l n hn,List.findIdx_append,hlen]
    split
    · rfl
    · simp [List.findIdx_cons,hp];omega
  rw [key]
  split
  · rename_i h;exact ⟨⟨fun _=>h,fun _=>by omega⟩,fun _=>rfl⟩
  · rename_i h;exact ⟨⟨fun h'=>absurd h' (by omega),fun h'=>absurd h' h⟩,fun h'=>absurd h' h⟩
theorem map_next (l:List Entry) (n:Nat) (hn:n < l.length) (m:List (List UInt8 × Entry)) (hm:MapRelE l n m) (hb:∀ j,j < n + 1→stepE l j (ne l j) = 0):MapRelE l (n + 1) (((ne l n).f0.data.toList,ne l n) :: m):=by
  intro s
  by_cases e:(ne l n).f0.toList = s
  · subst e
    rw [← toList_data,Go.Proofs.YtenbelecmmpdgaaGreatDoorW.MapOwn.get_same,find_new l n hn hb,if_pos (by omega)]
  · rw [← toList_data,Go.Proofs.YtenbelecmmpdgaaGreatDoorW.MapOwn.get_other _ _ e,hm s]
    obtain ⟨h1,h2⟩:=find_old l n hn s e
    by_cases h:findE (l.take n) s < n
    · rw [if_pos h,if_pos (h1.2 h),h2 h]
    · rw [if_neg h,if_neg (fun h'=>h (h1.1 h'))]
theorem prog_estep (l:List Entry) (n:Nat) (m:List (List UInt8 × Entry)) (hl:l.length ≤ 40) (hn:n < l.length) (hg:∀ y ∈ l,okE y) (hb:∀ j,j < n→stepE l j (ne l j) = 0) (hm:MapRelE l n m):Ev (fun k=>plan_Check.step k l m (ne l n) n) (stepE l n (ne l n)):=by
  unfold plan_Check.step
  obtain ⟨g1,g2,_,_⟩:=hg _ (ne_mem l n hn)
  refine Ev.bind (eright_at _ (hg _ (ne_mem l n hn))) ?_
  unfold stepE
  by_cases h:entX (ne l n) = 0
  · have hx:(ne l n).f0.size ≤ 1048576:=by have:=entX_path _ h;omega
    obtain ⟨hu,b,hub⟩:=up_ev (ne l n).f0 hx
    refine Ev.ifp h ?_
    rw [if_pos h]
    refine Ev.bind (two_ent l _ n hx hb).2 ?_
    by_cases h1:twoE l n (ne l n) = true
    · refine Ev.ifp h1 ?_
      rw [if_pos h1];exact Ev.now _
    · have hupsz:(upOf (ne l n).f0).size ≤ maxLen:=by
        rcases up_only (ne l n).f0 ((ne l n).f0.size + 3) hx (by omega) with ⟨_,e,_⟩|⟨i,hi,_,e,_⟩
        · rw [hu] at e
          rw [Option.some.inj e]
          exact Nat.zero_le _
        · rw [hu] at e
          rw [Option.some.inj e,ByteArray.size_extract]
          unfold maxLen;omega
      have hup:plan_Check.up m (ne l n) = some (upE l n (ne l n)):=by
        unfold plan_Check.up upE
        rw [hu]
        simp only [Option.bind_some]
        by_cases e:(upOf (ne l n).f0).toList = ([]:List UInt8)
        · rw [if_pos e,if_pos e]
        · rw [if_neg e,if_neg e,if_pos hupsz,hm,← toList_data]
          by_cases g:findE (l.take n) (upOf (ne l n).f0).toList < n
          · rw [if_pos g,if_pos g]
          · rw [if_neg g,if_neg g]
      refine Ev.ifn h1 ?_
      rw [if_neg h1]
      refine Ev.bind (Ev.const hup) ?_
      by_cases h2:upE l n (ne l n) = true
      · refine Ev.ifp h2 ?_
        rw [if_pos h2];exact Ev.now _
      · have hlk:plan_Check.link m (ne l n) = some (linkE l n (ne l n)):=by
          unfold plan_Check.link linkE
          rw [if_pos (by unfold maxLen;omega),hm,← toList_data]
          by_cases g:findE (l.take n) (ne l n).f2.toList < n
          · rw [if_pos g]
            by_cases e:(ne l n).f1 = 4
            · rw [if_pos g,if_pos e]
              simp only [if_pos e]
              rfl
            · simp only [if_neg e]
          · rw [if_neg g]
            by_cases e:(ne l n).f1 = 4
            · simp [e,g]
            · simp [e]
        refine Ev.ifn h2 ?_
        rw [if_neg h2]
        refine Ev.bind (Ev.const hlk) ?_
        by_cases h3:linkE l n (ne l n) = true
        · refine Ev.ifp h3 ?_
          rw [if_pos h3];exact Ev.now _
        · refine Ev.ifn h3 (Ev.ifp (by unfold maxLen;omega) ?_)
          rw [if_neg h3];exact Ev.now _
  · refine Ev.ifn h ?_
    rw [if_neg h];exact Ev.now _
theorem prog_efrom (l:List Entry) (hl:l.length ≤ 40) (hg:∀ y ∈ l,okE y) (d:Nat):∀ n m,n + d = l.length→(∀ j,j < n→stepE l j (ne l j) = 0)→MapRelE l n m→Ev (fun k=>plan_Check.l0 k l m n) (entFrom l d n):=by
  induction d with
  | zero =>
    intro n m hd hb hm
    exact Ev.step (f:=fun _=>some 0) (fun k=>by simp only [plan_Check.l0];rw [if_neg (by omega)]) (Ev.now 0)
  | succ d ih =>
    intro n m hd hb hm
    refine Ev.step (f:=fun k=>(plan_Check.step k l m (ne l n) n).bind fun e=>if e = 0 then plan_Check.l0 k l (((ne l n).f0.data.toList,ne l n) :: m) (n + 1) else some e) (fun k=>by simp only [plan_Check.l0];rw [if_pos (by omega),rd_ne]) ?_
    refine Ev.bind (prog_estep l n m hl (by omega) hg hb hm) ?_
    unfold entFrom
    by_cases h:stepE l n (ne l n) = 0
    · rw [if_pos h]
      have hb':∀ j,j < n + 1→stepE l j (ne l j) = 0:=fun j hj=>by
        by_cases e:j = n
        · subst e;exact h
        · exact hb j (by omega)
      exact Ev.ifp h (ih (n + 1) _ (by omega) hb' (map_next l n (by omega) m hm hb'))
    · rw [if_neg h]
      exact Ev.ifn h (Ev.now _)
theorem prog_entries (l:List Entry) (hg:∀ y ∈ l,okE y):Ev (fun k=>plan_Check.f k l) (entriesR l):=by
  unfold plan_Check.f entriesR
  by_cases h:40 < l.length
  · rw [if_pos h];exact Ev.ifp h (Ev.now _)
  · rw [if_neg h]
    refine Ev.ifn h (prog_efrom l (by omega) hg l.length 0 [] (by omega) (fun j hj=>absurd hj (Nat.not_lt_zero j)) (fun s=>?_))
    rw [if_neg (Nat.not_lt_zero _)]
    rfl
end Go.Proofs.YtenbelecmmpdgaaGreatDoor.Q
end
section
namespace Go.Proofs.YtenbelecmmpdgaaGreatDoor.Q
set_option linter.unusedVariables false
set_option linter.unusedSimpArgs false
open Go.RowKit Go.Proofs.YtenbelecmmpdgaaGreatDoor.All Go.Proofs.YtenbelecmmpdgaaGreatDoorW.PrintWords Go.Proofs.YtenbelecmmpdgaaGreatDoorW.PrintLast Go.Proofs.YtenbelecmmpdgaaGreatDoorW.PrintMore Go.Proofs.YtenbelecmmpdgaaGreatDoorW.PureBase
theorem ent_zero (l:List Entry):∀ d n,n + d = l.length→(entFrom l d n = 0 ↔ ∀ j,n ≤ j→j < l.length→stepE l j (ne l j) = 0)
  | 0,n,h=>by
    unfold entFrom
    exact ⟨fun _ j h1 h2=>by omega,fun _=>rfl⟩
  | d + 1,n,h=>by
    unfold entFrom
    by_cases c:stepE l n (ne l n) = 0
    · rw [if_pos c,ent_zero l d (n + 1) (by omega)]
      constructor
      · intro g j h1 h2
        rcases Nat.eq_or_lt_of_le h1 with e|e
        · rw [← e];exact c
        · exact g j e h2
      · exact fun g j h1 h2=>g j (by omega) h2
    · rw [if_neg c]
      exact ⟨fun e=>absurd e c,fun g=>absurd (g n (Nat.le_refl _) (by omega)) c⟩
theorem entries_zero (l:List Entry) (h:entriesR l = 0):l.length ≤ 40∧∀ j,j < l.length→stepE l j (ne l j) = 0:=by
  unfold entriesR at h
  by_cases c:40 < l.length
  · rw [if_pos c] at h;exact absurd h (by decide)
  · rw [if_neg c] at h
    exact ⟨by omega,fun j hj=>(ent_zero l l.length 0 (by omega)).1 h j (Nat.zero_le _) hj⟩
theorem entries_of (l:List Entry) (hl:l.length ≤ 40) (h:∀ j,j < l.length→stepE l j (ne l j) = 0):entriesR l = 0:=by
  unfold entriesR
  rw [if_neg (by omega)]
  exact (ent_zero l l.length 0 (by omega)).2 (fun j _ hj=>h j hj)
theorem step_take (l:List Entry) (m i:Nat) (x:Entry) (h:i < m):stepE (l.take m) i x = stepE l i x:=by
  have e:(l.take m).take i = l.take i:=by rw [List.take_take,Nat.min_eq_left (by omega)]
  have e1:twoE (l.take m) i x = twoE l i x:=by
    unfold twoE
    split
    · rw [ne_take l m (i - 1) (by omega)]
    · rfl
  have e2:upE (l.take m) i x = upE l i x:=by
    unfold upE
    rw [e]
    split
    · rfl
    · split
      · rename_i c
        rw [ne_take l m _ (by omega)]
      · rfl
  have e3:linkE (l.take m) i x = linkE l i x:=by
    unfold linkE
    rw [e]
    split
    · split
      · rename_i c
        rw [ne_take l m _ (by omega)]
      · rfl
    · rfl
  unfold stepE
  rw [e1,e2,e3]
theorem entries_take (l:List Entry) (m:Nat) (h:entriesR l = 0):entriesR (l.take m) = 0:=by
  obtain ⟨h1,h2⟩:=entries_zero l h
  refine entries_of _ (by rw [List.length_take];omega) (fun j hj=>?_)
  rw [List.length_take] at hj
  rw [step_take l m j _ (by omega),ne_take l m j (by omega)]
  exact h2 j (by omega)
def IsB (x:EE) (b:List Int):Prop:=b.length ≤ 50000∧Ev (fun k=>member_Write.f k x.f0 x.f1 x.f2 x.f3.f0 x.f3.f1 x.f3.f2 x.f3.f3 x.f3.f4 x.f3.f5 x.f3.f6 x.f4) (b,0)∧Ev (fun k=>creelref_MemberBytes.f k x.f0 x.f1 x.f2 x.f3.f0 x.f3.f1 x.f3.f2 x.f3.f3 x.f3.f4 x.f3.f5 x.f3.f6 x.f4) (b,0)
def cats (bs:Nat→List Int):Nat→Nat→List Int
  | _,0=>[]
  | i,n + 1=>bs i ++ cats bs (i + 1) n
theorem cats_snoc (bs:Nat→List Int):∀ n i,cats bs i (n + 1) = cats bs i n ++ bs (i + n)
  | 0,i=>by simp [cats]
  | n + 1,i=>by
    rw [cats,cats_snoc bs n (i + 1),cats,List.append_assoc,show i + 1 + n = i + (n + 1) from by omega]
theorem cats_len (bs:Nat→List Int) (N:Nat) (h:∀ i,i < N→(bs i).length ≤ 50000):∀ n i,i + n ≤ N→(cats bs i n).length ≤ n * 50000
  | 0,i,_=>Nat.zero_le _
  | n + 1,i,hi=>by
    rw [cats,List.length_append]
    have:=cats_len bs N h n (i + 1) (by omega)
    have:=h i (by omega)
    omega
theorem pads:pad_End.f = some (List.replicate 1024 0):=by
  unfold pad_End.f
  exact if_pos (by decide)
section
variable (l:List Entry) (bs:Nat→List Int) (hb:∀ i,i < l.length→IsB (ne l i) (bs i)) (hl:l.length ≤ 40)
include hb hl
theorem archive_loop (d:Nat):∀ (i:Nat) (o:List Int),i + d = l.length→o.length ≤ i * 50000→Ev (fun k=>write_Archive.l0 k o l (l.length:Int) (i:Int)) ((o ++ cats bs i d) ++ List.replicate 1024 0,0):=by
  induction d with
  | zero =>
    intro i o hi ho
    refine Ev.step (fun k=>by rw [write_Archive.l0]) ?_
    refine Ev.ifn (by omega) (Ev.ifp (by simp only [List.length_nil];omega) (Ev.bind (Ev.now _) (Ev.bind (Ev.const pads) ?_)))
    simp only [cats,List.append_nil,List.nil_append]
    exact Ev.ifp (by rw [List.length_replicate];omega) (Ev.now _)
  | succ d ih =>
    intro i o hi ho
    have e1:wrap64 ((i:Int) + 1) = ((i + 1:Nat):Int):=by unfold wrap64;omega
    obtain ⟨b1,b2,_⟩:=hb i (by omega)
    refine Ev.step (fun k=>by rw [write_Archive.l0]) ?_
    refine Ev.ifp (by omega) (Ev.ifp (by omega) (Ev.ifp (by omega) ?_))
    rw [e1,rd_ne]
    refine Ev.bind b2 (Ev.ifp (by show o.length + (bs i).length < _;omega) ?_)
    have:=ih (i + 1) (o ++ bs i) (by omega) (by rw [List.length_append];omega)
    rw [cats,← List.append_assoc]
    exact this
theorem arc_loop:∀ (n:Nat) (o:List Int),n ≤ l.length→o.length ≤ 1024 + (l.length - n) * 50000→Ev (fun k=>creelref_Arc.run k l n o) (cats bs 0 n ++ o)
  | 0,o,_,_=>by
    simp only [creelref_Arc.run,cats,List.nil_append]
    exact Ev.now _
  | n + 1,o,hn,ho=>by
    obtain ⟨b1,_,b3⟩:=hb n (by omega)
    simp only [creelref_Arc.run,creelref_Arc.one]
    rw [rd_ne]
    refine Ev.bind b3 (Ev.ifp ⟨by show (bs n).length < _;omega,by omega⟩ ?_)
    have:=arc_loop n (bs n ++ o) (by omega) (by rw [List.length_append];omega)
    rw [cats_snoc,Nat.zero_add,List.append_assoc]
    exact this
theorem places_loop (d:Nat):∀ (i:Nat) (o:List Int),i + d = l.length→o.length = i + 1→Ev (fun k=>write_Places.l0 k ((cats bs 0 i).length:Int) o l (l.length:Int) (i:Int)) (o ++ (List.range d).map (fun j=>((cats bs 0 (i + 1 + j)).length:Int)),0):=by
  induction d with
  | zero =>
    intro i o hi ho
    refine Ev.step (fun k=>by rw [write_Places.l0]) ?_
    refine Ev.ifn (by omega) (Ev.ifp (by simp only [List.length_nil];omega) ?_)
    simp only [List.range_zero,List.map_nil,List.append_nil,List.nil_append]
    exact Ev.now _
  | succ d ih =>
    intro i o hi ho
    have e1:wrap64 ((i:Int) + 1) = ((i + 1:Nat):Int):=by unfold wrap64;omega
    obtain ⟨b1,b2,_⟩:=hb i (by omega)
    have hc:=cats_len bs l.length (fun j hj=>(hb j hj).1) i 0 (by omega)
    have hs:(cats bs 0 (i + 1)).length = (cats bs 0 i).length + (bs i).length:=by rw [cats_snoc,Nat.zero_add,List.length_append]
    have e2:wrap64 (((cats bs 0 i).length:Int) + ((bs i).length:Int)) = ((cats bs 0 (i + 1)).length:Int):=by rw [hs];unfold wrap64;omega
    refine Ev.step (fun k=>by rw [write_Places.l0]) ?_
    refine Ev.ifp (by omega) (Ev.ifp (by omega) (Ev.ifp (by omega) ?_))
    rw [e1,rd_ne]
    refine Ev.bind b2 (Ev.ifp (by omega) ?_)
    simp only
    rw [e2]
    have:=ih (i + 1) (o ++ [((cats bs 0 (i + 1)).length:Int)]) (by omega) (by rw [List.length_append,List.length_singleton];omega)
    rw [List.range_succ_eq_map,List.map_cons,List.map_map]
    have e3:(fun j=>((cats bs 0 (i + 1 + j)).length:Int)) ∘ Nat.succ = fun j=>((cats bs 0 (i + 1 + 1 + j)).length:Int):=by
      funext j
      show ((cats bs 0 (i + 1 + (j + 1))).length:Int) = _
      rw [show i + 1 + (j + 1) = i + 1 + 1 + j from by omega]
    rw [e3]
    rw [List.append_assoc] at this
    exact this
end
theorem arc_ev (l:List Entry) (bs:Nat→List Int) (hb:∀ i,i < l.length→IsB (ne l i) (bs i)) (hl:l.length ≤ 40) (he:Ev (fun k=>creelref_EntriesFault.f k l) 0):Ev (fun k=>creelref_Arc.f k l) (cats bs 0 l.length ++ List.replicate 1024 0,0):=by
  unfold creelref_Arc.f
  exact Ev.bind he (Ev.ifp rfl (Ev.bind (arc_loop l bs hb hl l.length _ (Nat.le_refl _) (by rw [List.length_replicate];omega)) (Ev.now _)))
theorem arcplaces_loop (l:List Entry) (bs:Nat→List Int) (hb:∀ i,i < l.length→IsB (ne l i) (bs i)) (hg:∀ y ∈ l,okE y) (h0:entriesR l = 0) (d:Nat):∀ (i:Nat) (o:List Int),i + d = l.length→o.length = i + 1→Ev (fun k=>creelref_ArcPlaces.run k l d (i + 1) o) (o ++ (List.range d).map (fun j=>((cats bs 0 (i + 1 + j)).length:Int))):=by
  obtain ⟨hl,_⟩:=entries_zero l h0
  induction d with
  | zero =>
    intro i o hi ho
    simp only [creelref_ArcPlaces.run,List.range_zero,List.map_nil,List.append_nil]
    exact Ev.now _
  | succ d ih =>
    intro i o hi ho
    have hlen:(l.take (i + 1)).length = i + 1:=by rw [List.length_take];omega
    have h1:Ev (fun k=>creelref_EntriesFault.f k (l.take (i + 1))) 0:=by
      have:=ref_entries (l.take (i + 1)) (fun y hy=>hg y (List.mem_of_mem_take hy))
      rw [entries_take l (i + 1) h0] at this
      exact this
    have h2:=arc_ev (l.take (i + 1)) bs (fun j hj=>by rw [hlen] at hj;rw [ne_take l (i + 1) j hj];exact hb j (by omega)) (by omega) h1
    rw [hlen] at h2
    have hc:=cats_len bs l.length (fun j hj=>(hb j hj).1) (i + 1) 0 (by omega)
    have e0:(((cats bs 0 (i + 1) ++ List.replicate 1024 (0:Int)).length:Nat):Int) - 1024 = ((cats bs 0 (i + 1)).length:Int):=by rw [List.length_append,List.length_replicate];omega
    simp only [creelref_ArcPlaces.run]
    refine Ev.bind h2 (Ev.ifp ⟨by rw [List.length_append,List.length_replicate];omega,by omega⟩ ?_)
    simp only
    rw [e0]
    have:=ih (i + 1) (o ++ [((cats bs 0 (i + 1)).length:Int)]) (by omega) (by rw [List.length_append,List.length_singleton];omega)
    rw [List.range_succ_eq_map,List.map_cons,List.map_map]
    have e3:(fun j=>((cats bs 0 (i + 1 + j)).length:Int)) ∘ Nat.succ = fun j=>((cats bs 0 (i + 1 + 1 + j)).length:Int):=by
      funext j
      show ((cats bs 0 (i + 1 + (j + 1))).length:Int) = _
      rw [show i + 1 + (j + 1) = i + 1 + 1 + j from by omega]
    rw [e3]
    rw [List.append_assoc] at this
    exact this
end Go.Proofs.YtenbelecmmpdgaaGreatDoor.Q
end
section
namespace Go.Proofs.YtenbelecmmpdgaaGreatDoor.Q
set_option linter.unusedVariables false
set_option linter.unusedSimpArgs false
open Go.RowKit Go.Proofs.YtenbelecmmpdgaaGreatDoor.All Go.Proofs.YtenbelecmmpdgaaGreatDoorW.PrintWords Go.Proofs.YtenbelecmmpdgaaGreatDoorW.PrintLast Go.Proofs.YtenbelecmmpdgaaGreatDoorW.PrintMore Go.Proofs.YtenbelecmmpdgaaGreatDoorW.PureBase
theorem ints_loop (l:List Int) (hl:l.length ≤ 1099511627776) (d:Nat):∀ (k i:Nat),l.length - i = d→i ≤ l.length→d < k→slices_Equal_int_int.l0 k l l (l.length:Int) (i:Int) = some true:=by
  induction d with
  | zero =>
    intro k i hd hi hk
    obtain ⟨k,rfl⟩:∃ m,k = m + 1:=⟨k - 1,by omega⟩
    simp only [slices_Equal_int_int.l0]
    rw [if_neg (by omega)]
  | succ d ih =>
    intro k i hd hi hk
    obtain ⟨k,rfl⟩:∃ m,k = m + 1:=⟨k - 1,by omega⟩
    have hlt:(i:Int) < l.length:=by omega
    have h0:(0:Int) ≤ i:=by omega
    have hw:wrap64 ((i:Int) + 1) = ((i + 1:Nat):Int):=by rw [wrap_is (by omega) (by omega)];omega
    simp only [slices_Equal_int_int.l0,if_true]
    rw [hw]
    simp only [if_pos hlt,if_pos h0]
    exact ih k (i + 1) (by omega) (by omega) (by omega)
theorem ints_refl (l:List Int) (hl:l.length ≤ 1099511627776):Ev (fun k=>creellaw_sameInts.f k l l) true:=by
  refine ⟨l.length + 1,fun k hk=>?_⟩
  show creellaw_sameInts.f k l l = some true
  unfold creellaw_sameInts.f slices_Equal_int_int.f
  rw [if_pos rfl,show slices_Equal_int_int.l0 k l l (l.length:Int) 0 = _ from ints_loop l hl l.length k 0 (by omega) (by omega) (by omega)]
  rfl
end Go.Proofs.YtenbelecmmpdgaaGreatDoor.Q
end
section
namespace Go.Proofs.YtenbelecmmpdgaaGreatDoor.PuWriteArchives
set_option linter.unusedVariables false
set_option linter.unusedSimpArgs false
open Go.RowKit Go.Proofs.YtenbelecmmpdgaaGreatDoor.All Go.Proofs.YtenbelecmmpdgaaGreatDoor.GWriteArchives Go.Proofs.YtenbelecmmpdgaaGreatDoorW.PrintWords Go.Proofs.YtenbelecmmpdgaaGreatDoorW.PrintLast Go.Proofs.YtenbelecmmpdgaaGreatDoorW.PrintMore Go.Proofs.YtenbelecmmpdgaaGreatDoorW.PureBase Go.Proofs.YtenbelecmmpdgaaGreatDoor.Q
theorem pure:Pure:=by
  intro l hl
  have hg:∀ y ∈ l,okE y:=fun y hy=>by
    obtain ⟨hp,_,ht,gm,_⟩:=hl.2 y hy
    obtain ⟨_,_,_,hu,hv,_⟩:=gm
    exact ⟨hp,ht,hu,hv⟩
  have e1:=prog_entries l hg
  have e2:=ref_entries l hg
  have main:∃ (b:List Int) (q:List Int) (e:Int),q.length ≤ 1000000∧Ev (fun k=>write_Archive.f k l) (b,e)∧Ev (fun k=>write_Places.f k l) (q,e)∧Ev (fun k=>creelref_Arc.f k l) (b,e)∧Ev (fun k=>creelref_ArcPlaces.f k l) (q,e):=by
    by_cases h0:entriesR l = 0
    · obtain ⟨h1,h2⟩:=entries_zero l h0
      rw [h0] at e1 e2
      have hB:∀ i,i < l.length→∃ b,IsB (ne l i) b:=fun i hi=>by
        obtain ⟨hp,_,ht,gm,gd⟩:=hl.2 _ (ne_mem l i hi)
        obtain ⟨_,_,_,hu,hv,_⟩:=gm
        have hx:=(stepE_zero l i (ne l i) (h2 i hi)).1
        exact write_right_ev (ne l i) hp ht hu hv (by have:=gd.1;omega) hx
      obtain ⟨bs,hb⟩:∃ bs:Nat→List Int,∀ i,i < l.length→IsB (ne l i) (bs i):=⟨fun i=>if h:i < l.length then (hB i h).choose else [],fun i hi=>by dsimp only;rw [dif_pos hi];exact (hB i hi).choose_spec⟩
      refine ⟨cats bs 0 l.length ++ List.replicate 1024 0,0 :: (List.range l.length).map (fun j=>((cats bs 0 (0 + 1 + j)).length:Int)),0,by rw [List.length_cons,List.length_map,List.length_range];omega,?_,?_,arc_ev l bs hb h1 e2,?_⟩
      · unfold write_Archive.f
        refine Ev.bind e1 (Ev.ifp rfl ?_)
        have:=archive_loop l bs hb h1 l.length 0 [] (by omega) (by simp)
        rw [List.nil_append] at this
        exact this
      · unfold write_Places.f
        refine Ev.bind e1 (Ev.ifp rfl ?_)
        exact places_loop l bs hb h1 l.length 0 [0] (by omega) rfl
      · unfold creelref_ArcPlaces.f
        refine Ev.bind e2 (Ev.ifp rfl (Ev.bind (arcplaces_loop l bs hb hg h0 l.length 0 [0] (by omega) rfl) (Ev.now _)))
    · refine ⟨[],[],entriesR l,by simp,?_,?_,?_,?_⟩
      · unfold write_Archive.f
        exact Ev.bind e1 (Ev.ifn h0 (Ev.now _))
      · unfold write_Places.f
        exact Ev.bind e1 (Ev.ifn h0 (Ev.now _))
      · unfold creelref_Arc.f
        exact Ev.bind e2 (Ev.ifn h0 (Ev.now _))
      · unfold creelref_ArcPlaces.f
        exact Ev.bind e2 (Ev.ifn h0 (Ev.now _))
  obtain ⟨b,q,e,hq,a1,a2,a3,a4⟩:=main
  have g:Ev (fun k=>creellaw_WriteArchives.f k l) true:=by
    unfold creellaw_WriteArchives.f
    refine Ev.bind a1 (Ev.bind a2 (Ev.bind a3 (Ev.bind a4 (Ev.bind (Ev.const (by simp [creellaw_sameBytes.f]:creellaw_sameBytes.f b b = some true)) (Ev.bind (ints_refl q (by omega)) (Ev.ifp ⟨rfl,rfl,rfl,rfl⟩ (Ev.now _)))))))
  obtain ⟨k,hk⟩:=g
  exact ⟨k,hk k (Nat.le_refl _)⟩
end Go.Proofs.YtenbelecmmpdgaaGreatDoor.PuWriteArchives
end
section
namespace Go.Proofs.YtenbelecmmpdgaaGreatDoor.writeArchives
open Go.ChangeShapes Go.WideShapes Go.ChangeAt Go.RowKit Go.Proofs.YtenbelecmmpdgaaGreatDoorW.PrintWords Go.Proofs.YtenbelecmmpdgaaGreatDoorW.Opens
open Go.ChangeMaps (open_string shut_string)
set_option linter.unusedVariables false
theorem own:ownKnob Tryz.prog.godebug = none:=by kernel_rfl
theorem laidOut:laidOutB Tryz.prog = true:=by kernel_rfl
set_option maxRecDepth 100000 in
theorem contract (H:Type) (enc:TypeId × Value→H) (W:World) (base:Nat) (args:Array Value) (ds gs:List (DataW H)) (before:List MemPlace)
    (hval0:∀ (j:Nat) t v,Tryz.f4.params[j]? = some t→args[j]? = some v→Value.okWide Tryz.prog W .any base t v)
    (hW:DataW.Whole enc Tryz.prog Tryz.f4.params.toList Rows.writeArchivesSpec.vars false W args.toList ds gs before)
    (hsz0:(DataW.weightsEach Tryz.prog (Tryz.f4.params.toList ++ Rows.writeArchivesSpec.plain.varTypes Tryz.prog) (ds ++ gs)).all (· ≤ reachBytes) = true) (hL:laidMetH Tryz.prog Rows.writeArchivesRow.laid W) (hsh:W.ShapedOpen Tryz.prog) :
    Calls Tryz.prog 4 args W fun e W'=>∃ v,e = .returned v∧Rows.writeArchivesSpec.post enc Tryz.prog Tryz.f4 false true false false W args v W':=by
  have hsz:=hsz0
  have hval:=hval0
  have hW':=hW
  obtain ⟨p,q,hA0,hV,rfl,hfz,hnd⟩:=hW
  have hA:DataW.TrodAll enc Tryz.prog W 0 (fun _=>true) true Tryz.f4.params.toList args.toList ds p:=hA0
  rw [Tryz.params4] at hA hval hsz
  obtain ⟨v0,vs0,d0,ds0,p0,q0,hargs,rfl,rfl,h0,r0⟩:=trodAll_cons hA
  obtain ⟨rfl,rfl,rfl⟩:=trodAll_nil r0
  obtain rfl:args = #[v0]:=by cases args;simp_all
  obtain ⟨rfl,rfl⟩:=trodVars_none hV
  obtain ⟨B0,n0,C0,rfl⟩:=okWide_slice Tryz.underlying32 (hval 0 32 v0 rfl rfl)
  have m0:=h0
  have lt0:∀ x ∈ p0,x.block < W.heap.size:=by obtain ⟨m,hm⟩:=m0;exact DataW.trod_lt m _ _ _ hm
  obtain ⟨x0,⟨A0,c0,e0,hc0,hr0⟩,g0⟩:=opens_at (opens_slice (B:=136) Tryz.underlying32 (by kernel_rfl) (by kernel_rfl) GWriteArchives.opens26) hsz (j:=0) rfl rfl h0
  simp only [Value.cells,List.cons.injEq,Value.slice.injEq,and_true] at e0
  obtain ⟨rfl,rfl,rfl⟩:=e0
  have htab:Go.Proofs.YtenbelecmmpdgaaGreatDoorW.Mine.Tab W:=Lib.tabIs_of_head (g:=3) (t:=215) (e:=186) (n:=20) (by kernel_rfl) (by kernel_rfl) Tryz.underlying215 Tryz.underlying186 (by kernel_rfl) (by kernel_rfl) (Go.Proofs.YtenbelecmmpdgaaGreatDoorW.Mine.laidMet_tail (Go.Proofs.YtenbelecmmpdgaaGreatDoorW.Mine.laidMet_tail hL))
  clear hA0 hval0 hsz0 hsz
  refine (GWriteArchives.walk PuWriteArchives.pure x0 W g0 hr0 hc0 ⟨htab⟩).mono fun e W' ⟨he,bel⟩=>?_
  subst he
  exact ⟨_,rfl,_,_,_,[],_,[],hW',trodAll_mk1 (shut_bool Tryz.underlying4 _),(trodAll_cons_mk (Below.trod laidOut (by kernel_rfl) (of_decide_eq_true (by kernel_rfl)) m0 bel lt0) trodAll_mk0),rfl,bel.frame _,fun h=>by cases h⟩
set_option maxRecDepth 100000 in
noncomputable def laidWorld (os:Os):World :=
  { World.holding Tryz.prog os ⟨#[],#[],[]⟩ with heap:=((((((World.holding Tryz.prog os ⟨#[],#[],[]⟩).heap.modify 6 fun
      | .cells _ t frozen => .cells #[.int .u8 0,.int .u8 1,.int .u8 28,.int .u8 2,.int .u8 29,.int .u8 14,.int .u8 24,.int .u8 3,.int .u8 30,.int .u8 22,.int .u8 20,.int .u8 15,.int .u8 25,.int .u8 17,.int .u8 4,.int .u8 8,.int .u8 31,.int .u8 27,.int .u8 13,.int .u8 23,.int .u8 21,.int .u8 19,.int .u8 16,.int .u8 7,.int .u8 26,.int .u8 12,.int .u8 18,.int .u8 6,.int .u8 11,.int .u8 5,.int .u8 10,.int .u8 9] t frozen
      | o=>o).modify 7 fun
      | .cells _ t frozen => .cells #[.int .u8 0,.int .u8 1,.int .u8 56,.int .u8 2,.int .u8 57,.int .u8 49,.int .u8 28,.int .u8 3,.int .u8 61,.int .u8 58,.int .u8 42,.int .u8 50,.int .u8 38,.int .u8 29,.int .u8 17,.int .u8 4,.int .u8 62,.int .u8 47,.int .u8 59,.int .u8 36,.int .u8 45,.int .u8 43,.int .u8 51,.int .u8 22,.int .u8 53,.int .u8 39,.int .u8 33,.int .u8 30,.int .u8 24,.int .u8 18,.int .u8 12,.int .u8 5,.int .u8 63,.int .u8 55,.int .u8 48,.int .u8 27,.int .u8 60,.int .u8 41,.int .u8 37,.int .u8 16,.int .u8 46,.int .u8 35,.int .u8 44,.int .u8 21,.int .u8 52,.int .u8 32,.int .u8 23,.int .u8 11,.int .u8 54,.int .u8 26,.int .u8 40,.int .u8 15,.int .u8 34,.int .u8 20,.int .u8 31,.int .u8 10,.int .u8 25,.int .u8 14,.int .u8 19,.int .u8 9,.int .u8 13,.int .u8 8,.int .u8 7,.int .u8 6] t frozen
      | o=>o).modify 3 fun
      | .cells _ t frozen => .cells #[.int .u64 1,.int .u64 10,.int .u64 100,.int .u64 1000,.int .u64 10000,.int .u64 100000,.int .u64 1000000,.int .u64 10000000,.int .u64 100000000,.int .u64 1000000000,.int .u64 10000000000,.int .u64 100000000000,.int .u64 1000000000000,.int .u64 10000000000000,.int .u64 100000000000000,.int .u64 1000000000000000,.int .u64 10000000000000000,.int .u64 100000000000000000,.int .u64 1000000000000000000,.int .u64 10000000000000000000] t frozen
      | o=>o).modify 5 fun
      | .cells _ t frozen => .cells #[.int .u8 128,.int .u8 191,.int .u8 160,.int .u8 191,.int .u8 128,.int .u8 159,.int .u8 144,.int .u8 191,.int .u8 128,.int .u8 143,.int .u8 0,.int .u8 0,.int .u8 0,.int .u8 0,.int .u8 0,.int .u8 0,.int .u8 0,.int .u8 0,.int .u8 0,.int .u8 0,.int .u8 0,.int .u8 0,.int .u8 0,.int .u8 0,.int .u8 0,.int .u8 0,.int .u8 0,.int .u8 0,.int .u8 0,.int .u8 0,.int .u8 0,.int .u8 0] t frozen
      | o=>o).modify 4 fun
      | .cells _ t frozen => .cells #[.int .u8 240,.int .u8 240,.int .u8 240,.int .u8 240,.int .u8 240,.int .u8 240,.int .u8 240,.int .u8 240,.int .u8 240,.int .u8 240,.int .u8 240,.int .u8 240,.int .u8 240,.int .u8 240,.int .u8 240,.int .u8 240,.int .u8 240,.int .u8 240,.int .u8 240,.int .u8 240,.int .u8 240,.int .u8 240,.int .u8 240,.int .u8 240,.int .u8 240,.int .u8 240,.int .u8 240,.int .u8 240,.int .u8 240,.int .u8 240,.int .u8 240,.int .u8 240,.int .u8 240,.int .u8 240,.int .u8 240,.int .u8 240,.int .u8 240,.int .u8 240,.int .u8 240,.int .u8 240,.int .u8 240,.int .u8 240,.int .u8 240,.int .u8 240,.int .u8 240,.int .u8 240,.int .u8 240,.int .u8 240,.int .u8 240,.int .u8 240,.int .u8 240,.int .u8 240,.int .u8 240,.int .u8 240,.int .u8 240,.int .u8 240,.int .u8 240,.int .u8 240,.int .u8 240,.int .u8 240,.int .u8 240,.int .u8 240,.int .u8 240,.int .u8 240,.int .u8 240,.int .u8 240,.int .u8 240,.int .u8 240,.int .u8 240,.int .u8 240,.int .u8 240,.int .u8 240,.int .u8 240,.int .u8 240,.int .u8 240,.int .u8 240,.int .u8 240,.int .u8 240,.int .u8 240,.int .u8 240,.int .u8 240,.int .u8 240,.int .u8 240,.int .u8 240,.int .u8 240,.int .u8 240,.int .u8 240,.int .u8 240,.int .u8 240,.int .u8 240,.int .u8 240,.int .u8 240,.int .u8 240,.int .u8 240,.int .u8 240,.int .u8 240,.int .u8 240,.int .u8 240,.int .u8 240,.int .u8 240,.int .u8 240,.int .u8 240,.int .u8 240,.int .u8 240,.int .u8 240,.int .u8 240,.int .u8 240,.int .u8 240,.int .u8 240,.int .u8 240,.int .u8 240,.int .u8 240,.int .u8 240,.int .u8 240,.int .u8 240,.int .u8 240,.int .u8 240,.int .u8 240,.int .u8 240,.int .u8 240,.int .u8 240,.int .u8 240,.int .u8 240,.int .u8 240,.int .u8 240,.int .u8 240,.int .u8 240,.int .u8 240,.int .u8 241,.int .u8 241,.int .u8 241,.int .u8 241,.int .u8 241,.int .u8 241,.int .u8 241,.int .u8 241,.int .u8 241,.int .u8 241,.int .u8 241,.int .u8 241,.int .u8 241,.int .u8 241,.int .u8 241,.int .u8 241,.int .u8 241,.int .u8 241,.int .u8 241,.int .u8 241,.int .u8 241,.int .u8 241,.int .u8 241,.int .u8 241,.int .u8 241,.int .u8 241,.int .u8 241,.int .u8 241,.int .u8 241,.int .u8 241,.int .u8 241,.int .u8 241,.int .u8 241,.int .u8 241,.int .u8 241,.int .u8 241,.int .u8 241,.int .u8 241,.int .u8 241,.int .u8 241,.int .u8 241,.int .u8 241,.int .u8 241,.int .u8 241,.int .u8 241,.int .u8 241,.int .u8 241,.int .u8 241,.int .u8 241,.int .u8 241,.int .u8 241,.int .u8 241,.int .u8 241,.int .u8 241,.int .u8 241,.int .u8 241,.int .u8 241,.int .u8 241,.int .u8 241,.int .u8 241,.int .u8 241,.int .u8 241,.int .u8 241,.int .u8 241,.int .u8 241,.int .u8 241,.int .u8 2,.int .u8 2,.int .u8 2,.int .u8 2,.int .u8 2,.int .u8 2,.int .u8 2,.int .u8 2,.int .u8 2,.int .u8 2,.int .u8 2,.int .u8 2,.int .u8 2,.int .u8 2,.int .u8 2,.int .u8 2,.int .u8 2,.int .u8 2,.int .u8 2,.int .u8 2,.int .u8 2,.int .u8 2,.int .u8 2,.int .u8 2,.int .u8 2,.int .u8 2,.int .u8 2,.int .u8 2,.int .u8 2,.int .u8 2,.int .u8 19,.int .u8 3,.int .u8 3,.int .u8 3,.int .u8 3,.int .u8 3,.int .u8 3,.int .u8 3,.int .u8 3,.int .u8 3,.int .u8 3,.int .u8 3,.int .u8 3,.int .u8 35,.int .u8 3,.int .u8 3,.int .u8 52,.int .u8 4,.int .u8 4,.int .u8 4,.int .u8 68,.int .u8 241,.int .u8 241,.int .u8 241,.int .u8 241,.int .u8 241,.int .u8 241,.int .u8 241,.int .u8 241,.int .u8 241,.int .u8 241,.int .u8 241] t frozen
      | o=>o) }
theorem laid_met (os:Os):laidMet Tryz.prog Rows.writeArchivesRow.laid ((laidWorld os).forCall (fun _ _=>0) ⟨#[],#[.slice none 0 0],[]⟩).memory :=
  laidMet_of_run' 8 (by kernel_rfl) (by kernel_rfl)
theorem reads (os:Os) {H:Type} (enc:TypeId × Value→H):∃ places,DataW.whole enc Tryz.prog ((laidWorld os).forCall (fun _ _=>0) ⟨#[],#[.slice none 0 0],[]⟩).memory Tryz.f4.params.toList Rows.writeArchivesSpec.vars false (#[.slice none 0 0]:Array Value).toList 8 = some ([.nil],[],places) :=
  ⟨[],by kernel_rfl⟩
set_option maxRecDepth 100000 in
theorem lifted (os:Os) (started:os.Started) (H:Type) (enc:TypeId × Value→H) (F:Stop.Interp) :
    ReturnsInHanded {} Tryz.checked os 4 .any ((OpenSpec.ofChange Rows.writeArchivesSpec).preRow enc Tryz.prog Tryz.f4 Rows.writeArchivesRow.domain false Rows.writeArchivesRow.laid) (((OpenSpec.ofChange Rows.writeArchivesSpec).at F).post enc Tryz.prog Tryz.f4 false true false false):=by
  obtain ⟨places,hx⟩:=reads os enc
  refine returnsInHanded_of_row (C:=Tryz.checked) (s:=OpenSpec.ofChange Rows.writeArchivesSpec) own started (by kernel_rfl) Tryz.func4
    (witness_row_at (enc:=enc) (C:=Tryz.checked) false (laidWorld os) #[.slice none 0 0] rfl (by kernel_rfl) (by kernel_rfl) (by kernel_rfl)
      (OpenSpec.preRow_of_cond 8 hx (by kernel_rfl) (fun k hk=>by cases hk) (by kernel_rfl) (laid_met os))) ?_
  intro W base args ds gs before hval hW _ hcond hsz hL hsh _
  exact contract H enc W base args ds gs before hval hW hsz hL hsh
theorem proved:Rows.WriteArchivesSaid :=
  OpenClaim.holds_of_cond 4 Tryz.f4 rfl rfl rfl rfl rfl rfl rfl ⟨rfl,rfl,rfl,rfl,rfl⟩ rfl rfl rfl rfl rfl (by kernel_rfl) Tryz.func4 (by kernel_rfl)
    (of_decide_eq_true (by kernel_rfl)) (by unfold Func.isWrapper;first|(rw [if_pos (by decide +kernel)];kernel_rfl)|(rw [if_neg (by decide +kernel)];exact ⟨rfl,rfl⟩))
    (fun os started H enc _ F=>by rw [OpenClaim.pre_eq_preRow];exact lifted os started H enc F)
theorem plain (f : FuncId) (fn : Func) (hf : Tryz.pinned.checked.prog.funcNamed "creel/creellaw.WriteArchives" = some f) (hfn : Tryz.pinned.checked.prog.funcs[f]? = some fn) :
    true = Tryz.pinned.checked.prog.looks []∧∀ (j:Nat) t,fn.params[j]? = some t→Tryz.pinned.checked.prog.wantsStandIn t = false:=by
  obtain rfl : f = 4 := Option.some.inj ((show Tryz.prog.funcNamed "creel/creellaw.WriteArchives" = some 4 by kernel_rfl).symm.trans hf) |>.symm
  obtain rfl:fn = Tryz.f4:=(Option.some.inj (Tryz.func4.symm.trans hfn)).symm
  refine ⟨by kernel_rfl,fun j t ht=>?_⟩
  rw [Tryz.params4] at ht
  have hm:=Array.mem_of_getElem? ht
  simp only [List.mem_toArray,List.mem_cons,List.not_mem_nil,or_false] at hm
  rcases hm with rfl
  · exact (show Tryz.prog.wantsStandIn 32 = false by kernel_rfl)
theorem card:Rows.WriteArchivesCardSaid :=
  Claim7.holds_tied_plain_at .later [] _ _ _ _ proved (fun _ h=>by cases h) (by kernel_rfl) (fun _ h=>by cases h) writeArchives_row_tie rfl ⟨rfl,rfl⟩ (by kernel_rfl) rfl plain (by kernel_rfl)
#print axioms card
end Go.Proofs.YtenbelecmmpdgaaGreatDoor.writeArchives
namespace Go.Proofs.YtenbelecmmpdgaaGreatDoor
theorem writeArchives_holds:Rows.WriteArchivesCardSaid:=writeArchives.card
end Go.Proofs.YtenbelecmmpdgaaGreatDoor
end
