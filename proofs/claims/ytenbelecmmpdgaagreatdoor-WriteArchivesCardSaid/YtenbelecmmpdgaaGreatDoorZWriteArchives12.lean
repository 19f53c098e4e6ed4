/- Made by programs of the prover: walks of Go functions, the words that they use, and plain laws, each text in a section of its own; no condition of its own. -/
import Derived.Test.YtenbelecmmpdgaaGreatDoorZWriteArchives2
import Derived.Test.YtenbelecmmpdgaaGreatDoorZWriteArchives3
import Derived.Test.YtenbelecmmpdgaaGreatDoorZWriteArchives4
import Derived.Test.YtenbelecmmpdgaaGreatDoorZWriteArchives5
import Derived.Test.YtenbelecmmpdgaaGreatDoorZWriteArchives7
import Derived.Test.YtenbelecmmpdgaaGreatDoorZWriteArchives8
import Derived.Test.YtenbelecmmpdgaaGreatDoorZWriteArchives9
import Derived.Test.YtenbelecmmpdgaaGreatDoorZWriteArchives10
import Derived.Test.YtenbelecmmpdgaaGreatDoorZWriteArchives11
section
namespace Go.Proofs.YtenbelecmmpdgaaGreatDoor.All
open Go.RowKit Go.Proofs.YtenbelecmmpdgaaGreatDoorW.PrintWords Go.Proofs.YtenbelecmmpdgaaGreatDoorW.PrintLast Go.Proofs.YtenbelecmmpdgaaGreatDoorW.PrintMore
open Go.Proofs.YtenbelecmmpdgaaGreatDoorW.Mine
attribute [local go_sem] gtr_string leq_string geq_string
attribute [local go_sem] max2_int min2_int max_two min_two max_three min_three max_four min_four
set_option linter.unusedVariables false
set_option linter.unusedSimpArgs false
def cut_One.j0:Nat→ByteArray→ByteArray→Bool→Option (ByteArray × Int)
 | 0,_,_,_=>none
 | k + 1,x0,x1,x22=>if x22 = true then (some ((⟨#[]⟩:ByteArray),1)) else (if x0.toList = ([]:List UInt8) then ((cut_Two.f k x1).bind fun bt101=>(if bt101.2.2 = 0 then (if bt101.1.toList = x0.toList then (if bt101.2.1.toList = x1.toList then (some (x1,0)) else (some ((⟨#[]⟩:ByteArray),3))) else (some ((⟨#[]⟩:ByteArray),3))) else (some ((⟨#[]⟩:ByteArray),3)))) else (if x0.size + 1 ≤ 9223372036854775807 then (if (x0 ++ (⟨#[47]⟩:ByteArray)).size + x1.size ≤ 9223372036854775807 then ((cut_Two.f k ((x0 ++ (⟨#[47]⟩:ByteArray)) ++ x1)).bind fun bt104=>(if bt104.2.2 = 0 then (if bt104.1.toList = x0.toList then (if bt104.2.1.toList = x1.toList then (some ((x0 ++ (⟨#[47]⟩:ByteArray)) ++ x1,0)) else (some ((⟨#[]⟩:ByteArray),3))) else (some ((⟨#[]⟩:ByteArray),3))) else (some ((⟨#[]⟩:ByteArray),3)))) else (none)) else (none)))
def cut_One.f (k:Nat) (a0:ByteArray) (a1:ByteArray):Option (ByteArray × Int):=if (a1.size:Int) < 1 then (cut_One.j0 k a0 a1 true) else (if (a1.size:Int) > 100 then (cut_One.j0 k a0 a1 true) else (cut_One.j0 k a0 a1 (decide ((a0.size:Int) > 155))))
def creelref_CutOne.j0:Nat→ByteArray→ByteArray→Bool→Option (ByteArray × Int)
 | 0,_,_,_=>none
 | k + 1,x0,x1,x21=>if x21 = true then (some ((⟨#[]⟩:ByteArray),1)) else (if x0.size + 1 ≤ 9223372036854775807 then (if (x0 ++ (⟨#[47]⟩:ByteArray)).size + x1.size ≤ 9223372036854775807 then (if x0.toList = ([]:List UInt8) then ((creelref_CutTwo.f k x1).bind fun bt101=>(if bt101.2.2 = 0 then (if bt101.1.toList = x0.toList then (if bt101.2.1.toList = x1.toList then (some (x1,0)) else (some ((⟨#[]⟩:ByteArray),3))) else (some ((⟨#[]⟩:ByteArray),3))) else (some ((⟨#[]⟩:ByteArray),3)))) else ((creelref_CutTwo.f k ((x0 ++ (⟨#[47]⟩:ByteArray)) ++ x1)).bind fun bt104=>(if bt104.2.2 = 0 then (if bt104.1.toList = x0.toList then (if bt104.2.1.toList = x1.toList then (some ((x0 ++ (⟨#[47]⟩:ByteArray)) ++ x1,0)) else (some ((⟨#[]⟩:ByteArray),3))) else (some ((⟨#[]⟩:ByteArray),3))) else (some ((⟨#[]⟩:ByteArray),3))))) else (none)) else (none))
def creelref_CutOne.f (k:Nat) (a0:ByteArray) (a1:ByteArray):Option (ByteArray × Int):=if a1.toList = ([]:List UInt8) then (creelref_CutOne.j0 k a0 a1 true) else (if (a1.size:Int) > 100 then (creelref_CutOne.j0 k a0 a1 true) else (creelref_CutOne.j0 k a0 a1 (decide ((a0.size:Int) > 155))))
end Go.Proofs.YtenbelecmmpdgaaGreatDoor.All
end
section
namespace Go.Proofs.YtenbelecmmpdgaaGreatDoor.Q
set_option linter.unusedVariables false
set_option linter.unusedSimpArgs false
open Go.RowKit Go.Proofs.YtenbelecmmpdgaaGreatDoor.All Go.Proofs.YtenbelecmmpdgaaGreatDoorW.PrintWords Go.Proofs.YtenbelecmmpdgaaGreatDoorW.PrintLast Go.Proofs.YtenbelecmmpdgaaGreatDoorW.PrintMore Go.Proofs.YtenbelecmmpdgaaGreatDoorW.PureBase
theorem get_bt (s:ByteArray) (i:Nat) (h:i < s.size):((s.get! i).toNat:Int) = bt s i:=by
  unfold bt
  rw [dif_pos (by simpa using h)]
  show ((s.get! i).toNat:Int) = _
  simp [ByteArray.get!,getElem!_pos,h]
  rfl
theorem cont_byte (s:ByteArray) (p j:Nat) (h1:1 ≤ j) (h2:j < (Utf8.decode s p).2):128 ≤ (s.get! (p + j)).toNat∧p + j < s.size:=by
  have key:∀ k,(decide (p + k < s.size) && (s.get! (p + k)).toNat / 64 == 2) = true→128 ≤ (s.get! (p + k)).toNat∧p + k < s.size:=by
    intro k hk
    simp only [Bool.and_eq_true,decide_eq_true_eq,beq_iff_eq] at hk
    exact ⟨by omega,hk.1⟩
  simp only [Utf8.decode] at h2
  split at h2
  · simp only at h2;omega
  · split at h2
    · rename_i hc
      simp only [Bool.and_eq_true] at hc
      split at h2
      · simp only at h2
        obtain rfl:j = 1:=by omega
        exact key 1 (by simpa using hc.2)
      · simp only at h2;omega
    · split at h2
      · rename_i hc
        simp only [Bool.and_eq_true] at hc
        split at h2
        · simp only at h2
          have:j = 1 ∨ j = 2:=by omega
          rcases this with rfl|rfl
          · exact key 1 (by simpa using hc.1.2)
          · exact key 2 (by simpa using hc.2)
        · simp only at h2;omega
      · split at h2
        · rename_i hc
          simp only [Bool.and_eq_true] at hc
          split at h2
          · simp only at h2
            have:j = 1 ∨ j = 2 ∨ j = 3:=by omega
            rcases this with rfl|rfl|rfl
            · exact key 1 (by simpa using hc.1.1.2)
            · exact key 2 (by simpa using hc.1.2)
            · exact key 3 (by simpa using hc.2)
          · simp only at h2;omega
        · simp only at h2;omega
abbrev TwoR:=ByteArray × ByteArray × Int
def noTwo:TwoR:=((⟨#[]⟩:ByteArray),(⟨#[]⟩:ByteArray),1)
def ff (s:ByteArray):Nat→Nat→TwoR
  | 0,_=>noTwo
  | d + 1,i=>if cut_Two.here s i = true then (s.extract 0 i,s.extract (i + 1) s.size,0) else ff s d (i + 1)
theorem ff_skip (s:ByteArray):∀ (m d i:Nat),(∀ j,j < m→cut_Two.here s (i + j) = false)→m ≤ d→ff s d i = ff s (d - m) (i + m)
  | 0,d,i,_,_=>rfl
  | m + 1,0,i,_,h=>by omega
  | m + 1,d + 1,i,h,hd=>by
    have h0:=h 0 (by omega)
    rw [Nat.add_zero] at h0
    have ih:=ff_skip s m d (i + 1) (fun j hj=>by have:=h (j + 1) (by omega);rwa [show i + 1 + j = i + (j + 1) from by omega]) (by omega)
    rw [show d + 1 - (m + 1) = d - m from by omega,show i + (m + 1) = i + 1 + m from by omega,← ih]
    simp only [ff]
    rw [if_neg (by rw [h0];simp)]
theorem ff_none (s:ByteArray) (d i:Nat) (h:∀ j,j < d→cut_Two.here s (i + j) = false):ff s d i = noTwo:=by
  rw [ff_skip s d d i h (Nat.le_refl _),Nat.sub_self];rfl
theorem two_loop (s:ByteArray) (n:Nat):∀ (i k:Nat),i ≤ s.size→s.size - i ≤ n→s.size - i < k→cut_Two.l0 k s i = some (ff s (s.size - i) i):=by
  induction n with
  | zero =>
    intro i k hi hn hk
    obtain ⟨k,rfl⟩:∃ m,k = m + 1:=⟨k - 1,by omega⟩
    simp only [cut_Two.l0]
    rw [if_neg (by omega),show s.size - i = 0 from by omega];rfl
  | succ n ih =>
    intro i k hi hn hk
    obtain ⟨k,rfl⟩:∃ m,k = m + 1:=⟨k - 1,by omega⟩
    simp only [cut_Two.l0]
    by_cases hlt:i < s.size
    · rw [if_pos hlt]
      obtain ⟨d,hd⟩:∃ d,s.size - i = d + 1:=⟨s.size - i - 1,by omega⟩
      rw [hd]
      by_cases hh:cut_Two.here s i = true
      · rw [if_pos hh];simp only [ff];rw [if_pos hh]
      · rw [if_neg hh]
        have hw:=Lib.width_pos s i
        obtain ⟨K,hK⟩:∃ K,(Utf8.decode s i).2 = K:=⟨_,rfl⟩
        have hc:∀ j,1 ≤ j→j < K→128 ≤ (s.get! (i + j)).toNat∧i + j < s.size:=fun j h1 h2=>cont_byte s i j h1 (by rw [hK];exact h2)
        rw [hK] at hw ⊢
        have hle:i + K ≤ s.size:=by
          by_cases h1:K = 1
          · omega
          · have:=(hc (K - 1) (by omega) (by omega)).2
            omega
        rw [ih (i + K) k hle (by omega) (by omega),← hd,ff_skip s K (s.size - i) i ?_ (by omega),show s.size - i - K = s.size - (i + K) from by omega]
        intro j hj
        by_cases h0:j = 0
        · subst h0;simpa using hh
        · obtain ⟨h1,h2⟩:=hc j (by omega) hj
          have e:=get_bt s (i + j) h2
          unfold cut_Two.here
          rw [show (bt s ((i + j:Nat):Int) == 47) = false from beq_eq_false_iff_ne.2 (by omega)]
          simp
    · rw [if_neg hlt,show s.size - i = 0 from by omega];rfl
theorem here_not (s:ByteArray) (i:Nat) (h:i = 0 ∨ 155 < i ∨ s.size ≤ i + 1):cut_Two.here s i = false:=by
  unfold cut_Two.here
  rcases h with h|h|h
  · rw [decide_eq_false (show ¬ 0 < i by omega)];simp
  · rw [decide_eq_false (show ¬ i ≤ 155 by omega)];simp
  · rw [decide_eq_false (show ¬ i + 1 < s.size by omega)];simp
theorem ref_loop (s:ByteArray) (hs:s.size ≤ 140737488351232) (n:Nat):∀ (i k:Nat),1 ≤ i→i ≤ 156→156 - i = n→2 * n + 3 ≤ k→creelref_CutTwo.l0 k s i = some (ff s (s.size - i) i):=by
  induction n with
  | zero =>
    intro i k h1 h2 hn hk
    obtain ⟨k,rfl⟩:∃ m,k = m + 2:=⟨k - 2,by omega⟩
    have hi:i = 156:=by omega
    subst hi
    simp only [creelref_CutTwo.l0]
    rw [ff_none s _ _ (fun j _=>here_not s _ (by omega))]
    by_cases c:((156:Nat):Int) < wrap64 ((s.size:Int) - 1)
    · rw [if_pos c,decide_eq_false (by omega)];simp [creelref_CutTwo.j2];rfl
    · rw [if_neg c];simp [creelref_CutTwo.j2];rfl
  | succ n ih =>
    intro i k h1 h2 hn hk
    obtain ⟨k,rfl⟩:∃ m,k = m + 2:=⟨k - 2,by omega⟩
    have hw1:wrap64 ((s.size:Int) - 1) = (s.size:Int) - 1:=wrap_is (by omega) (by omega)
    simp only [creelref_CutTwo.l0]
    rw [hw1]
    by_cases c:(i:Int) < (s.size:Int) - 1
    · rw [if_pos c,decide_eq_true (by omega)]
      simp only [creelref_CutTwo.j2,if_true]
      rw [if_pos (show (0:Int) ≤ i by omega),if_pos (show (i:Int) < s.size by omega)]
      have w1:wrap64 ((i:Int) + 1) = ((i + 1:Nat):Int):=by rw [wrap_is (by omega) (by omega)];omega
      have w2:wrap64 ((s.size:Int) - (i:Int)) = (s.size:Int) - i:=wrap_is (by omega) (by omega)
      have w3:wrap64 ((s.size:Int) - (i:Int) - 1) = (s.size:Int) - i - 1:=wrap_is (by omega) (by omega)
      rw [w1,w2,w3]
      obtain ⟨d,hd⟩:∃ d,s.size - i = d + 1:=⟨s.size - i - 1,by omega⟩
      have next:ff s (s.size - (i + 1)) (i + 1) = ff s d (i + 1):=by rw [show s.size - (i + 1) = d from by omega]
      by_cases c2:bt s (i:Int) = 47
      · rw [if_pos c2]
        by_cases c3:(s.size:Int) - (i:Int) - 1 ≤ 100
        · rw [if_pos c3,if_pos (by omega),if_pos (by omega),if_pos (by omega),hd]
          simp only [ff]
          rw [if_pos]
          · simp
          · unfold cut_Two.here
            rw [c2,decide_eq_true (show 0 < i by omega),decide_eq_true (show i ≤ 155 by omega),decide_eq_true (show i + 1 < s.size by omega),decide_eq_true (show s.size ≤ i + 101 by omega)];rfl
        · rw [if_neg c3,ih (i + 1) k (by omega) (by omega) (by omega) (by omega),next,hd]
          simp only [ff]
          rw [if_neg]
          unfold cut_Two.here
          rw [decide_eq_false (show ¬ s.size ≤ i + 101 by omega)];simp
      · rw [if_neg c2,ih (i + 1) k (by omega) (by omega) (by omega) (by omega),next,hd]
        simp only [ff]
        rw [if_neg]
        unfold cut_Two.here
        rw [show (bt s (i:Int) == 47) = false from beq_eq_false_iff_ne.2 c2];simp
    · rw [if_neg c]
      simp only [creelref_CutTwo.j2,Bool.false_eq_true,if_false]
      rw [ff_none s _ _ (fun j _=>here_not s _ (by omega))];rfl
theorem two_same (s:ByteArray) (hs:s.size ≤ 140737488351232):∃ r,Ev (fun k=>cut_Two.f k s) r∧Ev (fun k=>creelref_CutTwo.f k s) r:=by
  obtain ⟨K,hK⟩:=has_ev s 0 (by omega) (by omega) hs
  replace hK:∀ k,K ≤ k→creelref_has.f k s 0 = some (s.data.toList.contains 0):=hK
  have hi:(Lib.indexByte s.data.toList ((0:Int).toNat.toUInt8) ≥ 0) ↔ s.data.toList.contains 0 = true:=by
    have:=index_ge s.data.toList ((0:Int).toNat.toUInt8)
    rw [← decide_eq_true_iff (p:=Lib.indexByte s.data.toList ((0:Int).toNat.toUInt8) ≥ 0),this];rfl
  by_cases h0:s.toList = ([]:List UInt8)
  · refine ⟨((⟨#[]⟩:ByteArray),(⟨#[]⟩:ByteArray),3),⟨0,fun k _=>?_⟩,⟨1,fun k hk=>?_⟩⟩
    · show cut_Two.f k s = _
      unfold cut_Two.f
      rw [if_pos (by omega),if_pos h0]
    · obtain ⟨k,rfl⟩:∃ m,k = m + 1:=⟨k - 1,by omega⟩
      show creelref_CutTwo.f (k + 1) s = _
      unfold creelref_CutTwo.f
      rw [if_pos h0];simp [creelref_CutTwo.j0]
  · by_cases hz:s.data.toList.contains 0 = true
    · refine ⟨((⟨#[]⟩:ByteArray),(⟨#[]⟩:ByteArray),3),⟨0,fun k _=>?_⟩,⟨K + 1,fun k hk=>?_⟩⟩
      · show cut_Two.f k s = _
        unfold cut_Two.f strings_IndexByte.f
        rw [if_pos (by omega),if_neg h0];simp only [Option.bind_some];rw [if_pos (hi.2 hz)]
      · obtain ⟨k,rfl⟩:∃ m,k = m + 1:=⟨k - 1,by omega⟩
        show creelref_CutTwo.f (k + 1) s = _
        unfold creelref_CutTwo.f
        rw [if_neg h0,hK _ (by omega)];simp only [Option.bind_some,hz];simp [creelref_CutTwo.j0]
    · have hz':s.data.toList.contains 0 = false:=by simpa using hz
      have e1:∀ k,s.size < k→cut_Two.f k s = some (if (s.size:Int) ≤ 100 then ((⟨#[]⟩:ByteArray),s,0) else ff s s.size 0):=by
        intro k hk
        unfold cut_Two.f strings_IndexByte.f
        rw [if_pos (by omega),if_neg h0];simp only [Option.bind_some];rw [if_neg (fun h=>hz (hi.1 h))]
        by_cases c:(s.size:Int) ≤ 100
        · rw [if_pos c,if_pos c]
        · rw [if_neg c,if_neg c,two_loop s s.size 0 k (by omega) (by omega) (by omega)];rfl
      have e2:∀ k,K + 400 ≤ k→creelref_CutTwo.f k s = some (if (s.size:Int) ≤ 100 then ((⟨#[]⟩:ByteArray),s,0) else ff s s.size 0):=by
        intro k hk
        obtain ⟨k,rfl⟩:∃ m,k = m + 1:=⟨k - 1,by omega⟩
        unfold creelref_CutTwo.f
        rw [if_neg h0,hK _ (by omega)];simp only [Option.bind_some,hz',creelref_CutTwo.j0,Bool.false_eq_true,if_false]
        by_cases c:(s.size:Int) ≤ 100
        · rw [if_pos c,if_pos c]
        · rw [if_neg c,if_neg c]
          have:=ref_loop s hs 155 1 k (by omega) (by omega) (by omega) (by omega)
          rw [show ((1:Nat):Int) = 1 from rfl] at this
          rw [this,ff_skip s 1 s.size 0 (fun j hj=>here_not s _ (by omega)) (by omega)]
      exact ⟨_,⟨s.size + 1,fun k hk=>e1 k (by omega)⟩,⟨K + 400,fun k hk=>e2 k hk⟩⟩
end Go.Proofs.YtenbelecmmpdgaaGreatDoor.Q
end
section
namespace Go.Proofs.YtenbelecmmpdgaaGreatDoor.Q
set_option linter.unusedVariables false
set_option linter.unusedSimpArgs false
open Go.RowKit Go.Proofs.YtenbelecmmpdgaaGreatDoor.All Go.Proofs.YtenbelecmmpdgaaGreatDoorW.PrintWords Go.Proofs.YtenbelecmmpdgaaGreatDoorW.PrintLast Go.Proofs.YtenbelecmmpdgaaGreatDoorW.PrintMore Go.Proofs.YtenbelecmmpdgaaGreatDoorW.PureBase
open Go.Lib in
def P (m u:Nat):List UInt8:=(List.range m).map fun t=>dg u (m - 1 - t)
theorem P_succ (m u:Nat):P (m + 1) u = Lib.dg u m :: P m u:=by
  unfold P
  rw [List.range_succ_eq_map,List.map_cons,List.map_map]
  congr 1
  apply List.map_congr_left
  intro t ht
  have:=List.mem_range.1 ht
  show Lib.dg u (m + 1 - 1 - (t + 1)) = Lib.dg u (m - 1 - t)
  rw [show m + 1 - 1 - (t + 1) = m - 1 - t by omega]
theorem dg_mod (u m j:Nat) (h:j < m):Lib.dg (u % 10 ^ m) j = Lib.dg u j:=by
  unfold Lib.dg
  have:u % 10 ^ m / 10 ^ j % 10 = u / 10 ^ j % 10:=by
    obtain ⟨d,rfl⟩:∃ d,m = j + (d + 1):=⟨m - j - 1,by omega⟩
    rw [Nat.pow_add,Nat.mod_mul_right_div_self,Nat.pow_succ,Nat.mul_comm (10 ^ d) 10,Nat.mod_mul_right_mod]
  rw [this]
theorem P_mod (m u:Nat):P m (u % 10 ^ m) = P m u:=by
  unfold P
  apply List.map_congr_left
  intro t ht
  have:=List.mem_range.1 ht
  exact dg_mod u m _ (by omega)
theorem dg_val (u j:Nat):(Lib.dg u j).toNat = 48 + u / 10 ^ j % 10:=by
  unfold Lib.dg
  have:u / 10 ^ j % 10 < 10:=Nat.mod_lt _ (by omega)
  first
    | (rw [UInt8.toNat_ofNat'];omega)
    | (simp;omega)
theorem P_zero (m u:Nat) (hu:u < 10 ^ m) (h:∀ x ∈ P m u,x = 48):u = 0:=by
  induction m generalizing u with
  | zero=>simpa using hu
  | succ m ih =>
    rw [P_succ] at h
    have h1:Lib.dg u m = 48:=h _ (List.mem_cons_self ..)
    have h2:=dg_val u m
    rw [h1] at h2
    have h3:(48:UInt8).toNat = 48:=rfl
    have hp:0 < 10 ^ m:=Nat.pow_pos (by omega)
    have h4:u / 10 ^ m < 10:=Nat.div_lt_of_lt_mul (by rw [Nat.pow_succ] at hu;exact hu)
    have h5:u / 10 ^ m = 0:=by
      rw [Nat.mod_eq_of_lt h4,h3] at h2
      generalize u / 10 ^ m = q at h2 ⊢
      omega
    have h6:u < 10 ^ m:=by
      rcases Nat.lt_or_ge u (10 ^ m) with a|a
      · exact a
      · have:=Nat.div_pos a hp;omega
    exact ih u h6 (fun x hx=>h x (List.mem_cons_of_mem _ hx))
theorem P_of_zero (m:Nat):∀ x ∈ P m 0,x = 48:=by
  intro x hx
  unfold P at hx
  obtain ⟨t,_,rfl⟩:=List.mem_map.1 hx
  apply UInt8.toNat_inj.1
  rw [dg_val];simp
theorem digit_cut:∀ d:Fin 10,(⟨#[48,49,50,51,52,53,54,55,56,57]⟩:ByteArray).extract d.1 (d.1 + 1) = ⟨#[UInt8.ofNat (48 + d.1)]⟩:=by decide
theorem pad_is (m u:Nat) (hm:Lib.nDigits u ≤ m):List.replicate (m - Lib.nDigits u) (48:UInt8) ++ Lib.decDigits u = P m u:=by
  rw [Lib.decDigits_eq]
  induction m with
  | zero=>have:=Lib.nDigits_pos u;omega
  | succ m ih =>
    rcases Nat.lt_or_ge m (Lib.nDigits u) with h|h
    · rw [show m + 1 = Lib.nDigits u by omega,Nat.sub_self];rfl
    · rw [show m + 1 - Lib.nDigits u = (m - Lib.nDigits u) + 1 by omega,List.replicate_succ,List.cons_append,ih h,P_succ]
      congr 1
      apply UInt8.toNat_inj.1
      rw [dg_val]
      have:u / 10 ^ m = 0:=Nat.div_eq_of_lt (Nat.lt_of_lt_of_le (Lib.lt_pow_nDigits u) (Nat.pow_le_pow_right (by omega) h))
      rw [this];rfl
def tx (l:List UInt8):ByteArray:=⟨l.toArray⟩
theorem tx_size (l:List UInt8):(tx l).size = l.length:=by simp [tx,ByteArray.size]
theorem tx_append (a:ByteArray) (l r:List UInt8):(a ++ tx l) ++ tx r = a ++ tx (l ++ r):=by
  apply ext_list;simp [tx]
theorem dg_ne (n m:Nat) (h:10 ^ m ≤ n) (hn:n < 10 ^ (m + 1)):Lib.dg n m ≠ 48:=by
  intro e
  have h2:=dg_val n m
  rw [e] at h2
  have h3:(48:UInt8).toNat = 48:=rfl
  have hp:0 < 10 ^ m:=Nat.pow_pos (by omega)
  have h4:n / 10 ^ m < 10:=Nat.div_lt_of_lt_mul (by rw [Nat.pow_succ] at hn;exact hn)
  have h5:=Nat.div_pos h hp
  rw [Nat.mod_eq_of_lt h4,h3] at h2
  generalize n / 10 ^ m = q at h2 h5
  omega
theorem nd_le:∀ (m u:Nat),1 ≤ m→u < 10 ^ m→Lib.nDigits u ≤ m
  | 0,u,h,_=>absurd h (by omega)
  | 1,u,_,h=>by rw [Lib.nDigits_small (by simpa using h)];exact Nat.le_refl _
  | m + 2,u,_,h=>by
    by_cases c:u < 10
    · rw [Lib.nDigits_small c];omega
    · rw [Lib.nDigits_big c]
      have:=nd_le (m + 1) (u / 10) (by omega) (by rw [Nat.pow_succ] at h;omega)
      omega
theorem itoa_nat (u:Nat):Lib.itoa (u:Int) = Lib.decDigits u:=by unfold Lib.itoa;rw [if_neg (by omega)];simp
theorem tx_app (l r:List UInt8):tx l ++ tx r = tx (l ++ r):=by apply ext_list;simp [tx]
open Go.Lib in
theorem bt_at (s:ByteArray) (pre post:List UInt8) (c:UInt8) (h:s.data.toList = pre ++ c :: post):bt s (pre.length:Int) = (c.toNat:Int):=by
  have hl:pre.length < s.size:=by rw [← size_list,h];simp
  rw [bt_eq_iff s pre.length hl _ (by omega) (by have:=UInt8.toNat_lt c;omega),h]
  simp
end Go.Proofs.YtenbelecmmpdgaaGreatDoor.Q
end
section
namespace Go.Proofs.YtenbelecmmpdgaaGreatDoor.Q
set_option linter.unusedVariables false
set_option linter.unusedSimpArgs false
open Go.RowKit Go.Proofs.YtenbelecmmpdgaaGreatDoor.All Go.Proofs.YtenbelecmmpdgaaGreatDoorW.PrintWords Go.Proofs.YtenbelecmmpdgaaGreatDoorW.PrintLast Go.Proofs.YtenbelecmmpdgaaGreatDoorW.PrintMore Go.Proofs.YtenbelecmmpdgaaGreatDoorW.PureBase
theorem trimR_cons (x:UInt8) (l:List UInt8):Lib.trimRightB (x :: l) 48 = if Lib.trimRightB l 48 = [] then (if x = 48 then [] else [x]) else x :: Lib.trimRightB l 48:=by
  unfold Lib.trimRightB
  rw [List.reverse_cons,List.dropWhile_append]
  by_cases h:l.reverse.dropWhile (· == 48) = []
  · rw [h]
    by_cases hx:x = 48
    · subst hx;simp
    · have:(x == 48) = false:=by simpa using hx
      simp [this,hx]
  · have h':(l.reverse.dropWhile (· == 48)).isEmpty = false:=by simpa using h
    rw [h']
    have h'':¬ (l.reverse.dropWhile (· == 48)).reverse = []:=by simpa using h
    rw [if_neg h'']
    simp
theorem trimR_nil (l:List UInt8):Lib.trimRightB l 48 = [] ↔ ∀ x ∈ l,x = 48:=by
  induction l with
  | nil=>simp [Lib.trimRightB]
  | cons a l ih =>
    rw [trimR_cons]
    by_cases h:Lib.trimRightB l 48 = []
    · rw [if_pos h]
      have:=ih.1 h
      by_cases ha:a = 48
      · rw [if_pos ha];simp [ha];exact this
      · rw [if_neg ha];simp [ha]
    · rw [if_neg h]
      have:=fun e=>h (ih.2 e)
      simp
      intro _
      exact Classical.byContradiction fun ne=>this fun x hx=>Classical.byContradiction fun h'=>ne ⟨x,hx,h'⟩
theorem trimR_len (l:List UInt8):(Lib.trimRightB l 48).length ≤ l.length:=by
  unfold Lib.trimRightB
  rw [List.length_reverse]
  have:=(List.dropWhile_suffix (l:=l.reverse) (fun x=>x == 48)).length_le
  simpa using this
theorem step (k n m U:Nat) (a:ByteArray) (hU:U = 10 ^ m) (h0:0 < n) (hU1:1 ≤ U) (hU2:U ≤ 100000000) (hn:n < 10 * U) (ha:a.size < 100000) :
    creelref_TimeText.l0 (k + 1) (n:Int) a (U:Int) = creelref_TimeText.l0 k ((n % U:Nat):Int) (a ++ tx [Lib.dg n m]) (wrap64 (Int.tdiv (U:Int) 10)):=by
  have hq:n / U < 10:=Nat.div_lt_of_lt_mul (by rw [Nat.mul_comm];exact hn)
  obtain ⟨q,hqd⟩:∃ q,n / U = q:=⟨_,rfl⟩
  rw [hqd] at hq
  have e0:Int.tdiv (n:Int) (U:Int) = (q:Int):=by rw [← hqd];rfl
  have e1:wrap64 (Int.tdiv (n:Int) (U:Int)) = (q:Int):=by
    rw [e0]
    exact wrap_nat (by omega) (by omega)
  have e2:wrap64 ((q:Int) + 1) = ((q + 1:Nat):Int):=by clear e1 e0;rw [wrap_nat (by omega) (by omega)];omega
  have e3:(⟨#[48,49,50,51,52,53,54,55,56,57]⟩:ByteArray).extract ((q:Int)).toNat (((q + 1:Nat):Int)).toNat = tx [Lib.dg n m]:=by
    rw [Int.toNat_natCast,Int.toNat_natCast,digit_cut ⟨q,hq⟩]
    unfold Lib.dg
    rw [← hU,hqd,Nat.mod_eq_of_lt hq];rfl
  clear hqd
  simp only [creelref_TimeText.l0]
  refine (if_pos (show (n:Int) > 0 by clear e1 e2 e0;omega)).trans ?_
  refine (if_neg (show ¬ (U:Int) = 0 by clear e1 e2 e0;omega)).trans ?_
  rw [e1,e2,e3]
  clear e1 e2 e0
  refine (if_pos (show 0 ≤ (q:Int) by omega)).trans ?_
  refine (if_pos (show (q:Int) ≤ ((q + 1:Nat):Int) by omega)).trans ?_
  refine (if_pos (show ((q + 1:Nat):Int) ≤ 10 by omega)).trans ?_
  refine (if_pos (by rw [tx_size];show a.size + 1 ≤ 9223372036854775807;omega)).trans ?_
  rfl
theorem time_end (k:Nat) (a:ByteArray) (u:Int):creelref_TimeText.l0 (k + 1) ((0:Nat):Int) a u = some (a,0):=by
  simp only [creelref_TimeText.l0]
  exact if_neg (by omega)
theorem time_loop (m:Nat):∀ (n k:Nat) (a:ByteArray),m ≤ 8→0 < n→n < 10 ^ (m + 1)→m + 3 < k→a.size + m < 1000 →
    creelref_TimeText.l0 k (n:Int) a ((10 ^ m:Nat):Int) = some (a ++ tx (Lib.trimRightB (P (m + 1) n) 48),0):=by
  induction m with
  | zero =>
    intro n k a hm h0 hn hk ha
    obtain ⟨k,rfl⟩:∃ q,k = q + 2:=⟨k - 2,by omega⟩
    rw [step (k + 1) n 0 (10 ^ 0) a rfl h0 (by simp) (by simp) (by simpa using hn) (by omega),show n % 10 ^ 0 = 0 by simp;omega,time_end,P_succ,trimR_cons,if_pos (by simp [P,Lib.trimRightB]),if_neg (dg_ne n 0 (by simp;omega) hn)]
  | succ m ih =>
    intro n k a hm h0 hn hk ha
    obtain ⟨k,rfl⟩:∃ q,k = q + 2:=⟨k - 2,by omega⟩
    have hU2:10 ^ (m + 1) ≤ 100000000:=Nat.le_trans (Nat.pow_le_pow_right (by omega) hm) (by decide)
    have hU1:1 ≤ 10 ^ (m + 1):=Nat.pow_pos (by omega)
    rw [step (k + 1) n (m + 1) (10 ^ (m + 1)) a rfl h0 hU1 hU2 (by rw [Nat.pow_succ] at hn;omega) (by omega),P_succ,trimR_cons]
    rcases Nat.eq_zero_or_pos (n % 10 ^ (m + 1)) with hz|hz
    · have hle:10 ^ (m + 1) ≤ n:=Nat.le_of_dvd h0 (Nat.dvd_of_mod_eq_zero hz)
      have ht:Lib.trimRightB (P (m + 1) n) 48 = []:=(trimR_nil _).2 (by rw [← P_mod,hz];exact P_of_zero _)
      rw [hz,time_end,if_pos ht,if_neg (dg_ne n (m + 1) hle hn)]
    · have hlt:n % 10 ^ (m + 1) < 10 ^ (m + 1):=Nat.mod_lt _ hU1
      have ht:¬ Lib.trimRightB (P (m + 1) n) 48 = []:=fun e=>by
        have:=P_zero (m + 1) (n % 10 ^ (m + 1)) hlt (by rw [P_mod];exact (trimR_nil _).1 e)
        omega
      have hd:wrap64 (Int.tdiv ((10 ^ (m + 1):Nat):Int) 10) = ((10 ^ m:Nat):Int):=by
        have e:Int.tdiv ((10 ^ (m + 1):Nat):Int) 10 = ((10 ^ (m + 1) / 10:Nat):Int):=rfl
        rw [e,Nat.pow_succ,Nat.mul_div_cancel _ (by omega)]
        have:10 ^ m ≤ 100000000:=Nat.le_trans (Nat.pow_le_pow_right (by omega) (by omega)) hU2
        exact wrap_nat (by omega) (by omega)
      rw [hd,ih (n % 10 ^ (m + 1)) (k + 1) _ (by omega) hz hlt (by omega) (by rw [ByteArray.size_append,tx_size];show a.size + 1 + m < 1000;omega),P_mod,if_neg ht,tx_append]
      rfl
theorem rep48 (n:Nat):Lib.repeatL [(48:UInt8)] n = List.replicate n 48:=by
  induction n with
  | zero=>rfl
  | succ n ih=>rw [List.replicate_succ,← ih];rfl
theorem rep48_is (n:Nat) (hn:n ≤ 9):strings_Repeat.f (⟨#[48]⟩:ByteArray) (n:Int) = some (tx (List.replicate n 48)):=by
  unfold strings_Repeat.f
  rw [if_pos (by
    refine ⟨by omega,by omega,?_⟩
    have:((⟨#[48]⟩:ByteArray)).size = 1:=rfl
    rw [this];omega)]
  have:Lib.repeatL (⟨#[48]⟩:ByteArray).data.toList (n:Int).toNat = List.replicate n 48:=rep48 n
  rw [this];rfl
theorem trimR_f (l:List UInt8) (hs:l.length ≤ 9):strings_TrimRight.f (tx l) (⟨#[48]⟩:ByteArray) = some (tx (Lib.trimRightB l 48)):=by
  have e:strings_TrimRight.f (tx l) (⟨#[48]⟩:ByteArray) = (if (48:UInt8).toNat < 128∧(tx l).size ≤ 9223372036854775807 then some ⟨(Lib.trimRightB (tx l).data.toList 48).toArray⟩ else none):=rfl
  rw [e,if_pos ⟨by decide,by rw [tx_size];omega⟩];rfl
def stxt (g:ByteArray) (v u:Nat):ByteArray:=if u = 0 then g ++ tx (Lib.decDigits v) else ((g ++ tx (Lib.decDigits v)) ++ (⟨#[46]⟩:ByteArray)) ++ tx (Lib.trimRightB (P 9 u) 48)
theorem j_val (k:Nat) (hk:30 < k) (v u:Nat) (g:ByteArray) (s1:v ≤ 2199023255552) (n1:u < 1000000000) (hg:g.size ≤ 1):stamp_Text.j0 k (v:Int) (u:Int) g = some (stxt g v u,0)∧creelref_TimeText.j0 k (v:Int) (u:Int) g = some (stxt g v u,0):=by
  obtain ⟨k,rfl⟩:∃ q,k = q + 1:=⟨k - 1,by omega⟩
  have hI:strconv_Itoa_76.f (v:Int) = some (tx (Lib.decDigits v)):=by
    have:strconv_Itoa_76.f (v:Int) = some (tx (Lib.itoa (v:Int))):=if_pos (by omega)
    rw [this,itoa_nat]
  have hv:=nd_le 13 v (by omega) (by show v < 10000000000000;omega)
  have hl:(Lib.decDigits v).length ≤ 13:=by rw [Lib.decDigits_length];exact hv
  have hsz:g.size + (tx (Lib.decDigits v)).size ≤ 9223372036854775807:=by rw [tx_size];omega
  have hsz2:(g ++ tx (Lib.decDigits v)).size + 1 ≤ 9223372036854775807:=by rw [ByteArray.size_append,tx_size];omega
  by_cases hn:u = 0
  · subst hn
    have e:stxt g v 0 = g ++ tx (Lib.decDigits v):=if_pos rfl
    rw [e]
    constructor
    · simp only [stamp_Text.j0,hI,Option.bind_some]
      rw [if_pos hsz]
      exact if_pos rfl
    · simp only [creelref_TimeText.j0,hI,Option.bind_some]
      rw [if_pos hsz]
      exact if_pos rfl
  · have hn':¬ (u:Int) = 0:=by omega
    have hu:u < 10 ^ (8 + 1):=by show u < 1000000000;omega
    have hd9:Lib.nDigits u ≤ 9:=nd_le 9 u (by omega) hu
    have hJ:strconv_Itoa_76.f (u:Int) = some (tx (Lib.decDigits u)):=by
      have:strconv_Itoa_76.f (u:Int) = some (tx (Lib.itoa (u:Int))):=if_pos (by omega)
      rw [this,itoa_nat]
    have hdl:(Lib.decDigits u).length = Lib.nDigits u:=Lib.decDigits_length u
    have hp9:(P 9 u).length = 9:=by simp [P]
    have htl:=trimR_len (P 9 u)
    have e:stxt g v u = ((g ++ tx (Lib.decDigits v)) ++ (⟨#[46]⟩:ByteArray)) ++ tx (Lib.trimRightB (P 9 u) 48):=if_neg hn
    rw [e]
    constructor
    · simp only [stamp_Text.j0,hI,Option.bind_some]
      rw [if_pos hsz,if_neg hn',hJ]
      simp only [Option.bind_some]
      rw [tx_size,hdl,show wrap64 (9 - (Lib.nDigits u:Int)) = ((9 - Lib.nDigits u:Nat):Int) by rw [wrap_nat (by omega) (by omega)];omega,rep48_is _ (by omega)]
      simp only [Option.bind_some]
      rw [if_pos (by rw [tx_size,List.length_replicate];omega),if_pos hsz2,tx_app,pad_is 9 u hd9,trimR_f _ (by omega)]
      simp only [Option.bind_some]
      rw [if_pos (by rw [ByteArray.size_append,ByteArray.size_append,tx_size,tx_size];show g.size + (Lib.decDigits v).length + 1 + _ ≤ _;omega)]
    · simp only [creelref_TimeText.j0,hI,Option.bind_some]
      rw [if_pos hsz,if_neg hn',if_pos hsz2]
      exact time_loop 8 u k _ (by omega) (by omega) hu (by omega) (by rw [ByteArray.size_append,ByteArray.size_append,tx_size];show g.size + (Lib.decDigits v).length + 1 + 8 < 1000;omega)
def okT (a b:Int):Prop:=-1099511627776 ≤ a∧a ≤ 1099511627776∧0 ≤ b∧b ≤ 999999999
instance (a b:Int):Decidable (okT a b):=by unfold okT;infer_instance
def sg (a:Int):ByteArray:=if a < 0 then (⟨#[45]⟩:ByteArray) else (⟨#[]⟩:ByteArray)
def vv (a b:Int):Nat:=(if a < 0 then (if b > 0 then -a - 1 else -a) else a).toNat
def uu (a b:Int):Nat:=(if a < 0 then (if b > 0 then 1000000000 - b else b) else b).toNat
def tt (a b:Int):ByteArray × Int:=if okT a b then (stxt (sg a) (vv a b) (uu a b),0) else ((⟨#[]⟩:ByteArray),4)
theorem text_val (s n:Int) (k:Nat) (hk:30 < k):stamp_Text.f k s n = some (tt s n)∧creelref_TimeText.f k s n = some (tt s n):=by
  have hc:creelref_TimeFault.f s n = stamp_Check.f s n:=by
    unfold creelref_TimeFault.f stamp_Check.f
    by_cases c:n > 999999999
    · rw [if_pos c,if_pos (show n ≥ 1000000000 by omega)]
    · rw [if_neg c,if_neg (show ¬ n ≥ 1000000000 by omega)]
  have ht:stamp_Check.f s n = some (if okT s n then 0 else 4):=by
    unfold stamp_Check.f
    split
    · rw [if_neg (fun h:okT s n=>by have:=h.1;omega)]
    · split
      · rw [if_neg (fun h:okT s n=>by have:=h.2.1;omega)]
      · split
        · rw [if_neg (fun h:okT s n=>by have:=h.2.2.1;omega)]
        · split
          · rw [if_neg (fun h:okT s n=>by have:=h.2.2.2;omega)]
          · rw [if_pos (show okT s n from ⟨by omega,by omega,by omega,by omega⟩)]
  unfold stamp_Text.f creelref_TimeText.f
  rw [hc,ht]
  simp only [Option.bind_some]
  by_cases h0:okT s n
  · have e0:tt s n = (stxt (sg s) (vv s n) (uu s n),0):=if_pos h0
    rw [if_pos h0,e0]
    obtain ⟨a1,a2,a3,a4⟩:=h0
    rw [if_pos (rfl:(0:Int) = 0),if_pos (rfl:(0:Int) = 0)]
    by_cases h1:s < 0
    · have eg:sg s = (⟨#[45]⟩:ByteArray):=if_pos h1
      rw [if_pos h1,if_pos h1,eg]
      by_cases h2:n > 0
      · have ev:vv s n = (-s - 1).toNat:=by unfold vv;rw [if_pos h1,if_pos h2]
        have eu:uu s n = (1000000000 - n).toNat:=by unfold uu;rw [if_pos h1,if_pos h2]
        have e1:wrap64 (wrap64 (-s) - 1) = ((vv s n:Nat):Int):=by rw [ev,wrap_is (x:=-s) (by omega) (by omega),wrap_is (by omega) (by omega)];omega
        have e2:wrap64 (-wrap64 (s + 1)) = ((vv s n:Nat):Int):=by clear e1;rw [ev,wrap_is (x:=s + 1) (by omega) (by omega),wrap_is (by omega) (by omega)];omega
        have e3:wrap64 (1000000000 - n) = ((uu s n:Nat):Int):=by clear e1 e2;rw [eu,wrap_is (by omega) (by omega)];omega
        rw [if_pos h2,if_pos h2,e1,e2,e3]
        clear e1 e2 e3
        exact j_val k hk _ _ _ (by omega) (by omega) (by decide)
      · have ev:vv s n = (-s).toNat:=by unfold vv;rw [if_pos h1,if_neg h2]
        have eu:uu s n = n.toNat:=by unfold uu;rw [if_pos h1,if_neg h2]
        have e1:wrap64 (-s) = ((vv s n:Nat):Int):=by rw [ev,wrap_is (by omega) (by omega)];omega
        have e3:n = ((uu s n:Nat):Int):=by clear e1;omega
        rw [if_neg h2,if_neg h2,e1]
        clear e1
        have:=j_val k hk (vv s n) (uu s n) (⟨#[45]⟩:ByteArray) (by omega) (by omega) (by decide)
        rwa [← e3] at this
    · have eg:sg s = (⟨#[]⟩:ByteArray):=if_neg h1
      have ev:vv s n = s.toNat:=by unfold vv;rw [if_neg h1]
      have eu:uu s n = n.toNat:=by unfold uu;rw [if_neg h1]
      rw [if_neg h1,if_neg h1,eg]
      have:=j_val k hk (vv s n) (uu s n) (⟨#[]⟩:ByteArray) (by omega) (by omega) (by decide)
      rwa [show ((vv s n:Nat):Int) = s by omega,show ((uu s n:Nat):Int) = n by omega] at this
  · have e0:tt s n = ((⟨#[]⟩:ByteArray),4):=if_neg h0
    rw [if_neg h0,e0]
    exact ⟨if_neg (by decide),if_neg (by decide)⟩
theorem itoa_f (n:Nat) (h:n ≤ 9000000000000000000):strconv_Itoa_76.f (n:Int) = some (tx (Lib.decDigits n)):=by
  have:strconv_Itoa_76.f (n:Int) = some (tx (Lib.itoa (n:Int))):=if_pos (by omega)
  rw [this,itoa_nat]
abbrev RR:=S78
abbrev HH:=S55
abbrev EE:=S26
def it (n:Int):ByteArray:=tx (Lib.decDigits n.toNat)
theorem it_f (n:Int) (h0:0 ≤ n) (h:n ≤ 9000000000000000000):strconv_Itoa_76.f n = some (it n):=by
  obtain ⟨m,rfl⟩:=Int.eq_ofNat_of_zero_le h0
  exact itoa_f m (by omega)
theorem most8:octal_Most.f 8 = some (2097151,0):=by decide +kernel
theorem most12:octal_Most.f 12 = some (8589934591,0):=by decide +kernel
theorem num_val (recs:List RR) (key:ByteArray) (n:Int) (h0:0 ≤ n) (h:n ≤ 9000000000000000000) (hl:recs.length < 1000000000000) :
    member_pack.num recs key n 8 = some (if 2097152 ≤ n then 0 else n,creelref_MemberRecords.add (decide (2097152 ≤ n)) key (it n) recs):=by
  unfold member_pack.num creelref_MemberRecords.add
  rw [most8,Option.bind_some]
  by_cases c:2097152 ≤ n
  · rw [if_pos (by show n < 0 ∨ (2097151:Int) < n;omega),it_f n h0 h,Option.bind_some,if_pos hl,if_pos c,if_pos (decide_eq_true c)]
  · rw [if_neg (by show ¬ (n < 0 ∨ (2097151:Int) < n);omega),if_neg c,if_neg (by simpa using c)]
theorem txt_val (recs:List RR) (key s:ByteArray) (m:Int) (inst:ByteArray) (hl:recs.length < 1000000000000) :
    member_pack.txt recs key s m inst = some (if m < (s.size:Int) then inst else s,creelref_MemberRecords.add (decide (m < (s.size:Int))) key s recs):=by
  unfold member_pack.txt creelref_MemberRecords.add
  by_cases c:m < (s.size:Int)
  · rw [if_pos c,if_pos hl,if_pos c,if_pos (decide_eq_true c)]
  · rw [if_neg c,if_neg c,if_neg (by simpa using c)]
theorem tim_val (recs:List RR) (s n:Int) (hn:0 ≤ n) (hl:recs.length < 1000000000000) (k:Nat) (hk:30 < k) :
    member_pack.tim k recs s n = some (if n ≠ 0 ∨ s < 0 ∨ 8589934592 ≤ s then 0 else s,creelref_MemberRecords.add (decide (n ≠ 0 ∨ s < 0 ∨ 8589934592 ≤ s)) (⟨#[109,116,105,109,101]⟩:ByteArray) (tt s n).1 recs):=by
  unfold member_pack.tim creelref_MemberRecords.add
  rw [most12,Option.bind_some]
  by_cases c:n ≠ 0 ∨ s < 0 ∨ 8589934592 ≤ s
  · rw [if_pos (by show 0 < n ∨ s < 0 ∨ (8589934591:Int) < s;omega),(text_val s n k hk).1,Option.bind_some,if_pos hl,if_pos c,if_pos (decide_eq_true c)]
  · rw [if_neg (by show ¬ (0 < n ∨ s < 0 ∨ (8589934591:Int) < s);omega),if_neg c,if_neg (by simpa using c)]
def nm (r:ByteArray × ByteArray × Int):ByteArray:=if r.2.2 = 0 then r.2.1 else (⟨#[64,108,111,110,103]⟩:ByteArray)
theorem nam_val (recs:List RR) (p:ByteArray) (r:ByteArray × ByteArray × Int) (k:Nat) (h:cut_Two.f k p = some r) (hl:recs.length < 1000000000000) :
    member_pack.nam k recs p = some (r.1,nm r,creelref_MemberRecords.add (r.2.2 != 0) (⟨#[112,97,116,104]⟩:ByteArray) p recs):=by
  unfold member_pack.nam creelref_MemberRecords.add nm
  rw [h,Option.bind_some]
  by_cases c:r.2.2 = 0
  · rw [if_pos c,if_pos c,if_neg (by simp [c])]
  · rw [if_neg c,if_pos hl,if_neg c,if_pos (by simp [c])]
theorem add_lt {b:Bool} {key val:ByteArray} {recs:List RR} {n:Nat} (h:recs.length < n):(creelref_MemberRecords.add b key val recs).length < n + 1:=creelref_MemberRecords.add_lt h
def recsV (r:ByteArray × ByteArray × Int) (x:EE):List RR :=
  creelref_MemberRecords.add (decide (31 < (x.f3.f3.size:Int))) (⟨#[117,110,97,109,101]⟩:ByteArray) x.f3.f3 (creelref_MemberRecords.add (decide (2097152 ≤ x.f3.f1)) (⟨#[117,105,100]⟩:ByteArray) (it x.f3.f1) (creelref_MemberRecords.add (r.2.2 != 0) (⟨#[112,97,116,104]⟩:ByteArray) x.f0 (creelref_MemberRecords.add (decide (x.f3.f6 ≠ 0 ∨ x.f3.f5 < 0 ∨ 8589934592 ≤ x.f3.f5)) (⟨#[109,116,105,109,101]⟩:ByteArray) (tt x.f3.f5 x.f3.f6).1 (creelref_MemberRecords.add (decide (100 < (x.f2.size:Int))) (⟨#[108,105,110,107,112,97,116,104]⟩:ByteArray) x.f2 (creelref_MemberRecords.add (decide (31 < (x.f3.f4.size:Int))) (⟨#[103,110,97,109,101]⟩:ByteArray) x.f3.f4 (creelref_MemberRecords.add (decide (2097152 ≤ x.f3.f2)) (⟨#[103,105,100]⟩:ByteArray) (it x.f3.f2) []))))))
def headV (r:ByteArray × ByteArray × Int) (x:EE):HH :=
  ⟨nm r,r.1,if 100 < (x.f2.size:Int) then (⟨#[64,108,111,110,103]⟩:ByteArray) else x.f2,x.f3.f0,if 2097152 ≤ x.f3.f1 then 0 else x.f3.f1,if 2097152 ≤ x.f3.f2 then 0 else x.f3.f2,(x.f4.length:Int),if x.f3.f6 ≠ 0 ∨ x.f3.f5 < 0 ∨ 8589934592 ≤ x.f3.f5 then 0 else x.f3.f5,bt (⟨#[63,48,53,50,49]⟩:ByteArray) x.f1,if 31 < (x.f3.f3.size:Int) then (⟨#[]⟩:ByteArray) else x.f3.f3,if 31 < (x.f3.f4.size:Int) then (⟨#[]⟩:ByteArray) else x.f3.f4⟩
structure FineE (x:EE):Prop where
  kind:1 ≤ x.f1∧x.f1 ≤ 4
  uid:0 ≤ x.f3.f1∧x.f3.f1 ≤ 1125899906842624
  gid:0 ≤ x.f3.f2∧x.f3.f2 ≤ 1125899906842624
  nano:0 ≤ x.f3.f6
theorem pack_val (x:EE) (hx:FineE x) (r:ByteArray × ByteArray × Int) (k:Nat) (hk:30 < k) (h:cut_Two.f k x.f0 = some r) :
    member_pack.f k x.f0 x.f1 x.f2 x.f3.f0 x.f3.f1 x.f3.f2 x.f3.f3 x.f3.f4 x.f3.f5 x.f3.f6 x.f4 = some (headV r x,recsV r x):=by
  obtain ⟨h1,h2,h3,h4⟩:=hx
  unfold member_pack.f
  rw [if_pos ⟨by omega,by omega⟩,num_val _ _ _ h3.1 (by omega) (by simp),Option.bind_some,txt_val _ _ _ _ _ (by (repeat refine add_lt ?_);simp),Option.bind_some,txt_val _ _ _ _ _ (by (repeat refine add_lt ?_);simp),Option.bind_some]
  rw [tim_val _ _ _ h4 (by (repeat refine add_lt ?_);simp) k hk,Option.bind_some,nam_val _ _ r k h (by (repeat refine add_lt ?_);simp),Option.bind_some,num_val _ _ _ h2.1 (by omega) (by (repeat refine add_lt ?_);simp),Option.bind_some,txt_val _ _ _ _ _ (by (repeat refine add_lt ?_);simp),Option.bind_some]
  rfl
theorem recs_val (x:EE) (hx:FineE x) (r:ByteArray × ByteArray × Int) (k:Nat) (hk:30 < k) (he:rEF.f k x.f0 x.f1 x.f2 x.f3.f0 x.f3.f1 x.f3.f2 x.f3.f3 x.f3.f4 x.f3.f5 x.f3.f6 x.f4 = some 0) (h:creelref_CutTwo.f k x.f0 = some r) :
    creelref_MemberRecords.f k x.f0 x.f1 x.f2 x.f3.f0 x.f3.f1 x.f3.f2 x.f3.f3 x.f3.f4 x.f3.f5 x.f3.f6 x.f4 = some (recsV r x,0):=by
  obtain ⟨h1,h2,h3,h4⟩:=hx
  unfold creelref_MemberRecords.f
  rw [he,Option.bind_some,if_pos rfl,(text_val _ _ k hk).2,Option.bind_some,h,Option.bind_some,it_f _ h3.1 (by omega),Option.bind_some,it_f _ h2.1 (by omega),Option.bind_some]
  rfl
abbrev hstep:=@creelref_MemberHead.hstep
def tup (h:HH):ByteArray × ByteArray × ByteArray × Int × Int × Int × Int × Int × Int × ByteArray × ByteArray × Int:=(h.f0,h.f1,h.f2,h.f3,h.f4,h.f5,h.f6,h.f7,h.f8,h.f9,h.f10,0)
theorem fold_add (b:Bool) (key v:ByteArray) (recs:List RR) (h:HH):(creelref_MemberRecords.add b key v recs).foldl hstep h = if b = true then hstep (recs.foldl hstep h) ⟨key,v⟩ else recs.foldl hstep h:=by
  unfold creelref_MemberRecords.add
  split
  · rw [List.foldl_append];rfl
  · rfl
theorem st1 (b:Bool) (h:HH) (v:ByteArray):(if b = true then hstep h ⟨(⟨#[103,105,100]⟩:ByteArray),v⟩ else h) = { h with f5:=if b = true then 0 else h.f5 }:=by
  cases b
  · rfl
  · simp [hstep,creelref_MemberHead.hstep,toList_data]
theorem st2 (b:Bool) (h:HH) (v:ByteArray):(if b = true then hstep h ⟨(⟨#[103,110,97,109,101]⟩:ByteArray),v⟩ else h) = { h with f10:=if b = true then (⟨#[]⟩:ByteArray) else h.f10 }:=by
  cases b
  · rfl
  · simp [hstep,creelref_MemberHead.hstep,toList_data]
theorem st3 (b:Bool) (h:HH) (v:ByteArray):(if b = true then hstep h ⟨(⟨#[108,105,110,107,112,97,116,104]⟩:ByteArray),v⟩ else h) = { h with f2:=if b = true then (⟨#[64,108,111,110,103]⟩:ByteArray) else h.f2 }:=by
  cases b
  · rfl
  · simp [hstep,creelref_MemberHead.hstep,toList_data]
theorem st4 (b:Bool) (h:HH) (v:ByteArray):(if b = true then hstep h ⟨(⟨#[109,116,105,109,101]⟩:ByteArray),v⟩ else h) = { h with f7:=if b = true then 0 else h.f7 }:=by
  cases b
  · rfl
  · simp [hstep,creelref_MemberHead.hstep,toList_data]
theorem st5 (b:Bool) (h:HH) (v:ByteArray):(if b = true then hstep h ⟨(⟨#[112,97,116,104]⟩:ByteArray),v⟩ else h) = { h with f0:=if b = true then (⟨#[64,108,111,110,103]⟩:ByteArray) else h.f0 }:=by
  cases b
  · rfl
  · simp [hstep,creelref_MemberHead.hstep,toList_data]
theorem st6 (b:Bool) (h:HH) (v:ByteArray):(if b = true then hstep h ⟨(⟨#[117,105,100]⟩:ByteArray),v⟩ else h) = { h with f4:=if b = true then 0 else h.f4 }:=by
  cases b
  · rfl
  · simp [hstep,creelref_MemberHead.hstep,toList_data]
theorem st7 (b:Bool) (h:HH) (v:ByteArray):(if b = true then hstep h ⟨(⟨#[117,110,97,109,101]⟩:ByteArray),v⟩ else h) = { h with f9:=if b = true then (⟨#[]⟩:ByteArray) else h.f9 }:=by
  cases b
  · rfl
  · simp [hstep,creelref_MemberHead.hstep,toList_data]
theorem fold_head (r:ByteArray × ByteArray × Int) (x:EE):(recsV r x).foldl hstep (⟨r.2.1,r.1,x.f2,x.f3.f0,x.f3.f1,x.f3.f2,(x.f4.length:Int),x.f3.f5,bt (⟨#[63,48,53,50,49]⟩:ByteArray) x.f1,x.f3.f3,x.f3.f4⟩:HH) = headV r x:=by
  have e1:(creelref_MemberRecords.add (decide (2097152 ≤ x.f3.f2)) (⟨#[103,105,100]⟩:ByteArray) (it x.f3.f2) []).foldl hstep (⟨r.2.1,r.1,x.f2,x.f3.f0,x.f3.f1,x.f3.f2,(x.f4.length:Int),x.f3.f5,bt (⟨#[63,48,53,50,49]⟩:ByteArray) x.f1,x.f3.f3,x.f3.f4⟩:HH) = (⟨r.2.1,r.1,x.f2,x.f3.f0,x.f3.f1,(if (decide (2097152 ≤ x.f3.f2)) = true then 0 else x.f3.f2),(x.f4.length:Int),x.f3.f5,bt (⟨#[63,48,53,50,49]⟩:ByteArray) x.f1,x.f3.f3,x.f3.f4⟩:HH):=by
    rw [fold_add]
    exact st1 _ _ _
  have e2:(creelref_MemberRecords.add (decide (31 < (x.f3.f4.size:Int))) (⟨#[103,110,97,109,101]⟩:ByteArray) x.f3.f4 (creelref_MemberRecords.add (decide (2097152 ≤ x.f3.f2)) (⟨#[103,105,100]⟩:ByteArray) (it x.f3.f2) [])).foldl hstep (⟨r.2.1,r.1,x.f2,x.f3.f0,x.f3.f1,x.f3.f2,(x.f4.length:Int),x.f3.f5,bt (⟨#[63,48,53,50,49]⟩:ByteArray) x.f1,x.f3.f3,x.f3.f4⟩:HH) = (⟨r.2.1,r.1,x.f2,x.f3.f0,x.f3.f1,(if (decide (2097152 ≤ x.f3.f2)) = true then 0 else x.f3.f2),(x.f4.length:Int),x.f3.f5,bt (⟨#[63,48,53,50,49]⟩:ByteArray) x.f1,x.f3.f3,(if (decide (31 < (x.f3.f4.size:Int))) = true then (⟨#[]⟩:ByteArray) else x.f3.f4)⟩:HH):=by
    rw [fold_add,e1]
    exact st2 _ _ _
  have e3:(creelref_MemberRecords.add (decide (100 < (x.f2.size:Int))) (⟨#[108,105,110,107,112,97,116,104]⟩:ByteArray) x.f2 (creelref_MemberRecords.add (decide (31 < (x.f3.f4.size:Int))) (⟨#[103,110,97,109,101]⟩:ByteArray) x.f3.f4 (creelref_MemberRecords.add (decide (2097152 ≤ x.f3.f2)) (⟨#[103,105,100]⟩:ByteArray) (it x.f3.f2) []))).foldl hstep (⟨r.2.1,r.1,x.f2,x.f3.f0,x.f3.f1,x.f3.f2,(x.f4.length:Int),x.f3.f5,bt (⟨#[63,48,53,50,49]⟩:ByteArray) x.f1,x.f3.f3,x.f3.f4⟩:HH) = (⟨r.2.1,r.1,(if (decide (100 < (x.f2.size:Int))) = true then (⟨#[64,108,111,110,103]⟩:ByteArray) else x.f2),x.f3.f0,x.f3.f1,(if (decide (2097152 ≤ x.f3.f2)) = true then 0 else x.f3.f2),(x.f4.length:Int),x.f3.f5,bt (⟨#[63,48,53,50,49]⟩:ByteArray) x.f1,x.f3.f3,(if (decide (31 < (x.f3.f4.size:Int))) = true then (⟨#[]⟩:ByteArray) else x.f3.f4)⟩:HH):=by
    rw [fold_add,e2]
    exact st3 _ _ _
  have e4:(creelref_MemberRecords.add (decide (x.f3.f6 ≠ 0 ∨ x.f3.f5 < 0 ∨ 8589934592 ≤ x.f3.f5)) (⟨#[109,116,105,109,101]⟩:ByteArray) (tt x.f3.f5 x.f3.f6).1 (creelref_MemberRecords.add (decide (100 < (x.f2.size:Int))) (⟨#[108,105,110,107,112,97,116,104]⟩:ByteArray) x.f2 (creelref_MemberRecords.add (decide (31 < (x.f3.f4.size:Int))) (⟨#[103,110,97,109,101]⟩:ByteArray) x.f3.f4 (creelref_MemberRecords.add (decide (2097152 ≤ x.f3.f2)) (⟨#[103,105,100]⟩:ByteArray) (it x.f3.f2) [])))).foldl hstep (⟨r.2.1,r.1,x.f2,x.f3.f0,x.f3.f1,x.f3.f2,(x.f4.length:Int),x.f3.f5,bt (⟨#[63,48,53,50,49]⟩:ByteArray) x.f1,x.f3.f3,x.f3.f4⟩:HH) = (⟨r.2.1,r.1,(if (decide (100 < (x.f2.size:Int))) = true then (⟨#[64,108,111,110,103]⟩:ByteArray) else x.f2),x.f3.f0,x.f3.f1,(if (decide (2097152 ≤ x.f3.f2)) = true then 0 else x.f3.f2),(x.f4.length:Int),(if (decide (x.f3.f6 ≠ 0 ∨ x.f3.f5 < 0 ∨ 8589934592 ≤ x.f3.f5)) = true then 0 else x.f3.f5),bt (⟨#[63,48,53,50,49]⟩:ByteArray) x.f1,x.f3.f3,(if (decide (31 < (x.f3.f4.size:Int))) = true then (⟨#[]⟩:ByteArray) else x.f3.f4)⟩:HH):=by
    rw [fold_add,e3]
    exact st4 _ _ _
  have e5:(creelref_MemberRecords.add (r.2.2 != 0) (⟨#[112,97,116,104]⟩:ByteArray) x.f0 (creelref_MemberRecords.add (decide (x.f3.f6 ≠ 0 ∨ x.f3.f5 < 0 ∨ 8589934592 ≤ x.f3.f5)) (⟨#[109,116,105,109,101]⟩:ByteArray) (tt x.f3.f5 x.f3.f6).1 (creelref_MemberRecords.add (decide (100 < (x.f2.size:Int))) (⟨#[108,105,110,107,112,97,116,104]⟩:ByteArray) x.f2 (creelref_MemberRecords.add (decide (31 < (x.f3.f4.size:Int))) (⟨#[103,110,97,109,101]⟩:ByteArray) x.f3.f4 (creelref_MemberRecords.add (decide (2097152 ≤ x.f3.f2)) (⟨#[103,105,100]⟩:ByteArray) (it x.f3.f2) []))))).foldl hstep (⟨r.2.1,r.1,x.f2,x.f3.f0,x.f3.f1,x.f3.f2,(x.f4.length:Int),x.f3.f5,bt (⟨#[63,48,53,50,49]⟩:ByteArray) x.f1,x.f3.f3,x.f3.f4⟩:HH) = (⟨(if (r.2.2 != 0) = true then (⟨#[64,108,111,110,103]⟩:ByteArray) else r.2.1),r.1,(if (decide (100 < (x.f2.size:Int))) = true then (⟨#[64,108,111,110,103]⟩:ByteArray) else x.f2),x.f3.f0,x.f3.f1,(if (decide (2097152 ≤ x.f3.f2)) = true then 0 else x.f3.f2),(x.f4.length:Int),(if (decide (x.f3.f6 ≠ 0 ∨ x.f3.f5 < 0 ∨ 8589934592 ≤ x.f3.f5)) = true then 0 else x.f3.f5),bt (⟨#[63,48,53,50,49]⟩:ByteArray) x.f1,x.f3.f3,(if (decide (31 < (x.f3.f4.size:Int))) = true then (⟨#[]⟩:ByteArray) else x.f3.f4)⟩:HH):=by
    rw [fold_add,e4]
    exact st5 _ _ _
  have e6:(creelref_MemberRecords.add (decide (2097152 ≤ x.f3.f1)) (⟨#[117,105,100]⟩:ByteArray) (it x.f3.f1) (creelref_MemberRecords.add (r.2.2 != 0) (⟨#[112,97,116,104]⟩:ByteArray) x.f0 (creelref_MemberRecords.add (decide (x.f3.f6 ≠ 0 ∨ x.f3.f5 < 0 ∨ 8589934592 ≤ x.f3.f5)) (⟨#[109,116,105,109,101]⟩:ByteArray) (tt x.f3.f5 x.f3.f6).1 (creelref_MemberRecords.add (decide (100 < (x.f2.size:Int))) (⟨#[108,105,110,107,112,97,116,104]⟩:ByteArray) x.f2 (creelref_MemberRecords.add (decide (31 < (x.f3.f4.size:Int))) (⟨#[103,110,97,109,101]⟩:ByteArray) x.f3.f4 (creelref_MemberRecords.add (decide (2097152 ≤ x.f3.f2)) (⟨#[103,105,100]⟩:ByteArray) (it x.f3.f2) [])))))).foldl hstep (⟨r.2.1,r.1,x.f2,x.f3.f0,x.f3.f1,x.f3.f2,(x.f4.length:Int),x.f3.f5,bt (⟨#[63,48,53,50,49]⟩:ByteArray) x.f1,x.f3.f3,x.f3.f4⟩:HH) = (⟨(if (r.2.2 != 0) = true then (⟨#[64,108,111,110,103]⟩:ByteArray) else r.2.1),r.1,(if (decide (100 < (x.f2.size:Int))) = true then (⟨#[64,108,111,110,103]⟩:ByteArray) else x.f2),x.f3.f0,(if (decide (2097152 ≤ x.f3.f1)) = true then 0 else x.f3.f1),(if (decide (2097152 ≤ x.f3.f2)) = true then 0 else x.f3.f2),(x.f4.length:Int),(if (decide (x.f3.f6 ≠ 0 ∨ x.f3.f5 < 0 ∨ 8589934592 ≤ x.f3.f5)) = true then 0 else x.f3.f5),bt (⟨#[63,48,53,50,49]⟩:ByteArray) x.f1,x.f3.f3,(if (decide (31 < (x.f3.f4.size:Int))) = true then (⟨#[]⟩:ByteArray) else x.f3.f4)⟩:HH):=by
    rw [fold_add,e5]
    exact st6 _ _ _
  have e7:(creelref_MemberRecords.add (decide (31 < (x.f3.f3.size:Int))) (⟨#[117,110,97,109,101]⟩:ByteArray) x.f3.f3 (creelref_MemberRecords.add (decide (2097152 ≤ x.f3.f1)) (⟨#[117,105,100]⟩:ByteArray) (it x.f3.f1) (creelref_MemberRecords.add (r.2.2 != 0) (⟨#[112,97,116,104]⟩:ByteArray) x.f0 (creelref_MemberRecords.add (decide (x.f3.f6 ≠ 0 ∨ x.f3.f5 < 0 ∨ 8589934592 ≤ x.f3.f5)) (⟨#[109,116,105,109,101]⟩:ByteArray) (tt x.f3.f5 x.f3.f6).1 (creelref_MemberRecords.add (decide (100 < (x.f2.size:Int))) (⟨#[108,105,110,107,112,97,116,104]⟩:ByteArray) x.f2 (creelref_MemberRecords.add (decide (31 < (x.f3.f4.size:Int))) (⟨#[103,110,97,109,101]⟩:ByteArray) x.f3.f4 (creelref_MemberRecords.add (decide (2097152 ≤ x.f3.f2)) (⟨#[103,105,100]⟩:ByteArray) (it x.f3.f2) []))))))).foldl hstep (⟨r.2.1,r.1,x.f2,x.f3.f0,x.f3.f1,x.f3.f2,(x.f4.length:Int),x.f3.f5,bt (⟨#[63,48,53,50,49]⟩:ByteArray) x.f1,x.f3.f3,x.f3.f4⟩:HH) = (⟨(if (r.2.2 != 0) = true then (⟨#[64,108,111,110,103]⟩:ByteArray) else r.2.1),r.1,(if (decide (100 < (x.f2.size:Int))) = true then (⟨#[64,108,111,110,103]⟩:ByteArray) else x.f2),x.f3.f0,(if (decide (2097152 ≤ x.f3.f1)) = true then 0 else x.f3.f1),(if (decide (2097152 ≤ x.f3.f2)) = true then 0 else x.f3.f2),(x.f4.length:Int),(if (decide (x.f3.f6 ≠ 0 ∨ x.f3.f5 < 0 ∨ 8589934592 ≤ x.f3.f5)) = true then 0 else x.f3.f5),bt (⟨#[63,48,53,50,49]⟩:ByteArray) x.f1,(if (decide (31 < (x.f3.f3.size:Int))) = true then (⟨#[]⟩:ByteArray) else x.f3.f3),(if (decide (31 < (x.f3.f4.size:Int))) = true then (⟨#[]⟩:ByteArray) else x.f3.f4)⟩:HH):=by
    rw [fold_add,e6]
    exact st7 _ _ _
  unfold recsV
  rw [e7]
  unfold headV nm
  simp only [decide_eq_true_eq]
  by_cases c:r.2.2 = 0
  · simp [c]
  · simp [c]
theorem recs_len (r:ByteArray × ByteArray × Int) (x:EE):(recsV r x).length < 8:=by
  unfold recsV
  repeat refine add_lt ?_
  simp
theorem typ (k:Int) (h:1 ≤ k∧k ≤ 4):0 ≤ wrap64 (k - 1)∧wrap64 (k - 1) < 4∧rd [48,53,50,49] (wrap64 (k - 1)) = bt (⟨#[63,48,53,50,49]⟩:ByteArray) k:=by
  obtain ⟨h1,h2⟩:=h
  have:k = 1 ∨ k = 2 ∨ k = 3 ∨ k = 4:=by omega
  rcases this with rfl|rfl|rfl|rfl <;> exact ⟨by decide +kernel,by decide +kernel,by decide +kernel⟩
theorem head_val (x:EE) (hx:FineE x) (r:ByteArray × ByteArray × Int) (k:Nat) (hk:30 < k) (he:rEF.f k x.f0 x.f1 x.f2 x.f3.f0 x.f3.f1 x.f3.f2 x.f3.f3 x.f3.f4 x.f3.f5 x.f3.f6 x.f4 = some 0) (h:creelref_CutTwo.f k x.f0 = some r) :
    creelref_MemberHead.f k x.f0 x.f1 x.f2 x.f3.f0 x.f3.f1 x.f3.f2 x.f3.f3 x.f3.f4 x.f3.f5 x.f3.f6 x.f4 = some (tup (headV r x)):=by
  have hr:=recs_val x hx r k hk he h
  obtain ⟨t1,t2,t3⟩:=typ x.f1 hx.kind
  have hl:=recs_len r x
  unfold creelref_MemberHead.f
  rw [hr,Option.bind_some,if_pos rfl,if_pos ⟨hx.kind.1,hx.kind.2,by show (recsV r x).length ≤ 1000;omega⟩,h,Option.bind_some]
  show some (tup ((recsV r x).foldl hstep (⟨r.2.1,r.1,x.f2,x.f3.f0,x.f3.f1,x.f3.f2,(x.f4.length:Int),x.f3.f5,rd [48,53,50,49] (wrap64 (x.f1 - 1)),x.f3.f3,x.f3.f4⟩:HH))) = _
  rw [t3,fold_head]
theorem wrong_zero (a b c:Int) (u g:ByteArray) (s n:Int) (h:wrong a b c u g s n = 0):(0 ≤ a∧a ≤ 4095)∧(0 ≤ b∧b ≤ 1125899906842624)∧(0 ≤ c∧c ≤ 1125899906842624)∧u.size ≤ 60∧g.size ≤ 60∧okT s n:=by
  unfold wrong at h
  by_cases c1:a < 0 ∨ a > 4095 ∨ b < 0 ∨ b > 1125899906842624 ∨ c < 0 ∨ c > 1125899906842624
  · rw [if_pos c1] at h;exact absurd h (by decide)
  rw [if_neg c1] at h
  by_cases c2:(u.size:Int) > 60 ∨ (g.size:Int) > 60
  · rw [if_pos c2] at h;exact absurd h (by decide)
  rw [if_neg c2] at h
  by_cases c3:u.data.toList.contains 0 = true ∨ g.data.toList.contains 0 = true
  · rw [if_pos c3] at h;exact absurd h (by decide)
  rw [if_neg c3] at h
  by_cases c4:s < -1099511627776 ∨ s > 1099511627776 ∨ n < 0 ∨ n > 999999999
  · rw [if_pos c4] at h;exact absurd h (by decide)
  clear h c3
  exact ⟨by omega,by omega,by omega,by omega,by omega,by omega,by omega,by omega,by omega⟩
theorem fine_of (p:ByteArray) (kind:Int) (t:ByteArray) (a b c:Int) (u g:ByteArray) (s n:Int) (d:Nat) (h:entryR p kind t a b c u g s n d = 0):pathR p = 0∧wrong a b c u g s n = 0∧(1 ≤ kind∧kind ≤ 4)∧d ≤ 2000∧t.size ≤ 400:=by
  unfold entryR at h
  by_cases c1:pathR p = 0
  · rw [if_pos c1] at h
    by_cases c2:wrong a b c u g s n = 0
    · rw [if_pos c2] at h
      refine ⟨c1,c2,?_⟩
      unfold restE at h
      by_cases c3:kind < 1 ∨ 4 < kind
      · rw [if_pos c3] at h;exact absurd h (by decide)
      rw [if_neg c3] at h
      refine ⟨by omega,?_⟩
      unfold midE at h
      split at h
      · exact absurd h (by decide)
      unfold tailE at h
      split at h
      · exact absurd h (by decide)
      · rename_i c5
        rw [Bool.or_eq_true,decide_eq_true_eq,decide_eq_true_eq] at c5
        constructor <;> omega
    · rw [if_neg c2] at h;exact absurd h c2
  · rw [if_neg c1] at h;exact absurd h c1
theorem path_size {p:ByteArray} (h:pathR p = 0):1 ≤ p.size∧p.size ≤ 400:=by
  unfold pathR at h
  split at h
  · exact absurd h (by decide)
  · omega
theorem fineE (x:EE) (h:entryR x.f0 x.f1 x.f2 x.f3.f0 x.f3.f1 x.f3.f2 x.f3.f3 x.f3.f4 x.f3.f5 x.f3.f6 x.f4.length = 0):FineE x:=by
  obtain ⟨_,h2,h3,_⟩:=fine_of _ _ _ _ _ _ _ _ _ _ _ h
  obtain ⟨_,h4,h5,_,_,h6⟩:=wrong_zero _ _ _ _ _ _ _ h2
  exact ⟨h3,h4,h5,h6.2.2.1⟩
theorem nm_size (p:ByteArray) (r:ByteArray × ByteArray × Int) (h:r.2.1.size ≤ 1000):(nm r).size ≤ 1000:=by
  unfold nm
  split
  · exact h
  · show (⟨#[64,108,111,110,103]⟩:ByteArray).size ≤ 1000
    decide
def zs (n:Nat):ByteArray:=⟨(List.replicate n (0:UInt8)).toArray⟩
theorem zs_size (n:Nat):(zs n).size = n:=by simp [zs,ByteArray.size]
theorem zs_snoc (n:Nat):zs n ++ (⟨#[0]⟩:ByteArray) = zs (n + 1):=by
  apply ext_list
  simp [zs,List.replicate_succ']
theorem zeros_loop (d:Nat):∀ (k:Nat) (n i:Nat),n - i = d→i ≤ n→n ≤ 140737488355328→d < k→creelref_zeros.l0 k (n:Int) (zs i) (i:Int) = some (zs n):=by
  induction d with
  | zero =>
    intro k n i hd hi hn hk
    obtain ⟨k,rfl⟩:∃ m,k = m + 1:=⟨k - 1,by omega⟩
    simp only [creelref_zeros.l0]
    rw [if_neg (by omega),show i = n from by omega]
  | succ d ih =>
    intro k n i hd hi hn hk
    obtain ⟨k,rfl⟩:∃ m,k = m + 1:=⟨k - 1,by omega⟩
    simp only [creelref_zeros.l0]
    have hw:wrap64 ((i:Int) + 1) = ((i + 1:Nat):Int):=by rw [wrap_is (by omega) (by omega)];omega
    rw [if_pos (by omega),if_pos (by rw [zs_size];omega),zs_snoc,hw]
    exact ih k n (i + 1) (by omega) (by omega) hn (by omega)
theorem zeros_is (n k:Nat) (hn:n ≤ 140737488355328) (hk:n < k):creelref_zeros.f k (n:Int) = some (zs n):=by
  unfold creelref_zeros.f
  exact zeros_loop n k n 0 (by omega) (by omega) hn hk
theorem idx0w (t:ByteArray):(Lib.indexByte t.data.toList ((0:Int).toNat.toUInt8) ≥ 0) ↔ t.data.toList.contains 0 = true:=by
  have:=index_ge t.data.toList ((0:Int).toNat.toUInt8)
  rw [← decide_eq_true_iff (p:=Lib.indexByte t.data.toList ((0:Int).toNat.toUInt8) ≥ 0),this];rfl
theorem rep_zero (n:Nat):Lib.repeatL [(0:UInt8)] n = List.replicate n 0:=by
  induction n with
  | zero=>rfl
  | succ n ih=>rw [List.replicate_succ,← ih];rfl
theorem rep_is (n:Nat) (hn:n ≤ 512):strings_Repeat.f (⟨#[0]⟩:ByteArray) (n:Int) = some (zs n):=by
  unfold strings_Repeat.f
  rw [if_pos (by
    refine ⟨by omega,by omega,?_⟩
    have:((⟨#[0]⟩:ByteArray)).size = 1:=rfl
    rw [this];omega)]
  have:Lib.repeatL (⟨#[0]⟩:ByteArray).data.toList (n:Int).toNat = List.replicate n 0:=rep_zero n
  rw [this];rfl
def fieldR (s:ByteArray) (w:Int) (b:Bool):ByteArray × Int :=
  if w < 1 ∨ 512 < w then (⟨#[]⟩,4) else if (s.size:Int) > w ∨ (b = false∧(s.size:Int) = w) then (⟨#[]⟩,1) else if s.data.toList.contains 0 = true then (⟨#[]⟩,3) else (s ++ zs (w - s.size).toNat,0)
theorem write_j1 (k:Nat) (s:ByteArray) (w m:Int) (b:Bool) (h1:1 ≤ w) (h2:w ≤ 512) (hm:(s.size:Int) > m ↔ ((s.size:Int) > w ∨ (b = false∧(s.size:Int) = w))):field_Write.j1 (k + 1) s w m = some (fieldR s w b):=by
  unfold fieldR
  simp only [field_Write.j1]
  rw [if_neg (show ¬ (w < 1 ∨ 512 < w) by omega)]
  by_cases c:(s.size:Int) > m
  · rw [if_pos c,if_pos (hm.1 c)]
  · have c':=fun h=>c (hm.2 h)
    have hle:¬ (s.size:Int) > w:=fun h=>c' (Or.inl h)
    rw [if_neg c,if_neg c']
    simp only [strings_IndexByte.f,Option.bind_some]
    by_cases z:s.data.toList.contains 0 = true
    · rw [if_pos ((idx0w s).2 z),if_pos z]
    · rw [if_neg (fun h=>z ((idx0w s).1 h)),if_neg z]
      obtain ⟨n,hn⟩:∃ n:Nat,w - (s.size:Int) = (n:Int):=⟨(w - (s.size:Int)).toNat,by omega⟩
      rw [hn,wrap_is (by omega) (by omega),rep_is n (by omega)]
      simp only [Option.bind_some]
      rw [if_pos (by rw [zs_size];omega)]
      rfl
theorem write_is (s:ByteArray) (w:Int) (b:Bool) (k:Nat) (hk:3 < k):field_Write.f k s w b = some (fieldR s w b):=by
  obtain ⟨k,rfl⟩:∃ m,k = m + 2:=⟨k - 2,by omega⟩
  unfold field_Write.f
  by_cases h1:w < 1
  · rw [if_pos h1]
    simp only [field_Write.j0,if_true]
    unfold fieldR
    rw [if_pos (Or.inl h1)]
  · rw [if_neg h1]
    simp only [field_Write.j0]
    by_cases h2:w > 512
    · rw [decide_eq_true h2,if_pos rfl]
      unfold fieldR
      rw [if_pos (Or.inr h2)]
    · rw [decide_eq_false h2,if_neg (show ¬ (false = true) by simp)]
      cases b with
      | true =>
        rw [if_pos rfl]
        exact write_j1 k s w w true (by omega) (by omega) (by simp)
      | false =>
        rw [if_neg (show ¬ (false = true) by simp),wrap_is (by omega) (by omega)]
        refine write_j1 k s w (w - 1) false (by omega) (by omega) ⟨fun h=>?_,fun h=>?_⟩
        · have:(s.size:Int) > w ∨ (s.size:Int) = w:=by omega
          exact this.imp id (fun e=>⟨rfl,e⟩)
        · rcases h with h|⟨_,h⟩ <;> omega
theorem text_j1 (k:Nat) (s:ByteArray) (w:Int) (x b:Bool) (hk:600 < k) (h1:1 ≤ w) (h2:w ≤ 512) (hh:creelref_has.f k s 0 = some (s.data.toList.contains 0)) (hx:x = true ↔ ((s.size:Int) > w ∨ (b = false∧(s.size:Int) = w))):creelref_FieldText.j1 (k + 1) s w x = some (fieldR s w b):=by
  unfold fieldR
  simp only [creelref_FieldText.j1]
  rw [if_neg (show ¬ (w < 1 ∨ 512 < w) by omega)]
  by_cases c:x = true
  · rw [if_pos c,if_pos (hx.1 c)]
  · have c':=fun h=>c (hx.2 h)
    have hle:¬ (s.size:Int) > w:=fun h=>c' (Or.inl h)
    rw [if_neg c,if_neg c',hh]
    simp only [Option.bind_some]
    by_cases z:s.data.toList.contains 0 = true
    · rw [if_pos z,if_pos z]
    · rw [if_neg z,if_neg z]
      obtain ⟨n,hn⟩:∃ n:Nat,w - (s.size:Int) = (n:Int):=⟨(w - (s.size:Int)).toNat,by omega⟩
      rw [hn,wrap_is (by omega) (by omega),zeros_is n k (by omega) (by omega)]
      simp only [Option.bind_some]
      rw [if_pos (by rw [zs_size];omega)]
      rfl
theorem text_is (s:ByteArray) (w:Int) (b:Bool) (k:Nat) (hk:700 < k) (hh:∀ q,k ≤ q + 5→creelref_has.f q s 0 = some (s.data.toList.contains 0)):creelref_FieldText.f k s w b = some (fieldR s w b):=by
  obtain ⟨k,rfl⟩:∃ m,k = m + 2:=⟨k - 2,by omega⟩
  have hh:=hh k (by omega)
  unfold creelref_FieldText.f
  by_cases h1:w < 1
  · rw [if_pos h1]
    simp only [creelref_FieldText.j0,if_true]
    unfold fieldR
    rw [if_pos (Or.inl h1)]
  · rw [if_neg h1]
    simp only [creelref_FieldText.j0]
    by_cases h2:w > 512
    · rw [decide_eq_true h2,if_pos rfl]
      unfold fieldR
      rw [if_pos (Or.inr h2)]
    · rw [decide_eq_false h2,if_neg (show ¬ (false = true) by simp)]
      by_cases g:(s.size:Int) > w
      · rw [if_pos g]
        exact text_j1 k s w true b (by omega) (by omega) (by omega) hh ⟨fun _=>Or.inl g,fun _=>rfl⟩
      · rw [if_neg g]
        cases b with
        | true =>
          rw [if_pos rfl]
          exact text_j1 k s w false true (by omega) (by omega) (by omega) hh (by simp;omega)
        | false =>
          rw [if_neg (show ¬ (false = true) by simp)]
          refine text_j1 k s w _ false (by omega) (by omega) (by omega) hh ⟨fun h=>Or.inr ⟨rfl,beq_iff_eq.mp h⟩,fun h=>?_⟩
          rcases h with h|⟨_,h⟩
          · exact absurd h g
          · exact beq_iff_eq.mpr h
theorem fieldR_size (s:ByteArray) (w:Int) (b:Bool) (h:(fieldR s w b).2 = 0):((fieldR s w b).1.size:Int) = w:=by
  unfold fieldR at h ⊢
  split at h
  · cases h
  · rename_i h1
    split at h
    · cases h
    · rename_i h2
      split at h
      · cases h
      · rename_i h3
        rw [if_neg h1,if_neg h2,if_neg h3]
        have h4:¬ (s.size:Int) > w:=fun h=>h2 (Or.inl h)
        show ((s ++ zs (w - s.size).toNat).size:Int) = w
        rw [ByteArray.size_append,zs_size]
        omega
theorem fieldR_le (s:ByteArray) (w:Int) (b:Bool):(fieldR s w b).1.size ≤ 512:=by
  by_cases h:(fieldR s w b).2 = 0
  · have h1:=fieldR_size s w b h
    unfold fieldR at h
    split at h
    · cases h
    · omega
  · have:(fieldR s w b).1 = (⟨#[]⟩:ByteArray):=by
      unfold fieldR at h ⊢
      split
      · rfl
      · rename_i h1
        rw [if_neg h1] at h
        split
        · rfl
        · rename_i h2
          rw [if_neg h2] at h
          split
          · rfl
          · rename_i h3
            rw [if_neg h3] at h
            exact absurd rfl h
    rw [this]
    show 0 ≤ 512
    omega
theorem field_ev (s:ByteArray) (w:Int) (b:Bool):Ev (fun k=>field_Write.f k s w b) (fieldR s w b):=⟨4,fun k hk=>write_is s w b k (by omega)⟩
theorem fieldT_ev (s:ByteArray) (w:Int) (b:Bool) (hs:s.size ≤ 140737488351232):Ev (fun k=>creelref_FieldText.f k s w b) (fieldR s w b):=by
  obtain ⟨K,hK⟩:=has_ev s 0 (by omega) (by omega) hs
  exact ⟨K + 800,fun k hk=>text_is s w b k (by omega) (fun q hq=>hK q (by omega))⟩
theorem oct_wrap {x:Int} (h0:0 ≤ x) (h:x ≤ 1000000000000):wrap64 x = x:=by unfold wrap64;omega
theorem wid (w:Int) (h2:2 ≤ w) (h12:w ≤ 12):w = 2 ∨ w = 3 ∨ w = 4 ∨ w = 5 ∨ w = 6 ∨ w = 7 ∨ w = 8 ∨ w = 9 ∨ w = 10 ∨ w = 11 ∨ w = 12:=by omega
theorem most_same (w:Int) (h2:2 ≤ w) (h12:w ≤ 12):∃ m,octal_Most.f w = some (m,0)∧creelref_OctalMost.f 30 w = some (m,0)∧0 ≤ m∧m ≤ 8589934592:=by
  rcases wid w h2 h12 with rfl|rfl|rfl|rfl|rfl|rfl|rfl|rfl|rfl|rfl|rfl
  · exact ⟨7,by decide +kernel,by decide +kernel,by decide,by decide⟩
  · exact ⟨63,by decide +kernel,by decide +kernel,by decide,by decide⟩
  · exact ⟨511,by decide +kernel,by decide +kernel,by decide,by decide⟩
  · exact ⟨4095,by decide +kernel,by decide +kernel,by decide,by decide⟩
  · exact ⟨32767,by decide +kernel,by decide +kernel,by decide,by decide⟩
  · exact ⟨262143,by decide +kernel,by decide +kernel,by decide,by decide⟩
  · exact ⟨2097151,by decide +kernel,by decide +kernel,by decide,by decide⟩
  · exact ⟨16777215,by decide +kernel,by decide +kernel,by decide,by decide⟩
  · exact ⟨134217727,by decide +kernel,by decide +kernel,by decide,by decide⟩
  · exact ⟨1073741823,by decide +kernel,by decide +kernel,by decide,by decide⟩
  · exact ⟨8589934591,by decide +kernel,by decide +kernel,by decide,by decide⟩
theorem digit_is (d:Int) (h0:0 ≤ d) (h7:d ≤ 7):(⟨#[48,49,50,51,52,53,54,55]⟩:ByteArray).extract d.toNat (d + 1).toNat = strOfNums [48 + d]:=by
  have:d = 0 ∨ d = 1 ∨ d = 2 ∨ d = 3 ∨ d = 4 ∨ d = 5 ∨ d = 6 ∨ d = 7:=by omega
  rcases this with rfl|rfl|rfl|rfl|rfl|rfl|rfl|rfl <;> decide +kernel
theorem size_strOf (D:List Int):(strOfNums D).size = D.length:=by simp [strOfNums,ByteArray.size]
theorem app_strOf (D E:List Int):strOfNums D ++ strOfNums E = strOfNums (D ++ E):=by
  apply ByteArray.ext
  simp [strOfNums]
theorem set_last (m:Nat) (D:List Int) (v:Int):(List.replicate (m + 1) (0:Int) ++ D).set m v = List.replicate m 0 ++ v :: D:=by
  rw [List.replicate_succ',List.append_assoc,List.set_append_right _ _ (by simp)]
  simp
theorem writes_same (w:Int) (h2:2 ≤ w) (h12:w ≤ 12) (m:Nat):∀ (k:Nat) (n:Int) (D:List Int),0 ≤ n→n ≤ 8589934592→(m:Int) + D.length = w - 1→m < k →
    ∃ r:ByteArray,(r.size:Int) = w∧octal_Write.l0 k n (List.replicate m 0 ++ (D ++ [0])) ((m:Int) - 1) = some (r,0)∧creelref_OctalText.l0 k n w (strOfNums D) = some (r,0):=by
  have hw1:wrap64 (w - 1) = w - 1:=oct_wrap (by omega) (by omega)
  induction m with
  | zero =>
    intro k n D h0 hn hm hk
    obtain ⟨k,rfl⟩:∃ m,k = m + 1:=⟨k - 1,by omega⟩
    refine ⟨strOfNums (D ++ [0]),by rw [size_strOf,List.length_append,List.length_singleton];omega,?_,?_⟩
    · simp only [octal_Write.l0];rw [if_neg (by omega)];simp
    · simp only [creelref_OctalText.l0];rw [size_strOf,hw1,if_neg (by omega),if_pos (by omega)]
      rw [show (⟨#[0]⟩:ByteArray) = strOfNums [0] from rfl,app_strOf]
  | succ m ih =>
    intro k n D h0 hn hm hk
    obtain ⟨k,rfl⟩:∃ m,k = m + 1:=⟨k - 1,by omega⟩
    have hd0:0 ≤ n % 8:=by omega
    have hd7:n % 8 ≤ 7:=by omega
    have ht:Int.tmod n 8 = n % 8:=Int.tmod_eq_emod_of_nonneg h0
    have hq:Int.tdiv n 8 = n / 8:=Int.tdiv_eq_ediv_of_nonneg h0
    obtain ⟨r,hz,h,h'⟩:=ih k (n / 8) ((48 + n % 8) :: D) (by omega) (by omega) (by simp only [List.length_cons];omega) (by omega)
    refine ⟨r,hz,?_,?_⟩
    · simp only [octal_Write.l0]
      rw [if_pos (by omega),if_pos (by omega),if_pos (by simp only [List.length_append,List.length_replicate];omega),ht,hq,oct_wrap (by omega) (by omega)]
      rw [show (((m + 1:Nat):Int) - 1).toNat = m from by omega,set_last,show (48 + n % 8 % 256) % 256 = 48 + n % 8 from by omega]
      have e:wrap64 (((m + 1:Nat):Int) - 1 - 1) = (m:Int) - 1:=by unfold wrap64;omega
      rw [e];exact h
    · simp only [creelref_OctalText.l0]
      rw [ht,hq,size_strOf,hw1,oct_wrap (x:=n % 8 + 1) (by omega) (by omega),oct_wrap (x:=n / 8) (by omega) (by omega),digit_is _ hd0 hd7,if_pos (by omega),if_pos hd0,if_pos (by omega),if_pos (by omega),if_pos (by rw [size_strOf];simp only [List.length_cons,List.length_nil];omega),app_strOf]
      exact h'
theorem oct_up {α:Type} {g:Nat→Option α} {r:α} (hg:∀ k,LeO (g k) (g (k + 1))) {k:Nat} (h:g k = some r):Ev g r:=Ev.of hg h
theorem octal_both (n w:Int):∃ r:ByteArray × Int,Ev (fun k=>octal_Write.f k n w) r∧Ev (fun k=>creelref_OctalText.f k n w) r∧(r.2 = 0→(r.1.size:Int) = w)∧r.1.size ≤ 12:=by
  have u1:∀ k,LeO (octal_Write.f k n w) (octal_Write.f (k + 1) n w):=fun k=>octal_Write.mono n w k
  have u2:∀ k,LeO (creelref_OctalText.f k n w) (creelref_OctalText.f (k + 1) n w):=fun k=>creelref_OctalText.mono n w k
  by_cases c:2 ≤ w∧w ≤ 12
  · obtain ⟨c2,c12⟩:=c
    obtain ⟨m,hm,hm',hm0,hm1⟩:=most_same w c2 c12
    by_cases cn:0 ≤ n∧n ≤ m
    · obtain ⟨r,hz,h,h'⟩:=writes_same w c2 c12 (w - 1).toNat 29 n [] (by omega) (by omega) (by simp only [List.length_nil];omega) (by omega)
      have e1:octal_Write.f 30 n w = some (r,0):=by
        unfold octal_Write.f
        rw [hm];simp only [Option.bind_some,if_true]
        rw [if_neg (by omega),decide_eq_false (show ¬ n > m by omega)]
        simp only [octal_Write.j0]
        rw [if_neg (by simp),if_pos (by omega),if_pos (by omega),oct_wrap (by omega) (by omega)]
        have e:List.replicate w.toNat (0:Int) = List.replicate (w - 1).toNat 0 ++ ([] ++ [0]):=by
          rw [show w.toNat = (w - 1).toNat + 1 from by omega,List.replicate_succ'];rfl
        rw [e,show w - 2 = ((w - 1).toNat:Int) - 1 from by omega];exact h
      have e2:creelref_OctalText.f 30 n w = some (r,0):=by
        unfold creelref_OctalText.f
        rw [hm'];simp only [Option.bind_some,if_true]
        rw [if_neg (by omega),decide_eq_false (show ¬ n > m by omega)]
        simp only [creelref_OctalText.j0]
        rw [if_neg (by simp)];exact h'
      exact ⟨(r,0),oct_up u1 e1,oct_up u2 e2,fun _=>hz,by show r.size ≤ 12;omega⟩
    · have e1:octal_Write.f 30 n w = some ((⟨#[]⟩:ByteArray),4):=by
        unfold octal_Write.f
        rw [hm];simp only [Option.bind_some,if_true]
        by_cases cz:n < 0
        · rw [if_pos cz];rfl
        · rw [if_neg cz,decide_eq_true (show n > m by omega)];rfl
      have e2:creelref_OctalText.f 30 n w = some ((⟨#[]⟩:ByteArray),4):=by
        unfold creelref_OctalText.f
        rw [hm'];simp only [Option.bind_some,if_true]
        by_cases cz:n < 0
        · rw [if_pos cz];rfl
        · rw [if_neg cz,decide_eq_true (show n > m by omega)];rfl
      exact ⟨((⟨#[]⟩:ByteArray),4),oct_up u1 e1,oct_up u2 e2,fun h=>(by cases h),(by show 0 ≤ 12;omega)⟩
  · have hm:octal_Most.f w = some (0,4):=by
      unfold octal_Most.f
      by_cases c2:w < 2
      · rw [if_pos c2]
      · rw [if_neg c2,if_pos (by omega)]
    have hm':creelref_OctalMost.f 30 w = some (0,4):=by
      unfold creelref_OctalMost.f
      by_cases c2:w < 2
      · rw [if_pos c2]
      · rw [if_neg c2,if_pos (by omega)]
    have e1:octal_Write.f 30 n w = some ((⟨#[]⟩:ByteArray),4):=by unfold octal_Write.f;rw [hm];rfl
    have e2:creelref_OctalText.f 30 n w = some ((⟨#[]⟩:ByteArray),4):=by unfold creelref_OctalText.f;rw [hm'];rfl
    exact ⟨((⟨#[]⟩:ByteArray),4),oct_up u1 e1,oct_up u2 e2,fun h=>(by cases h),(by show 0 ≤ 12;omega)⟩
def past (i:Int):Int:=if i < 148 then 0 else if i < 156 then i - 148 else 8
theorem sum_wrap {x:Int} (h0:0 ≤ x) (h:x ≤ 1000000):wrap64 x = x:=by unfold wrap64;omega
theorem heads_same (s:ByteArray) (hs:s.size = 512) (d:Nat):∀ (k:Nat) (x i:Int),0 ≤ i→i ≤ 512→(512:Int) - i = d→d < k→256 ≤ x→x ≤ 256 + 255 * i →
    ∃ r,head_Sum.l0 k s x 512 i = some (r,0)∧creelref_HeadSum.l0 k s (x - 256 + 32 * past i) i = some (r,0)∧256 ≤ r∧r ≤ 130816:=by
  induction d with
  | zero =>
    intro k x i h0 h1 hd hk hx hx'
    obtain ⟨k,rfl⟩:∃ m,k = m + 1:=⟨k - 1,by omega⟩
    obtain rfl:i = 512:=by omega
    refine ⟨x,?_,?_,hx,by omega⟩
    · simp only [head_Sum.l0];rw [if_neg (by omega)]
    · simp only [creelref_HeadSum.l0];rw [if_neg (by omega)]
      have e:x - 256 + 32 * past 512 = x:=by simp [past]
      rw [e]
  | succ d ih =>
    intro k x i h0 h1 hd hk hx hx'
    obtain ⟨k,rfl⟩:∃ m,k = m + 1:=⟨k - 1,by omega⟩
    have hlt:i < 512:=by omega
    have hsz:i < (s.size:Int):=by omega
    have hw:wrap64 (i + 1) = i + 1:=sum_wrap (by omega) (by omega)
    have hb:=bt_range s i
    have hbw:wrap64 (bt s i) = bt s i:=sum_wrap (by omega) (by omega)
    by_cases c1:i < 148
    · obtain ⟨r,h,h',q⟩:=ih k (x + bt s i) (i + 1) (by omega) (by omega) (by omega) (by omega) (by omega) (by omega)
      refine ⟨r,?_,?_,q⟩
      · simp only [head_Sum.l0];rw [if_pos hlt,if_pos c1,if_pos h0,if_pos hsz,hw,hbw,sum_wrap (by omega) (by omega)];exact h
      · simp only [creelref_HeadSum.l0];rw [if_pos hlt,if_neg (by omega),if_pos h0,if_pos hsz,hw,hbw,sum_wrap (by unfold past;split <;> (try split) <;> omega) (by unfold past;split <;> (try split) <;> omega)]
        rw [← h'];congr 1;unfold past;split <;> split <;> (try split) <;> omega
    · by_cases c2:i < 156
      · obtain ⟨r,h,h',q⟩:=ih k x (i + 1) (by omega) (by omega) (by omega) (by omega) (by omega) (by omega)
        refine ⟨r,?_,?_,q⟩
        · simp only [head_Sum.l0];rw [if_pos hlt,if_neg c1,if_neg (by omega),hw];exact h
        · simp only [creelref_HeadSum.l0];rw [if_pos hlt,if_pos (by omega),if_pos c2,hw,sum_wrap (by unfold past;split <;> (try split) <;> omega) (by unfold past;split <;> (try split) <;> omega)]
          rw [← h'];congr 1;unfold past;split <;> (try split) <;> (try split) <;> (try split) <;> omega
      · obtain ⟨r,h,h',q⟩:=ih k (x + bt s i) (i + 1) (by omega) (by omega) (by omega) (by omega) (by omega) (by omega)
        refine ⟨r,?_,?_,q⟩
        · simp only [head_Sum.l0];rw [if_pos hlt,if_neg c1,if_pos (by omega),if_pos h0,if_pos hsz,hw,hbw,sum_wrap (by omega) (by omega)];exact h
        · simp only [creelref_HeadSum.l0];rw [if_pos hlt,if_pos (by omega),if_neg c2,if_pos h0,if_pos hsz,hw,hbw,sum_wrap (by unfold past;split <;> (try split) <;> omega) (by unfold past;split <;> (try split) <;> omega)]
          rw [← h'];congr 1;unfold past;split <;> (try split) <;> (try split) <;> (try split) <;> omega
theorem sum_both (s:ByteArray):∃ r:Int × Int,Ev (fun k=>head_Sum.f k s) r∧Ev (fun k=>creelref_HeadSum.f k s) r:=by
  have u1:∀ k,LeO (head_Sum.f k s) (head_Sum.f (k + 1) s):=fun k=>head_Sum.mono s k
  have u2:∀ k,LeO (creelref_HeadSum.f k s) (creelref_HeadSum.f (k + 1) s):=fun k=>creelref_HeadSum.mono s k
  by_cases hs:s.size = 512
  · obtain ⟨r,h,h',_⟩:=heads_same s hs 512 513 256 0 (by omega) (by omega) (by omega) (by omega) (by omega) (by omega)
    have e:(256:Int) - 256 + 32 * past 0 = 0:=by simp [past]
    rw [e] at h'
    have hi:(s.size:Int) = 512:=by omega
    refine ⟨(r,0),Ev.of u1 (k:=513) ?_,Ev.of u2 (k:=513) ?_⟩
    · unfold head_Sum.f
      rw [if_pos hi,hi];exact h
    · unfold creelref_HeadSum.f
      rw [if_pos hi];exact h'
  · refine ⟨(0,1),⟨0,fun k _=>?_⟩,⟨0,fun k _=>?_⟩⟩
    · show head_Sum.f k s = _
      unfold head_Sum.f
      rw [if_neg (by omega)]
    · show creelref_HeadSum.f k s = _
      unfold creelref_HeadSum.f
      rw [if_neg (by omega)]
def same (p q:Int × ByteArray):Prop:=p.1 = q.1∧(p.1 = 0→p.2 = q.2)
theorem same_more {p q:Int × ByteArray} (h:same p q) (r:ByteArray × Int):same (head_Write.pt p r.1 r.2) (creelref_HeadText.more q r):=by
  obtain ⟨h1,h2⟩:=h
  unfold head_Write.pt creelref_HeadText.more
  by_cases c:p.1 = 0
  · rw [if_pos c,if_pos (h1 ▸ c)]
    exact ⟨rfl,fun _=>by rw [h2 c]⟩
  · rw [if_neg c,if_neg (h1 ▸ c)]
    exact ⟨h1,fun e=>absurd e c⟩
theorem same_app {p q:Int × ByteArray} (h:same p q) (s t:ByteArray) (e:s = t):same (head_Write.pt p s 0) (creelref_HeadText.app q t):=by
  obtain ⟨h1,h2⟩:=h
  subst e
  unfold head_Write.pt creelref_HeadText.app
  by_cases c:p.1 = 0
  · rw [if_pos c]
    exact ⟨by rw [← h1,c],fun _=>by rw [h2 c]⟩
  · rw [if_neg c]
    exact ⟨h1,fun e=>absurd e c⟩
theorem same_two {p q:Int × ByteArray} (h:same p q) (s:ByteArray) (r:ByteArray × Int) (h0:r.2 = 0) (e:s = r.1 ++ r.1):same (head_Write.pt p s 0) (creelref_HeadText.more (creelref_HeadText.more q r) r):=by
  obtain ⟨h1,h2⟩:=h
  subst e
  unfold head_Write.pt creelref_HeadText.more
  by_cases c:p.1 = 0
  · have cq:q.1 = 0:=h1 ▸ c
    rw [if_pos c]
    simp only [cq,h0,if_true]
    exact ⟨rfl,fun _=>by rw [h2 c,ByteArray.append_assoc]⟩
  · have cq:¬ q.1 = 0:=h1 ▸ c
    rw [if_neg c]
    simp only [cq,if_false]
    exact ⟨h1,fun e=>absurd e c⟩
theorem pt_zero {p:Int × ByteArray} {s:ByteArray} {e:Int} (h:(head_Write.pt p s e).1 = 0):p.1 = 0∧e = 0∧(head_Write.pt p s e).2.size = p.2.size + s.size:=by
  unfold head_Write.pt at h ⊢
  by_cases c:p.1 = 0
  · rw [if_pos c] at h ⊢
    exact ⟨c,h,ByteArray.size_append⟩
  · rw [if_neg c] at h
    exact absurd h c
theorem oct8:Ev (fun k=>creelref_OctalText.f k 0 8) ((⟨#[48,48,48,48,48,48,48,0]⟩:ByteArray),0):=Ev.of (fun k=>creelref_OctalText.mono 0 8 k) (k:=40) (by decide +kernel)
theorem sizes_empty:(⟨#[]⟩:ByteArray).size = 0:=rfl
def wq (t8:Int) (r1 r2 r3 r4 r5 r6 r7 r8 r9 r10:ByteArray × Int):Int × ByteArray:=(head_Write.pt (head_Write.pt (head_Write.pt (head_Write.pt (head_Write.pt (head_Write.pt (head_Write.pt (head_Write.pt (head_Write.pt (head_Write.pt (head_Write.pt (head_Write.pt (head_Write.pt (head_Write.pt ((0,(⟨#[]⟩:ByteArray)):Int × ByteArray) r1.1 r1.2) r2.1 r2.2) r3.1 r3.2) r4.1 r4.2) r5.1 r5.2) r6.1 r6.2) (head_Write.blank t8) 0) r7.1 r7.2) (⟨#[117,115,116,97,114,0,48,48]⟩:ByteArray) 0) r8.1 r8.2) r9.1 r9.2) (⟨#[48,48,48,48,48,48,48,0,48,48,48,48,48,48,48,0]⟩:ByteArray) 0) r10.1 r10.2) (zs 12) 0)
def tq (t8:Int) (r1 r2 r3 r4 r5 r6 r7 r8 r9 r10:ByteArray × Int):Int × ByteArray:=(creelref_HeadText.app (creelref_HeadText.more (creelref_HeadText.more (creelref_HeadText.more (creelref_HeadText.more (creelref_HeadText.more (creelref_HeadText.app (creelref_HeadText.more (creelref_HeadText.app (creelref_HeadText.more (creelref_HeadText.more (creelref_HeadText.more (creelref_HeadText.more (creelref_HeadText.more (creelref_HeadText.more ((0,(⟨#[]⟩:ByteArray)):Int × ByteArray) r1) r2) r3) r4) r5) r6) (creelref_HeadText.blank t8)) r7) ((⟨#[117,115,116,97,114]⟩:ByteArray) ++ zs 1 ++ (⟨#[48,48]⟩:ByteArray))) r8) r9) ((⟨#[48,48,48,48,48,48,48,0]⟩:ByteArray),(0:Int))) ((⟨#[48,48,48,48,48,48,48,0]⟩:ByteArray),(0:Int))) r10) (zs 12))
theorem same_q (t8:Int) (r1 r2 r3 r4 r5 r6 r7 r8 r9 r10:ByteArray × Int):same (wq t8 r1 r2 r3 r4 r5 r6 r7 r8 r9 r10) (tq t8 r1 r2 r3 r4 r5 r6 r7 r8 r9 r10):=by
  unfold wq tq
  refine same_app (same_more (same_two (same_more (same_more (same_app (same_more (same_app (same_more (same_more (same_more (same_more (same_more (same_more ⟨rfl,fun _=>rfl⟩ r1) r2) r3) r4) r5) r6) _ _ rfl) r7) _ _ ?_) r8) r9) _ _ rfl ?_) r10) _ _ rfl
  · apply ext_list;rfl
  · apply ext_list;rfl
theorem size_q (t8:Int) (r1 r2 r3 r4 r5 r6 r7 r8 r9 r10:ByteArray × Int) (g1:r1.2 = 0→(r1.1.size:Int) = 100) (g2:r2.2 = 0→(r2.1.size:Int) = 8) (g3:r3.2 = 0→(r3.1.size:Int) = 8) (g4:r4.2 = 0→(r4.1.size:Int) = 8) (g5:r5.2 = 0→(r5.1.size:Int) = 12) (g6:r6.2 = 0→(r6.1.size:Int) = 12) (g7:r7.2 = 0→(r7.1.size:Int) = 100) (g8:r8.2 = 0→(r8.1.size:Int) = 32) (g9:r9.2 = 0→(r9.1.size:Int) = 32) (g10:r10.2 = 0→(r10.1.size:Int) = 155) (h:(wq t8 r1 r2 r3 r4 r5 r6 r7 r8 r9 r10).1 = 0):(wq t8 r1 r2 r3 r4 r5 r6 r7 r8 r9 r10).2.size = 512:=by
  unfold wq at h ⊢
  obtain ⟨h,ez,zz⟩:=pt_zero h
  obtain ⟨h,e10,z10⟩:=pt_zero h
  obtain ⟨h,edev,zdev⟩:=pt_zero h
  obtain ⟨h,e9,z9⟩:=pt_zero h
  obtain ⟨h,e8,z8⟩:=pt_zero h
  obtain ⟨h,eus,zus⟩:=pt_zero h
  obtain ⟨h,e7,z7⟩:=pt_zero h
  obtain ⟨h,ebl,zbl⟩:=pt_zero h
  obtain ⟨h,e6,z6⟩:=pt_zero h
  obtain ⟨h,e5,z5⟩:=pt_zero h
  obtain ⟨h,e4,z4⟩:=pt_zero h
  obtain ⟨h,e3,z3⟩:=pt_zero h
  obtain ⟨h,e2,z2⟩:=pt_zero h
  obtain ⟨h,e1,z1⟩:=pt_zero h
  rw [zz,z10,zdev,z9,z8,zus,z7,zbl,z6,z5,z4,z3,z2,z1]
  have x1:=g1 e1
  have x2:=g2 e2
  have x3:=g3 e3
  have x4:=g4 e4
  have x5:=g5 e5
  have x6:=g6 e6
  have x7:=g7 e7
  have x8:=g8 e8
  have x9:=g9 e9
  have x10:=g10 e10
  have y1:=head_Write.blank_size t8
  have y2:(⟨#[117,115,116,97,114,0,48,48]⟩:ByteArray).size = 8:=rfl
  have y3:(⟨#[48,48,48,48,48,48,48,0,48,48,48,48,48,48,48,0]⟩:ByteArray).size = 16:=rfl
  have y4:=zs_size 12
  have y5:=sizes_empty
  show (((0,(⟨#[]⟩:ByteArray)):Int × ByteArray)).2.size + _ + _ + _ + _ + _ + _ + _ + _ + _ + _ + _ + _ + _ + _ = 512
  have y6:(((0,(⟨#[]⟩:ByteArray)):Int × ByteArray)).2.size = 0:=rfl
  omega
theorem tails (k:Nat) (q p:Int × ByteArray) (h:same p q) (hz:p.1 = 0→p.2.size = 512):∃ v,Ev (fun k=>head_Write.tail k p) v∧Ev (fun k=>creelref_HeadText.tail k q) v∧v.1.size ≤ 1000:=by
  obtain ⟨h1,h2⟩:=h
  by_cases c:p.1 = 0
  · have e:=h2 c
    have cq:q.1 = 0:=h1 ▸ c
    obtain ⟨n,a1,a2⟩:=sum_both p.2
    obtain ⟨u,b1,b2,_,b4⟩:=octal_both n.1 7
    have hs:=hz c
    refine ⟨(p.2.extract 0 148 ++ u.1 ++ (⟨#[32]⟩:ByteArray) ++ p.2.extract 156 p.2.size,0),?_,?_,?_⟩
    · unfold head_Write.tail
      refine Ev.ifp c (Ev.bind a1 (Ev.bind b1 (Ev.ifp (by omega) (Ev.now _))))
    · unfold creelref_HeadText.tail
      rw [← e]
      refine Ev.ifp cq (Ev.bind a2 (Ev.bind b2 (Ev.ifp (by omega) (Ev.now _))))
    · show (p.2.extract 0 148 ++ u.1 ++ (⟨#[32]⟩:ByteArray) ++ p.2.extract 156 p.2.size).size ≤ 1000
      rw [ByteArray.size_append,ByteArray.size_append,ByteArray.size_append,ByteArray.size_extract,ByteArray.size_extract]
      have:((⟨#[32]⟩:ByteArray)).size = 1:=rfl
      omega
  · refine ⟨((⟨#[]⟩:ByteArray),p.1),?_,?_,by show (⟨#[]⟩:ByteArray).size ≤ 1000;decide⟩
    · unfold head_Write.tail
      exact Ev.ifn c (Ev.now _)
    · unfold creelref_HeadText.tail
      rw [h1]
      exact Ev.ifn (h1 ▸ c) (Ev.now _)
theorem both (s0 s1 s2:ByteArray) (n3 n4 n5 n6 n7 t8:Int) (s9 s10:ByteArray) (g0:s0.size ≤ 140737488351232) (g1:s1.size ≤ 140737488351232) (g2:s2.size ≤ 140737488351232) (g9:s9.size ≤ 140737488351232) (g10:s10.size ≤ 140737488351232) (gt:0 ≤ t8∧t8 ≤ 255) :
    ∃ v,Ev (fun k=>head_Write.f k s0 s1 s2 n3 n4 n5 n6 n7 t8 s9 s10) v∧Ev (fun k=>creelref_HeadText.f k s0 s1 s2 n3 n4 n5 n6 n7 t8 s9 s10) v∧v.1.size ≤ 1000:=by
  have hh:=has_ev (⟨#[48,49,50,53,120]⟩:ByteArray) t8 gt.1 gt.2 (by show 5 ≤ _;omega)
  have hi:(Lib.indexByte (⟨#[48,49,50,53,120]⟩:ByteArray).data.toList t8.toNat.toUInt8 < 0) ↔ ¬ ((⟨#[48,49,50,53,120]⟩:ByteArray).data.toList.contains t8.toNat.toUInt8 = true):=by
    rw [← index_ge,decide_eq_true_iff]
    omega
  cases hc:(⟨#[48,49,50,53,120]⟩:ByteArray).data.toList.contains t8.toNat.toUInt8 with
  | false =>
    rw [hc] at hh hi
    refine ⟨((⟨#[]⟩:ByteArray),2),?_,?_,by show (⟨#[]⟩:ByteArray).size ≤ 1000;decide⟩
    · unfold head_Write.f
      exact Ev.bind (Ev.now _) (Ev.ifp (hi.2 (by decide)) (Ev.now _))
    · unfold creelref_HeadText.f
      exact Ev.bind hh (Ev.ifn (by decide) (Ev.now _))
  | true =>
    rw [hc] at hh hi
    obtain ⟨r1,W1,T1,y1,l1⟩:∃ r,Ev (fun k=>field_Write.f k s0 100 true) r∧Ev (fun k=>creelref_FieldText.f k s0 100 true) r∧(r.2 = 0→(r.1.size:Int) = 100)∧r.1.size ≤ 512:=⟨_,field_ev _ _ _,fieldT_ev _ _ _ g0,fieldR_size _ _ _,fieldR_le _ _ _⟩
    obtain ⟨r2,W2,T2,y2,l2⟩:=octal_both n3 8
    obtain ⟨r3,W3,T3,y3,l3⟩:=octal_both n4 8
    obtain ⟨r4,W4,T4,y4,l4⟩:=octal_both n5 8
    obtain ⟨r5,W5,T5,y5,l5⟩:=octal_both n6 12
    obtain ⟨r6,W6,T6,y6,l6⟩:=octal_both n7 12
    obtain ⟨r7,W7,T7,y7,l7⟩:∃ r,Ev (fun k=>field_Write.f k s2 100 true) r∧Ev (fun k=>creelref_FieldText.f k s2 100 true) r∧(r.2 = 0→(r.1.size:Int) = 100)∧r.1.size ≤ 512:=⟨_,field_ev _ _ _,fieldT_ev _ _ _ g2,fieldR_size _ _ _,fieldR_le _ _ _⟩
    obtain ⟨r8,W8,T8,y8,l8⟩:∃ r,Ev (fun k=>field_Write.f k s9 32 false) r∧Ev (fun k=>creelref_FieldText.f k s9 32 false) r∧(r.2 = 0→(r.1.size:Int) = 32)∧r.1.size ≤ 512:=⟨_,field_ev _ _ _,fieldT_ev _ _ _ g9,fieldR_size _ _ _,fieldR_le _ _ _⟩
    obtain ⟨r9,W9,T9,y9,l9⟩:∃ r,Ev (fun k=>field_Write.f k s10 32 false) r∧Ev (fun k=>creelref_FieldText.f k s10 32 false) r∧(r.2 = 0→(r.1.size:Int) = 32)∧r.1.size ≤ 512:=⟨_,field_ev _ _ _,fieldT_ev _ _ _ g10,fieldR_size _ _ _,fieldR_le _ _ _⟩
    obtain ⟨r10,W10,T10,y10,l10⟩:∃ r,Ev (fun k=>field_Write.f k s1 155 true) r∧Ev (fun k=>creelref_FieldText.f k s1 155 true) r∧(r.2 = 0→(r.1.size:Int) = 155)∧r.1.size ≤ 512:=⟨_,field_ev _ _ _,fieldT_ev _ _ _ g1,fieldR_size _ _ _,fieldR_le _ _ _⟩
    have z1:Ev (fun k=>creelref_zeros.f k 1) (zs 1):=⟨2,fun k hk=>zeros_is 1 k (by omega) (by omega)⟩
    have z2:Ev (fun k=>creelref_zeros.f k 12) (zs 12):=⟨13,fun k hk=>zeros_is 12 k (by omega) (by omega)⟩
    have z3:strings_Repeat.f (⟨#[0]⟩:ByteArray) 12 = some (zs 12):=rep_is 12 (by omega)
    have zz1:=zs_size 1
    have zz2:=zs_size 12
    have o8:((⟨#[48,48,48,48,48,48,48,0]⟩:ByteArray)).size = 8:=rfl
    obtain ⟨v,a1,a2,a3⟩:=tails 0 (tq t8 r1 r2 r3 r4 r5 r6 r7 r8 r9 r10) (wq t8 r1 r2 r3 r4 r5 r6 r7 r8 r9 r10) (same_q t8 r1 r2 r3 r4 r5 r6 r7 r8 r9 r10) (size_q t8 r1 r2 r3 r4 r5 r6 r7 r8 r9 r10 y1 y2 y3 y4 y5 y6 y7 y8 y9 y10)
    refine ⟨v,?_,?_,a3⟩
    · unfold head_Write.f
      refine Ev.bind (Ev.now _) (Ev.ifn (fun h=>hi.1 h rfl) ?_)
      refine Ev.bind W1 (Ev.bind W2 (Ev.bind W3 (Ev.bind W4 (Ev.bind W5 (Ev.bind W6 (Ev.bind W7 (Ev.bind W8 (Ev.bind W9 (Ev.bind W10 (Ev.bind (Ev.const z3) (Ev.ifp ?_ a1)))))))))))
      omega
    · unfold creelref_HeadText.f
      refine Ev.bind hh (Ev.ifp rfl ?_)
      refine Ev.bind T1 (Ev.bind T2 (Ev.bind T3 (Ev.bind T4 (Ev.bind T5 (Ev.bind T6 (Ev.bind T7 (Ev.bind T8 (Ev.bind T9 (Ev.bind oct8 (Ev.bind T10 (Ev.bind z1 (Ev.bind z2 (Ev.ifp ?_ a2)))))))))))))
      show _ + _ + _ + _ + _ + _ + _ + _ + _ + ((⟨#[48,48,48,48,48,48,48,0]⟩:ByteArray)).size + _ + ((⟨#[48,48,48,48,48,48,48,0]⟩:ByteArray)).size + _ + _ ≤ 100000
      omega
theorem has_at (s:ByteArray) (c:Int) (c0:0 ≤ c) (c1:c ≤ 255) (hb:s.size ≤ 140737488351232) (k:Nat) (hk:s.size < k):creelref_has.f k s c = some (s.data.toList.contains c.toNat.toUInt8):=by
  obtain ⟨b,h1,h2⟩:=has_from s c hb s.size k 0 (by omega) (by omega) (by omega) (by omega)
  show creelref_has.l0 k s c 0 = _
  rw [h1]
  congr 1
  rw [Bool.eq_iff_iff,h2]
  exact mem_bt s c c0 c1
theorem any_two (c d:UInt8) (l:List UInt8):Lib.containsAny l [c,d] = (l.contains c || l.contains d):=by
  unfold Lib.containsAny
  induction l with
  | nil=>rfl
  | cons b l ih =>
    have hge:=Lib.indexAny_ge [c,d] l
    rw [Lib.indexAny]
    by_cases h:([c,d]:List UInt8).contains b = true
    · rw [if_pos h]
      have:b = c ∨ b = d:=by simpa using h
      rcases this with rfl|rfl <;> simp
    · rw [if_neg h]
      have h':b ≠ c∧b ≠ d:=by simpa using h
      have e1:(c == b) = false:=by simpa using fun e=>h'.1 e.symm
      have e2:(d == b) = false:=by simpa using fun e=>h'.2 e.symm
      rw [List.contains_cons,List.contains_cons,e1,e2,Bool.false_or,Bool.false_or,← ih]
      by_cases hm:Lib.indexAny l [c,d] = -1
      · rw [hm];decide
      · rw [if_neg (by simpa using hm)]
        exact decide_eq_decide.2 (by omega)
def chk (key value:ByteArray):Int:=if key.size < 1 ∨ 60 < key.size ∨ 500 < value.size then 1 else if (key.data.toList.contains 61 || key.data.toList.contains 10 || value.data.toList.contains 0) = true then 3 else 0
theorem chk_val (key value:ByteArray) (k:Nat) (hk:600 < k):record_Check.f k key value = some (chk key value)∧creelref_RecordFault.f k key value = some (chk key value):=by
  obtain ⟨k,rfl⟩:∃ q,k = q + 1:=⟨k - 1,by omega⟩
  have hnil:key.toList = ([]:List UInt8) ↔ key.size < 1:=by
    rw [toList_data]
    constructor
    · intro h;rw [← size_list,h];decide
    · intro h;exact List.length_eq_zero_iff.1 (by rw [size_list];omega)
  unfold record_Check.f creelref_RecordFault.f
  by_cases h1:key.size < 1
  · have e:chk key value = 1:=if_pos (.inl h1)
    rw [e,if_pos (by omega),if_pos (hnil.2 h1)]
    constructor
    · simp [record_Check.j0]
    · simp [creelref_RecordFault.j0]
  · rw [if_neg (by omega),if_neg (fun h=>h1 (hnil.1 h))]
    by_cases h2:60 < key.size
    · have e:chk key value = 1:=if_pos (.inr (.inl h2))
      rw [e,if_pos (by omega),if_pos (by omega)]
      constructor
      · simp [record_Check.j0]
      · simp [creelref_RecordFault.j0]
    · rw [if_neg (by omega),if_neg (by omega)]
      by_cases h3:500 < value.size
      · have e:chk key value = 1:=if_pos (.inr (.inr h3))
        rw [e,decide_eq_true (show (value.size:Int) > 500 by omega)]
        constructor
        · simp [record_Check.j0]
        · simp [creelref_RecordFault.j0]
      · have e:chk key value = if (key.data.toList.contains 61 || key.data.toList.contains 10 || value.data.toList.contains 0) = true then 3 else 0:=if_neg (by omega)
        have hC:strings_ContainsAny.f key (⟨#[61,10]⟩:ByteArray) = some (key.data.toList.contains 61 || key.data.toList.contains 10):=by
          have:strings_ContainsAny.f key (⟨#[61,10]⟩:ByteArray) = some (Lib.containsAny key.data.toList [61,10]):=if_pos ⟨by decide,by decide,by omega⟩
          rw [this,any_two]
        have hI:strings_IndexByte.f value 0 = some (Lib.indexByte value.data.toList 0):=rfl
        have hge:=index_ge value.data.toList 0
        have a1:=has_at key 61 (by omega) (by omega) (by omega) k (by omega)
        have a2:=has_at key 10 (by omega) (by omega) (by omega) k (by omega)
        have a3:=has_at value 0 (by omega) (by omega) (by omega) k (by omega)
        have t1:(61:Int).toNat.toUInt8 = 61:=rfl
        have t2:(10:Int).toNat.toUInt8 = 10:=rfl
        have t3:(0:Int).toNat.toUInt8 = 0:=rfl
        rw [t1] at a1
        rw [t2] at a2
        rw [t3] at a3
        rw [decide_eq_false (show ¬ (value.size:Int) > 500 by omega),e]
        simp only [record_Check.j0,creelref_RecordFault.j0,hC,hI,a1,a2,a3,Option.bind_some]
        cases key.data.toList.contains 61 <;> cases key.data.toList.contains 10 <;> cases hv:value.data.toList.contains 0 <;> rw [hv] at hge <;> simp at hge ⊢ <;> omega
def rbody (key value:ByteArray):List UInt8:=32 :: (key.data.toList ++ 61 :: (value.data.toList ++ [10]))
theorem rbody_len (key value:ByteArray):(rbody key value).length = key.size + value.size + 3:=by
  unfold rbody
  simp [size_list]
  omega
def numOf (L:Nat):Nat:=if L ≤ 8 then L + 1 else if L ≤ 97 then L + 2 else L + 3
theorem nd_is (n:Nat) (h:n < 1000):Lib.nDigits n = if n < 10 then 1 else if n < 100 then 2 else 3:=by
  by_cases h1:n < 10
  · rw [Lib.nDigits_small h1,if_pos h1]
  · rw [if_neg h1,Lib.nDigits_big (by omega)]
    by_cases h2:n < 100
    · rw [Lib.nDigits_small (show n / 10 < 10 by omega),if_pos h2]
    · rw [if_neg h2,Lib.nDigits_big (by omega),Lib.nDigits_small (by omega)]
theorem num_fix (L:Nat) (h1:1 ≤ L) (h2:L ≤ 900):numOf L = L + Lib.nDigits (numOf L)∧L + 1 ≤ numOf L∧numOf L ≤ 903∧∀ n,n < numOf L→n ≠ L + Lib.nDigits n:=by
  have hle:numOf L ≤ 903:=by unfold numOf;split;omega;split <;> omega
  have hge:L + 1 ≤ numOf L:=by unfold numOf;split;omega;split <;> omega
  refine ⟨?_,hge,hle,fun n hn=>?_⟩
  · rw [nd_is _ (by omega)]
    unfold numOf
    split
    · rw [if_pos (by omega)]
    · split
      · rw [if_neg (by omega),if_pos (by omega)]
      · rw [if_neg (by omega),if_neg (by omega)]
  · rw [nd_is n (by omega)]
    unfold numOf at hn
    split at hn
    · split
      · omega
      · split <;> omega
    · split at hn
      · split
        · omega
        · split <;> omega
      · split
        · omega
        · split <;> omega
theorem write_step (B:List UInt8) (hB2:B.length ≤ 900) (k n:Nat) (hn:n ≤ 1000) :
    record_Write.l0 (k + 1) (tx B) (n:Int) = if n = B.length + Lib.nDigits n then some (tx (Lib.decDigits n ++ B),0) else record_Write.l0 k (tx B) ((n + 1:Nat):Int):=by
  have hnd:=nd_is n
  have hnd3:Lib.nDigits n ≤ 4:=nd_le 4 n (by omega) (by omega)
  have e1:wrap64 ((n:Int) + 1) = ((n + 1:Nat):Int):=by rw [wrap_nat (by omega) (by omega)];rfl
  have e2:wrap64 (((tx B).size:Int) + ((tx (Lib.decDigits n)).size:Int)) = ((B.length + Lib.nDigits n:Nat):Int):=by
    clear e1
    rw [tx_size,tx_size,Lib.decDigits_length,wrap_nat (by omega) (by omega)]
    omega
  simp only [record_Write.l0]
  rw [itoa_f n (by omega),Option.bind_some,Option.bind_some,e1,e2]
  clear e1 e2
  by_cases h:n = B.length + Lib.nDigits n
  · rw [if_pos h,if_pos (by omega),if_pos (by rw [tx_size,tx_size,Lib.decDigits_length];omega),tx_app]
  · rw [if_neg h,if_neg (by omega)]
theorem write_loop (B:List UInt8) (hB1:1 ≤ B.length) (hB2:B.length ≤ 900) (d:Nat):∀ (k n:Nat),n + d = numOf B.length→d < k →
    record_Write.l0 k (tx B) (n:Int) = some (tx (Lib.decDigits (numOf B.length) ++ B),0):=by
  obtain ⟨f1,f2,f3,f4⟩:=num_fix B.length hB1 hB2
  induction d with
  | zero =>
    intro k n hn hk
    obtain ⟨k,rfl⟩:∃ q,k = q + 1:=⟨k - 1,by omega⟩
    obtain rfl:n = numOf B.length:=by omega
    rw [write_step B hB2 k _ (by omega),if_pos f1]
  | succ d ih =>
    intro k n hn hk
    obtain ⟨k,rfl⟩:∃ q,k = q + 1:=⟨k - 1,by omega⟩
    rw [write_step B hB2 k _ (by omega),if_neg (f4 n (by omega))]
    exact ih k (n + 1) (by omega) (by omega)
theorem text_at (key value:ByteArray) (n:Nat):((((tx (Lib.decDigits n) ++ (⟨#[32]⟩:ByteArray)) ++ key) ++ (⟨#[61]⟩:ByteArray)) ++ value) ++ (⟨#[10]⟩:ByteArray) = tx (Lib.decDigits n ++ rbody key value):=by
  apply ext_list
  simp [tx,rbody]
theorem text_step (key value:ByteArray) (hB2:(rbody key value).length ≤ 900) (k n:Nat) (hn:n ≤ 1000) :
    creelref_RecordText.l0 (k + 1) (n:Int) key value = if n = (rbody key value).length + Lib.nDigits n then some (tx (Lib.decDigits n ++ rbody key value),0) else creelref_RecordText.l0 k ((n + 1:Nat):Int) key value:=by
  have hlen:=rbody_len key value
  have hs1:((⟨#[32]⟩:ByteArray)).size = 1:=rfl
  have hs2:((⟨#[61]⟩:ByteArray)).size = 1:=rfl
  have hs3:((⟨#[10]⟩:ByteArray)).size = 1:=rfl
  have hnd3:Lib.nDigits n ≤ 4:=nd_le 4 n (by omega) (by omega)
  have hd:(tx (Lib.decDigits n)).size = Lib.nDigits n:=by rw [tx_size,Lib.decDigits_length]
  have e1:wrap64 ((n:Int) + 1) = ((n + 1:Nat):Int):=by rw [wrap_nat (by omega) (by omega)];rfl
  have e2:((tx (Lib.decDigits n ++ rbody key value)).size:Int) = (((rbody key value).length + Lib.nDigits n:Nat):Int):=by
    clear e1
    rw [tx_size,List.length_append,Lib.decDigits_length,Nat.add_comm]
  simp only [creelref_RecordText.l0]
  rw [itoa_f n (by omega),Option.bind_some,text_at,e1,e2]
  clear e1 e2
  rw [if_pos (by rw [hd];omega),if_pos (by rw [ByteArray.size_append,hd,hs1];omega),if_pos (by rw [ByteArray.size_append,ByteArray.size_append,hd,hs1];omega),if_pos (by rw [ByteArray.size_append,ByteArray.size_append,ByteArray.size_append,hd,hs1,hs2];omega),if_pos (by rw [ByteArray.size_append,ByteArray.size_append,ByteArray.size_append,ByteArray.size_append,hd,hs1,hs2];omega)]
  by_cases h:n = (rbody key value).length + Lib.nDigits n
  · rw [if_pos h,if_pos (by omega)]
  · rw [if_neg h,if_neg (by omega)]
theorem text_loop (key value:ByteArray) (hB2:(rbody key value).length ≤ 900) (d:Nat):∀ (k n:Nat),n + d = numOf (rbody key value).length→d < k →
    creelref_RecordText.l0 k (n:Int) key value = some (tx (Lib.decDigits (numOf (rbody key value).length) ++ rbody key value),0):=by
  have hlen:=rbody_len key value
  obtain ⟨f1,f2,f3,f4⟩:=num_fix (rbody key value).length (by omega) hB2
  induction d with
  | zero =>
    intro k n hn hk
    obtain ⟨k,rfl⟩:∃ q,k = q + 1:=⟨k - 1,by omega⟩
    obtain rfl:n = numOf (rbody key value).length:=by omega
    rw [text_step key value hB2 k _ (by omega),if_pos f1]
  | succ d ih =>
    intro k n hn hk
    obtain ⟨k,rfl⟩:∃ q,k = q + 1:=⟨k - 1,by omega⟩
    rw [text_step key value hB2 k _ (by omega),if_neg (f4 n (by omega))]
    exact ih k (n + 1) (by omega) (by omega)
def rt (key value:ByteArray):ByteArray × Int:=if chk key value = 0 then (tx (Lib.decDigits (numOf (rbody key value).length) ++ rbody key value),0) else ((⟨#[]⟩:ByteArray),chk key value)
theorem rt_val (key value:ByteArray) (k:Nat) (hk:1000 < k):record_Write.f k key value = some (rt key value)∧creelref_RecordText.f k key value = some (rt key value):=by
  obtain ⟨c1,c2⟩:=chk_val key value k (by omega)
  unfold record_Write.f creelref_RecordText.f
  rw [c1,c2]
  simp only [Option.bind_some]
  by_cases h:chk key value = 0
  · have e:rt key value = (tx (Lib.decDigits (numOf (rbody key value).length) ++ rbody key value),0):=if_pos h
    have hsz:¬ (key.size < 1 ∨ 60 < key.size ∨ 500 < value.size):=by
      intro h'
      rw [show chk key value = 1 from if_pos h'] at h
      exact absurd h (by decide)
    have hlen:=rbody_len key value
    have hs1:((⟨#[32]⟩:ByteArray)).size = 1:=rfl
    have hs2:((⟨#[61]⟩:ByteArray)).size = 1:=rfl
    have hs3:((⟨#[10]⟩:ByteArray)).size = 1:=rfl
    have hB:((((⟨#[32]⟩:ByteArray) ++ key) ++ (⟨#[61]⟩:ByteArray)) ++ value) ++ (⟨#[10]⟩:ByteArray) = tx (rbody key value):=by
      apply ext_list
      simp [tx,rbody]
    obtain ⟨f1,f2,f3,f4⟩:=num_fix (rbody key value).length (by omega) (by omega)
    rw [if_pos h,if_pos h,e]
    constructor
    · have e0:wrap64 (((tx (rbody key value)).size:Int) + 1) = (((rbody key value).length + 1:Nat):Int):=by rw [tx_size,wrap_nat (by omega) (by omega)];rfl
      rw [hB,e0]
      clear e0
      rw [if_pos (by omega),if_pos (by rw [ByteArray.size_append,hs1];omega),if_pos (by rw [ByteArray.size_append,ByteArray.size_append,hs1,hs2];omega),if_pos (by rw [ByteArray.size_append,ByteArray.size_append,ByteArray.size_append,hs1,hs2];omega)]
      exact write_loop (rbody key value) (by omega) (by omega) (numOf (rbody key value).length - ((rbody key value).length + 1)) k ((rbody key value).length + 1) (by omega) (by omega)
    · exact text_loop key value (by omega) (numOf (rbody key value).length - 1) k 1 (by omega) (by omega)
  · have e:rt key value = ((⟨#[]⟩:ByteArray),chk key value):=if_neg h
    rw [if_neg h,if_neg h,e]
    exact ⟨rfl,rfl⟩
theorem less_nil (l:List UInt8) (h:l ≠ []):Op.bytesLess [] l = true:=by
  cases l with
  | nil=>exact absurd rfl h
  | cons a l=>rfl
theorem chk_ne (key value:ByteArray) (h:chk key value = 0):key.toList ≠ []:=by
  intro e
  rw [toList_data] at e
  have hz:key.size = 0:=by rw [← size_list,e];rfl
  rw [show chk key value = 1 from if_pos (.inl (by omega))] at h
  exact absurd h (by decide)
theorem paxchk_from (l:List S78) (hl:l.length ≤ 12) (d:Nat):∀ (k i:Nat),i + d = l.length→d + 700 < k →
    ∃ t,pax_Check.l0 k l l (l.length:Int) (i:Int) = some t∧creelref_PaxFault.l0 k (if i = 0 then (⟨#[]⟩:ByteArray) else (rd_T78 l ((i - 1:Nat):Int)).f0) l (l.length:Int) (i:Int) = some t∧(t = 0 ∨ 0 < t):=by
  induction d with
  | zero =>
    intro k i hi hk
    obtain ⟨k,rfl⟩:∃ q,k = q + 1:=⟨k - 1,by omega⟩
    refine ⟨0,?_,?_,.inl rfl⟩
    · simp only [pax_Check.l0]
      rw [if_neg (by omega)]
    · simp only [creelref_PaxFault.l0]
      rw [if_neg (by omega)]
  | succ d ih =>
    intro k i hi hk
    obtain ⟨k,rfl⟩:∃ q,k = q + 1:=⟨k - 1,by omega⟩
    obtain ⟨c1,c2⟩:=chk_val (rd_T78 l (i:Int)).f0 (rd_T78 l (i:Int)).f1 k (by omega)
    obtain ⟨t,h1,h2,h3⟩:=ih k (i + 1) (by omega) (by omega)
    rw [if_neg (by omega),Nat.add_sub_cancel] at h2
    have e1:wrap64 ((i:Int) + 1) = ((i + 1:Nat):Int):=by rw [wrap_nat (by omega) (by omega)];rfl
    simp only [pax_Check.l0,creelref_PaxFault.l0]
    rw [c1,c2,e1]
    clear e1
    rw [if_pos (show (i:Int) < (l.length:Int) by omega),if_pos (show (0:Int) ≤ (i:Int) by omega),if_pos (show (i:Int) < (l.length:Int) by omega),if_pos (show (i:Int) < (l.length:Int) by omega),if_pos (show (0:Int) ≤ (i:Int) by omega),if_pos (show (i:Int) < (l.length:Int) by omega)]
    iterate 2 (try rw [Option.bind_some])
    by_cases h0:chk (rd_T78 l (i:Int)).f0 (rd_T78 l (i:Int)).f1 = 0
    · rw [if_pos h0,if_pos h0]
      by_cases hi0:i = 0
      · rw [if_neg (by omega),if_pos hi0]
        have hb:Op.bytesLess (⟨#[]⟩:ByteArray).toList ((rd_T78 l (i:Int)).f0).toList = true:=by
          have e:(⟨#[]⟩:ByteArray).toList = []:=by rw [toList_data]
          rw [e]
          exact less_nil _ (chk_ne _ _ h0)
        rw [if_pos hb]
        exact ⟨t,h1,h2,h3⟩
      · have e2:wrap64 ((i:Int) - 1) = ((i - 1:Nat):Int):=by rw [wrap_nat (by omega) (by omega)];omega
        rw [if_pos (by omega),e2,if_neg hi0]
        clear e2
        rw [if_pos (by omega),if_pos (by omega)]
        split
        · exact ⟨t,h1,h2,h3⟩
        · exact ⟨6,rfl,rfl,.inr (by decide)⟩
    · rw [if_neg h0,if_neg h0]
      refine ⟨_,rfl,rfl,.inr ?_⟩
      unfold chk at h0 ⊢
      split
      · decide
      · rename_i c
        rw [if_neg c] at h0
        split
        · decide
        · rename_i c'
          rw [if_neg c'] at h0
          exact absurd rfl h0
theorem paxchk (l:List S78) (k:Nat) (hk:800 < k):∃ t,pax_Check.f k l = some t∧creelref_PaxFault.f k l = some t∧(t = 0→l.length ≤ 12):=by
  unfold pax_Check.f creelref_PaxFault.f
  by_cases h:l.length ≤ 12
  · obtain ⟨t,h1,h2,_⟩:=paxchk_from l h l.length k 0 (by omega) (by omega)
    rw [if_pos rfl] at h2
    rw [if_neg (by omega),if_neg (by omega)]
    exact ⟨t,h1,h2,fun _=>h⟩
  · rw [if_pos (by omega),if_pos (by omega)]
    exact ⟨1,rfl,rfl,fun e=>absurd e (by decide)⟩
def cat (g:Nat→ByteArray):Nat→Nat→ByteArray
  | _,0=>⟨#[]⟩
  | i,d + 1=>g i ++ cat g (i + 1) d
theorem app_nil (x:ByteArray):x ++ (⟨#[]⟩:ByteArray) = x:=by
  apply ext_list
  simp [ByteArray.data_append]
theorem nil_app (x:ByteArray):(⟨#[]⟩:ByteArray) ++ x = x:=by
  apply ext_list
  simp [ByteArray.data_append]
theorem app_app (x y z:ByteArray):x ++ y ++ z = x ++ (y ++ z):=by
  apply ext_list
  simp [ByteArray.data_append]
theorem cat_snoc (g:Nat→ByteArray) (d:Nat):∀ i,cat g i (d + 1) = cat g i d ++ g (i + d):=by
  induction d with
  | zero=>intro i;show g i ++ ⟨#[]⟩ = ⟨#[]⟩ ++ g (i + 0);rw [app_nil,nil_app,Nat.add_zero]
  | succ d ih =>
    intro i
    show g i ++ cat g (i + 1) (d + 1) = (g i ++ cat g (i + 1) d) ++ g (i + (d + 1))
    rw [ih (i + 1),app_app,show i + 1 + d = i + (d + 1) from by omega]
theorem rt_small (key value:ByteArray):(rt key value).1.size ≤ 1000:=by
  unfold rt
  by_cases h:chk key value = 0
  · rw [if_pos h]
    have hsz:¬ (key.size < 1 ∨ 60 < key.size ∨ 500 < value.size):=by
      intro h'
      rw [show chk key value = 1 from if_pos h'] at h
      exact absurd h (by decide)
    have hlen:=rbody_len key value
    obtain ⟨n1,n2,n3,_⟩:=num_fix (rbody key value).length (by omega) (by omega)
    rw [tx_size,List.length_append,Lib.decDigits_length]
    omega
  · rw [if_neg h]
    exact Nat.zero_le _
def gT (l:List S78) (i:Nat):ByteArray:=(rt (rd_T78 l (i:Int)).f0 (rd_T78 l (i:Int)).f1).1
theorem wr_loop (l:List S78) (hl:l.length ≤ 12) (d:Nat):∀ (k i:Nat) (acc:ByteArray),i + d = l.length→acc.size ≤ i * 1000→d + 1100 < k→pax_Write.l0 k l acc (i:Int) = some (acc ++ cat (gT l) i d,0):=by
  induction d with
  | zero =>
    intro k i acc hi ha hk
    obtain ⟨k,rfl⟩:∃ q,k = q + 1:=⟨k - 1,by omega⟩
    rw [pax_Write.l0,if_neg (by omega)]
    show _ = some (acc ++ ⟨#[]⟩,0)
    rw [app_nil]
  | succ d ih =>
    intro k i acc hi ha hk
    obtain ⟨k,rfl⟩:∃ q,k = q + 1:=⟨k - 1,by omega⟩
    have hr:=(rt_val (rd_T78 l (i:Int)).f0 (rd_T78 l (i:Int)).f1 k (by omega)).1
    have hs:=rt_small (rd_T78 l (i:Int)).f0 (rd_T78 l (i:Int)).f1
    have e1:wrap64 ((i:Int) + 1) = ((i + 1:Nat):Int):=by rw [wrap_nat (by omega) (by omega)];rfl
    rw [pax_Write.l0,if_pos (by omega),if_pos (by omega),hr,Option.bind_some,if_pos (by omega),e1]
    clear e1
    rw [ih k (i + 1) _ (by omega) (by rw [ByteArray.size_append];omega) (by omega)]
    show some (acc ++ gT l i ++ cat (gT l) (i + 1) d,(0:Int)) = some (acc ++ (gT l i ++ cat (gT l) (i + 1) d),0)
    rw [app_app]
theorem tx_loop (l:List S78) (hl:l.length ≤ 12) (i:Nat):∀ (k:Nat) (acc:ByteArray),i ≤ l.length→acc.size + i * 1000 ≤ 20000→i + 1100 < k→creelref_PaxText.l0 k l acc ((i:Int) - 1) = some (cat (gT l) 0 i ++ acc,0):=by
  induction i with
  | zero =>
    intro k acc hi ha hk
    obtain ⟨k,rfl⟩:∃ q,k = q + 1:=⟨k - 1,by omega⟩
    rw [creelref_PaxText.l0,if_neg (by omega)]
    show _ = some ((⟨#[]⟩:ByteArray) ++ acc,(0:Int))
    rw [nil_app]
  | succ i ih =>
    intro k acc hi ha hk
    obtain ⟨k,rfl⟩:∃ q,k = q + 1:=⟨k - 1,by omega⟩
    have hr:=(rt_val (rd_T78 l (i:Int)).f0 (rd_T78 l (i:Int)).f1 k (by omega)).2
    have hs:=rt_small (rd_T78 l (i:Int)).f0 (rd_T78 l (i:Int)).f1
    have e1:wrap64 ((i:Int) - 1) = (i:Int) - 1:=by unfold wrap64;omega
    rw [show (((i + 1:Nat):Int) - 1) = (i:Int) from by omega,creelref_PaxText.l0,if_pos (by omega),if_pos (by omega),if_pos (by omega),hr,Option.bind_some,if_pos (by omega),e1]
    clear e1
    rw [ih k _ (by omega) (by rw [ByteArray.size_append];omega) (by omega),cat_snoc,Nat.zero_add,app_app]
    rfl
theorem cat_small (g:Nat→ByteArray) (hg:∀ i,(g i).size ≤ 1000) (d:Nat):∀ i,(cat g i d).size ≤ d * 1000:=by
  induction d with
  | zero=>intro i;exact Nat.zero_le _
  | succ d ih =>
    intro i
    rw [cat_snoc,ByteArray.size_append]
    have:=ih i
    have:=hg (i + d)
    omega
theorem pax_same (l:List S78):∃ r:ByteArray × Int,Ev (fun k=>pax_Write.f k l) r∧Ev (fun k=>creelref_PaxText.f k l) r∧r.1.size ≤ 20000:=by
  obtain ⟨t,h1,h2,h3⟩:=paxchk l 2000 (by omega)
  by_cases h0:t = 0
  · have hl:=h3 h0
    have hw:=wr_loop l hl l.length 2000 0 ⟨#[]⟩ (by omega) (Nat.zero_le _) (by omega)
    have e1:wrap64 ((l.length:Int) - 1) = (l.length:Int) - 1:=by unfold wrap64;omega
    have ht:=tx_loop l hl l.length 2000 ⟨#[]⟩ (by omega) (by show 0 + _ ≤ _;omega) (by omega)
    rw [show ((0:Nat):Int) = 0 from rfl,nil_app] at hw
    rw [app_nil] at ht
    refine ⟨(cat (gT l) 0 l.length,0),Ev.of (fun k=>pax_Write.mono l k) (k:=2000) ?_,Ev.of (fun k=>creelref_PaxText.mono l k) (k:=2000) ?_,?_⟩
    · unfold pax_Write.f
      rw [h1,Option.bind_some,if_pos h0,hw]
    · unfold creelref_PaxText.f
      rw [h2,Option.bind_some,if_pos h0,e1,ht]
    · have:=cat_small (gT l) (fun i=>rt_small _ _) l.length 0
      show (cat (gT l) 0 l.length).size ≤ 20000
      omega
  · refine ⟨((⟨#[]⟩:ByteArray),t),Ev.of (fun k=>pax_Write.mono l k) (k:=2000) ?_,Ev.of (fun k=>creelref_PaxText.mono l k) (k:=2000) ?_,by show (⟨#[]⟩:ByteArray).size ≤ 20000;decide⟩
    · unfold pax_Write.f
      rw [h1,Option.bind_some,if_neg h0]
    · unfold creelref_PaxText.f
      rw [h2,Option.bind_some,if_neg h0]
end Go.Proofs.YtenbelecmmpdgaaGreatDoor.Q
end
