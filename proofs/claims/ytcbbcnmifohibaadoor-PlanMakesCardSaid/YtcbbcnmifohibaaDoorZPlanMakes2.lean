/- Made by programs of the prover: walks of Go functions, the words that they use, and plain laws, each text in a section of its own; no condition of its own. -/
import Derived.Laws.Strings
import Derived.Maps.Ext
import Derived.Maps.OwnSet
import Derived.Maps.OwnOps
import Derived.Maps.Views
import Derived.Below
import Derived.Shelf.Small.Strs
import Derived.Shelf.Strings.Search2
import Derived.Shelf.Strings.Search3
import Derived.Shelf.Strings.Count
import Derived.Shelf.LaysM
import Derived.Shelf.Strings.LastIndex
import Derived.Shelf.Strings.Prefix
import Derived.Test.YtcbbcnmifohibaaDoorProg
import Derived.StillTailTactics
import Derived.Lib.TrimU
import Derived.Lib.OthersKept
import Derived.Shelf.Strings.SplitCore
import Derived.Lib.SplitLaws
import Derived.Lib.IndexBytes
import Derived.Shelf.Strings.SlTrimAscii
import Derived.Lib.SmallJoins
import Derived.Deep.Draws
import Derived.Deep.AppendLies
import Derived.Maps.AppendAt
import Derived.OwnWalk
import Derived.Laws.BytesArg
import Derived.Laws.MakeOwn
import Derived.Laws.OwnMore
import Derived.Deep.OwnRows
import Derived.Tactics
import Derived.Lib.ConvBytes
import Derived.Laws.Slices
import Derived.WalkKit
import Derived.KernelRfl
import Derived.RowKit3
import Derived.Deep.LoopGhost
import Derived.Deep.QuietTactic
import Derived.BigQuiet
import Derived.WideLaws
import Derived.Deep.DeepCutAuto
import Derived.Deep.CutBlock
import Derived.Deep.RegionHeld3
import Derived.Laws.Rows
import Derived.Lib.AppendStr
import Derived.ArgAppend
import Derived.Laws.IdiomCopy
import Derived.OrdersHeld
import Derived.Laws.BitsLemmas
import Derived.RowKit
import Derived.Test.YtcbbcnmifohibaaDoorZPlanMakes1
section
namespace Go.Proofs.YtcbbcnmifohibaaDoorW.Mine
open Go.RowKit
theorem bytesLess_swap:∀ a b:List UInt8,(!(Op.bytesLess a b || a == b)) = Op.bytesLess b a
  | [],[]=>by simp [Op.bytesLess]
  | [],b :: y=>by simp [Op.bytesLess]
  | a :: x,[]=>by simp [Op.bytesLess]
  | a :: x,b :: y=>by
    have ih:=bytesLess_swap x y
    simp only [Op.bytesLess]
    by_cases h1:a < b
    · have h2:¬ b < a:=by rw [UInt8.lt_iff_toNat_lt] at h1 ⊢;omega
      have h3:(b == a) = false:=by
        rw [beq_eq_false_iff_ne]
        rintro rfl
        rw [UInt8.lt_iff_toNat_lt] at h1
        omega
      simp [h1,h2,h3]
    · by_cases h2:b < a
      · have h3:(a == b) = false:=by
          rw [beq_eq_false_iff_ne]
          rintro rfl
          rw [UInt8.lt_iff_toNat_lt] at h2
          omega
        simp [h1,h2,h3]
      · have e:a = b:=by
          apply UInt8.toNat_inj.1
          rw [UInt8.lt_iff_toNat_lt] at h1 h2
          omega
        subst e
        simp [h1,← ih]
theorem gtr_string (t:TypeId) (a b:ByteArray):binOp .gtr t (.string a) (.string b) = pure (.bool (Op.bytesLess b.toList a.toList)):=by
  have:binOp .gtr t (.string a) (.string b) = pure (.bool !(Op.bytesLess a.toList b.toList || a.toList == b.toList)):=by simp [binOp,Op.stringOp]
  rw [this,bytesLess_swap]
theorem leq_string (t:TypeId) (a b:ByteArray):binOp .leq t (.string a) (.string b) = pure (.bool (!Op.bytesLess b.toList a.toList)):=by
  have:binOp .leq t (.string a) (.string b) = pure (.bool (Op.bytesLess a.toList b.toList || a.toList == b.toList)):=by simp [binOp,Op.stringOp]
  rw [this,← bytesLess_swap a.toList b.toList,Bool.not_not]
theorem geq_string (t:TypeId) (a b:ByteArray):binOp .geq t (.string a) (.string b) = pure (.bool (!Op.bytesLess a.toList b.toList)):=by simp [binOp,Op.stringOp]
end Go.Proofs.YtcbbcnmifohibaaDoorW.Mine
end
section
namespace Go.Proofs.YtcbbcnmifohibaaDoorW.MapOwn
set_option linter.unusedVariables false
set_option linter.unusedSimpArgs false
open Go Go.RowKit Go.Maps Go.Proofs.YtcbbcnmifohibaaDoorW.PrintWords
def asIs (v:Value):Option (DataW Value × List MemPlace):=some (.held v,[])
section
variable {α κ:Type} [DecidableEq κ] {lit:κ→Lit} {P:Program} {k:TypeId} {w w':World} {b n:Nat} {Rep:α→Value→Prop} {m:List (κ × α)} {kl:κ}
def get (m:List (κ × α)) (kl:κ):Option α:=(m.find? fun p=>decide (p.1 = kl)).map (·.2)
theorem get_nil (kl:κ):get ([]:List (κ × α)) kl = none:=rfl
theorem get_same (m:List (κ × α)) (kl:κ) (x:α):get ((kl,x) :: m) kl = some x:=by simp [get]
theorem get_other (m:List (κ × α)) {kl kl':κ} (x:α) (h:kl' ≠ kl):get ((kl',x) :: m) kl = get m kl:=by
  simp [get,List.find?_cons,h]
def MapAt (lit:κ→Lit) (P:Program) (k:TypeId) (Rep:α→Value→Prop) (w:World) (b n:Nat) (m:List (κ × α)):Prop :=
  ∃ D:DataW Value,w.ownsMap P k asIs b n D∧∀ kl,match get m kl with
    | some y=>Maps.has D (lit kl) = true∧∃ v,Rep y v∧∀ z,D.atKey (lit kl) z = .held v
    | none=>Maps.has D (lit kl) = false∧∀ z,D.atKey (lit kl) z = z
theorem MapAt.hit (h:MapAt lit P k Rep w b n m) {y:α} (hg:get m kl = some y):∃ D:DataW Value,w.ownsMap P k asIs b n D∧Maps.has D (lit kl) = true∧∃ v,Rep y v∧∀ z,D.atKey (lit kl) z = .held v:=by
  obtain ⟨D,h1,h2⟩:=h
  have:=h2 kl
  rw [hg] at this
  exact ⟨D,h1,this⟩
theorem MapAt.miss (h:MapAt lit P k Rep w b n m) (hg:get m kl = none):∃ D:DataW Value,w.ownsMap P k asIs b n D∧Maps.has D (lit kl) = false∧∀ z,D.atKey (lit kl) z = z:=by
  obtain ⟨D,h1,h2⟩:=h
  have:=h2 kl
  rw [hg] at this
  exact ⟨D,h1,this⟩
theorem MapAt.made (lit:κ→Lit) (w:World) (P:Program) (k:TypeId) (Rep:α→Value→Prop):MapAt lit P k Rep (w.alloc (.map #[] 0)) w.heap.size 0 [] :=
  ⟨.map [],World.ownsMap_made w P k asIs,fun kl=>⟨rfl,fun z=>rfl⟩⟩
theorem MapAt.mono (h:MapAt lit P k Rep w b n m) {n':Nat} (hn:n ≤ n'):MapAt lit P k Rep w b n' m:=by
  obtain ⟨D,h1,h2⟩:=h
  exact ⟨D,h1.mono hn,h2⟩
theorem MapAt.lt (h:MapAt lit P k Rep w b n m):b < w.heap.size:=by
  obtain ⟨D,h1,h2⟩:=h
  exact h1.lt
theorem MapAt.kept {row:Option Nat} (h:MapAt lit P k Rep w b n m) (hg:w.grownBy w' row) (hne:some b ≠ row):MapAt lit P k Rep w' b n m:=by
  obtain ⟨D,h1,h2⟩:=h
  exact ⟨D,h1.kept hg hne,h2⟩
theorem MapAt.same (h:MapAt lit P k Rep w b n m) (hb:w'.heap[b]? = w.heap[b]?):MapAt lit P k Rep w' b n m:=by
  obtain ⟨D,⟨es,clock,hes,r⟩,h2⟩:=h
  exact ⟨D,⟨es,clock,hb.trans hes,r⟩,h2⟩
theorem MapAt.below (h:MapAt lit P k Rep w b n m) (hb:Below w.heap.size w w'):MapAt lit P k Rep w' b n m:=h.same (hb.block b h.lt)
theorem MapAt.put (h:MapAt lit P k Rep w b n m) (inj:∀ a b:κ,lit a = lit b→a = b) (K:Keyed P k) {t e:TypeId} (ht:P.underlying t = some (.map k e)) (hn:n < maxLen) {key val:Value} (hkey:keyOf P k key = some (lit kl)) {x:α} (hx:Rep x val) :
    ∃ w',(Instr.mapUpdate t (.map (some b)) key val).run P w = .ok () w'∧MapAt lit P k Rep w' b (n + 1) ((kl,x) :: m)∧w.mapTurned w' b:=by
  obtain ⟨D,h1,h2⟩:=h
  obtain ⟨w1,hrun,hown,hgr⟩:=h1.store K ht hn hkey (show asIs val = some (.held val,[]) from rfl)
  refine ⟨w1,hrun,⟨_,hown,fun kl'=>?_⟩,hgr⟩
  by_cases e:kl = kl'
  · subst e
    rw [get_same]
    exact ⟨Maps.has_put_same h1.isMap (K.key hkey) _,val,hx,fun z=>Maps.atKey_put_same h1.isMap (K.key hkey) _ z⟩
  · rw [get_other _ _ e]
    have:=h2 kl'
    rw [Maps.has_put_other (fun e1=>e (inj _ _ e1).symm)]
    cases hg:get m kl' with
    | none=>rw [hg] at this;exact ⟨this.1,fun z=>(Maps.atKey_put_other (fun e1=>e (inj _ _ e1).symm) _ z).trans (this.2 z)⟩
    | some y =>
      rw [hg] at this
      obtain ⟨a1,v,a2,a3⟩:=this
      exact ⟨a1,v,a2,fun z=>(Maps.atKey_put_other (fun e1=>e (inj _ _ e1).symm) _ z).trans (a3 z)⟩
end
section
variable {α κ:Type} [DecidableEq κ] {lit:κ→Lit} {P:Program} {k:TypeId} {Rep:α→Value→Prop} {m:List (κ × α)} {kl:κ} (w:World) {ops:Array Oper} {rest:List Oper} {o:Oper} {a:Act} {Q:Exit→Act→World→Prop}
theorem wpList_want (hw:Region.wanted o (yielded ops a.tmps) = true) (h:∀ K:Act→World→Prop,(∀ a w,wpList P ops Q rest a w→K a w)→o.wp P a w K Q):wpList P ops Q (o :: rest) a w :=
  wpList_step fun K hK=>by rw [if_pos hw];exact h K hK
theorem MapAt.run_ok_hit {b n:Nat} (h:MapAt lit P k Rep w b n m) (K:Keyed P k) {t e:TypeId} (ht:P.underlying t = some (.map k e)) {z:Value} (hz:(zeroValue e).run P w = .ok z w) {key:Value} (hkey:keyOf P k key = some (lit kl)) {y:α} (hget:get m kl = some y) :
    ∃ v,Rep y v∧(Instr.lookup t (.map (some b)) key true).run P w = .ok (.tuple #[v,.bool true]) w:=by
  obtain ⟨D,h1,h2,v,h3,h4⟩:=h.hit hget
  obtain ⟨v',ps,hrun,hv⟩:=h1.look_ok K ht hz (show asIs z = some (.held z,[]) from rfl) hkey
  rw [h4] at hv
  simp only [asIs,Option.some.injEq,Prod.mk.injEq,DataW.held.injEq] at hv
  exact ⟨v,h3,by rw [hrun,hv.1,h2]⟩
theorem MapAt.run_ok_miss {b n:Nat} (h:MapAt lit P k Rep w b n m) (K:Keyed P k) {t e:TypeId} (ht:P.underlying t = some (.map k e)) {z:Value} (hz:(zeroValue e).run P w = .ok z w) {key:Value} (hkey:keyOf P k key = some (lit kl)) (hget:get m kl = none) :
    (Instr.lookup t (.map (some b)) key true).run P w = .ok (.tuple #[z,.bool false]) w:=by
  obtain ⟨D,h1,h2,h4⟩:=h.miss hget
  obtain ⟨v',ps,hrun,hv⟩:=h1.look_ok K ht hz (show asIs z = some (.held z,[]) from rfl) hkey
  rw [h4] at hv
  simp only [asIs,Option.some.injEq,Prod.mk.injEq,DataW.held.injEq] at hv
  rw [hrun,hv.1,h2]
theorem wp_look_ok_hit (hg:Region.wanted o (yielded ops a.tmps) = true) (mo x:Operand) (t:TypeId) (hop:o.op = Op.lookup t mo x true) (e:TypeId) (K:Keyed P k) (ht:P.underlying t = some (.map k e)) {z:Value} (hz:(zeroValue e).run P w = .ok z w)
    (b n:Nat) (hm:a.eval mo = .map (some b)) (h:MapAt lit P k Rep w b n m) (key:Value) (hx:a.eval x = key) (hkey:keyOf P k key = some (lit kl)) {y:α} (hget:get m kl = some y)
    (hK:∀ v,Rep y v→wpList P ops Q rest (a.put o.dst (.tuple #[v,.bool true])) w):wpList P ops Q (o :: rest) a w:=by
  refine wpList_want w hg fun K' hK'=>?_
  obtain ⟨v,h3,hrun⟩:=h.run_ok_hit w K ht hz hkey hget
  unfold Oper.wp
  simp [execOp,hop,hm,hx,hrun,Result.andThen]
  exact hK' _ _ (hK v h3)
theorem wp_look_ok_miss (hg:Region.wanted o (yielded ops a.tmps) = true) (mo x:Operand) (t:TypeId) (hop:o.op = Op.lookup t mo x true) (e:TypeId) (K:Keyed P k) (ht:P.underlying t = some (.map k e)) {z:Value} (hz:(zeroValue e).run P w = .ok z w)
    (b n:Nat) (hm:a.eval mo = .map (some b)) (h:MapAt lit P k Rep w b n m) (key:Value) (hx:a.eval x = key) (hkey:keyOf P k key = some (lit kl)) (hget:get m kl = none)
    (hK:wpList P ops Q rest (a.put o.dst (.tuple #[z,.bool false])) w):wpList P ops Q (o :: rest) a w:=by
  refine wpList_want w hg fun K' hK'=>?_
  have hrun:=h.run_ok_miss w K ht hz hkey hget
  unfold Oper.wp
  simp [execOp,hop,hm,hx,hrun,Result.andThen]
  exact hK' _ _ hK
theorem wp_put (inj:∀ a b:κ,lit a = lit b→a = b) (hg:Region.wanted o (yielded ops a.tmps) = true) (mo x v:Operand) (t:TypeId) (hop:o.op = Op.mapUpdate t mo x v) (e:TypeId) (K:Keyed P k) (ht:P.underlying t = some (.map k e))
    (b n:Nat) (hm:a.eval mo = .map (some b)) (h:MapAt lit P k Rep w b n m) (hn:n < maxLen) (key val:Value) (hx:a.eval x = key) (hv:a.eval v = val) (hkey:keyOf P k key = some (lit kl)) {y:α} (hy:Rep y val)
    (hK:∀ w',MapAt lit P k Rep w' b (n + 1) ((kl,y) :: m)→w.grownBy w' (some b)→wpList P ops Q rest (a.put o.dst undef) w'):wpList P ops Q (o :: rest) a w:=by
  refine wpList_want w hg fun K' hK'=>?_
  obtain ⟨w',hrun,r1,r2⟩:=h.put inj K ht hn hkey hy
  unfold Oper.wp
  simp [execOp,hop,hm,hx,hv,hrun,Result.andThen]
  exact hK' _ _ (hK w' r1 r2.grown)
end
theorem add_add (ad:Addr) (a b:Nat):(ad.add a).add b = ad.add (a + b):=by
  unfold Addr.add
  by_cases h1:b = 0
  · subst h1;simp
  · by_cases h2:a = 0
    · simp [h1,h2]
    · rw [if_neg h1,if_neg h2,if_neg (by omega)];simp [Nat.add_assoc]
structure Held (w W:World) (g:Nat) (t:TypeId) (cs:Array Value):Prop where
  below:Below w.heap.size w W
  le:w.heap.size ≤ g
  blk:W.heap[g]? = some (.cells cs t (0,0))
section
variable {w W W':World} {g g2:Nat} {t:TypeId} {cs cs':Array Value}
theorem Held.step (h:Held w W g t cs) (hb:Below W.heap.size W W'):Held w W' g t cs:=⟨below_step h.below hb,h.le,blk_below h.blk hb⟩
theorem Held.drewN (h:Held w W g t cs) (q:Nat):Held w (W.drewN q) g t cs:=h.step (pwbN (Below.refl _ _) q)
theorem Held.put (h:Held w W g t cs) (hk:W'.heap[g]? = some (.cells cs' t (0,0))) (hg:W.grownBy W' (some g)):Held w W' g t cs' :=
  ⟨h.below.grown hg h.below.size (fun k hk=>by cases hk;exact h.le),h.le,hk⟩
theorem Held.other (h:Held w W g t cs) (hg:W.grownBy W' (some g2)) (h1:w.heap.size ≤ g2) (h2:g ≠ g2):Held w W' g t cs :=
  ⟨h.below.grown hg h.below.size (fun k hk=>by cases hk;exact h1),h.le,blk_grown h.blk hg (fun e=>h2 (by injection e))⟩
theorem Held.box (h:Below w.heap.size w W) (hg:g = W.heap.size) (hk:W'.heap[g]? = some (.cells cs t (0,0))) (hb:Below W.heap.size W W'):Held w W' g t cs:=⟨below_step h hb,by rw [hg];exact h.size,hk⟩
theorem Held.lt (h:Held w W g t cs):g < W.heap.size:=blk_lt h.blk
end
section
variable {P:Program} {ops:Array Oper} {rest:List Oper} {o:Oper} {a:Act} {Q:Exit→Act→World→Prop} {W:World}
theorem run_loadAt_cells {t:TypeId} {s:TypeDesc} (hu:P.underlying t = some s) (hs:(match s with|.struct _=>true|.array _ _=>true|_=>false) = true) {cs:List Value} (hsz:(P.info? t).map (·.size) = some cs.length) {ad:Addr}
    (hc:∀ j v,cs[j]? = some v→W.cell? (ad.add j) = some v):(Instr.loadAt t (.pointer (some ad))).run P W = .ok (.agg cs.toArray) W:=by
  have hl:=run_loadCells_list (P:=P) W ad cs hc
  cases hq:P.info? t with
  | none=>simp [hq] at hsz
  | some i =>
    have h1:i.size = cs.length:=by simpa [hq] using hsz
    cases s <;> simp at hs <;> simp [Instr.loadAt,Instr.sureAddr,loadVar,isAgg,run_underlying hu,sizeOf,typeInfo,hq,h1,hl,Result.andThen]
theorem load_event (hgd:Region.wanted o (yielded ops a.tmps) = true) {t:TypeId} {p:Operand} (ho:o.op = .load t p) {s:TypeDesc} (hu:P.underlying t = some s) (hs:(match s with|.struct _=>true|.array _ _=>true|_=>false) = true) {ad:Addr} (hp:a.eval p = .pointer (some ad))
    {cs:List Value} (hsz:(P.info? t).map (·.size) = some cs.length) (hc:∀ j v,cs[j]? = some v→W.cell? (ad.add j) = some v) (h:wpList P ops Q rest (a.put o.dst (.agg cs.toArray)) W):wpList P ops Q (o :: rest) a W:=by
  refine wpList_want _ hgd fun K hK=>?_
  unfold Oper.wp execOp
  simp only [ho,hp,Sem.run_bind,run_loadAt_cells hu hs hsz hc,Result.andThen_ok,Sem.run_pure,Oper.upon_value]
  exact hK _ _ h
theorem cells_of_blk {g:Nat} {cs:List Value} {t:TypeId} (h:W.heap[g]? = some (.cells cs.toArray t (0,0))):∀ j v,cs[j]? = some v→W.cell? ((⟨g,0,none⟩:Addr).add j) = some v:=by
  intro j v hv
  have hadd:(⟨g,0,none⟩:Addr).add j = ⟨g,j,none⟩:=by unfold Addr.add;split <;> simp_all
  rw [hadd]
  simp [World.cell?,h,hv]
theorem put_event (hgd:Region.wanted o (yielded ops a.tmps) = true) (hd:o.dst = none) {ty:TypeId} {x y:Operand} (ho:o.op = .store ty x y) {g:Nat} {cells old:Array Value} {t:TypeId} (hx:a.eval x = .pointer (some ⟨g,0,none⟩)) (hy:a.eval y = .agg cells)
    (hg:W.heap[g]? = some (.cells old t (0,0))) (hi:(P.info? ty).map (·.size) = some cells.size) (hold:old.size = cells.size) (h1:cells.toList.all (·.oneCell') = true)
    (h:∀ W',W'.heap[g]? = some (.cells cells t (0,0))→W.grownBy W' (some g)→wpList P ops Q rest a W'):wpList P ops Q (o :: rest) a W:=by
  refine wpList_want _ hgd fun K hK=>?_
  refine wp_store_row ty x y ho g cells hx hy t old hg hi hold (by rw [← h1,Array.all_toList]) ?_
  rw [hd]
  refine hK _ _ (h _ (setRow_heap W g old cells t (0,0) hg) ⟨rfl,rfl,rfl,by simp [World.setRow],fun k hk hne=>?_⟩)
  simp only [World.setRow,Array.getElem?_modify]
  rw [if_neg (fun e=>hne (by rw [e]))]
end
theorem below_grown {B b:Nat} {w w1 w2:World} (h:Below B w w1) (hg:w1.grownBy w2 (some b)) (hB:B ≤ b) (hb:b < w1.heap.size):Below B w w2:=h.grown hg (Nat.le_trans hB (Nat.le_of_lt hb)) (fun k hk=>by cases hk;exact hB)
end Go.Proofs.YtcbbcnmifohibaaDoorW.MapOwn
end
section
namespace Go.Proofs
open Go.Shelf
def Tryd.lays137_ren:Go.Shelf.Ren:=⟨fun|137=>59|217=>83|266=>96|n=>n,fun|9=>9|5=>5|3=>3|n=>n,fun|n=>n⟩
theorem Tryd.lays137:Go.Proofs.Lays.n137 Tryd.prog Tryd.lays137_ren:={
  mixed:=by kernel_rfl
  f137:=Tryd.func59.trans (congrArg some (by kernel_rfl))
  f217:=Tryd.func83.trans (congrArg some (by kernel_rfl))
  f266:=Tryd.func96.trans (congrArg some (by kernel_rfl))
  t3:=Tryd.underlying3
  a3:=Tryd.isAgg3
  z3:=Tryd.sizeOf3
  v3:=Tryd.zeroValue3
  t5:=Tryd.underlying5
  a5:=Tryd.isAgg5
  z5:=Tryd.sizeOf5
  v5:=Tryd.zeroValue5
  t9:=Tryd.underlying9
  a9:=Tryd.isAgg9
  z9:=Tryd.sizeOf9
  v9:=Tryd.zeroValue9 }
open Go.RowKit in
theorem Tryd.strings_IndexByte (s:ByteArray) (c:Int) (w:World) :
    Calls Tryd.prog 59 #[.string s,.int .u8 c] w fun e w'=>e = .returned (.int .i64 (Lib.indexByte s.data.toList c.toNat.toUInt8))∧w' = w:=Any.strings_IndexByte Tryd.lays137 s c w
def Tryd.lays219_ren:Go.Shelf.Ren:=⟨fun|219=>104|217=>83|225=>106|224=>107|267=>108|266=>96|314=>109|n=>n,fun|9=>9|3=>3|4=>4|5=>5|46=>106|146=>123|51=>122|n=>n,fun|1=>0|n=>n⟩
open Go.RowKit Go.Lib in
def Tryd.lays143_ren:Go.Shelf.Ren:=⟨fun|143=>94|219=>104|217=>83|225=>106|224=>107|267=>108|266=>96|314=>109|n=>n,fun|9=>9|3=>3|4=>4|5=>5|46=>106|146=>123|51=>122|n=>n,fun|1=>0|n=>n⟩
theorem Tryd.lays143:Go.Proofs.Lays.n143 Tryd.prog Tryd.lays143_ren:={
  mixed:=by kernel_rfl
  f143:=Tryd.func94.trans (congrArg some (by kernel_rfl))
  f217:=Tryd.func83.trans (congrArg some (by kernel_rfl))
  f219:=Tryd.func104.trans (congrArg some (by kernel_rfl))
  f224:=Tryd.func107.trans (congrArg some (by kernel_rfl))
  f225:=Tryd.func106.trans (congrArg some (by kernel_rfl))
  f266:=Tryd.func96.trans (congrArg some (by kernel_rfl))
  f267:=Tryd.func108.trans (congrArg some (by kernel_rfl))
  f314:=Tryd.func109.trans (congrArg some (by kernel_rfl))
  t3:=Tryd.underlying3
  a3:=Tryd.isAgg3
  z3:=Tryd.sizeOf3
  v3:=Tryd.zeroValue3
  t4:=Tryd.underlying4
  a4:=Tryd.isAgg4
  z4:=Tryd.sizeOf4
  v4:=Tryd.zeroValue4
  t5:=Tryd.underlying5
  a5:=Tryd.isAgg5
  z5:=Tryd.sizeOf5
  v5:=Tryd.zeroValue5
  t9:=Tryd.underlying9
  a9:=Tryd.isAgg9
  z9:=Tryd.sizeOf9
  v9:=Tryd.zeroValue9
  t46:=Tryd.underlying106
  a46:=Tryd.isAgg106
  z46:=Tryd.sizeOf106
  v46:=Tryd.zeroValue106
  t51:=Tryd.underlying122
  a51:=Tryd.isAgg122
  z51:=Tryd.sizeOf122
  v51:=Tryd.zeroValue122
  t146:=Tryd.underlying123
  a146:=Tryd.isAgg123
  z146:=Tryd.sizeOf123
  v146:=Tryd.zeroValue123
  g1:=by kernel_rfl }
open Go.RowKit Go.Lib in
theorem Tryd.strings_Index_one (s:ByteArray) (c:UInt8) (w:World) :
    Calls Tryd.prog 94 #[.string s,.string ⟨#[c]⟩] w fun e w'=>e = .returned (.int .i64 (Lib.indexByte s.data.toList c))∧w' = w:=Any.strings_Index_one Tryd.lays143 s c w
def Tryd.lays138_ren:Go.Shelf.Ren:=⟨fun|138=>93|195=>101|218=>103|143=>94|219=>104|217=>83|225=>106|224=>107|267=>108|266=>96|314=>109|n=>n,fun|9=>9|3=>3|4=>4|5=>5|0=>0|46=>106|146=>123|51=>122|n=>n,fun|1=>0|n=>n⟩
theorem Tryd.lays138:Go.Proofs.Lays.n138 Tryd.prog Tryd.lays138_ren:={
  mixed:=by kernel_rfl
  f138:=Tryd.func93.trans (congrArg some (by kernel_rfl))
  f143:=Tryd.func94.trans (congrArg some (by kernel_rfl))
  f195:=Tryd.func101.trans (congrArg some (by kernel_rfl))
  f217:=Tryd.func83.trans (congrArg some (by kernel_rfl))
  f218:=Tryd.func103.trans (congrArg some (by kernel_rfl))
  f219:=Tryd.func104.trans (congrArg some (by kernel_rfl))
  f224:=Tryd.func107.trans (congrArg some (by kernel_rfl))
  f225:=Tryd.func106.trans (congrArg some (by kernel_rfl))
  f266:=Tryd.func96.trans (congrArg some (by kernel_rfl))
  f267:=Tryd.func108.trans (congrArg some (by kernel_rfl))
  f314:=Tryd.func109.trans (congrArg some (by kernel_rfl))
  t0:=Tryd.underlying0
  a0:=Tryd.isAgg0
  z0:=Tryd.sizeOf0
  v0:=Tryd.zeroValue0
  t3:=Tryd.underlying3
  a3:=Tryd.isAgg3
  z3:=Tryd.sizeOf3
  v3:=Tryd.zeroValue3
  t4:=Tryd.underlying4
  a4:=Tryd.isAgg4
  z4:=Tryd.sizeOf4
  v4:=Tryd.zeroValue4
  t5:=Tryd.underlying5
  a5:=Tryd.isAgg5
  z5:=Tryd.sizeOf5
  v5:=Tryd.zeroValue5
  t9:=Tryd.underlying9
  a9:=Tryd.isAgg9
  z9:=Tryd.sizeOf9
  v9:=Tryd.zeroValue9
  t46:=Tryd.underlying106
  a46:=Tryd.isAgg106
  z46:=Tryd.sizeOf106
  v46:=Tryd.zeroValue106
  t51:=Tryd.underlying122
  a51:=Tryd.isAgg122
  z51:=Tryd.sizeOf122
  v51:=Tryd.zeroValue122
  t146:=Tryd.underlying123
  a146:=Tryd.isAgg123
  z146:=Tryd.sizeOf123
  v146:=Tryd.zeroValue123
  g1:=by kernel_rfl }
open Go.RowKit Go.Lib in
theorem Tryd.strings_Count_one (s:ByteArray) (c:UInt8) (w:World) :
    Calls Tryd.prog 93 #[.string s,.string ⟨#[c]⟩] w fun e w'=>e = .returned (.int .i64 (Lib.countByte s.data.toList c))∧w' = w:=Any.strings_Count_one Tryd.lays138 s c w
def Tryd.lays149_ren:Go.Shelf.Ren:=⟨fun|149=>72|222=>89|n=>n,fun|9=>9|5=>5|3=>3|4=>4|n=>n,fun|n=>n⟩
theorem Tryd.lays149:Go.Proofs.Lays.n149 Tryd.prog Tryd.lays149_ren:={
  mixed:=by kernel_rfl
  f149:=Tryd.func72.trans (congrArg some (by kernel_rfl))
  f222:=Tryd.func89.trans (congrArg some (by kernel_rfl))
  t3:=Tryd.underlying3
  a3:=Tryd.isAgg3
  z3:=Tryd.sizeOf3
  v3:=Tryd.zeroValue3
  t4:=Tryd.underlying4
  a4:=Tryd.isAgg4
  z4:=Tryd.sizeOf4
  v4:=Tryd.zeroValue4
  t5:=Tryd.underlying5
  a5:=Tryd.isAgg5
  z5:=Tryd.sizeOf5
  v5:=Tryd.zeroValue5
  t9:=Tryd.underlying9
  a9:=Tryd.isAgg9
  z9:=Tryd.sizeOf9
  v9:=Tryd.zeroValue9 }
open Go.RowKit Go.Lib in
theorem Tryd.strings_LastIndexByte (s:ByteArray) (c:Int) (hs:s.size < 4611686018427387904) (w:World) :
    Calls Tryd.prog 72 #[.string s,.int .u8 c] w fun e w'=>e = .returned (.int .i64 (Lib.lastIndexByte s c))∧w' = w:=Any.strings_LastIndexByte Tryd.lays149 s c hs w
def Tryd.lays99_ren:Go.Shelf.Ren:=⟨fun|99=>82|206=>95|n=>n,fun|9=>9|4=>4|3=>3|n=>n,fun|n=>n⟩
theorem Tryd.lays99:Go.Proofs.Lays.n99 Tryd.prog Tryd.lays99_ren:={
  mixed:=by kernel_rfl
  f99:=Tryd.func82.trans (congrArg some (by kernel_rfl))
  f206:=Tryd.func95.trans (congrArg some (by kernel_rfl))
  t3:=Tryd.underlying3
  a3:=Tryd.isAgg3
  z3:=Tryd.sizeOf3
  v3:=Tryd.zeroValue3
  t4:=Tryd.underlying4
  a4:=Tryd.isAgg4
  z4:=Tryd.sizeOf4
  v4:=Tryd.zeroValue4
  t9:=Tryd.underlying9
  a9:=Tryd.isAgg9
  z9:=Tryd.sizeOf9
  v9:=Tryd.zeroValue9 }
open Go.RowKit Go.Lib in
theorem Tryd.strings_HasPrefix (s p:ByteArray) (w:World) :
    Calls Tryd.prog 82 #[.string s,.string p] w fun e w'=>e = .returned (.bool (Lib.hasPrefix s.data.toList p.data.toList))∧w' = w:=Any.strings_HasPrefix Tryd.lays99 s p w
def Tryd.lays221_ren:Go.Shelf.Ren:=⟨fun|221=>81|268=>92|138=>93|143=>94|195=>101|197=>102|218=>103|219=>104|260=>105|217=>83|225=>106|224=>107|267=>108|266=>96|314=>109|n=>n,fun|9=>9|3=>3|31=>51|4=>4|0=>0|105=>115|21=>21|5=>5|46=>106|119=>118|139=>121|138=>120|146=>123|51=>122|n=>n,fun|1=>0|3=>1|4=>2|n=>n⟩
theorem Tryd.lays221:Go.Proofs.Lays.n221 Tryd.prog Tryd.lays221_ren:={
  mixed:=by kernel_rfl
  f138:=Tryd.func93.trans (congrArg some (by kernel_rfl))
  f143:=Tryd.func94.trans (congrArg some (by kernel_rfl))
  f195:=Tryd.func101.trans (congrArg some (by kernel_rfl))
  f197:=Tryd.func102.trans (congrArg some (by kernel_rfl))
  f217:=Tryd.func83.trans (congrArg some (by kernel_rfl))
  f218:=Tryd.func103.trans (congrArg some (by kernel_rfl))
  f219:=Tryd.func104.trans (congrArg some (by kernel_rfl))
  f221:=Tryd.func81.trans (congrArg some (by kernel_rfl))
  f224:=Tryd.func107.trans (congrArg some (by kernel_rfl))
  f225:=Tryd.func106.trans (congrArg some (by kernel_rfl))
  f260:=Tryd.func105.trans (congrArg some (by kernel_rfl))
  f266:=Tryd.func96.trans (congrArg some (by kernel_rfl))
  f267:=Tryd.func108.trans (congrArg some (by kernel_rfl))
  f268:=Tryd.func92.trans (congrArg some (by kernel_rfl))
  f314:=Tryd.func109.trans (congrArg some (by kernel_rfl))
  t0:=Tryd.underlying0
  a0:=Tryd.isAgg0
  z0:=Tryd.sizeOf0
  v0:=Tryd.zeroValue0
  t3:=Tryd.underlying3
  a3:=Tryd.isAgg3
  z3:=Tryd.sizeOf3
  v3:=Tryd.zeroValue3
  t4:=Tryd.underlying4
  a4:=Tryd.isAgg4
  z4:=Tryd.sizeOf4
  v4:=Tryd.zeroValue4
  t5:=Tryd.underlying5
  a5:=Tryd.isAgg5
  z5:=Tryd.sizeOf5
  v5:=Tryd.zeroValue5
  t9:=Tryd.underlying9
  a9:=Tryd.isAgg9
  z9:=Tryd.sizeOf9
  v9:=Tryd.zeroValue9
  t21:=Tryd.underlying21
  a21:=Tryd.isAgg21
  z21:=Tryd.sizeOf21
  v21:=Tryd.zeroValue21
  t31:=Tryd.underlying51
  a31:=Tryd.isAgg51
  z31:=Tryd.sizeOf51
  v31:=Tryd.zeroValue51
  t46:=Tryd.underlying106
  a46:=Tryd.isAgg106
  z46:=Tryd.sizeOf106
  v46:=Tryd.zeroValue106
  t51:=Tryd.underlying122
  a51:=Tryd.isAgg122
  z51:=Tryd.sizeOf122
  v51:=Tryd.zeroValue122
  t105:=Tryd.underlying115
  a105:=Tryd.isAgg115
  z105:=Tryd.sizeOf115
  v105:=Tryd.zeroValue115
  t119:=Tryd.underlying118
  a119:=Tryd.isAgg118
  z119:=Tryd.sizeOf118
  t138:=Tryd.underlying120
  a138:=Tryd.isAgg120
  z138:=Tryd.sizeOf120
  v138:=Tryd.zeroValue120
  t139:=Tryd.underlying121
  a139:=Tryd.isAgg121
  z139:=Tryd.sizeOf121
  v139:=Tryd.zeroValue121
  t146:=Tryd.underlying123
  a146:=Tryd.isAgg123
  z146:=Tryd.sizeOf123
  v146:=Tryd.zeroValue123
  g1:=by kernel_rfl
  g3:=by kernel_rfl
  g4:=by kernel_rfl }
end Go.Proofs
end
section
namespace Go.Proofs.YtcbbcnmifohibaaDoor.All
open Go.RowKit Go.Proofs.YtcbbcnmifohibaaDoorW.PrintWords Go.Proofs.YtcbbcnmifohibaaDoorW.PrintLast Go.Proofs.YtcbbcnmifohibaaDoorW.PrintMore
open Go.Proofs.YtcbbcnmifohibaaDoorW.Mine
attribute [local go_sem] gtr_string leq_string geq_string
attribute [local go_sem] max2_int min2_int max_two min_two max_three min_three max_four min_four
set_option linter.unusedVariables false
set_option linter.unusedSimpArgs false
def errW:Option Int→Value
 | none => .nilIface
 | some c => .iface 0 (.int .i64 c)
theorem errW_none:errW none = .nilIface:=rfl
theorem errW_some (c:Int):errW (some c) = .iface 0 (.int .i64 c):=rfl
theorem info5:(Tryd.prog.info? 5).map (fun i=>(i.zero,i.size,i.bytes)) = some (some (.int .u8 0),1,1):=by kernel_rfl
theorem info9:(Tryd.prog.info? 9).map (fun i=>(i.zero,i.size,i.bytes)) = some (some (.string ⟨#[]⟩),1,16):=by kernel_rfl
theorem info45:(Tryd.prog.info? 45).map (fun i=>(i.zero,i.size,i.bytes)) = some (some (.agg #[(.string ⟨#[]⟩),(.int .i64 0),(.int .i64 0),(.string ⟨#[]⟩),(.int .i64 0),(.int .i64 0),(.int .i64 0),(.string ⟨#[]⟩),(.string ⟨#[]⟩),(.int .i64 0),(.int .i64 0),(.slice none 0 0)]),12,144):=by kernel_rfl
theorem info71:(Tryd.prog.info? 71).map (fun i=>(i.zero,i.size,i.bytes)) = some (some (.agg #[(.string ⟨#[]⟩),(.int .i64 0),(.string ⟨#[]⟩),(.int .i64 0),(.int .i64 0),(.int .i64 0),(.string ⟨#[]⟩),(.string ⟨#[]⟩),(.int .i64 0),(.int .i64 0),(.slice none 0 0)]),11,136):=by kernel_rfl
def rd_L1 (xs:List (List ByteArray)) (i:Int):(List ByteArray):=xs.getD i.toNat ([]:List ByteArray)
structure S58 where
 f0:Bool
 f1:ByteArray
def z58:S58:=⟨false,(⟨#[]⟩:ByteArray)⟩
def k58:Kd S58:=Kd.iso (Kd.pair Kd.bool Kd.string) (fun x:S58=>(x.f0,x.f1))
theorem k58_open {w:World} {x:S58} {cs:List Value} (h:k58.K w x cs):cs = [.bool x.f0,.string x.f1]:=by
 obtain ⟨_,_,rfl,rfl,rfl⟩:=h
 exact rfl
def rd_T58 (xs:List S58) (i:Int):S58:=xs.getD i.toNat z58
theorem at_T58 {w:World} {A:Option Addr} {n:Nat} {xs:List S58} (h:Kd.C k58 w A n xs) (i:Int) (h0:0 ≤ i) (h1:i < n):∃ ad ,A = some ad∧w.cell? (ad.add (i.toNat * 2)) = some (.bool (rd_T58 xs i).f0)∧w.cell? ⟨(ad.add (i.toNat * 2)).block,(ad.add (i.toNat * 2)).off + 1,none⟩ = some (.string (rd_T58 xs i).f1):=by
 obtain ⟨ad,c,e,_,hK,hc0⟩:=Kd.C_get h z58 i h0 h1
 have hc:∀ j u,c[j]? = some u→w.cell? (ad.add (i.toNat * 2 + j)) = some u:=hc0
 obtain rfl:=k58_open hK
 exact ⟨ad,e,hc 0 _ rfl,by rw [← add_field _ _ 1 (by omega)];exact hc 1 _ rfl⟩
structure S42 where
 f0:Int
 f1:Int
 f2:Int
 f3:ByteArray
 f4:ByteArray
 f5:Int
 f6:Int
def z42:S42:=⟨(0:Int),(0:Int),(0:Int),(⟨#[]⟩:ByteArray),(⟨#[]⟩:ByteArray),(0:Int),(0:Int)⟩
def k42:Kd S42:=Kd.iso (Kd.pair (Kd.int .i64) (Kd.pair (Kd.int .i64) (Kd.pair (Kd.int .i64) (Kd.pair Kd.string (Kd.pair Kd.string (Kd.pair (Kd.int .i64) (Kd.int .i64))))))) (fun x:S42=>(x.f0,x.f1,x.f2,x.f3,x.f4,x.f5,x.f6))
theorem k42_heap:Kd.Heap k42:=Kd.heap_iso _ (Kd.heap_pair (Kd.heap_int .i64) (Kd.heap_pair (Kd.heap_int .i64) (Kd.heap_pair (Kd.heap_int .i64) (Kd.heap_pair Kd.heap_string (Kd.heap_pair Kd.heap_string (Kd.heap_pair (Kd.heap_int .i64) (Kd.heap_int .i64)))))))
theorem k42_open {w:World} {x:S42} {cs:List Value} (h:k42.K w x cs):cs = [.int .i64 x.f0,.int .i64 x.f1,.int .i64 x.f2,.string x.f3,.string x.f4,.int .i64 x.f5,.int .i64 x.f6]:=by
 obtain ⟨_,_,rfl,rfl,⟨_,_,rfl,rfl,⟨_,_,rfl,rfl,⟨_,_,rfl,rfl,⟨_,_,rfl,rfl,⟨_,_,rfl,rfl,rfl⟩⟩⟩⟩⟩⟩:=h
 exact rfl
theorem k42_mk (w:World) (x:S42)  : k42.K w x [.int .i64 x.f0,.int .i64 x.f1,.int .i64 x.f2,.string x.f3,.string x.f4,.int .i64 x.f5,.int .i64 x.f6]:=⟨[.int .i64 x.f0],[.int .i64 x.f1,.int .i64 x.f2,.string x.f3,.string x.f4,.int .i64 x.f5,.int .i64 x.f6],rfl,rfl,⟨[.int .i64 x.f1],[.int .i64 x.f2,.string x.f3,.string x.f4,.int .i64 x.f5,.int .i64 x.f6],rfl,rfl,⟨[.int .i64 x.f2],[.string x.f3,.string x.f4,.int .i64 x.f5,.int .i64 x.f6],rfl,rfl,⟨[.string x.f3],[.string x.f4,.int .i64 x.f5,.int .i64 x.f6],rfl,rfl,⟨[.string x.f4],[.int .i64 x.f5,.int .i64 x.f6],rfl,rfl,⟨[.int .i64 x.f5],[.int .i64 x.f6],rfl,rfl,rfl⟩⟩⟩⟩⟩⟩
theorem k42_mkM (w:World) (base:Nat) (ok:Nat→Prop) (x:S42)  : k42.M w base ok x [.int .i64 x.f0,.int .i64 x.f1,.int .i64 x.f2,.string x.f3,.string x.f4,.int .i64 x.f5,.int .i64 x.f6]:=⟨[.int .i64 x.f0],[.int .i64 x.f1,.int .i64 x.f2,.string x.f3,.string x.f4,.int .i64 x.f5,.int .i64 x.f6],rfl,rfl,⟨[.int .i64 x.f1],[.int .i64 x.f2,.string x.f3,.string x.f4,.int .i64 x.f5,.int .i64 x.f6],rfl,rfl,⟨[.int .i64 x.f2],[.string x.f3,.string x.f4,.int .i64 x.f5,.int .i64 x.f6],rfl,rfl,⟨[.string x.f3],[.string x.f4,.int .i64 x.f5,.int .i64 x.f6],rfl,rfl,⟨[.string x.f4],[.int .i64 x.f5,.int .i64 x.f6],rfl,rfl,⟨[.int .i64 x.f5],[.int .i64 x.f6],rfl,rfl,rfl⟩⟩⟩⟩⟩⟩
def rd_T42 (xs:List S42) (i:Int):S42:=xs.getD i.toNat z42
def rd_L7 (xs:List (List Int)) (i:Int):(List Int):=xs.getD i.toNat ([]:List Int)
structure S45 where
 f0:ByteArray
 f1:Int
 f2:Int
 f3:ByteArray
 f4:S42
 f5:(List Int)
def z45:S45:=⟨(⟨#[]⟩:ByteArray),(0:Int),(0:Int),(⟨#[]⟩:ByteArray),z42,([]:List Int)⟩
def k45:Kd S45:=Kd.iso (Kd.pair Kd.string (Kd.pair (Kd.int .i64) (Kd.pair (Kd.int .i64) (Kd.pair Kd.string (Kd.pair k42 (Kd.slice 5 (Kd.int .u8))))))) (fun x:S45=>(x.f0,x.f1,x.f2,x.f3,x.f4,x.f5))
theorem k45_heap:Kd.Heap k45:=Kd.heap_iso _ (Kd.heap_pair Kd.heap_string (Kd.heap_pair (Kd.heap_int .i64) (Kd.heap_pair (Kd.heap_int .i64) (Kd.heap_pair Kd.heap_string (Kd.heap_pair k42_heap (Kd.heap_slice 5 (Kd.heap_int .u8)))))))
theorem k45_open {w:World} {x:S45} {cs:List Value} (h:k45.K w x cs):∃ A11 c11,cs = [.string x.f0,.int .i64 x.f1,.int .i64 x.f2,.string x.f3,.int .i64 x.f4.f0,.int .i64 x.f4.f1,.int .i64 x.f4.f2,.string x.f4.f3,.string x.f4.f4,.int .i64 x.f4.f5,.int .i64 x.f4.f6,.slice A11 x.f5.length c11]∧x.f5.length ≤ c11∧(Kd.int .u8).C w A11 x.f5.length x.f5:=by
 obtain ⟨_,_,rfl,rfl,⟨_,_,rfl,rfl,⟨_,_,rfl,rfl,⟨_,_,rfl,rfl,⟨_,_,rfl,s4,⟨A11,c11,rfl,l11,g11⟩⟩⟩⟩⟩⟩:=h
 obtain rfl:=k42_open s4
 exact ⟨A11,c11,rfl,l11,g11⟩
theorem k45_mk (w:World) (x:S45) {A11:Option Addr} {c11:Nat} (l11:x.f5.length ≤ c11) (g11:(Kd.int .u8).C w A11 x.f5.length x.f5):k45.K w x [.string x.f0,.int .i64 x.f1,.int .i64 x.f2,.string x.f3,.int .i64 x.f4.f0,.int .i64 x.f4.f1,.int .i64 x.f4.f2,.string x.f4.f3,.string x.f4.f4,.int .i64 x.f4.f5,.int .i64 x.f4.f6,.slice A11 x.f5.length c11]:=⟨[.string x.f0],[.int .i64 x.f1,.int .i64 x.f2,.string x.f3,.int .i64 x.f4.f0,.int .i64 x.f4.f1,.int .i64 x.f4.f2,.string x.f4.f3,.string x.f4.f4,.int .i64 x.f4.f5,.int .i64 x.f4.f6,.slice A11 x.f5.length c11],rfl,rfl,⟨[.int .i64 x.f1],[.int .i64 x.f2,.string x.f3,.int .i64 x.f4.f0,.int .i64 x.f4.f1,.int .i64 x.f4.f2,.string x.f4.f3,.string x.f4.f4,.int .i64 x.f4.f5,.int .i64 x.f4.f6,.slice A11 x.f5.length c11],rfl,rfl,⟨[.int .i64 x.f2],[.string x.f3,.int .i64 x.f4.f0,.int .i64 x.f4.f1,.int .i64 x.f4.f2,.string x.f4.f3,.string x.f4.f4,.int .i64 x.f4.f5,.int .i64 x.f4.f6,.slice A11 x.f5.length c11],rfl,rfl,⟨[.string x.f3],[.int .i64 x.f4.f0,.int .i64 x.f4.f1,.int .i64 x.f4.f2,.string x.f4.f3,.string x.f4.f4,.int .i64 x.f4.f5,.int .i64 x.f4.f6,.slice A11 x.f5.length c11],rfl,rfl,⟨[.int .i64 x.f4.f0,.int .i64 x.f4.f1,.int .i64 x.f4.f2,.string x.f4.f3,.string x.f4.f4,.int .i64 x.f4.f5,.int .i64 x.f4.f6],[.slice A11 x.f5.length c11],rfl,(k42_mk w x.f4 ),⟨A11,c11,rfl,l11,g11⟩⟩⟩⟩⟩⟩
theorem k45_mkM (w:World) (base:Nat) (ok:Nat→Prop) (x:S45) {v11:Value} (g11:(Kd.int .u8).R 5 w base ok v11 x.f5):k45.M w base ok x [.string x.f0,.int .i64 x.f1,.int .i64 x.f2,.string x.f3,.int .i64 x.f4.f0,.int .i64 x.f4.f1,.int .i64 x.f4.f2,.string x.f4.f3,.string x.f4.f4,.int .i64 x.f4.f5,.int .i64 x.f4.f6,v11]:=⟨[.string x.f0],[.int .i64 x.f1,.int .i64 x.f2,.string x.f3,.int .i64 x.f4.f0,.int .i64 x.f4.f1,.int .i64 x.f4.f2,.string x.f4.f3,.string x.f4.f4,.int .i64 x.f4.f5,.int .i64 x.f4.f6,v11],rfl,rfl,⟨[.int .i64 x.f1],[.int .i64 x.f2,.string x.f3,.int .i64 x.f4.f0,.int .i64 x.f4.f1,.int .i64 x.f4.f2,.string x.f4.f3,.string x.f4.f4,.int .i64 x.f4.f5,.int .i64 x.f4.f6,v11],rfl,rfl,⟨[.int .i64 x.f2],[.string x.f3,.int .i64 x.f4.f0,.int .i64 x.f4.f1,.int .i64 x.f4.f2,.string x.f4.f3,.string x.f4.f4,.int .i64 x.f4.f5,.int .i64 x.f4.f6,v11],rfl,rfl,⟨[.string x.f3],[.int .i64 x.f4.f0,.int .i64 x.f4.f1,.int .i64 x.f4.f2,.string x.f4.f3,.string x.f4.f4,.int .i64 x.f4.f5,.int .i64 x.f4.f6,v11],rfl,rfl,⟨[.int .i64 x.f4.f0,.int .i64 x.f4.f1,.int .i64 x.f4.f2,.string x.f4.f3,.string x.f4.f4,.int .i64 x.f4.f5,.int .i64 x.f4.f6],[v11],rfl,(k42_mkM w base ok x.f4 ),⟨v11,rfl,g11⟩⟩⟩⟩⟩⟩
theorem k45_openF {W:World} {ok:Nat→Prop} {x:S45} {cs:List Value} (h:Kd.FK k45 W ok x cs):∃ A11 c11,cs = [.string x.f0,.int .i64 x.f1,.int .i64 x.f2,.string x.f3,.int .i64 x.f4.f0,.int .i64 x.f4.f1,.int .i64 x.f4.f2,.string x.f4.f3,.string x.f4.f4,.int .i64 x.f4.f5,.int .i64 x.f4.f6,.slice A11 x.f5.length c11]∧x.f5.length ≤ c11∧Kd.F (Kd.int .u8) W ok A11 x.f5.length x.f5:=by
 obtain ⟨A11,c11,rfl,l11,_⟩:=k45_open (Kd.FK_now h)
 exact ⟨A11,c11,rfl,l11,(fun W' hW=>by obtain ⟨A11_,c11_,he,l11_,g11_⟩:=k45_open (h W' hW);injection (Option.some.inj (show some (Value.slice A11 x.f5.length c11) = some (Value.slice A11_ x.f5.length c11_) from congrArg (fun l=>l[11]?) he)) with ha_ _ _;rw [ha_];exact g11_)⟩
theorem k45_mkF (W:World) (ok:Nat→Prop) (x:S45) {A11:Option Addr} {c11:Nat} (l11:x.f5.length ≤ c11) (g11:Kd.F (Kd.int .u8) W ok A11 x.f5.length x.f5):Kd.FK k45 W ok x [.string x.f0,.int .i64 x.f1,.int .i64 x.f2,.string x.f3,.int .i64 x.f4.f0,.int .i64 x.f4.f1,.int .i64 x.f4.f2,.string x.f4.f3,.string x.f4.f4,.int .i64 x.f4.f5,.int .i64 x.f4.f6,.slice A11 x.f5.length c11]:=fun W2 hW=>k45_mk W2 x l11 (g11 W2 hW)
def rd_T45 (xs:List S45) (i:Int):S45:=xs.getD i.toNat z45
theorem at_T45 {w:World} {A:Option Addr} {n:Nat} {xs:List S45} (h:Kd.C k45 w A n xs) (i:Int) (h0:0 ≤ i) (h1:i < n):∃ ad A11 c11,A = some ad∧w.cell? (ad.add (i.toNat * 12)) = some (.string (rd_T45 xs i).f0)∧w.cell? ⟨(ad.add (i.toNat * 12)).block,(ad.add (i.toNat * 12)).off + 1,none⟩ = some (.int .i64 (rd_T45 xs i).f1)∧w.cell? ⟨(ad.add (i.toNat * 12)).block,(ad.add (i.toNat * 12)).off + 2,none⟩ = some (.int .i64 (rd_T45 xs i).f2)∧w.cell? ⟨(ad.add (i.toNat * 12)).block,(ad.add (i.toNat * 12)).off + 3,none⟩ = some (.string (rd_T45 xs i).f3)∧w.cell? ⟨(ad.add (i.toNat * 12)).block,(ad.add (i.toNat * 12)).off + 4,none⟩ = some (.int .i64 (rd_T45 xs i).f4.f0)∧w.cell? ⟨(ad.add (i.toNat * 12)).block,(ad.add (i.toNat * 12)).off + 5,none⟩ = some (.int .i64 (rd_T45 xs i).f4.f1)∧w.cell? ⟨(ad.add (i.toNat * 12)).block,(ad.add (i.toNat * 12)).off + 6,none⟩ = some (.int .i64 (rd_T45 xs i).f4.f2)∧w.cell? ⟨(ad.add (i.toNat * 12)).block,(ad.add (i.toNat * 12)).off + 7,none⟩ = some (.string (rd_T45 xs i).f4.f3)∧w.cell? ⟨(ad.add (i.toNat * 12)).block,(ad.add (i.toNat * 12)).off + 8,none⟩ = some (.string (rd_T45 xs i).f4.f4)∧w.cell? ⟨(ad.add (i.toNat * 12)).block,(ad.add (i.toNat * 12)).off + 9,none⟩ = some (.int .i64 (rd_T45 xs i).f4.f5)∧w.cell? ⟨(ad.add (i.toNat * 12)).block,(ad.add (i.toNat * 12)).off + 10,none⟩ = some (.int .i64 (rd_T45 xs i).f4.f6)∧w.cell? ⟨(ad.add (i.toNat * 12)).block,(ad.add (i.toNat * 12)).off + 11,none⟩ = some (.slice A11 (rd_T45 xs i).f5.length c11)∧(rd_T45 xs i).f5.length ≤ c11∧(Kd.int .u8).C w A11 (rd_T45 xs i).f5.length (rd_T45 xs i).f5:=by
 obtain ⟨ad,c,e,_,hK,hc0⟩:=Kd.C_get h z45 i h0 h1
 have hc:∀ j u,c[j]? = some u→w.cell? (ad.add (i.toNat * 12 + j)) = some u:=hc0
 obtain ⟨A11,c11,rfl,l11,g11⟩:=k45_open hK
 exact ⟨ad,A11,c11,e,hc 0 _ rfl,by rw [← add_field _ _ 1 (by omega)];exact hc 1 _ rfl,by rw [← add_field _ _ 2 (by omega)];exact hc 2 _ rfl,by rw [← add_field _ _ 3 (by omega)];exact hc 3 _ rfl,by rw [← add_field _ _ 4 (by omega)];exact hc 4 _ rfl,by rw [← add_field _ _ 5 (by omega)];exact hc 5 _ rfl,by rw [← add_field _ _ 6 (by omega)];exact hc 6 _ rfl,by rw [← add_field _ _ 7 (by omega)];exact hc 7 _ rfl,by rw [← add_field _ _ 8 (by omega)];exact hc 8 _ rfl,by rw [← add_field _ _ 9 (by omega)];exact hc 9 _ rfl,by rw [← add_field _ _ 10 (by omega)];exact hc 10 _ rfl,by rw [← add_field _ _ 11 (by omega)];exact hc 11 _ rfl,l11,g11⟩
def rd_L9 (xs:List (List S45)) (i:Int):(List S45):=xs.getD i.toNat ([]:List S45)
def rd_L10 (xs:List (List S58)) (i:Int):(List S58):=xs.getD i.toNat ([]:List S58)
def rd_L11 (xs:List (List Int)) (i:Int):(List Int):=xs.getD i.toNat ([]:List Int)
structure S71 where
 f0:ByteArray
 f1:Int
 f2:ByteArray
 f3:S42
 f4:(List Int)
def z71:S71:=⟨(⟨#[]⟩:ByteArray),(0:Int),(⟨#[]⟩:ByteArray),z42,([]:List Int)⟩
def k71:Kd S71:=Kd.iso (Kd.pair Kd.string (Kd.pair (Kd.int .i64) (Kd.pair Kd.string (Kd.pair k42 (Kd.slice 5 (Kd.int .u8)))))) (fun x:S71=>(x.f0,x.f1,x.f2,x.f3,x.f4))
theorem k71_open {w:World} {x:S71} {cs:List Value} (h:k71.K w x cs):∃ A10 c10,cs = [.string x.f0,.int .i64 x.f1,.string x.f2,.int .i64 x.f3.f0,.int .i64 x.f3.f1,.int .i64 x.f3.f2,.string x.f3.f3,.string x.f3.f4,.int .i64 x.f3.f5,.int .i64 x.f3.f6,.slice A10 x.f4.length c10]∧x.f4.length ≤ c10∧(Kd.int .u8).C w A10 x.f4.length x.f4:=by
 obtain ⟨_,_,rfl,rfl,⟨_,_,rfl,rfl,⟨_,_,rfl,rfl,⟨_,_,rfl,s3,⟨A10,c10,rfl,l10,g10⟩⟩⟩⟩⟩:=h
 obtain rfl:=k42_open s3
 exact ⟨A10,c10,rfl,l10,g10⟩
theorem k71_mk (w:World) (x:S71) {A10:Option Addr} {c10:Nat} (l10:x.f4.length ≤ c10) (g10:(Kd.int .u8).C w A10 x.f4.length x.f4):k71.K w x [.string x.f0,.int .i64 x.f1,.string x.f2,.int .i64 x.f3.f0,.int .i64 x.f3.f1,.int .i64 x.f3.f2,.string x.f3.f3,.string x.f3.f4,.int .i64 x.f3.f5,.int .i64 x.f3.f6,.slice A10 x.f4.length c10]:=⟨[.string x.f0],[.int .i64 x.f1,.string x.f2,.int .i64 x.f3.f0,.int .i64 x.f3.f1,.int .i64 x.f3.f2,.string x.f3.f3,.string x.f3.f4,.int .i64 x.f3.f5,.int .i64 x.f3.f6,.slice A10 x.f4.length c10],rfl,rfl,⟨[.int .i64 x.f1],[.string x.f2,.int .i64 x.f3.f0,.int .i64 x.f3.f1,.int .i64 x.f3.f2,.string x.f3.f3,.string x.f3.f4,.int .i64 x.f3.f5,.int .i64 x.f3.f6,.slice A10 x.f4.length c10],rfl,rfl,⟨[.string x.f2],[.int .i64 x.f3.f0,.int .i64 x.f3.f1,.int .i64 x.f3.f2,.string x.f3.f3,.string x.f3.f4,.int .i64 x.f3.f5,.int .i64 x.f3.f6,.slice A10 x.f4.length c10],rfl,rfl,⟨[.int .i64 x.f3.f0,.int .i64 x.f3.f1,.int .i64 x.f3.f2,.string x.f3.f3,.string x.f3.f4,.int .i64 x.f3.f5,.int .i64 x.f3.f6],[.slice A10 x.f4.length c10],rfl,(k42_mk w x.f3 ),⟨A10,c10,rfl,l10,g10⟩⟩⟩⟩⟩
theorem k71_mkF (W:World) (ok:Nat→Prop) (x:S71) {A10:Option Addr} {c10:Nat} (l10:x.f4.length ≤ c10) (g10:Kd.F (Kd.int .u8) W ok A10 x.f4.length x.f4):Kd.FK k71 W ok x [.string x.f0,.int .i64 x.f1,.string x.f2,.int .i64 x.f3.f0,.int .i64 x.f3.f1,.int .i64 x.f3.f2,.string x.f3.f3,.string x.f3.f4,.int .i64 x.f3.f5,.int .i64 x.f3.f6,.slice A10 x.f4.length c10]:=fun W2 hW=>k71_mk W2 x l10 (g10 W2 hW)
def rd_T71 (xs:List S71) (i:Int):S71:=xs.getD i.toNat z71
def rd_L13 (xs:List (List S71)) (i:Int):(List S71):=xs.getD i.toNat ([]:List S71)
end Go.Proofs.YtcbbcnmifohibaaDoor.All
end
section
namespace Go.Proofs.YtcbbcnmifohibaaDoorW.SubRow
open Go Go.RowKit Go.Proofs.YtcbbcnmifohibaaDoorW.PrintWords Go.Proofs.YtcbbcnmifohibaaDoorW.PrintLast Go.Proofs.YtcbbcnmifohibaaDoorW.PrintMore Go.Proofs.YtcbbcnmifohibaaDoorW.MapOwn
def Sub {α:Type} (d:Kd α) (e:Nat) (w W:World) (v:Value) (xs:List α):Prop :=
  ∃ rows:List (List Value),rows.length = xs.length∧(Kd.raw d.sz).R e W w.heap.size (fun _=>True) v rows∧∀ (j:Nat) (x:α) (c:List Value),xs[j]? = some x→rows[j]? = some c→d.K w x c
section
variable {α:Type} {d:Kd α} {e:Nat} {w W W':World} {v:Value} {xs:List α}
theorem Sub.nil (d:Kd α) (e:Nat) (w W:World):Sub d e w W (.slice none 0 0) []:=⟨[],rfl,Kd.R_nil _ _ _ _ _,fun j x c h=>by simp at h⟩
theorem Sub.below (h:Sub d e w W v xs) (hb:Below W.heap.size W W'):Sub d e w W' v xs:=by
  obtain ⟨rows,hl,hR,hK⟩:=h
  exact ⟨rows,hl,Kd.R_below hR hb,hK⟩
theorem Sub.slice (h:Sub d e w W v xs):∃ A c,v = .slice A xs.length c:=by
  obtain ⟨rows,hl,hR,_⟩:=h
  obtain ⟨A,c,e⟩:=Kd.R_slice hR
  exact ⟨A,c,by rw [e,hl]⟩
theorem Sub.reads (h:Sub d e w W v xs) (hb:Below w.heap.size w W):∃ A c,v = .slice A xs.length c∧xs.length ≤ c∧d.C W A xs.length xs:=by
  obtain ⟨rows,hl,hR,hK⟩:=h
  obtain ⟨A,c,e,hc,hC⟩:=Kd.R_reads hR
  refine ⟨A,c,by rw [e,hl],by omega,?_⟩
  rw [hl] at hC
  refine ⟨rfl,hC.2.1,fun hp=>?_⟩
  obtain ⟨ad,he,hcell⟩:=hC.2.2 hp
  refine ⟨ad,he,fun j p hj=>?_⟩
  have hjl:j < rows.length:=by have:=(List.getElem?_eq_some_iff.1 hj).1;omega
  obtain ⟨c',hcl,hk,hcc⟩:=hcell j _ (List.getElem?_eq_getElem hjl)
  refine ⟨c',hcl,?_,hcc⟩
  rw [show c' = rows[j] from hk.1]
  exact d.K_below hb (hK j p _ hj (List.getElem?_eq_getElem hjl))
end
section
variable {P:Program} {ops:Array Oper} {rest:List Oper} {o:Oper} {a:Act} {Q:Exit→Act→World→Prop} {α:Type}
theorem Sub.append (d:Kd α) {w W:World} (hgd:o.guard = none) (s x:Operand) (t e:TypeId) (z:Value) (bytes:Nat)
    (ho:o.op = .call { callee := .builtin .append,args:=#[s,x],argTypes:=#[t,t] })
    (ht:P.underlying t = some (.slice e)) (hinfo:(P.info? e).map (fun i=>(i.zero,i.size,i.bytes)) = some (some z,d.sz,bytes)) (hz:z.cells.size = d.sz) (hs0:0 < d.sz) (hb0:0 < bytes)
    (v:Value) (xs:List α) (p:α) (cs:List Value) (hs:a.eval s = v) (hx:a.eval x = .slice (some ⟨W.heap.size,0,none⟩) 1 1) (hp:d.K w p cs)
    (HO:Sub d e w W v xs) (HB:Below w.heap.size w W) (hl:(xs.length + 1) * bytes ≤ 140737488355328)
    (h:∀ v1 w1,Sub d e w w1 v1 (xs ++ [p])→Below w.heap.size w w1→wpList P ops Q rest (a.put o.dst v1) w1) :
    wpList P ops Q (o :: rest) a (W.alloc (.cells cs.toArray e)):=by
  obtain ⟨rows,hrl,hR,hK⟩:=HO
  refine Kd.R_append (Kd.raw d.sz) (w0:=w) w.heap.size hgd s x t e z bytes ho ht hinfo hz hs0 hb0 v rows cs cs (fun _=>True) (fun k=>some k ≠ v.ownBlock∧False) hs hx ⟨rfl,d.K_len hp,d.K_one hp⟩ (fun k hk=>absurd hk.2 id) (fun _ _=>trivial) hR HB (below_size HB) (by rw [hrl];exact hl) ?_
  intro v1 w1 hR1 hb1 _ _
  refine h v1 w1 ⟨rows ++ [cs],by simp [hrl],hR1,fun j y c hy hc=>?_⟩ hb1
  by_cases hj:j < xs.length
  · rw [List.getElem?_append_left hj] at hy
    rw [List.getElem?_append_left (by omega)] at hc
    exact hK j y c hy hc
  · have hjl:=(List.getElem?_eq_some_iff.1 hy).1
    have ej:j = xs.length:=by simp at hjl;omega
    subst ej
    rw [List.getElem?_append_right (Nat.le_refl _),Nat.sub_self] at hy
    rw [← hrl,List.getElem?_append_right (Nat.le_refl _),Nat.sub_self] at hc
    simp at hy hc
    rw [← hy,← hc]
    exact hp
end
end Go.Proofs.YtcbbcnmifohibaaDoorW.SubRow
end
section
namespace Go.Proofs.YtcbbcnmifohibaaDoor.All
open Go.RowKit Go.Proofs.YtcbbcnmifohibaaDoorW.PrintWords Go.Proofs.YtcbbcnmifohibaaDoorW.PrintLast Go.Proofs.YtcbbcnmifohibaaDoorW.PrintMore
open Go.Proofs.YtcbbcnmifohibaaDoorW.Mine
attribute [local go_sem] gtr_string leq_string geq_string
attribute [local go_sem] max2_int min2_int max_two min_two max_three min_three max_four min_four
set_option linter.unusedVariables false
set_option linter.unusedSimpArgs false
theorem sz42:(Tryd.prog.info? 42).map (·.size) = some 7:=by kernel_rfl
theorem eqK42 (d:Nat) (w:World) (x0 y0:Int) (x1 y1:Int) (x2 y2:Int) (x3 y3:ByteArray) (x4 y4:ByteArray) (x5 y5:Int) (x6 y6:Int):(Op.equalIn (d + 2) 42 (.agg #[.int .i64 x0,.int .i64 x1,.int .i64 x2,.string x3,.string x4,.int .i64 x5,.int .i64 x6]) (.agg #[.int .i64 y0,.int .i64 y1,.int .i64 y2,.string y3,.string y4,.int .i64 y5,.int .i64 y6])).run Tryd.prog w = .ok (x0 == y0 && (x1 == y1 && (x2 == y2 && (x3.toList == y3.toList && (x4.toList == y4.toList && (x5 == y5 && (x6 == y6))))))) w:=by
 refine eqA_of Tryd.underlying42 (by kernel_rfl) ?_
 refine eqf_cons (by rfl) (by go_simp;rfl) (by go_simp;rfl) (by go_simp) ?_
 refine eqf_cons (by rfl) (by go_simp;rfl) (by go_simp;rfl) (by go_simp) ?_
 refine eqf_cons (by rfl) (by go_simp;rfl) (by go_simp;rfl) (by go_simp) ?_
 refine eqf_cons (by rfl) (by go_simp;rfl) (by go_simp;rfl) (by go_simp) ?_
 refine eqf_cons (by rfl) (by go_simp;rfl) (by go_simp;rfl) (by go_simp) ?_
 refine eqf_cons (by rfl) (by go_simp;rfl) (by go_simp;rfl) (by go_simp) ?_
 exact eqf_last (by rfl) (by go_simp;rfl) (by go_simp;rfl) (by go_simp)
theorem sz45:(Tryd.prog.info? 45).map (·.size) = some 12:=by kernel_rfl
theorem elem45 {w:World} {A:Option Addr} {l:List S45} (h:Kd.C k45 w A l.length l) (n:Nat) (hn:n < l.length):∃ ad A11 c11,A = some ad∧(∀ j v,([.string (rd_T45 l (n:Int)).f0,.int .i64 (rd_T45 l (n:Int)).f1,.int .i64 (rd_T45 l (n:Int)).f2,.string (rd_T45 l (n:Int)).f3,.int .i64 (rd_T45 l (n:Int)).f4.f0,.int .i64 (rd_T45 l (n:Int)).f4.f1,.int .i64 (rd_T45 l (n:Int)).f4.f2,.string (rd_T45 l (n:Int)).f4.f3,.string (rd_T45 l (n:Int)).f4.f4,.int .i64 (rd_T45 l (n:Int)).f4.f5,.int .i64 (rd_T45 l (n:Int)).f4.f6,.slice A11 (rd_T45 l (n:Int)).f5.length c11]:List Value)[j]? = some v→w.cell? ((ad.add (n * 12)).add j) = some v)∧(rd_T45 l (n:Int)).f5.length ≤ c11∧(Kd.int .u8).C w A11 (rd_T45 l (n:Int)).f5.length (rd_T45 l (n:Int)).f5:=by
 obtain ⟨ad,c,e,_,hK,hc0⟩:=Kd.C_get h z45 (n:Int) (Int.natCast_nonneg _) (by omega)
 obtain ⟨A11,c11,rfl,l11,g11⟩:=k45_open hK
 refine ⟨ad,A11,c11,e,fun j v hv=>?_,l11,g11⟩
 have:=hc0 j v hv
 rw [Int.toNat_natCast] at this
 rw [← this]
 congr 1
 show (ad.add (n * 12)).add j = ad.add (n * 12 + j)
 exact Go.Proofs.YtcbbcnmifohibaaDoorW.MapOwn.add_add ad (n * 12) j
theorem sz71:(Tryd.prog.info? 71).map (·.size) = some 11:=by kernel_rfl
theorem elem71 {w:World} {A:Option Addr} {l:List S71} (h:Kd.C k71 w A l.length l) (n:Nat) (hn:n < l.length):∃ ad A10 c10,A = some ad∧(∀ j v,([.string (rd_T71 l (n:Int)).f0,.int .i64 (rd_T71 l (n:Int)).f1,.string (rd_T71 l (n:Int)).f2,.int .i64 (rd_T71 l (n:Int)).f3.f0,.int .i64 (rd_T71 l (n:Int)).f3.f1,.int .i64 (rd_T71 l (n:Int)).f3.f2,.string (rd_T71 l (n:Int)).f3.f3,.string (rd_T71 l (n:Int)).f3.f4,.int .i64 (rd_T71 l (n:Int)).f3.f5,.int .i64 (rd_T71 l (n:Int)).f3.f6,.slice A10 (rd_T71 l (n:Int)).f4.length c10]:List Value)[j]? = some v→w.cell? ((ad.add (n * 11)).add j) = some v)∧(rd_T71 l (n:Int)).f4.length ≤ c10∧(Kd.int .u8).C w A10 (rd_T71 l (n:Int)).f4.length (rd_T71 l (n:Int)).f4:=by
 obtain ⟨ad,c,e,_,hK,hc0⟩:=Kd.C_get h z71 (n:Int) (Int.natCast_nonneg _) (by omega)
 obtain ⟨A10,c10,rfl,l10,g10⟩:=k71_open hK
 refine ⟨ad,A10,c10,e,fun j v hv=>?_,l10,g10⟩
 have:=hc0 j v hv
 rw [Int.toNat_natCast] at this
 rw [← this]
 congr 1
 show (ad.add (n * 11)).add j = ad.add (n * 11 + j)
 exact Go.Proofs.YtcbbcnmifohibaaDoorW.MapOwn.add_add ad (n * 11) j
def strings_Split.f (a0:ByteArray) (a1:ByteArray):Option (List ByteArray):=match a1 with
 | ⟨⟨[c]⟩⟩=>if a0.size < 4294967281 then some (Lib.splitB ⟨#[c]⟩ 0 (Lib.countB a0 ⟨#[c]⟩) a0) else none
 | _=>none
theorem strings_Split.fresh (w:World) (xs:List ByteArray) (hx:0 < xs.length) (hl:xs.length ≤ 9223372036854775807) :
 Kd.R Kd.string 9 (w.alloc (.cells (xs.map Value.string).toArray 9)) w.heap.size (fun _=>True) (.slice (some ⟨w.heap.size,0,none⟩) xs.length xs.length) xs:=by
 refine ⟨fun _ _=>trivial,xs.map Value.string,⟨by simp [Kd.string,Kd.scalar],.inr ⟨w.heap.size,xs.length,(xs.map Value.string).toArray,rfl,Nat.le_refl _,?_,Nat.le_refl _,?_,?_,?_⟩⟩,?_,?_⟩
 ·show (w.heap.push _)[w.heap.size]? = _
  simp
 ·unfold maxLen;omega
 ·simp [Kd.string,Kd.scalar]
 ·simp only [Kd.string,Kd.scalar,Nat.mul_one];exact List.take_of_length_le (by simp)
 ·simp [Kd.string,Kd.scalar]
 ·intro j p hj;show _ = [Value.string p]
  simp only [Kd.string,Kd.scalar,Nat.mul_one];have hlt:=(List.getElem?_eq_some_iff.1 hj).1;have he:=(List.getElem?_eq_some_iff.1 hj).2;rw [List.drop_eq_getElem_cons (by simpa using hlt),List.take_succ_cons,List.take_zero];simp [he]
set_option maxHeartbeats 1000000 in
theorem strings_Split.calls (a0:ByteArray) (a1:ByteArray) (r:List ByteArray) (w:World) (h:strings_Split.f a0 a1 = some r) :
 Calls Tryd.prog 57 #[.string a0,.string a1] w fun e w'=>∃ v0_:Value,e = .returned (v0_)∧Kd.R Kd.string 9 w' w.heap.size (fun _=>True) v0_ r∧Below w.heap.size w w':=by
 unfold strings_Split.f at h;split at h
 ·rename_i ch
  split at h
  ·rename_i hs
   obtain rfl:=Option.some.inj h;have h1:1 ≤ (⟨#[ch]⟩:ByteArray).size:=Nat.le_refl _;have hle:=Lib.countB_le (⟨#[ch]⟩:ByteArray) h1 a0.size a0 (Nat.le_refl _);have hlen:=Lib.splitB_all (⟨#[ch]⟩:ByteArray) h1 0 _ a0 rfl;have hC:Calls Tryd.prog 93 #[.string a0,.string ⟨#[ch]⟩] w fun e w'=>e = .returned (.int .i64 (Lib.countB a0 ⟨#[ch]⟩))∧w' = w:=by
    refine (Tryd.strings_Count_one a0 ch w).mono fun e w' ⟨he,hw⟩=>⟨?_,hw⟩
    rw [he];show _ = Ending.returned (Value.int .i64 ((Lib.count a0.data.toList [ch]:Nat):Int))
    rw [Lib.count_one];rfl
   have hI:∀ (x:ByteArray) (c:Array Value),x.size ≤ a0.size→Calls Tryd.prog 94 #[.string x,.string ⟨#[ch]⟩] (w.alloc (.cells c 9)) fun e w'=>e = .returned (.int .i64 (Lib.indexB x ⟨#[ch]⟩))∧w' = w.alloc (.cells c 9):=by
    intro x c _;refine (Tryd.strings_Index_one x ch _).mono fun e w' ⟨he,hw⟩=>⟨?_,hw⟩
    rw [he];show _ = Ending.returned (Value.int .i64 (Lib.index x.data.toList [ch]))
    rw [Lib.index_one]
   have c:=Any.strings_genSplit_core Tryd.lays221 (by kernel_rfl) a0 ⟨#[ch]⟩ 0 (-1) (Lib.countB a0 ⟨#[ch]⟩ + 1) w hs h1 (Nat.zero_le _) hI hC (by decide) (by decide) (by rw [if_pos (by decide)];omega);rw [Nat.add_sub_cancel,hlen] at c;have e2:Lib.cellsOf (Lib.splitB ⟨#[ch]⟩ 0 (Lib.countB a0 ⟨#[ch]⟩) a0) (Lib.countB a0 ⟨#[ch]⟩ + 1) = ((Lib.splitB ⟨#[ch]⟩ 0 (Lib.countB a0 ⟨#[ch]⟩) a0).map Value.string).toArray:=by rw [← hlen];exact Lib.cellsOf_full _
   rw [e2] at c;have hfr:=strings_Split.fresh w (Lib.splitB ⟨#[ch]⟩ 0 (Lib.countB a0 ⟨#[ch]⟩) a0) (by rw [hlen];omega) (by rw [hlen];omega);rw [hlen] at hfr;have HF:=Aside0.mk hfr;clear hfr e2 hI hC hle hlen hs;generalize Lib.splitB ⟨#[ch]⟩ 0 (Lib.countB a0 ⟨#[ch]⟩) a0 = ps at *;generalize Lib.countB a0 ⟨#[ch]⟩ + 1 = n at *;go_enter Tryd.func57,Tryd.ntmps57;go_wp2_with (go_at_call 81;refine c.mono ?_;rintro e w' ⟨rfl,hw⟩;rw [hw])
   go_ret
   exact ⟨_,rfl,HF.out,(Below.refl _ _).alloc (Nat.le_refl _) _⟩
  ·cases h
 ·cases h
def strings_IndexByte.f (a0:ByteArray) (a1:Int):Option Int:=some (Lib.indexByte a0.data.toList a1.toNat.toUInt8)
theorem strings_IndexByte.calls (a0:ByteArray) (a1:Int) (r:Int) (w:World) (h:strings_IndexByte.f a0 a1 = some r) :
 Calls Tryd.prog 59 #[.string a0,.int .u8 a1] w fun e w'=>e = .returned (.int .i64 r)∧Drawn0 w w':=by
 obtain rfl:=Option.some.inj h;exact (Tryd.strings_IndexByte a0 a1 w).mono fun e w' ⟨he,hw⟩=>⟨he,by rw [hw];exact Drawn0.refl _⟩
def strings_HasPrefix.f (a0:ByteArray) (a1:ByteArray):Option Bool:=some (Lib.hasPrefix a0.data.toList a1.data.toList)
theorem strings_HasPrefix.calls (a0:ByteArray) (a1:ByteArray) (r:Bool) (w:World) (h:strings_HasPrefix.f a0 a1 = some r) :
 Calls Tryd.prog 82 #[.string a0,.string a1] w fun e w'=>e = .returned (.bool r)∧Drawn0 w w':=by
 obtain rfl:=Option.some.inj h;exact (Tryd.strings_HasPrefix a0 a1 w).mono fun e w' ⟨he,hw⟩=>⟨he,by rw [hw];exact Drawn0.refl _⟩
def glob_end.j0:Nat→ByteArray→Int→Option (Int)
 | 0,_,_=>none
 | k + 1,x0,x3=>if x3 < (x0.size:Int) then (if 0 ≤ (wrap64 (x3 + 1)) then (if (wrap64 (x3 + 1)) ≤ (x0.size:Int) then ((strings_IndexByte.f (x0.extract ((wrap64 (x3 + 1)):Int).toNat x0.size) 93).bind fun t102=>(if t102 < 0 then (some (-1)) else (some (wrap64 ((wrap64 ((wrap64 (x3 + 1)) + t102)) + 1))))) else (none)) else (none)) else (if (-1) < 0 then (some (-1)) else (some (wrap64 ((wrap64 ((wrap64 (x3 + 1)) + (-1))) + 1))))
def glob_end.f (k:Nat) (a0:ByteArray):Option (Int):=if 1 ≤ (a0.size:Int) then ((strings_HasPrefix.f (a0.extract 1 a0.size) (⟨#[33]⟩:ByteArray)).bind fun t101=>(if t101 = true then (glob_end.j0 k a0 (1 + 1)) else (glob_end.j0 k a0 1))) else (none)
set_option maxHeartbeats 8000000 in
set_option maxRecDepth 100000 in
theorem glob_end.calls (k:Nat) (a0:ByteArray) (r:Int) (w:World) (h:glob_end.f k a0 = some r) :
 Calls Tryd.prog 58 #[.string a0] w fun e w'=>e = .returned (.int .i64 r)∧Drawn0 w w':=by
 have H:(if 1 ≤ (a0.size:Int) then ((strings_HasPrefix.f (a0.extract 1 a0.size) (⟨#[33]⟩:ByteArray)).bind fun t101=>(if t101 = true then (glob_end.j0 k a0 (1 + 1)) else (glob_end.j0 k a0 1))) else (none)) = some r:=h;clear h;by_cases c2:1 ≤ (a0.size:Int)
 ·rw [if_pos c2] at H;have c2b0:=eq_true c2;have c2b1:decide (1 ≤ (a0.size:Int)) = true:=decide_eq_true c2;clear c2;replace H:=Option.bind_eq_some_iff.mp H;obtain ⟨t101,A30,H⟩:=H;replace H:(if t101 = true then (glob_end.j0 k a0 (1 + 1)) else (glob_end.j0 k a0 1)) = some r:=H;have A3:=Aside0.mk A30;clear A30;have HC4:=Aside0.mk H;clear H;go_enter Tryd.func58,Tryd.ntmps58;go_upto_if 8 with (first|((with_reducible refine gate_callee (f:=82) rfl ?_);refine goesL_ (some 8) rfl rfl Tryd.func82 (by kernel_rfl) rfl #[.string (a0.extract 1 a0.size),.string (⟨#[33]⟩:ByteArray)] rfl (by (try simp only [List.map_toArray,List.map_cons,List.map_nil]);first|done|rfl|(simp only [List.length_drop,List.length_take];rfl)) ?_;(with_reducible refine (strings_HasPrefix.calls (a0.extract 1 a0.size) (⟨#[33]⟩:ByteArray) t101 _ A3.out).mono ?_);rintro e w' ⟨rfl,⟨nd,rfl⟩⟩;refine ⟨_,rfl,?_⟩))
  (try simp only [Act.put,List.setIfInBounds_toArray,List.set_cons_zero,List.set_cons_succ]);go_cut [3] (fun v3 wc=>∃ (kq:Nat) (x3_3:Int),v3 = .int .i64 x3_3∧Aside0 (glob_end.j0 kq a0 x3_3 = some r)∧Aside0 (kq ≤ k)∧Drawn0 w wc)
  case first =>
   have H:=HC4.out;clear HC4;by_cases c5:t101 = true
   ·subst c5;have H1:(glob_end.j0 k a0 (1 + 1)) = some r:=by rw [if_pos rfl] at H;exact H
    clear H;have H:=H1;clear H1;have H':=Aside0.mk H;clear H;go_wp2;go_meet
    case rel=>exact ⟨_,(1 + 1),(by first|rfl|(simp;done)|(simp [*];done)),H',⟨by first|omega|exact Nat.le_refl _⟩,by repeat (first|exact Drawn0.refl _|apply Drawn0.step)⟩
   ·replace c5:=Bool.eq_false_iff.mpr c5;subst c5;have H1:(glob_end.j0 k a0 1) = some r:=by rw [if_neg (show ¬ (false = true) by decide)] at H;exact H
    clear H;have H:=H1;clear H1;have H':=Aside0.mk H;clear H;go_wp2;go_meet
    case rel=>exact ⟨_,(1),(by first|rfl|(simp;done)|(simp [*];done)),H',⟨by first|omega|exact Nat.le_refl _⟩,by repeat (first|exact Drawn0.refl _|apply Drawn0.step)⟩
  case rest =>
   clear HC4;repeat first|clear c2|clear c2b0|clear c2b1
   obtain ⟨kq,x3_3,rfl,HA,HJ3,⟨mc3,rfl⟩⟩:=hcut;cases kq with
   | zero=>exact absurd HA.out (by simp [glob_end.j0])
   | succ kj3 =>
    have H:=HA.out;clear HA;simp only [glob_end.j0] at H;by_cases c6:x3_3 < (a0.size:Int)
    ·rw [if_pos c6] at H;have c6b0:decide (x3_3 < (a0.size:Int)) = true:=decide_eq_true c6;clear c6;obtain ⟨ji7,hji7⟩:∃ j_:Int,(wrap64 (x3_3 + 1)) = j_:=⟨_,rfl⟩
     replace H:(if 0 ≤ (ji7) then (if (ji7) ≤ (a0.size:Int) then ((strings_IndexByte.f (a0.extract ((ji7):Int).toNat a0.size) 93).bind fun t102=>(if t102 < 0 then (some (-1)) else (some (wrap64 ((wrap64 ((ji7) + t102)) + 1))))) else (none)) else (none)) = some r:=by first|(rw [hji7] at H;exact H)|(simp only [hji7] at H ⊢;exact H)
     have hji7w:(IntKind.i64.wrap (x3_3 + 1)) = ji7:=(i64_w _).trans hji7;by_cases c8:0 ≤ (ji7)
     ·rw [if_pos c8] at H;have c8b0:=eq_true c8;have c8b1:decide (0 ≤ (ji7)) = true:=decide_eq_true c8;clear c8;by_cases c9:(ji7) ≤ (a0.size:Int)
      ·rw [if_pos c9] at H;have c9b0:=eq_true c9;have c9b1:decide ((ji7) ≤ (a0.size:Int)) = true:=decide_eq_true c9;clear c9;replace H:=Option.bind_eq_some_iff.mp H;obtain ⟨t102,A100,H⟩:=H;replace H:(if t102 < 0 then (some (-1)) else (some (wrap64 ((wrap64 ((ji7) + t102)) + 1)))) = some r:=H;have A10:=Aside0.mk A100;clear A100;by_cases c11:t102 < 0
       ·rw [if_pos c11] at H;have c11b0:decide (t102 < 0) = true:=decide_eq_true c11;clear c11;obtain rfl:=Option.some.inj H;go_wp2_with (first|((with_reducible refine gate_callee (f:=59) rfl ?_);refine goesL_ (some 19) rfl rfl Tryd.func59 (by kernel_rfl) rfl #[.string (a0.extract ((ji7):Int).toNat a0.size),.int .u8 93] rfl (by (try simp only [List.map_toArray,List.map_cons,List.map_nil]);first|done|(simp only [hji7];rfl)|rfl|(simp only [List.length_drop,List.length_take];rfl)) ?_;(with_reducible refine (strings_IndexByte.calls (a0.extract ((ji7):Int).toNat a0.size) 93 t102 _ A10.out).mono ?_);rintro e w' ⟨rfl,⟨nd,rfl⟩⟩;refine ⟨_,rfl,?_⟩))
        go_ret
        exact ⟨by first|rfl|(simp;done)|(simp only [← hji7] <;> (first|rfl|simp))|(simp [*];done),by repeat (first|exact Drawn0.refl _|apply Drawn0.step)⟩
       ·rw [if_neg c11] at H;have c11b0:decide (t102 < 0) = false:=decide_eq_false c11;clear c11;obtain rfl:=Option.some.inj H;go_wp2_with (first|((with_reducible refine gate_callee (f:=59) rfl ?_);refine goesL_ (some 19) rfl rfl Tryd.func59 (by kernel_rfl) rfl #[.string (a0.extract ((ji7):Int).toNat a0.size),.int .u8 93] rfl (by (try simp only [List.map_toArray,List.map_cons,List.map_nil]);first|done|(simp only [hji7];rfl)|rfl|(simp only [List.length_drop,List.length_take];rfl)) ?_;(with_reducible refine (strings_IndexByte.calls (a0.extract ((ji7):Int).toNat a0.size) 93 t102 _ A10.out).mono ?_);rintro e w' ⟨rfl,⟨nd,rfl⟩⟩;refine ⟨_,rfl,?_⟩))
        go_ret
        exact ⟨by first|rfl|(simp;done)|(simp only [← hji7] <;> (first|rfl|simp))|(simp [*];done),by repeat (first|exact Drawn0.refl _|apply Drawn0.step)⟩
      ·rw [if_neg c9] at H;exact absurd H (by simp)
     ·rw [if_neg c8] at H;exact absurd H (by simp)
    ·rw [if_neg c6] at H;have c6b0:decide (x3_3 < (a0.size:Int)) = false:=decide_eq_false c6;clear c6;by_cases c12:(-1) < 0
     ·rw [if_pos c12] at H;have c12b0:decide ((-1) < 0) = true:=decide_eq_true c12;clear c12;obtain rfl:=Option.some.inj H;go_wp2;go_ret
      exact ⟨by first|rfl|(simp;done)|(simp [*];done),by repeat (first|exact Drawn0.refl _|apply Drawn0.step)⟩
     ·rw [if_neg c12] at H;exact absurd (by decide:(-1:Int) < 0) c12
 ·rw [if_neg c2] at H;exact absurd H (by simp)
end Go.Proofs.YtcbbcnmifohibaaDoor.All
end
section
namespace Go.Proofs.YtcbbcnmifohibaaDoor.All
open Go.RowKit Go.Proofs.YtcbbcnmifohibaaDoorW.PrintWords Go.Proofs.YtcbbcnmifohibaaDoorW.PrintLast Go.Proofs.YtcbbcnmifohibaaDoorW.PrintMore
open Go.Proofs.YtcbbcnmifohibaaDoorW.Mine
attribute [local go_sem] gtr_string leq_string geq_string
attribute [local go_sem] max2_int min2_int max_two min_two max_three min_three max_four min_four
set_option linter.unusedVariables false
set_option linter.unusedSimpArgs false
mutual
def glob_Check.j0:Nat→ByteArray→Bool→Option (Int)
 | 0,_,_=>none
 | k + 1,x0,x13=>if x13 = true then (some 1) else ((strings_Split.f x0 (⟨#[47]⟩:ByteArray)).bind fun t101=>(glob_Check.l0 k t101 (t101.length:Int) 0))
def glob_Check.l0:Nat→List ByteArray→Int→Int→Option (Int)
 | 0,_,_,_=>none
 | k + 1,x15,x16,x17=>if x17 < x16 then (if 0 ≤ x17 then (if x17 < (x15.length:Int) then (if (rdOf ByteArray.empty x15 x17).toList = ([]:List UInt8) then (some 9) else (glob_Check.l1 k (rdOf ByteArray.empty x15 x17) x15 x16 x17)) else (none)) else (none)) else (some 0)
def glob_Check.l1:Nat→ByteArray→List ByteArray→Int→Int→Option (Int)
 | 0,_,_,_,_=>none
 | k + 1,x4,x15,x16,x17=>if x4.toList = ([42,42]:List UInt8) then (glob_Check.j3 k x4 x15 x16 x17 false) else (glob_Check.j3 k x4 x15 x16 x17 (x4.toList != ([]:List UInt8)))
def glob_Check.j3:Nat→ByteArray→List ByteArray→Int→Int→Bool→Option (Int)
 | 0,_,_,_,_,_=>none
 | k + 1,x4,x15,x16,x17,x28=>if x28 = true then (if 0 < (x4.size:Int) then (if (bt x4 0) = 91 then ((glob_end.f k x4).bind fun t105=>(if t105 < 0 then (some 3) else (if 0 ≤ t105 then (if t105 ≤ (x4.size:Int) then (glob_Check.l1 k (x4.extract (t105:Int).toNat x4.size) x15 x16 x17) else (none)) else (none)))) else (if 1 ≤ (x4.size:Int) then (glob_Check.l1 k (x4.extract 1 x4.size) x15 x16 x17) else (none))) else (none)) else (glob_Check.l0 k x15 x16 (wrap64 (x17 + 1)))
end
def glob_Check.f (k:Nat) (a0:ByteArray):Option (Int):=if (a0.size:Int) < 1 then (glob_Check.j0 k a0 true) else (glob_Check.j0 k a0 (decide ((a0.size:Int) > 400)))
set_option maxHeartbeats 8000000 in
set_option maxRecDepth 100000 in
theorem glob_Check.calls (k:Nat) (a0:ByteArray) (r:Int) (w:World) (h:glob_Check.f k a0 = some r) :
 Calls Tryd.prog 27 #[.string a0] w fun e w'=>e = .returned (.int .i64 r)∧Below w.heap.size w w':=by
 have HB:=Aside0.mk (Below.refl w.heap.size w);have H:(if (a0.size:Int) < 1 then (glob_Check.j0 k a0 true) else (glob_Check.j0 k a0 (decide ((a0.size:Int) > 400)))) = some r:=h;clear h;have HC2:=Aside0.mk H;clear H;go_enter Tryd.func27,Tryd.ntmps27;go_upto_region 1 with (fail)
 go_cut [13] (fun v13 wc=>∃ (kq:Nat) (x13_1:Bool),v13 = .bool x13_1∧Aside0 (glob_Check.j0 kq a0 x13_1 = some r)∧Aside0 (kq ≤ k)∧Aside0 (Below w.heap.size w wc))
 case first =>
  have H:=HC2.out;clear HC2;by_cases c3:(a0.size:Int) < 1
  ·rw [if_pos c3] at H;have c3b0:decide ((a0.size:Int) < 1) = true:=decide_eq_true c3;have c3b1:decide (a0.size < 1) = true:=decide_eq_true (by omega);clear c3;(first|rw [c3b0]|(simp only [i64_w,i32_w];rw [c3b0])|skip);have H':=Aside0.mk H;clear H;go_wp2;go_meet
   case rel=>exact ⟨_,(true),(by first|rfl|(simp;done)|(simp [*];done)),H',⟨by first|omega|exact Nat.le_refl _⟩,⟨by repeat (first|(with_reducible first|exact HB.out|apply bwA|apply pwbN|apply bw1)|exact HB.out)⟩⟩
  ·rw [if_neg c3] at H;have c3b0:decide ((a0.size:Int) < 1) = false:=decide_eq_false c3;have c3b1:decide (a0.size < 1) = false:=decide_eq_false (by omega);clear c3;(first|rw [c3b0]|(simp only [i64_w,i32_w];rw [c3b0])|skip);have H':=Aside0.mk H;clear H;go_wp2;go_meet
   case rel=>exact ⟨_,(decide ((a0.size:Int) > 400)),(by first|rfl|(simp;done)|(simp [*];done)),H',⟨by first|omega|exact Nat.le_refl _⟩,⟨by repeat (first|(with_reducible first|exact HB.out|apply bwA|apply pwbN|apply bw1)|exact HB.out)⟩⟩
 case rest =>
  clear HC2;obtain ⟨kq,x13_1,rfl,HA,HJ1,HB⟩:=hcut;cases kq with
  | zero=>exact absurd HA.out (by simp [glob_Check.j0])
  | succ kj1 =>
   have H:=HA.out;clear HA;simp only [glob_Check.j0] at H;by_cases c4:x13_1 = true
   ·subst c4;have H1:(some 1) = some r:=by rw [if_pos rfl] at H;exact H
    clear H;have H:=H1;clear H1;obtain rfl:=Option.some.inj H;go_wp2;go_ret
    exact ⟨by first|rfl|(simp [errW_none,errW_some] <;> rfl)|(simp [*,errW_none,errW_some] <;> rfl),by repeat (first|(with_reducible first|exact HB.out|apply bwA|apply pwbN|apply bw1)|exact HB.out)⟩
   ·replace c4:=Bool.eq_false_iff.mpr c4;subst c4;have H1:((strings_Split.f a0 (⟨#[47]⟩:ByteArray)).bind fun t101=>(glob_Check.l0 kj1 t101 (t101.length:Int) 0)) = some r:=by rw [if_neg (show ¬ (false = true) by decide)] at H;exact H
    clear H;have H:=H1;clear H1;replace H:=Option.bind_eq_some_iff.mp H;obtain ⟨t101,A50,H⟩:=H;replace H:(glob_Check.l0 kj1 t101 (t101.length:Int) 0) = some r:=H;have A5:=Aside0.mk A50;clear A50;have H':=Aside0.mk H;clear H;go_wp2_with (first|((with_reducible refine gate_callee (f:=57) rfl ?_);refine goesL_ (some 15) rfl rfl Tryd.func57 (by kernel_rfl) rfl #[.string a0,.string (⟨#[47]⟩:ByteArray)] rfl (by (try simp only [List.map_toArray,List.map_cons,List.map_nil]);first|done|rfl|(simp only [List.length_drop,List.length_take];rfl)) ?_;(with_reducible refine (strings_Split.calls a0 (⟨#[47]⟩:ByteArray) t101 _ A5.out).mono ?_);rintro e w6 ⟨v102,rfl,ho0,hb⟩;refine ⟨_,rfl,?_⟩;have n0_:=Aside0.mk (Kd.R_lower ho0 (below_size (by repeat (first|(with_reducible first|exact HB.out|apply bwA|apply pwbN|apply bw1)|exact HB.out))));have n1_:=Aside0.mk (below_step (by repeat (first|(with_reducible first|exact HB.out|apply bwA|apply pwbN|apply bw1)|exact HB.out)) hb);clear HB;have HO103:=n0_;have HB:=n1_;clear n0_ n1_;(try clear hb);(try clear hb2);(try clear hk);(try clear hi);(try clear ho0);obtain ⟨Ao7,co7,eo7⟩:=Kd.R_slice HO103.out;subst eo7))
    go_loopg [17] kj1 (fun kq v17 w'=>∃ (x17_2:Int),v17 = .int .i64 x17_2∧Aside0 (glob_Check.l0 kq t101 (t101.length:Int) x17_2 = some r)∧Aside0 (kq ≤ kj1)∧Aside0 (Kd.R Kd.string 9 w' w.heap.size (fun _=>True) (.slice Ao7 t101.length co7) t101)∧Aside0 (Below w.heap.size w w'))
    case atStart=>exact ⟨(0),(by first|rfl|(simp;done)|(simp [*];done)),H',⟨Nat.le_refl _⟩,⟨by (with_reducible repeat (first|apply Kd.R_alloc|apply Kd.R_drewN|apply Kd.R_drew));exact HO103.out⟩,⟨by repeat (first|(with_reducible first|exact HB.out|apply bwA|apply pwbN|apply bw1)|exact HB.out)⟩⟩
    case round =>
     clear H';try clear c4
     obtain ⟨x17_2,rfl,HA,HK2,HO_15,HB⟩:=hrel;cases gk with
     | zero=>exact absurd HA.out (by simp [glob_Check.l0])
     | succ k2 =>
      have H:=HA.out;clear HA;simp only [glob_Check.l0] at H;by_cases c8:x17_2 < (t101.length:Int)
      ·rw [if_pos c8] at H;have c8b0:decide (x17_2 < (t101.length:Int)) = true:=decide_eq_true c8;clear c8;by_cases c9:0 ≤ x17_2
       ·rw [if_pos c9] at H;have c9b0:decide (0 ≤ x17_2) = true:=decide_eq_true c9;clear c9;by_cases c10:x17_2 < (t101.length:Int)
        ·rw [if_pos c10] at H;have c10b0:decide (x17_2 < (t101.length:Int)) = true:=decide_eq_true c10;clear c10;by_cases c11:(rdOf ByteArray.empty t101 x17_2).toList = ([]:List UInt8)
         ·rw [if_pos c11] at H;have c11b0:((rdOf ByteArray.empty t101 x17_2).toList == ([]:List UInt8)) = true:=beq_iff_eq.mpr c11;have c11b1:((rdOf ByteArray.empty t101 x17_2).toList != ([]:List UInt8)) = false:=bne_eq_false_iff_eq.mpr c11;clear c11;obtain rfl:=Option.some.inj H;have p104:0 ≤ (x17_2:Int):=of_decide_eq_true (by first|(with_reducible assumption)|assumption);have q104:x17_2 < (t101.length:Int):=of_decide_eq_true (by first|(with_reducible assumption)|assumption);obtain ⟨ad104,e104,hx104_0⟩:=Kd.at_string (Kd.R_reads' HO_15.out).2.2 x17_2 p104 q104;cases e104;replace p104:=eq_true p104;replace q104:=eq_true q104;go_wp2;go_ret
          exact ⟨by first|rfl|(simp [errW_none,errW_some] <;> rfl)|(simp [*,errW_none,errW_some] <;> rfl),by repeat (first|(with_reducible first|exact HB.out|apply bwA|apply pwbN|apply bw1)|exact HB.out)⟩
         ·rw [if_neg c11] at H;have c11b0:((rdOf ByteArray.empty t101 x17_2).toList == ([]:List UInt8)) = false:=beq_eq_false_iff_ne.mpr c11;have c11b1:((rdOf ByteArray.empty t101 x17_2).toList != ([]:List UInt8)) = true:=bne_iff_ne.mpr c11;have H':=Aside0.mk H;clear H;have p104:0 ≤ (x17_2:Int):=of_decide_eq_true (by first|(with_reducible assumption)|assumption);have q104:x17_2 < (t101.length:Int):=of_decide_eq_true (by first|(with_reducible assumption)|assumption);obtain ⟨ad104,e104,hx104_0⟩:=Kd.at_string (Kd.R_reads' HO_15.out).2.2 x17_2 p104 q104;cases e104;replace p104:=eq_true p104;replace q104:=eq_true q104;go_wp2;go_loopg [4] k2 (fun kq v4 w'=>∃ (x4_3:ByteArray),v4 = .string x4_3∧Aside0 (glob_Check.l1 kq x4_3 t101 (t101.length:Int) x17_2 = some r)∧Aside0 (kq ≤ k2)∧Aside0 (Kd.R Kd.string 9 w' w.heap.size (fun _=>True) (.slice (some ad104) t101.length co7) t101)∧Aside0 (Below w.heap.size w w'))
          case atStart=>exact ⟨(rdOf ByteArray.empty t101 x17_2),(by first|rfl|(simp;done)|(simp [*];done)),H',⟨Nat.le_refl _⟩,⟨by (with_reducible repeat (first|apply Kd.R_alloc|apply Kd.R_drewN|apply Kd.R_drew));exact HO_15.out⟩,⟨by repeat (first|(with_reducible first|exact HB.out|apply bwA|apply pwbN|apply bw1)|exact HB.out)⟩⟩
          case round =>
           clear H';repeat first|clear c4|clear c8|clear c8b0|clear c9|clear c9b0|clear c10|clear c10b0|clear c11|clear c11b0|clear c11b1|clear hx104_0|clear p104|clear q104
           obtain ⟨x4_3,rfl,HA,HK3,HO_15,HB⟩:=hrel;cases gk with
           | zero=>exact absurd HA.out (by simp [glob_Check.l1])
           | succ k3 =>
            have H:=HA.out;clear HA;simp only [glob_Check.l1] at H;have HC12:=Aside0.mk H;clear H;go_upto_region 8 with (fail)
            go_cut [28] (fun v28 wc=>∃ (kq:Nat) (x28_11:Bool),v28 = .bool x28_11∧Aside0 (glob_Check.j3 kq x4_3 t101 (t101.length:Int) x17_2 x28_11 = some r)∧Aside0 (kq ≤ k3)∧Aside0 (Kd.R Kd.string 9 wc w.heap.size (fun _=>True) (.slice (some ad104) t101.length co7) t101)∧Aside0 (Below w.heap.size w wc))
            case first =>
             have H:=HC12.out;clear HC12;by_cases c13:x4_3.toList = ([42,42]:List UInt8)
             ·rw [if_pos c13] at H;have c13b0:(x4_3.toList == ([42,42]:List UInt8)) = true:=beq_iff_eq.mpr c13;have c13b1:(x4_3.toList != ([42,42]:List UInt8)) = false:=bne_eq_false_iff_eq.mpr c13;clear c13;(first|rw [c13b0]|(simp only [i64_w,i32_w];rw [c13b0])|skip);have H':=Aside0.mk H;clear H;go_wp2;go_meet
              case rel=>exact ⟨_,(false),(by first|rfl|(simp;done)|(simp [*];done)),H',⟨by have:=HJ1.out;have:=HK2.out;have:=HK3.out;first|omega|exact Nat.le_refl _⟩,⟨by (with_reducible repeat (first|apply Kd.R_alloc|apply Kd.R_drewN|apply Kd.R_drew));exact HO_15.out⟩,⟨by repeat (first|(with_reducible first|exact HB.out|apply bwA|apply pwbN|apply bw1)|exact HB.out)⟩⟩
             ·rw [if_neg c13] at H;have c13b0:(x4_3.toList == ([42,42]:List UInt8)) = false:=beq_eq_false_iff_ne.mpr c13;have c13b1:(x4_3.toList != ([42,42]:List UInt8)) = true:=bne_iff_ne.mpr c13;(first|rw [c13b0]|(simp only [i64_w,i32_w];rw [c13b0])|skip);have H':=Aside0.mk H;clear H;go_wp2;go_meet
              case rel=>exact ⟨_,((x4_3.toList != ([]:List UInt8))),(by first|rfl|(simp;done)|(simp [*];done)|(cases x4_3.toList <;> simp [bne];done)|(cases x4_3.toList <;> rfl)),H',⟨by have:=HJ1.out;have:=HK2.out;have:=HK3.out;first|omega|exact Nat.le_refl _⟩,⟨by (with_reducible repeat (first|apply Kd.R_alloc|apply Kd.R_drewN|apply Kd.R_drew));exact HO_15.out⟩,⟨by repeat (first|(with_reducible first|exact HB.out|apply bwA|apply pwbN|apply bw1)|exact HB.out)⟩⟩
            case rest =>
             clear HC12;repeat first|clear c4|clear c8|clear c8b0|clear c9|clear c9b0|clear c10|clear c10b0|clear c11|clear c11b0|clear c11b1|clear hx104_0|clear p104|clear q104
             obtain ⟨kq,x28_11,rfl,HA,HJ11,HO_15,HB⟩:=hcut;cases kq with
             | zero=>exact absurd HA.out (by simp [glob_Check.j3])
             | succ kj11 =>
              have H:=HA.out;clear HA;simp only [glob_Check.j3] at H;by_cases c14:x28_11 = true
              ·subst c14;have H1:(if 0 < (x4_3.size:Int) then (if (bt x4_3 0) = 91 then ((glob_end.f kj11 x4_3).bind fun t105=>(if t105 < 0 then (some 3) else (if 0 ≤ t105 then (if t105 ≤ (x4_3.size:Int) then (glob_Check.l1 kj11 (x4_3.extract (t105:Int).toNat x4_3.size) t101 (t101.length:Int) x17_2) else (none)) else (none)))) else (if 1 ≤ (x4_3.size:Int) then (glob_Check.l1 kj11 (x4_3.extract 1 x4_3.size) t101 (t101.length:Int) x17_2) else (none))) else (none)) = some r:=by rw [if_pos rfl] at H;exact H
               clear H;have H:=H1;clear H1;by_cases c15:0 < (x4_3.size:Int)
               ·rw [if_pos c15] at H;have c15b0:decide (0 < (x4_3.size:Int)) = true:=decide_eq_true c15;have c15b1:decide (0 < x4_3.size) = true:=decide_eq_true (by omega);clear c15;by_cases c17:(bt x4_3 0) = 91
                ·rw [if_pos c17] at H;have c17b0:((bt x4_3 0) == 91) = true:=beq_iff_eq.mpr c17;have c17b1:((bt x4_3 0) != 91) = false:=bne_eq_false_iff_eq.mpr c17;clear c17;replace H:=Option.bind_eq_some_iff.mp H;obtain ⟨t105,A180,H⟩:=H;replace H:(if t105 < 0 then (some 3) else (if 0 ≤ t105 then (if t105 ≤ (x4_3.size:Int) then (glob_Check.l1 kj11 (x4_3.extract (t105:Int).toNat x4_3.size) t101 (t101.length:Int) x17_2) else (none)) else (none))) = some r:=H;have A18:=Aside0.mk A180;clear A180;by_cases c19:t105 < 0
                 ·rw [if_pos c19] at H;have c19b0:decide (t105 < 0) = true:=decide_eq_true c19;clear c19;obtain rfl:=Option.some.inj H;have p16:0 ≤ (0:Int):=(by omega)
                  have q16:0 < x4_3.size:=(by have:(0:Int) < (x4_3.size:Int):=of_decide_eq_true (by first|(with_reducible assumption)|assumption);omega)
                  have hx16:∀ h:0 < x4_3.size,((x4_3[0]'h).toNat:Int) = bt x4_3 0:=bt_at x4_3 0;clear p16;have qi16:(0 < (x4_3.size:Int)) = True:=eq_true (of_decide_eq_true (by first|(with_reducible assumption)|assumption));replace q16:=eq_true q16;go_wp2_with (first|((with_reducible refine gate_callee (f:=58) rfl ?_);refine goesL_ (some 36) rfl rfl Tryd.func58 (by kernel_rfl) rfl #[.string x4_3] rfl (by (try simp only [List.map_toArray,List.map_cons,List.map_nil]);first|done|rfl|(simp only [List.length_drop,List.length_take];rfl)) ?_;(with_reducible refine (glob_end.calls kj11 x4_3 t105 _ A18.out).mono ?_);rintro e w' ⟨rfl,⟨nd,rfl⟩⟩;refine ⟨_,rfl,?_⟩))
                  go_ret
                  exact ⟨by first|rfl|(simp [errW_none,errW_some] <;> rfl)|(simp [*,errW_none,errW_some] <;> rfl),by repeat (first|(with_reducible first|exact HB.out|apply bwA|apply pwbN|apply bw1)|exact HB.out)⟩
                 ·rw [if_neg c19] at H;have c19b0:decide (t105 < 0) = false:=decide_eq_false c19;clear c19;by_cases c20:0 ≤ t105
                  ·rw [if_pos c20] at H;have c20b0:=eq_true c20;have c20b1:decide (0 ≤ t105) = true:=decide_eq_true c20;clear c20;by_cases c21:t105 ≤ (x4_3.size:Int)
                   ·rw [if_pos c21] at H;have c21b0:=eq_true c21;have c21b1:decide (t105 ≤ (x4_3.size:Int)) = true:=decide_eq_true c21;clear c21;have H':=Aside0.mk H;clear H;have p16:0 ≤ (0:Int):=(by omega)
                    have q16:0 < x4_3.size:=(by have:(0:Int) < (x4_3.size:Int):=of_decide_eq_true (by first|(with_reducible assumption)|assumption);omega)
                    have hx16:∀ h:0 < x4_3.size,((x4_3[0]'h).toNat:Int) = bt x4_3 0:=bt_at x4_3 0;clear p16;have qi16:(0 < (x4_3.size:Int)) = True:=eq_true (of_decide_eq_true (by first|(with_reducible assumption)|assumption));replace q16:=eq_true q16;go_wp2_with (first|((with_reducible refine gate_callee (f:=58) rfl ?_);refine goesL_ (some 36) rfl rfl Tryd.func58 (by kernel_rfl) rfl #[.string x4_3] rfl (by (try simp only [List.map_toArray,List.map_cons,List.map_nil]);first|done|rfl|(simp only [List.length_drop,List.length_take];rfl)) ?_;(with_reducible refine (glob_end.calls kj11 x4_3 t105 _ A18.out).mono ?_);rintro e w' ⟨rfl,⟨nd,rfl⟩⟩;refine ⟨_,rfl,?_⟩))
                    go_roundg kj11
                    case measure=>have:=HJ1.out;have:=HK2.out;have:=HK3.out;have:=HJ11.out;omega
                    case rel=>exact ⟨(x4_3.extract (t105:Int).toNat x4_3.size),(by first|rfl|(simp;done)|(simp [*];done)),H',⟨by have:=HJ1.out;have:=HK2.out;have:=HK3.out;have:=HJ11.out;omega⟩,⟨by (with_reducible repeat (first|apply Kd.R_alloc|apply Kd.R_drewN|apply Kd.R_drew));exact HO_15.out⟩,⟨by repeat (first|(with_reducible first|exact HB.out|apply bwA|apply pwbN|apply bw1)|exact HB.out)⟩⟩
                   ·rw [if_neg c21] at H;exact absurd H (by simp)
                  ·rw [if_neg c20] at H;exact absurd H (by simp)
                ·rw [if_neg c17] at H;have c17b0:((bt x4_3 0) == 91) = false:=beq_eq_false_iff_ne.mpr c17;have c17b1:((bt x4_3 0) != 91) = true:=bne_iff_ne.mpr c17;by_cases c22:1 ≤ (x4_3.size:Int)
                 ·rw [if_pos c22] at H;have c22b0:=eq_true c22;have c22b1:decide (1 ≤ (x4_3.size:Int)) = true:=decide_eq_true c22;clear c22;have H':=Aside0.mk H;clear H;have p16:0 ≤ (0:Int):=(by omega)
                  have q16:0 < x4_3.size:=(by have:(0:Int) < (x4_3.size:Int):=of_decide_eq_true (by first|(with_reducible assumption)|assumption);omega)
                  have hx16:∀ h:0 < x4_3.size,((x4_3[0]'h).toNat:Int) = bt x4_3 0:=bt_at x4_3 0;clear p16;have qi16:(0 < (x4_3.size:Int)) = True:=eq_true (of_decide_eq_true (by first|(with_reducible assumption)|assumption));replace q16:=eq_true q16;go_wp2;go_roundg kj11
                  case measure=>have:=HJ1.out;have:=HK2.out;have:=HK3.out;have:=HJ11.out;omega
                  case rel=>exact ⟨(x4_3.extract 1 x4_3.size),(by first|rfl|(simp;done)|(simp [*];done)),H',⟨by have:=HJ1.out;have:=HK2.out;have:=HK3.out;have:=HJ11.out;omega⟩,⟨by (with_reducible repeat (first|apply Kd.R_alloc|apply Kd.R_drewN|apply Kd.R_drew));exact HO_15.out⟩,⟨by repeat (first|(with_reducible first|exact HB.out|apply bwA|apply pwbN|apply bw1)|exact HB.out)⟩⟩
                 ·rw [if_neg c22] at H;exact absurd H (by simp)
               ·rw [if_neg c15] at H;exact absurd H (by simp)
              ·replace c14:=Bool.eq_false_iff.mpr c14;subst c14;have H1:(glob_Check.l0 kj11 t101 (t101.length:Int) (wrap64 (x17_2 + 1))) = some r:=by rw [if_neg (show ¬ (false = true) by decide)] at H;exact H
               clear H;have H:=H1;clear H1;have H':=Aside0.mk H;clear H;go_wp2;go_roundg kj11
               case measure=>have:=HJ1.out;have:=HK2.out;have:=HK3.out;have:=HJ11.out;omega
               case rel=>exact ⟨(wrap64 (x17_2 + 1)),(by first|rfl|(simp;done)|(simp [*];done)),H',⟨by have:=HJ1.out;have:=HK2.out;have:=HK3.out;have:=HJ11.out;omega⟩,⟨by (with_reducible repeat (first|apply Kd.R_alloc|apply Kd.R_drewN|apply Kd.R_drew));exact HO_15.out⟩,⟨by repeat (first|(with_reducible first|exact HB.out|apply bwA|apply pwbN|apply bw1)|exact HB.out)⟩⟩
        ·rw [if_neg c10] at H;exact absurd H (by simp)
       ·rw [if_neg c9] at H;exact absurd H (by simp)
      ·rw [if_neg c8] at H;have c8b0:decide (x17_2 < (t101.length:Int)) = false:=decide_eq_false c8;clear c8;obtain rfl:=Option.some.inj H;go_wp2;go_ret
       exact ⟨by first|rfl|(simp [errW_none,errW_some] <;> rfl)|(simp [*,errW_none,errW_some] <;> rfl),by repeat (first|(with_reducible first|exact HB.out|apply bwA|apply pwbN|apply bw1)|exact HB.out)⟩
end Go.Proofs.YtcbbcnmifohibaaDoor.All
end
section
namespace Go.Proofs.YtcbbcnmifohibaaDoor.All
open Go.RowKit Go.Proofs.YtcbbcnmifohibaaDoorW.PrintWords Go.Proofs.YtcbbcnmifohibaaDoorW.PrintLast Go.Proofs.YtcbbcnmifohibaaDoorW.PrintMore
open Go.Proofs.YtcbbcnmifohibaaDoorW.Mine
attribute [local go_sem] gtr_string leq_string geq_string
attribute [local go_sem] max2_int min2_int max_two min_two max_three min_three max_four min_four
set_option linter.unusedVariables false
set_option linter.unusedSimpArgs false
def filter_Check.l0:Nat→List (S58)→Int→Int→Option (Int)
 | 0,_,_,_=>none
 | k + 1,x9,x10,x11=>if x11 < x10 then (if 0 ≤ x11 then (if x11 < (x9.length:Int) then ((glob_Check.f k ((rd_T58 x9 x11).f1)).bind fun t103=>(if t103 = 0 then (filter_Check.l0 k x9 x10 (wrap64 (x11 + 1))) else (some t103))) else (none)) else (none)) else (some 0)
def filter_Check.f (k:Nat) (l0:List (S58)):Option (Int):=if (l0.length:Int) > 12 then (some 1) else (filter_Check.l0 k l0 (l0.length:Int) 0)
set_option maxHeartbeats 8000000 in
set_option maxRecDepth 100000 in
theorem filter_Check.calls (k:Nat) (A0:Option Addr) (c0:Nat) (l0:List (S58)) (r:Int) (w:World) (hr0:Kd.C k58 w A0 l0.length l0) (hc0:l0.length ≤ c0) (h:filter_Check.f k l0 = some r) :
 Calls Tryd.prog 11 #[.slice A0 l0.length c0] w fun e w'=>e = .returned (.int .i64 r)∧Below w.heap.size w w':=by
 have hu58:=Tryd.underlying58;have HR0:=Aside0.mk hr0;have HC0:=Aside0.mk hc0;clear hr0 hc0;have HB:=Aside0.mk (Below.refl w.heap.size w);have H:(if (l0.length:Int) > 12 then (some 1) else (filter_Check.l0 k l0 (l0.length:Int) 0)) = some r:=h;clear h;by_cases c2:(l0.length:Int) > 12
 ·rw [if_pos c2] at H;have c2b0:decide (12 < (l0.length:Int)) = true:=decide_eq_true c2;have c2b1:decide (12 < l0.length) = true:=decide_eq_true (by omega);clear c2;obtain rfl:=Option.some.inj H;go_enter Tryd.func11,Tryd.ntmps11;go_wp2;go_ret
  exact ⟨by first|rfl|(simp [errW_none,errW_some] <;> rfl)|(simp [*,errW_none,errW_some] <;> rfl),by repeat (first|(with_reducible first|exact HB.out|apply bwA|apply pwbN|apply bw1)|exact HB.out)⟩
 ·rw [if_neg c2] at H;have c2b0:decide (12 < (l0.length:Int)) = false:=decide_eq_false c2;have c2b1:decide (12 < l0.length) = false:=decide_eq_false (by omega);clear c2;have H':=Aside0.mk H;clear H;go_enter Tryd.func11,Tryd.ntmps11;go_wp2;go_loopg [11] k (fun kq v11 w'=>∃ (x11_1:Int),v11 = .int .i64 x11_1∧Aside0 (filter_Check.l0 kq l0 (l0.length:Int) x11_1 = some r)∧Aside0 (kq ≤ k)∧Aside0 (Below w.heap.size w w'))
  case atStart=>exact ⟨(0),(by first|rfl|(simp;done)|(simp [*];done)),H',⟨Nat.le_refl _⟩,⟨by repeat (first|(with_reducible first|exact HB.out|apply bwA|apply pwbN|apply bw1)|exact HB.out)⟩⟩
  case round =>
   clear H';repeat first|clear c2|clear c2b0|clear c2b1
   obtain ⟨x11_1,rfl,HA,HK1,HB⟩:=hrel;cases gk with
   | zero=>exact absurd HA.out (by simp [filter_Check.l0])
   | succ k1 =>
    have H:=HA.out;clear HA;simp only [filter_Check.l0] at H;by_cases c3:x11_1 < (l0.length:Int)
    ·rw [if_pos c3] at H;have c3b0:decide (x11_1 < (l0.length:Int)) = true:=decide_eq_true c3;clear c3;by_cases c4:0 ≤ x11_1
     ·rw [if_pos c4] at H;have c4b0:decide (0 ≤ x11_1) = true:=decide_eq_true c4;clear c4;by_cases c5:x11_1 < (l0.length:Int)
      ·rw [if_pos c5] at H;have c5b0:decide (x11_1 < (l0.length:Int)) = true:=decide_eq_true c5;clear c5;replace H:=Option.bind_eq_some_iff.mp H;obtain ⟨t103,A60,H⟩:=H;replace H:(if t103 = 0 then (filter_Check.l0 k1 l0 (l0.length:Int) (wrap64 (x11_1 + 1))) else (some t103)) = some r:=H;have A6:=Aside0.mk A60;clear A60;by_cases c7:t103 = 0
       ·rw [if_pos c7] at H;have c7b0:(t103 == 0) = true:=beq_iff_eq.mpr c7;have c7b1:(t103 != 0) = false:=bne_eq_false_iff_eq.mpr c7;clear c7;have H':=Aside0.mk H;clear H;have p101:0 ≤ (x11_1:Int):=of_decide_eq_true (by first|(with_reducible assumption)|assumption);have q101:x11_1 < (l0.length:Int):=of_decide_eq_true (by first|(with_reducible assumption)|assumption);obtain ⟨ad101,e101,hx101_0,hx101_1⟩:=at_T58 HR0.out x11_1 p101 q101;cases e101;replace hx101_0:=(HB.out.cell (World.block_lt_of_cell? w _ hx101_0)).trans hx101_0;replace hx101_1:=(HB.out.cell (World.block_lt_of_cell? w _ hx101_1)).trans hx101_1;replace p101:=eq_true p101;replace q101:=eq_true q101;go_wp2_with (first|((with_reducible refine gate_dst (N:=4) rfl ?_);refine box_event ?hg (N:=4) ?hd (cs:=#[.bool false,.string (⟨#[]⟩:ByteArray)]) (t:=58) ?hr ?_;(case hd=>rfl);(case hg=>rfl);(case hr=>first|(go_simp;done)|(go_simp;rfl));intro gb102 hg w8 hbox hb;have n0_:=Aside0.mk (below_step (by repeat (first|(with_reducible first|exact HB.out|apply bwA|apply pwbN|apply bw1)|exact HB.out)) hb);have n1_:=Aside0.mk (hbox);have n2_:=Aside0.mk ((by rw [hg];exact (below_size (by repeat (first|(with_reducible first|exact HB.out|apply bwA|apply pwbN|apply bw1)|exact HB.out))):w.heap.size ≤ gb102));have n3_:=Aside0.mk ((by rw [hg];exact (below_size (by repeat (first|(with_reducible first|exact HB.out|apply bwA|apply pwbN|apply bw1)|exact HB.out))):w.heap.size ≤ gb102));clear HB;have HB:=n0_;have BK102:=n1_;have GW102:=n2_;have GE102:=n3_;clear n0_ n1_ n2_ n3_;clear hb hbox hg;obtain ⟨_,_,_,_⟩:=blkA2 BK102.out)|((with_reducible refine gate_callee (f:=27) rfl ?_);refine goesL_ (some 17) rfl rfl Tryd.func27 (by kernel_rfl) rfl #[.string ((rd_T58 l0 x11_1).f1)] rfl (by (try simp only [List.map_toArray,List.map_cons,List.map_nil]);first|done|rfl|(simp only [List.length_drop,List.length_take];rfl)) ?_;(with_reducible refine (glob_Check.calls k1 ((rd_T58 l0 x11_1).f1) t103 _ A6.out).mono ?_);rintro e w10 ⟨rfl,hb⟩;refine ⟨_,rfl,?_⟩;have n0_:=Aside0.mk (blk_below (g:=gb102) (o := .cells #[.bool ((rd_T58 l0 x11_1).f0),.string ((rd_T58 l0 x11_1).f1)] 58 (0,0)) (by (with_reducible repeat (first|refine blk_drewN ?_ _|refine blk_drew ?_|refine blk_alloc ?_ _));refine blk_put (cs:=#[.bool ((rd_T58 l0 x11_1).f0),.string (⟨#[]⟩:ByteArray)]) ?_ 1 _ rfl;(with_reducible repeat (first|refine blk_drewN ?_ _|refine blk_drew ?_|refine blk_alloc ?_ _));refine blk_put (cs:=#[.bool false,.string (⟨#[]⟩:ByteArray)]) ?_ 0 _ rfl;(with_reducible repeat (first|refine blk_drewN ?_ _|refine blk_drew ?_|refine blk_alloc ?_ _));exact BK102.out) hb);have n1_:=Aside0.mk (below_step (by repeat (first|(with_reducible first|exact HB.out|apply bwA|apply pwbN|apply bw1|refine below_set ?_ GE102.out)|exact HB.out)) hb);clear BK102;clear HB;have BK102:=n0_;have HB:=n1_;clear n0_ n1_;(try clear hb);(try clear hb2);(try clear hk);(try clear hi)))
        go_roundg k1
        case measure=>have:=HK1.out;omega
        case rel=>exact ⟨(wrap64 (x11_1 + 1)),(by first|rfl|(simp;done)|(simp [*];done)),H',⟨by have:=HK1.out;omega⟩,⟨by repeat (first|(with_reducible first|exact HB.out|apply bwA|apply pwbN|apply bw1|refine below_set ?_ GE102.out)|exact HB.out)⟩⟩
       ·rw [if_neg c7] at H;have c7b0:(t103 == 0) = false:=beq_eq_false_iff_ne.mpr c7;have c7b1:(t103 != 0) = true:=bne_iff_ne.mpr c7;obtain rfl:=Option.some.inj H;have p101:0 ≤ (x11_1:Int):=of_decide_eq_true (by first|(with_reducible assumption)|assumption);have q101:x11_1 < (l0.length:Int):=of_decide_eq_true (by first|(with_reducible assumption)|assumption);obtain ⟨ad101,e101,hx101_0,hx101_1⟩:=at_T58 HR0.out x11_1 p101 q101;cases e101;replace hx101_0:=(HB.out.cell (World.block_lt_of_cell? w _ hx101_0)).trans hx101_0;replace hx101_1:=(HB.out.cell (World.block_lt_of_cell? w _ hx101_1)).trans hx101_1;replace p101:=eq_true p101;replace q101:=eq_true q101;go_wp2_with (first|((with_reducible refine gate_dst (N:=4) rfl ?_);refine box_event ?hg (N:=4) ?hd (cs:=#[.bool false,.string (⟨#[]⟩:ByteArray)]) (t:=58) ?hr ?_;(case hd=>rfl);(case hg=>rfl);(case hr=>first|(go_simp;done)|(go_simp;rfl));intro gb102 hg w11 hbox hb;have n0_:=Aside0.mk (below_step (by repeat (first|(with_reducible first|exact HB.out|apply bwA|apply pwbN|apply bw1)|exact HB.out)) hb);have n1_:=Aside0.mk (hbox);have n2_:=Aside0.mk ((by rw [hg];exact (below_size (by repeat (first|(with_reducible first|exact HB.out|apply bwA|apply pwbN|apply bw1)|exact HB.out))):w.heap.size ≤ gb102));have n3_:=Aside0.mk ((by rw [hg];exact (below_size (by repeat (first|(with_reducible first|exact HB.out|apply bwA|apply pwbN|apply bw1)|exact HB.out))):w.heap.size ≤ gb102));clear HB;have HB:=n0_;have BK102:=n1_;have GW102:=n2_;have GE102:=n3_;clear n0_ n1_ n2_ n3_;clear hb hbox hg;obtain ⟨_,_,_,_⟩:=blkA2 BK102.out)|((with_reducible refine gate_callee (f:=27) rfl ?_);refine goesL_ (some 17) rfl rfl Tryd.func27 (by kernel_rfl) rfl #[.string ((rd_T58 l0 x11_1).f1)] rfl (by (try simp only [List.map_toArray,List.map_cons,List.map_nil]);first|done|rfl|(simp only [List.length_drop,List.length_take];rfl)) ?_;(with_reducible refine (glob_Check.calls k1 ((rd_T58 l0 x11_1).f1) t103 _ A6.out).mono ?_);rintro e w13 ⟨rfl,hb⟩;refine ⟨_,rfl,?_⟩;have n0_:=Aside0.mk (blk_below (g:=gb102) (o := .cells #[.bool ((rd_T58 l0 x11_1).f0),.string ((rd_T58 l0 x11_1).f1)] 58 (0,0)) (by (with_reducible repeat (first|refine blk_drewN ?_ _|refine blk_drew ?_|refine blk_alloc ?_ _));refine blk_put (cs:=#[.bool ((rd_T58 l0 x11_1).f0),.string (⟨#[]⟩:ByteArray)]) ?_ 1 _ rfl;(with_reducible repeat (first|refine blk_drewN ?_ _|refine blk_drew ?_|refine blk_alloc ?_ _));refine blk_put (cs:=#[.bool false,.string (⟨#[]⟩:ByteArray)]) ?_ 0 _ rfl;(with_reducible repeat (first|refine blk_drewN ?_ _|refine blk_drew ?_|refine blk_alloc ?_ _));exact BK102.out) hb);have n1_:=Aside0.mk (below_step (by repeat (first|(with_reducible first|exact HB.out|apply bwA|apply pwbN|apply bw1|refine below_set ?_ GE102.out)|exact HB.out)) hb);clear BK102;clear HB;have BK102:=n0_;have HB:=n1_;clear n0_ n1_;(try clear hb);(try clear hb2);(try clear hk);(try clear hi)))
        go_ret
        exact ⟨by first|rfl|(simp [errW_none,errW_some] <;> rfl)|(simp [*,errW_none,errW_some] <;> rfl),by repeat (first|(with_reducible first|exact HB.out|apply bwA|apply pwbN|apply bw1|refine below_set ?_ GE102.out)|exact HB.out)⟩
      ·rw [if_neg c5] at H;exact absurd H (by simp)
     ·rw [if_neg c4] at H;exact absurd H (by simp)
    ·rw [if_neg c3] at H;have c3b0:decide (x11_1 < (l0.length:Int)) = false:=decide_eq_false c3;clear c3;obtain rfl:=Option.some.inj H;go_wp2;go_ret
     exact ⟨by first|rfl|(simp [errW_none,errW_some] <;> rfl)|(simp [*,errW_none,errW_some] <;> rfl),by repeat (first|(with_reducible first|exact HB.out|apply bwA|apply pwbN|apply bw1)|exact HB.out)⟩
end Go.Proofs.YtcbbcnmifohibaaDoor.All
end
section
namespace Go.Proofs.YtcbbcnmifohibaaDoor.All
open Go.RowKit Go.Proofs.YtcbbcnmifohibaaDoorW.PrintWords Go.Proofs.YtcbbcnmifohibaaDoorW.PrintLast Go.Proofs.YtcbbcnmifohibaaDoorW.PrintMore
open Go.Proofs.YtcbbcnmifohibaaDoorW.Mine
attribute [local go_sem] gtr_string leq_string geq_string
attribute [local go_sem] max2_int min2_int max_two min_two max_three min_three max_four min_four
set_option linter.unusedVariables false
set_option linter.unusedSimpArgs false
mutual
def path_Check.j0:Nat→ByteArray→Bool→Option (Int)
 | 0,_,_=>none
 | k + 1,x0,x12=>if x12 = true then (some 1) else ((strings_IndexByte.f x0 0).bind fun t101=>(if t101 ≥ 0 then (some 3) else ((strings_Split.f x0 (⟨#[47]⟩:ByteArray)).bind fun t102=>(path_Check.l0 k t102 (t102.length:Int) 0))))
def path_Check.l0:Nat→List ByteArray→Int→Int→Option (Int)
 | 0,_,_,_=>none
 | k + 1,x17,x18,x19=>if x19 < x18 then (if 0 ≤ x19 then (if x19 < (x17.length:Int) then (if (rdOf ByteArray.empty x17 x19).toList = ([]:List UInt8) then (some 9) else (if (rdOf ByteArray.empty x17 x19).toList = ([46]:List UInt8) then (some 9) else (if (rdOf ByteArray.empty x17 x19).toList = ([46,46]:List UInt8) then (some 9) else (path_Check.l0 k x17 x18 (wrap64 (x19 + 1)))))) else (none)) else (none)) else (some 0)
end
def path_Check.f (k:Nat) (a0:ByteArray):Option (Int):=if (a0.size:Int) < 1 then (path_Check.j0 k a0 true) else (path_Check.j0 k a0 (decide ((a0.size:Int) > 400)))
set_option maxHeartbeats 8000000 in
set_option maxRecDepth 100000 in
theorem path_Check.calls (k:Nat) (a0:ByteArray) (r:Int) (w:World) (h:path_Check.f k a0 = some r) :
 Calls Tryd.prog 28 #[.string a0] w fun e w'=>e = .returned (.int .i64 r)∧Below w.heap.size w w':=by
 have HB:=Aside0.mk (Below.refl w.heap.size w);have H:(if (a0.size:Int) < 1 then (path_Check.j0 k a0 true) else (path_Check.j0 k a0 (decide ((a0.size:Int) > 400)))) = some r:=h;clear h;have HC2:=Aside0.mk H;clear H;go_enter Tryd.func28,Tryd.ntmps28;go_upto_region 1 with (fail)
 go_cut [12] (fun v12 wc=>∃ (kq:Nat) (x12_1:Bool),v12 = .bool x12_1∧Aside0 (path_Check.j0 kq a0 x12_1 = some r)∧Aside0 (kq ≤ k)∧Aside0 (Below w.heap.size w wc))
 case first =>
  have H:=HC2.out;clear HC2;by_cases c3:(a0.size:Int) < 1
  ·rw [if_pos c3] at H;have c3b0:decide ((a0.size:Int) < 1) = true:=decide_eq_true c3;have c3b1:decide (a0.size < 1) = true:=decide_eq_true (by omega);clear c3;(first|rw [c3b0]|(simp only [i64_w,i32_w];rw [c3b0])|skip);have H':=Aside0.mk H;clear H;go_wp2;go_meet
   case rel=>exact ⟨_,(true),(by first|rfl|(simp;done)|(simp [*];done)),H',⟨by first|omega|exact Nat.le_refl _⟩,⟨by repeat (first|(with_reducible first|exact HB.out|apply bwA|apply pwbN|apply bw1)|exact HB.out)⟩⟩
  ·rw [if_neg c3] at H;have c3b0:decide ((a0.size:Int) < 1) = false:=decide_eq_false c3;have c3b1:decide (a0.size < 1) = false:=decide_eq_false (by omega);clear c3;(first|rw [c3b0]|(simp only [i64_w,i32_w];rw [c3b0])|skip);have H':=Aside0.mk H;clear H;go_wp2;go_meet
   case rel=>exact ⟨_,(decide ((a0.size:Int) > 400)),(by first|rfl|(simp;done)|(simp [*];done)),H',⟨by first|omega|exact Nat.le_refl _⟩,⟨by repeat (first|(with_reducible first|exact HB.out|apply bwA|apply pwbN|apply bw1)|exact HB.out)⟩⟩
 case rest =>
  clear HC2;obtain ⟨kq,x12_1,rfl,HA,HJ1,HB⟩:=hcut;cases kq with
  | zero=>exact absurd HA.out (by simp [path_Check.j0])
  | succ kj1 =>
   have H:=HA.out;clear HA;simp only [path_Check.j0] at H;by_cases c4:x12_1 = true
   ·subst c4;have H1:(some 1) = some r:=by rw [if_pos rfl] at H;exact H
    clear H;have H:=H1;clear H1;obtain rfl:=Option.some.inj H;go_wp2;go_ret
    exact ⟨by first|rfl|(simp [errW_none,errW_some] <;> rfl)|(simp [*,errW_none,errW_some] <;> rfl),by repeat (first|(with_reducible first|exact HB.out|apply bwA|apply pwbN|apply bw1)|exact HB.out)⟩
   ·replace c4:=Bool.eq_false_iff.mpr c4;subst c4;have H1:((strings_IndexByte.f a0 0).bind fun t101=>(if t101 ≥ 0 then (some 3) else ((strings_Split.f a0 (⟨#[47]⟩:ByteArray)).bind fun t102=>(path_Check.l0 kj1 t102 (t102.length:Int) 0)))) = some r:=by rw [if_neg (show ¬ (false = true) by decide)] at H;exact H
    clear H;have H:=H1;clear H1;replace H:=Option.bind_eq_some_iff.mp H;obtain ⟨t101,A50,H⟩:=H;replace H:(if t101 ≥ 0 then (some 3) else ((strings_Split.f a0 (⟨#[47]⟩:ByteArray)).bind fun t102=>(path_Check.l0 kj1 t102 (t102.length:Int) 0))) = some r:=H;have A5:=Aside0.mk A50;clear A50;by_cases c6:t101 ≥ 0
    ·rw [if_pos c6] at H;have c6b0:decide (0 ≤ t101) = true:=decide_eq_true c6;clear c6;obtain rfl:=Option.some.inj H;go_wp2_with (first|((with_reducible refine gate_callee (f:=59) rfl ?_);refine goesL_ (some 14) rfl rfl Tryd.func59 (by kernel_rfl) rfl #[.string a0,.int .u8 0] rfl (by (try simp only [List.map_toArray,List.map_cons,List.map_nil]);first|done|rfl|(simp only [List.length_drop,List.length_take];rfl)) ?_;(with_reducible refine (strings_IndexByte.calls a0 0 t101 _ A5.out).mono ?_);rintro e w' ⟨rfl,⟨nd,rfl⟩⟩;refine ⟨_,rfl,?_⟩))
     go_ret
     exact ⟨by first|rfl|(simp [errW_none,errW_some] <;> rfl)|(simp [*,errW_none,errW_some] <;> rfl),by repeat (first|(with_reducible first|exact HB.out|apply bwA|apply pwbN|apply bw1)|exact HB.out)⟩
    ·rw [if_neg c6] at H;have c6b0:decide (0 ≤ t101) = false:=decide_eq_false c6;clear c6;replace H:=Option.bind_eq_some_iff.mp H;obtain ⟨t102,A70,H⟩:=H;replace H:(path_Check.l0 kj1 t102 (t102.length:Int) 0) = some r:=H;have A7:=Aside0.mk A70;clear A70;have H':=Aside0.mk H;clear H;go_wp2_with (first|((with_reducible refine gate_callee (f:=59) rfl ?_);refine goesL_ (some 14) rfl rfl Tryd.func59 (by kernel_rfl) rfl #[.string a0,.int .u8 0] rfl (by (try simp only [List.map_toArray,List.map_cons,List.map_nil]);first|done|rfl|(simp only [List.length_drop,List.length_take];rfl)) ?_;(with_reducible refine (strings_IndexByte.calls a0 0 t101 _ A5.out).mono ?_);rintro e w' ⟨rfl,⟨nd,rfl⟩⟩;refine ⟨_,rfl,?_⟩)|((with_reducible refine gate_callee (f:=57) rfl ?_);refine goesL_ (some 17) rfl rfl Tryd.func57 (by kernel_rfl) rfl #[.string a0,.string (⟨#[47]⟩:ByteArray)] rfl (by (try simp only [List.map_toArray,List.map_cons,List.map_nil]);first|done|rfl|(simp only [List.length_drop,List.length_take];rfl)) ?_;(with_reducible refine (strings_Split.calls a0 (⟨#[47]⟩:ByteArray) t102 _ A7.out).mono ?_);rintro e w8 ⟨v103,rfl,ho0,hb⟩;refine ⟨_,rfl,?_⟩;have n0_:=Aside0.mk (Kd.R_lower ho0 (below_size (by repeat (first|(with_reducible first|exact HB.out|apply bwA|apply pwbN|apply bw1)|exact HB.out))));have n1_:=Aside0.mk (below_step (by repeat (first|(with_reducible first|exact HB.out|apply bwA|apply pwbN|apply bw1)|exact HB.out)) hb);clear HB;have HO104:=n0_;have HB:=n1_;clear n0_ n1_;(try clear hb);(try clear hb2);(try clear hk);(try clear hi);(try clear ho0);obtain ⟨Ao9,co9,eo9⟩:=Kd.R_slice HO104.out;subst eo9))
     go_loopg [19] kj1 (fun kq v19 w'=>∃ (x19_2:Int),v19 = .int .i64 x19_2∧Aside0 (path_Check.l0 kq t102 (t102.length:Int) x19_2 = some r)∧Aside0 (kq ≤ kj1)∧Aside0 (Kd.R Kd.string 9 w' w.heap.size (fun _=>True) (.slice Ao9 t102.length co9) t102)∧Aside0 (Below w.heap.size w w'))
     case atStart=>exact ⟨(0),(by first|rfl|(simp;done)|(simp [*];done)),H',⟨Nat.le_refl _⟩,⟨by (with_reducible repeat (first|apply Kd.R_alloc|apply Kd.R_drewN|apply Kd.R_drew));exact HO104.out⟩,⟨by repeat (first|(with_reducible first|exact HB.out|apply bwA|apply pwbN|apply bw1)|exact HB.out)⟩⟩
     case round =>
      clear H';repeat first|clear c4|clear c6|clear c6b0
      obtain ⟨x19_2,rfl,HA,HK2,HO_17,HB⟩:=hrel;cases gk with
      | zero=>exact absurd HA.out (by simp [path_Check.l0])
      | succ k2 =>
       have H:=HA.out;clear HA;simp only [path_Check.l0] at H;by_cases c10:x19_2 < (t102.length:Int)
       ·rw [if_pos c10] at H;have c10b0:decide (x19_2 < (t102.length:Int)) = true:=decide_eq_true c10;clear c10;by_cases c11:0 ≤ x19_2
        ·rw [if_pos c11] at H;have c11b0:decide (0 ≤ x19_2) = true:=decide_eq_true c11;clear c11;by_cases c12:x19_2 < (t102.length:Int)
         ·rw [if_pos c12] at H;have c12b0:decide (x19_2 < (t102.length:Int)) = true:=decide_eq_true c12;clear c12;by_cases c13:(rdOf ByteArray.empty t102 x19_2).toList = ([]:List UInt8)
          ·rw [if_pos c13] at H;have c13b0:((rdOf ByteArray.empty t102 x19_2).toList == ([]:List UInt8)) = true:=beq_iff_eq.mpr c13;have c13b1:((rdOf ByteArray.empty t102 x19_2).toList != ([]:List UInt8)) = false:=bne_eq_false_iff_eq.mpr c13;clear c13;obtain rfl:=Option.some.inj H;have p105:0 ≤ (x19_2:Int):=of_decide_eq_true (by first|(with_reducible assumption)|assumption);have q105:x19_2 < (t102.length:Int):=of_decide_eq_true (by first|(with_reducible assumption)|assumption);obtain ⟨ad105,e105,hx105_0⟩:=Kd.at_string (Kd.R_reads' HO_17.out).2.2 x19_2 p105 q105;cases e105;replace p105:=eq_true p105;replace q105:=eq_true q105;go_wp2;go_ret
           exact ⟨by first|rfl|(simp [errW_none,errW_some] <;> rfl)|(simp [*,errW_none,errW_some] <;> rfl),by repeat (first|(with_reducible first|exact HB.out|apply bwA|apply pwbN|apply bw1)|exact HB.out)⟩
          ·rw [if_neg c13] at H;have c13b0:((rdOf ByteArray.empty t102 x19_2).toList == ([]:List UInt8)) = false:=beq_eq_false_iff_ne.mpr c13;have c13b1:((rdOf ByteArray.empty t102 x19_2).toList != ([]:List UInt8)) = true:=bne_iff_ne.mpr c13;by_cases c14:(rdOf ByteArray.empty t102 x19_2).toList = ([46]:List UInt8)
           ·rw [if_pos c14] at H;have c14b0:((rdOf ByteArray.empty t102 x19_2).toList == ([46]:List UInt8)) = true:=beq_iff_eq.mpr c14;have c14b1:((rdOf ByteArray.empty t102 x19_2).toList != ([46]:List UInt8)) = false:=bne_eq_false_iff_eq.mpr c14;clear c14;obtain rfl:=Option.some.inj H;have p105:0 ≤ (x19_2:Int):=of_decide_eq_true (by first|(with_reducible assumption)|assumption);have q105:x19_2 < (t102.length:Int):=of_decide_eq_true (by first|(with_reducible assumption)|assumption);obtain ⟨ad105,e105,hx105_0⟩:=Kd.at_string (Kd.R_reads' HO_17.out).2.2 x19_2 p105 q105;cases e105;replace p105:=eq_true p105;replace q105:=eq_true q105;go_wp2;go_ret
            exact ⟨by first|rfl|(simp [errW_none,errW_some] <;> rfl)|(simp [*,errW_none,errW_some] <;> rfl),by repeat (first|(with_reducible first|exact HB.out|apply bwA|apply pwbN|apply bw1)|exact HB.out)⟩
           ·rw [if_neg c14] at H;have c14b0:((rdOf ByteArray.empty t102 x19_2).toList == ([46]:List UInt8)) = false:=beq_eq_false_iff_ne.mpr c14;have c14b1:((rdOf ByteArray.empty t102 x19_2).toList != ([46]:List UInt8)) = true:=bne_iff_ne.mpr c14;by_cases c15:(rdOf ByteArray.empty t102 x19_2).toList = ([46,46]:List UInt8)
            ·rw [if_pos c15] at H;have c15b0:((rdOf ByteArray.empty t102 x19_2).toList == ([46,46]:List UInt8)) = true:=beq_iff_eq.mpr c15;have c15b1:((rdOf ByteArray.empty t102 x19_2).toList != ([46,46]:List UInt8)) = false:=bne_eq_false_iff_eq.mpr c15;clear c15;obtain rfl:=Option.some.inj H;have p105:0 ≤ (x19_2:Int):=of_decide_eq_true (by first|(with_reducible assumption)|assumption);have q105:x19_2 < (t102.length:Int):=of_decide_eq_true (by first|(with_reducible assumption)|assumption);obtain ⟨ad105,e105,hx105_0⟩:=Kd.at_string (Kd.R_reads' HO_17.out).2.2 x19_2 p105 q105;cases e105;replace p105:=eq_true p105;replace q105:=eq_true q105;go_wp2;go_ret
             exact ⟨by first|rfl|(simp [errW_none,errW_some] <;> rfl)|(simp [*,errW_none,errW_some] <;> rfl),by repeat (first|(with_reducible first|exact HB.out|apply bwA|apply pwbN|apply bw1)|exact HB.out)⟩
            ·rw [if_neg c15] at H;have c15b0:((rdOf ByteArray.empty t102 x19_2).toList == ([46,46]:List UInt8)) = false:=beq_eq_false_iff_ne.mpr c15;have c15b1:((rdOf ByteArray.empty t102 x19_2).toList != ([46,46]:List UInt8)) = true:=bne_iff_ne.mpr c15;have H':=Aside0.mk H;clear H;have p105:0 ≤ (x19_2:Int):=of_decide_eq_true (by first|(with_reducible assumption)|assumption);have q105:x19_2 < (t102.length:Int):=of_decide_eq_true (by first|(with_reducible assumption)|assumption);obtain ⟨ad105,e105,hx105_0⟩:=Kd.at_string (Kd.R_reads' HO_17.out).2.2 x19_2 p105 q105;cases e105;replace p105:=eq_true p105;replace q105:=eq_true q105;go_wp2;go_roundg k2
             case measure=>have:=HJ1.out;have:=HK2.out;omega
             case rel=>exact ⟨(wrap64 (x19_2 + 1)),(by first|rfl|(simp;done)|(simp [*];done)),H',⟨by have:=HJ1.out;have:=HK2.out;omega⟩,⟨by (with_reducible repeat (first|apply Kd.R_alloc|apply Kd.R_drewN|apply Kd.R_drew));exact HO_17.out⟩,⟨by repeat (first|(with_reducible first|exact HB.out|apply bwA|apply pwbN|apply bw1)|exact HB.out)⟩⟩
         ·rw [if_neg c12] at H;exact absurd H (by simp)
        ·rw [if_neg c11] at H;exact absurd H (by simp)
       ·rw [if_neg c10] at H;have c10b0:decide (x19_2 < (t102.length:Int)) = false:=decide_eq_false c10;clear c10;obtain rfl:=Option.some.inj H;go_wp2;go_ret
        exact ⟨by first|rfl|(simp [errW_none,errW_some] <;> rfl)|(simp [*,errW_none,errW_some] <;> rfl),by repeat (first|(with_reducible first|exact HB.out|apply bwA|apply pwbN|apply bw1)|exact HB.out)⟩
end Go.Proofs.YtcbbcnmifohibaaDoor.All
end
section
namespace Go.Proofs.YtcbbcnmifohibaaDoor.All
open Go.RowKit Go.Proofs.YtcbbcnmifohibaaDoorW.PrintWords Go.Proofs.YtcbbcnmifohibaaDoorW.PrintLast Go.Proofs.YtcbbcnmifohibaaDoorW.PrintMore
open Go.Proofs.YtcbbcnmifohibaaDoorW.Mine
attribute [local go_sem] gtr_string leq_string geq_string
attribute [local go_sem] max2_int min2_int max_two min_two max_three min_three max_four min_four
set_option linter.unusedVariables false
set_option linter.unusedSimpArgs false
def glob_split.l0:Nat→ByteArray→List ByteArray→Option (List ByteArray)
 | 0,_,_=>none
 | k + 1,x0,x3=>if x0.toList = ([]:List UInt8) then (some x3) else (if 0 < (x0.size:Int) then (if (bt x0 0) = 91 then ((glob_end.f k x0).bind fun t101=>(if 0 ≤ t101 then (if t101 ≤ (x0.size:Int) then (if x3.length < 8796093022208 then (glob_split.l0 k (x0.extract (t101:Int).toNat x0.size) (x3 ++ [x0.extract 0 (t101:Int).toNat])) else (none)) else (none)) else (none))) else (if 0 ≤ 1 then (if 1 ≤ (x0.size:Int) then (if x3.length < 8796093022208 then (glob_split.l0 k (x0.extract 1 x0.size) (x3 ++ [x0.extract 0 1])) else (none)) else (none)) else (none))) else (none))
def glob_split.f (k:Nat) (a0:ByteArray):Option (List ByteArray):=glob_split.l0 k a0 ([]:List ByteArray)
set_option maxHeartbeats 8000000 in
set_option maxRecDepth 100000 in
theorem glob_split.calls (k:Nat) (a0:ByteArray) (r:List ByteArray) (w:World) (h:glob_split.f k a0 = some r) :
 Calls Tryd.prog 84 #[.string a0] w fun e w'=>∃ v0_:Value,e = .returned (v0_)∧Kd.R Kd.string 9 w' w.heap.size (fun _=>True) v0_ r∧Below w.heap.size w w':=by
 have HB:=Aside0.mk (Below.refl w.heap.size w);have H:(glob_split.l0 k a0 ([]:List ByteArray)) = some r:=h;clear h;have H':=Aside0.mk H;clear H;go_enter Tryd.func84,Tryd.ntmps84;go_wp2;go_loopg [0,3] k (fun kq v0 v3 w'=>∃ (x0_1:ByteArray) (x3_1:List ByteArray),v0 = .string x0_1∧Aside0 (glob_split.l0 kq x0_1 x3_1 = some r)∧Aside0 (kq ≤ k)∧Aside0 (Kd.R Kd.string 9 w' w.heap.size (fun _=>True) v3 x3_1)∧Aside0 (Below w.heap.size w w'))
 case atStart=>exact ⟨(a0),(([]:List ByteArray)),(by first|rfl|(simp;done)|(simp [*];done)),H',⟨Nat.le_refl _⟩,⟨by first|exact Kd.R_nil _ _ _ _ _|exact Kd.N_nil _ _ _ _ _|exact Kd.V_nil _ _ _ _ _|exact Kd.Q_nil _ _ _ _ _|exact Kd.S_nil _ _ _ _ _⟩,⟨by repeat (first|(with_reducible first|exact HB.out|apply bwA|apply pwbN|apply bw1)|exact HB.out)⟩⟩
 case round =>
  clear H';obtain ⟨x0_1,x3_1,rfl,HA,HK1,HO_3,HB⟩:=hrel;cases gk with
  | zero=>exact absurd HA.out (by simp [glob_split.l0])
  | succ k1 =>
   have H:=HA.out;clear HA;simp only [glob_split.l0] at H;by_cases c2:x0_1.toList = ([]:List UInt8)
   ·rw [if_pos c2] at H;have c2b0:(x0_1.toList == ([]:List UInt8)) = true:=beq_iff_eq.mpr c2;have c2b1:(x0_1.toList != ([]:List UInt8)) = false:=bne_eq_false_iff_eq.mpr c2;clear c2;obtain rfl:=Option.some.inj H;go_wp2;go_ret
    exact ⟨_,by first|rfl|(simp [errW_none,errW_some] <;> rfl)|(simp [*,errW_none,errW_some] <;> rfl),by (with_reducible repeat (first|apply Kd.R_alloc|apply Kd.R_drewN|apply Kd.R_drew));exact HO_3.out,by repeat (first|(with_reducible first|exact HB.out|apply bwA|apply pwbN|apply bw1)|exact HB.out)⟩
   ·rw [if_neg c2] at H;have c2b0:(x0_1.toList == ([]:List UInt8)) = false:=beq_eq_false_iff_ne.mpr c2;have c2b1:(x0_1.toList != ([]:List UInt8)) = true:=bne_iff_ne.mpr c2;by_cases c3:0 < (x0_1.size:Int)
    ·rw [if_pos c3] at H;have c3b0:decide (0 < (x0_1.size:Int)) = true:=decide_eq_true c3;have c3b1:decide (0 < x0_1.size) = true:=decide_eq_true (by omega);clear c3;by_cases c5:(bt x0_1 0) = 91
     ·rw [if_pos c5] at H;have c5b0:((bt x0_1 0) == 91) = true:=beq_iff_eq.mpr c5;have c5b1:((bt x0_1 0) != 91) = false:=bne_eq_false_iff_eq.mpr c5;clear c5;replace H:=Option.bind_eq_some_iff.mp H;obtain ⟨t101,A60,H⟩:=H;replace H:(if 0 ≤ t101 then (if t101 ≤ (x0_1.size:Int) then (if x3_1.length < 8796093022208 then (glob_split.l0 k1 (x0_1.extract (t101:Int).toNat x0_1.size) (x3_1 ++ [x0_1.extract 0 (t101:Int).toNat])) else (none)) else (none)) else (none)) = some r:=H;have A6:=Aside0.mk A60;clear A60;by_cases c7:0 ≤ t101
      ·rw [if_pos c7] at H;have c7b0:=eq_true c7;have c7b1:decide (0 ≤ t101) = true:=decide_eq_true c7;clear c7;by_cases c8:t101 ≤ (x0_1.size:Int)
       ·rw [if_pos c8] at H;have c8b0:=eq_true c8;have c8b1:decide (t101 ≤ (x0_1.size:Int)) = true:=decide_eq_true c8;clear c8;by_cases c9:x3_1.length < 8796093022208
        ·rw [if_pos c9] at H;have LMc9:=Aside0.mk c9;clear c9;obtain ⟨y102,hy102⟩:∃ y_:List ByteArray,y_ = (x3_1 ++ [x0_1.extract 0 (t101:Int).toNat]):=⟨_,rfl⟩
         replace H:(glob_split.l0 k1 (x0_1.extract (t101:Int).toNat x0_1.size) y102) = some r:=by first|(rw [hy102];with_reducible exact H)|(have H2_:=(Option.bind_some _ _).symm.trans H;rw [hy102];with_reducible exact H2_)|(have H2_:=(Option.bind_some _ _).symm.trans H;with_reducible exact H2_)|with_reducible exact H|(rw [hy102];exact H)|exact H
         have Ny102:=Aside0.mk hy102;clear hy102;have c10b0:=eq_true (of_decide_eq_true (by first|(with_reducible assumption)|assumption):0 ≤ t101);have c11b0:=eq_true (of_decide_eq_true (by first|(with_reducible assumption)|assumption):t101 ≤ (x0_1.size:Int));have H':=Aside0.mk H;clear H;have p4:0 ≤ (0:Int):=(by omega)
         have q4:0 < x0_1.size:=(by have:(0:Int) < (x0_1.size:Int):=of_decide_eq_true (by first|(with_reducible assumption)|assumption);omega)
         have hx4:∀ h:0 < x0_1.size,((x0_1[0]'h).toNat:Int) = bt x0_1 0:=bt_at x0_1 0;clear p4;have qi4:(0 < (x0_1.size:Int)) = True:=eq_true (of_decide_eq_true (by first|(with_reducible assumption)|assumption));replace q4:=eq_true q4;go_wp2_with (first|((with_reducible refine gate_callee (f:=58) rfl ?_);refine goesL_ (some 11) rfl rfl Tryd.func58 (by kernel_rfl) rfl #[.string x0_1] rfl (by (try simp only [List.map_toArray,List.map_cons,List.map_nil]);first|done|rfl|(simp only [List.length_drop,List.length_take];rfl)) ?_;(with_reducible refine (glob_end.calls k1 x0_1 t101 _ A6.out).mono ?_);rintro e w' ⟨rfl,⟨nd,rfl⟩⟩;refine ⟨_,rfl,?_⟩)|((with_reducible refine gate_builtin (b := .append) (xs:=#[.tmp 12,.tmp 16]) rfl ?_);at_builtin;refine Kd.R_append Kd.string (w0:=w) w.heap.size rfl (.tmp 12) (.tmp 16) 51 9 (.string ⟨#[]⟩) 16 rfl Tryd.underlying51 info9 rfl (by decide) (by omega) u3 x3_1 (x0_1.extract 0 (t101:Int).toNat) [.string (x0_1.extract 0 (t101:Int).toNat)] (fun _=>True) (fun _=>False) rfl rfl ?aP (fun _ hk=>hk.elim) ?aF ?aO ?aB ?aS ?aL ?_;(case aP=>exact rfl);(case aB=>exact (by repeat (first|(with_reducible first|exact HB.out|apply bwA|apply pwbN|apply bw1)|exact HB.out)));(case aF=>exact (fun _ _=>trivial));(case aO=>exact (by (with_reducible repeat (first|apply Kd.R_alloc|apply Kd.R_drewN|apply Kd.R_drew));exact HO_3.out));(case aS=>exact (below_size (by repeat (first|(with_reducible first|exact HB.out|apply bwA|apply pwbN|apply bw1)|exact HB.out))));(case aL=>have:=LMc9.out;omega);intro v103 w12 ho hb hg hat;rw [← Ny102.out] at ho;have n0_:=Aside0.mk (hb);have n1_:=Aside0.mk (ho);clear HB;clear HO_3;have HB:=n0_;have HO104:=n1_;clear n0_ n1_;clear ho hb hg hat))
         go_roundg k1
         case measure=>have:=HK1.out;omega
         case rel=>exact ⟨(x0_1.extract (t101:Int).toNat x0_1.size),(y102),(by first|rfl|(simp;done)|(simp [*];done)),H',⟨by have:=HK1.out;omega⟩,⟨by (with_reducible repeat (first|apply Kd.R_alloc|apply Kd.R_drewN|apply Kd.R_drew));exact HO104.out⟩,⟨by repeat (first|(with_reducible first|exact HB.out|apply bwA|apply pwbN|apply bw1)|exact HB.out)⟩⟩
        ·rw [if_neg c9] at H;exact absurd H (by simp)
       ·rw [if_neg c8] at H;exact absurd H (by simp)
      ·rw [if_neg c7] at H;exact absurd H (by simp)
     ·rw [if_neg c5] at H;have c5b0:((bt x0_1 0) == 91) = false:=beq_eq_false_iff_ne.mpr c5;have c5b1:((bt x0_1 0) != 91) = true:=bne_iff_ne.mpr c5;by_cases c13:0 ≤ 1
      ·rw [if_pos c13] at H;have c13b0:=eq_true c13;have c13b1:decide (0 ≤ 1) = true:=decide_eq_true c13;clear c13;by_cases c14:1 ≤ (x0_1.size:Int)
       ·rw [if_pos c14] at H;have c14b0:=eq_true c14;have c14b1:decide (1 ≤ (x0_1.size:Int)) = true:=decide_eq_true c14;clear c14;by_cases c15:x3_1.length < 8796093022208
        ·rw [if_pos c15] at H;have LMc15:=Aside0.mk c15;clear c15;obtain ⟨y105,hy105⟩:∃ y_:List ByteArray,y_ = (x3_1 ++ [x0_1.extract 0 1]):=⟨_,rfl⟩
         replace H:(glob_split.l0 k1 (x0_1.extract 1 x0_1.size) y105) = some r:=by first|(rw [hy105];with_reducible exact H)|(have H2_:=(Option.bind_some _ _).symm.trans H;rw [hy105];with_reducible exact H2_)|(have H2_:=(Option.bind_some _ _).symm.trans H;with_reducible exact H2_)|with_reducible exact H|(rw [hy105];exact H)|exact H
         have Ny105:=Aside0.mk hy105;clear hy105;have c16b0:=eq_true (of_decide_eq_true (by first|(with_reducible assumption)|assumption):1 ≤ (x0_1.size:Int));have H':=Aside0.mk H;clear H;have p4:0 ≤ (0:Int):=(by omega)
         have q4:0 < x0_1.size:=(by have:(0:Int) < (x0_1.size:Int):=of_decide_eq_true (by first|(with_reducible assumption)|assumption);omega)
         have hx4:∀ h:0 < x0_1.size,((x0_1[0]'h).toNat:Int) = bt x0_1 0:=bt_at x0_1 0;clear p4;have qi4:(0 < (x0_1.size:Int)) = True:=eq_true (of_decide_eq_true (by first|(with_reducible assumption)|assumption));replace q4:=eq_true q4;go_wp2_with (first|((with_reducible refine gate_builtin (b := .append) (xs:=#[.tmp 12,.tmp 16]) rfl ?_);at_builtin;refine Kd.R_append Kd.string (w0:=w) w.heap.size rfl (.tmp 12) (.tmp 16) 51 9 (.string ⟨#[]⟩) 16 rfl Tryd.underlying51 info9 rfl (by decide) (by omega) u3 x3_1 (x0_1.extract 0 1) [.string (x0_1.extract 0 1)] (fun _=>True) (fun _=>False) rfl rfl ?aP (fun _ hk=>hk.elim) ?aF ?aO ?aB ?aS ?aL ?_;(case aP=>exact rfl);(case aB=>exact (by repeat (first|(with_reducible first|exact HB.out|apply bwA|apply pwbN|apply bw1)|exact HB.out)));(case aF=>exact (fun _ _=>trivial));(case aO=>exact (by (with_reducible repeat (first|apply Kd.R_alloc|apply Kd.R_drewN|apply Kd.R_drew));exact HO_3.out));(case aS=>exact (below_size (by repeat (first|(with_reducible first|exact HB.out|apply bwA|apply pwbN|apply bw1)|exact HB.out))));(case aL=>have:=LMc15.out;omega);intro v106 w17 ho hb hg hat;rw [← Ny105.out] at ho;have n0_:=Aside0.mk (hb);have n1_:=Aside0.mk (ho);clear HB;clear HO_3;have HB:=n0_;have HO107:=n1_;clear n0_ n1_;clear ho hb hg hat))
         go_roundg k1
         case measure=>have:=HK1.out;omega
         case rel=>exact ⟨(x0_1.extract 1 x0_1.size),(y105),(by first|rfl|(simp;done)|(simp [*];done)),H',⟨by have:=HK1.out;omega⟩,⟨by (with_reducible repeat (first|apply Kd.R_alloc|apply Kd.R_drewN|apply Kd.R_drew));exact HO107.out⟩,⟨by repeat (first|(with_reducible first|exact HB.out|apply bwA|apply pwbN|apply bw1)|exact HB.out)⟩⟩
        ·rw [if_neg c15] at H;exact absurd H (by simp)
       ·rw [if_neg c14] at H;exact absurd H (by simp)
      ·rw [if_neg c13] at H;exact absurd H (by simp)
    ·rw [if_neg c3] at H;exact absurd H (by simp)
end Go.Proofs.YtcbbcnmifohibaaDoor.All
end
