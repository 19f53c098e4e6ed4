/- Made by programs of the prover: walks of Go functions, the words that they use, and plain laws, each text in a section of its own; no condition of its own. -/
import Derived.Laws.Strings
import Derived.Lib.AppendIntMem
import Derived.Lib.LaidTab
import Derived.Test.YtenbelecmmpdgaaDoorProg
import Derived.Maps.Ext
import Derived.Maps.OwnSet
import Derived.Maps.OwnOps
import Derived.Maps.Views
import Derived.Below
import Derived.Shelf.Strings.Builder1
import Derived.Shelf.Strings.Trim
import Derived.Shelf.Small.Utf8
import Derived.Shelf.Small.Strs
import Derived.Shelf.LaysM
import Derived.Shelf.Strconv.Itoa3
import Derived.Shelf.Strings.Search2
import Derived.Shelf.Strings.Search3
import Derived.Shelf.Strings.Count
import Derived.Shelf.Strings.Prefix
import Derived.Shelf.Strings.Runes
import Derived.Shelf.Strings.Repeat
import Derived.StillTailTactics
import Derived.Lib.TrimU
import Derived.Lib.OthersKept
import Derived.Shelf.Strings.SplitCore
import Derived.Lib.SplitLaws
import Derived.Lib.IndexBytes
import Derived.Shelf.Strings.SlTrimAscii
import Derived.Lib.SmallJoins
import Derived.Deep.Draws
import Derived.Deep.AppendLies
import Derived.Maps.AppendAt
import Derived.OwnWalk
import Derived.Laws.BytesArg
import Derived.Laws.MakeOwn
import Derived.Laws.OwnMore
import Derived.Deep.OwnRows
import Derived.Tactics
import Derived.Lib.ConvBytes
import Derived.Laws.Slices
import Derived.WalkKit
import Derived.KernelRfl
import Derived.RowKit3
import Derived.Deep.LoopGhost
import Derived.Deep.QuietTactic
import Derived.BigQuiet
import Derived.WideLaws
import Derived.Deep.DeepCutAuto
import Derived.Deep.CutBlock
import Derived.Deep.RegionHeld3
import Derived.Laws.Rows
import Derived.Lib.AppendStr
import Derived.ArgAppend
import Derived.Laws.IdiomCopy
import Derived.OrdersHeld
import Derived.Laws.BitsLemmas
import Derived.RowKit
import Derived.Test.YtenbelecmmpdgaaDoorZMemberPacks1
section
namespace Go.Proofs.YtenbelecmmpdgaaDoorW.Mine
open Go.RowKit
theorem bytesLess_swap:∀ a b:List UInt8,(!(Op.bytesLess a b || a == b)) = Op.bytesLess b a
  | [],[]=>by simp [Op.bytesLess]
  | [],b :: y=>by simp [Op.bytesLess]
  | a :: x,[]=>by simp [Op.bytesLess]
  | a :: x,b :: y=>by
    have ih:=bytesLess_swap x y
    simp only [Op.bytesLess]
    by_cases h1:a < b
    · have h2:¬ b < a:=by rw [UInt8.lt_iff_toNat_lt] at h1 ⊢;omega
      have h3:(b == a) = false:=by
        rw [beq_eq_false_iff_ne]
        rintro rfl
        rw [UInt8.lt_iff_toNat_lt] at h1
        omega
      simp [h1,h2,h3]
    · by_cases h2:b < a
      · have h3:(a == b) = false:=by
          rw [beq_eq_false_iff_ne]
          rintro rfl
          rw [UInt8.lt_iff_toNat_lt] at h2
          omega
        simp [h1,h2,h3]
      · have e:a = b:=by
          apply UInt8.toNat_inj.1
          rw [UInt8.lt_iff_toNat_lt] at h1 h2
          omega
        subst e
        simp [h1,← ih]
theorem gtr_string (t:TypeId) (a b:ByteArray):binOp .gtr t (.string a) (.string b) = pure (.bool (Op.bytesLess b.toList a.toList)):=by
  have:binOp .gtr t (.string a) (.string b) = pure (.bool !(Op.bytesLess a.toList b.toList || a.toList == b.toList)):=by simp [binOp,Op.stringOp]
  rw [this,bytesLess_swap]
theorem leq_string (t:TypeId) (a b:ByteArray):binOp .leq t (.string a) (.string b) = pure (.bool (!Op.bytesLess b.toList a.toList)):=by
  have:binOp .leq t (.string a) (.string b) = pure (.bool (Op.bytesLess a.toList b.toList || a.toList == b.toList)):=by simp [binOp,Op.stringOp]
  rw [this,← bytesLess_swap a.toList b.toList,Bool.not_not]
theorem geq_string (t:TypeId) (a b:ByteArray):binOp .geq t (.string a) (.string b) = pure (.bool (!Op.bytesLess a.toList b.toList)):=by simp [binOp,Op.stringOp]
def Tab (w : World) : Prop := Lib.TabIs Tryd.prog w "internal/strconv.uint64pow10" .u64 Lib.pow10Tab
theorem tab_on {w w':World} (h:Tab w) (hb:Below w.heap.size w w'):Tab w':=Lib.tabBelow_of_tabIs h w' hb
theorem laidMet_tail {P:Program} {W:World} {x:String × DataW Unit} {rest:List (String × DataW Unit)} (h:laidMet P (x :: rest) W):laidMet P rest W:=by
  obtain ⟨n,d⟩:=x
  obtain ⟨ps,⟨g,t,cs,fuel,p,q,_,_,_,_,hq,rfl⟩,hnd,hc⟩:=h
  exact ⟨q,hq,(List.nodup_append.1 hnd).2.1,fun b off hb=>hc b off (List.mem_append.2 (Or.inr hb))⟩
def modeBit (m i:Nat):Nat:=m / 2 ^ i % 2
def modeLit (j:Nat):Nat:=if j % 3 = 0 then 114 else if j % 3 = 1 then 119 else 120
def modeBase (m j:Nat):Nat:=if modeBit m (8 - j) = 1 then modeLit j else 45
def modeSp (m j:Nat):Nat:=if j % 3 = 2 then modeBit m (9 + (8 - j) / 3) else 0
def modeChr (m j:Nat):Nat:=if modeSp m j = 1 then (if modeBase m j = 45 then (if j = 8 then 84 else 83) else (if j = 8 then 116 else 115)) else modeBase m j
def modeText (m:Nat):ByteArray:=⟨((List.range 9).map fun j=>(modeChr m j).toUInt8).toArray⟩
end Go.Proofs.YtenbelecmmpdgaaDoorW.Mine
end
section
namespace Go.Proofs.YtenbelecmmpdgaaDoorW.MapOwn
set_option linter.unusedVariables false
set_option linter.unusedSimpArgs false
open Go Go.RowKit Go.Maps Go.Proofs.YtenbelecmmpdgaaDoorW.PrintWords
def asIs (v:Value):Option (DataW Value × List MemPlace):=some (.held v,[])
section
variable {α κ:Type} [DecidableEq κ] {lit:κ→Lit} {P:Program} {k:TypeId} {w w':World} {b n:Nat} {Rep:α→Value→Prop} {m:List (κ × α)} {kl:κ}
def get (m:List (κ × α)) (kl:κ):Option α:=(m.find? fun p=>decide (p.1 = kl)).map (·.2)
def MapAt (lit:κ→Lit) (P:Program) (k:TypeId) (Rep:α→Value→Prop) (w:World) (b n:Nat) (m:List (κ × α)):Prop :=
  ∃ D:DataW Value,w.ownsMap P k asIs b n D∧∀ kl,match get m kl with
    | some y=>Maps.has D (lit kl) = true∧∃ v,Rep y v∧∀ z,D.atKey (lit kl) z = .held v
    | none=>Maps.has D (lit kl) = false∧∀ z,D.atKey (lit kl) z = z
end
section
variable {α κ:Type} [DecidableEq κ] {lit:κ→Lit} {P:Program} {k:TypeId} {Rep:α→Value→Prop} {m:List (κ × α)} {kl:κ} (w:World) {ops:Array Oper} {rest:List Oper} {o:Oper} {a:Act} {Q:Exit→Act→World→Prop}
theorem wpList_want (hw:Region.wanted o (yielded ops a.tmps) = true) (h:∀ K:Act→World→Prop,(∀ a w,wpList P ops Q rest a w→K a w)→o.wp P a w K Q):wpList P ops Q (o :: rest) a w :=
  wpList_step fun K hK=>by rw [if_pos hw];exact h K hK
end
theorem add_add (ad:Addr) (a b:Nat):(ad.add a).add b = ad.add (a + b):=by
  unfold Addr.add
  by_cases h1:b = 0
  · subst h1;simp
  · by_cases h2:a = 0
    · simp [h1,h2]
    · rw [if_neg h1,if_neg h2,if_neg (by omega)];simp [Nat.add_assoc]
structure Held (w W:World) (g:Nat) (t:TypeId) (cs:Array Value):Prop where
  below:Below w.heap.size w W
  le:w.heap.size ≤ g
  blk:W.heap[g]? = some (.cells cs t (0,0))
section
variable {w W W':World} {g g2:Nat} {t:TypeId} {cs cs':Array Value}
end
section
variable {P:Program} {ops:Array Oper} {rest:List Oper} {o:Oper} {a:Act} {Q:Exit→Act→World→Prop} {W:World}
theorem run_loadAt_cells {t:TypeId} {s:TypeDesc} (hu:P.underlying t = some s) (hs:(match s with|.struct _=>true|.array _ _=>true|_=>false) = true) {cs:List Value} (hsz:(P.info? t).map (·.size) = some cs.length) {ad:Addr}
    (hc:∀ j v,cs[j]? = some v→W.cell? (ad.add j) = some v):(Instr.loadAt t (.pointer (some ad))).run P W = .ok (.agg cs.toArray) W:=by
  have hl:=run_loadCells_list (P:=P) W ad cs hc
  cases hq:P.info? t with
  | none=>simp [hq] at hsz
  | some i =>
    have h1:i.size = cs.length:=by simpa [hq] using hsz
    cases s <;> simp at hs <;> simp [Instr.loadAt,Instr.sureAddr,loadVar,isAgg,run_underlying hu,sizeOf,typeInfo,hq,h1,hl,Result.andThen]
theorem load_event (hgd:Region.wanted o (yielded ops a.tmps) = true) {t:TypeId} {p:Operand} (ho:o.op = .load t p) {s:TypeDesc} (hu:P.underlying t = some s) (hs:(match s with|.struct _=>true|.array _ _=>true|_=>false) = true) {ad:Addr} (hp:a.eval p = .pointer (some ad))
    {cs:List Value} (hsz:(P.info? t).map (·.size) = some cs.length) (hc:∀ j v,cs[j]? = some v→W.cell? (ad.add j) = some v) (h:wpList P ops Q rest (a.put o.dst (.agg cs.toArray)) W):wpList P ops Q (o :: rest) a W:=by
  refine wpList_want _ hgd fun K hK=>?_
  unfold Oper.wp execOp
  simp only [ho,hp,Sem.run_bind,run_loadAt_cells hu hs hsz hc,Result.andThen_ok,Sem.run_pure,Oper.upon_value]
  exact hK _ _ h
theorem cells_of_blk {g:Nat} {cs:List Value} {t:TypeId} (h:W.heap[g]? = some (.cells cs.toArray t (0,0))):∀ j v,cs[j]? = some v→W.cell? ((⟨g,0,none⟩:Addr).add j) = some v:=by
  intro j v hv
  have hadd:(⟨g,0,none⟩:Addr).add j = ⟨g,j,none⟩:=by unfold Addr.add;split <;> simp_all
  rw [hadd]
  simp [World.cell?,h,hv]
theorem put_event (hgd:Region.wanted o (yielded ops a.tmps) = true) (hd:o.dst = none) {ty:TypeId} {x y:Operand} (ho:o.op = .store ty x y) {g:Nat} {cells old:Array Value} {t:TypeId} (hx:a.eval x = .pointer (some ⟨g,0,none⟩)) (hy:a.eval y = .agg cells)
    (hg:W.heap[g]? = some (.cells old t (0,0))) (hi:(P.info? ty).map (·.size) = some cells.size) (hold:old.size = cells.size) (h1:cells.toList.all (·.oneCell') = true)
    (h:∀ W',W'.heap[g]? = some (.cells cells t (0,0))→W.grownBy W' (some g)→wpList P ops Q rest a W'):wpList P ops Q (o :: rest) a W:=by
  refine wpList_want _ hgd fun K hK=>?_
  refine wp_store_row ty x y ho g cells hx hy t old hg hi hold (by rw [← h1,Array.all_toList]) ?_
  rw [hd]
  refine hK _ _ (h _ (setRow_heap W g old cells t (0,0) hg) ⟨rfl,rfl,rfl,by simp [World.setRow],fun k hk hne=>?_⟩)
  simp only [World.setRow,Array.getElem?_modify]
  rw [if_neg (fun e=>hne (by rw [e]))]
end
theorem below_grown {B b:Nat} {w w1 w2:World} (h:Below B w w1) (hg:w1.grownBy w2 (some b)) (hB:B ≤ b) (hb:b < w1.heap.size):Below B w w2:=h.grown hg (Nat.le_trans hB (Nat.le_of_lt hb)) (fun k hk=>by cases hk;exact hB)
end Go.Proofs.YtenbelecmmpdgaaDoorW.MapOwn
end
section
namespace Go.Proofs
open Go.Shelf
def Tryd.lays169_ren:Go.Shelf.Ren:=⟨fun|169=>45|n=>n,fun|70=>72|9=>9|0=>0|72=>74|37=>24|127=>102|3=>3|5=>5|n=>n,fun|n=>n⟩
open Go.RowKit in
def Tryd.lays162_ren:Go.Shelf.Ren:=⟨fun|162=>35|232=>46|227=>47|234=>48|236=>49|228=>62|271=>63|151=>64|120=>76|197=>71|152=>77|260=>80|137=>19|119=>84|224=>82|225=>81|217=>33|266=>39|n=>n,fun|9=>9|4=>4|3=>3|5=>5|117=>85|116=>84|0=>0|124=>88|21=>21|105=>104|46=>68|119=>122|139=>125|138=>124|n=>n,fun|3=>4|4=>5|n=>n⟩
theorem Tryd.lays162:Go.Proofs.Lays.n162 Tryd.prog Tryd.lays162_ren:={
  mixed:=by kernel_rfl
  f119:=Tryd.func84.trans (congrArg some (by kernel_rfl))
  f120:=Tryd.func76.trans (congrArg some (by kernel_rfl))
  f137:=Tryd.func19.trans (congrArg some (by kernel_rfl))
  f151:=Tryd.func64.trans (congrArg some (by kernel_rfl))
  f152:=Tryd.func77.trans (congrArg some (by kernel_rfl))
  f162:=Tryd.func35.trans (congrArg some (by kernel_rfl))
  f197:=Tryd.func71.trans (congrArg some (by kernel_rfl))
  f217:=Tryd.func33.trans (congrArg some (by kernel_rfl))
  f224:=Tryd.func82.trans (congrArg some (by kernel_rfl))
  f225:=Tryd.func81.trans (congrArg some (by kernel_rfl))
  f227:=Tryd.func47.trans (congrArg some (by kernel_rfl))
  f228:=Tryd.func62.trans (congrArg some (by kernel_rfl))
  f232:=Tryd.func46.trans (congrArg some (by kernel_rfl))
  f234:=Tryd.func48.trans (congrArg some (by kernel_rfl))
  f236:=Tryd.func49.trans (congrArg some (by kernel_rfl))
  f260:=Tryd.func80.trans (congrArg some (by kernel_rfl))
  f266:=Tryd.func39.trans (congrArg some (by kernel_rfl))
  f271:=Tryd.func63.trans (congrArg some (by kernel_rfl))
  t0:=Tryd.underlying0
  a0:=Tryd.isAgg0
  z0:=Tryd.sizeOf0
  v0:=Tryd.zeroValue0
  t3:=Tryd.underlying3
  a3:=Tryd.isAgg3
  z3:=Tryd.sizeOf3
  v3:=Tryd.zeroValue3
  t4:=Tryd.underlying4
  a4:=Tryd.isAgg4
  z4:=Tryd.sizeOf4
  v4:=Tryd.zeroValue4
  t5:=Tryd.underlying5
  a5:=Tryd.isAgg5
  z5:=Tryd.sizeOf5
  v5:=Tryd.zeroValue5
  t9:=Tryd.underlying9
  a9:=Tryd.isAgg9
  z9:=Tryd.sizeOf9
  v9:=Tryd.zeroValue9
  t21:=Tryd.underlying21
  a21:=Tryd.isAgg21
  z21:=Tryd.sizeOf21
  v21:=Tryd.zeroValue21
  t46:=Tryd.underlying68
  a46:=Tryd.isAgg68
  z46:=Tryd.sizeOf68
  v46:=Tryd.zeroValue68
  t105:=Tryd.underlying104
  a105:=Tryd.isAgg104
  z105:=Tryd.sizeOf104
  v105:=Tryd.zeroValue104
  t116:=Tryd.underlying84
  a116:=Tryd.isAgg84
  z116:=Tryd.sizeOf84
  t117:=Tryd.underlying85
  a117:=Tryd.isAgg85
  z117:=Tryd.sizeOf85
  v117:=Tryd.zeroValue85
  t119:=Tryd.underlying122
  a119:=Tryd.isAgg122
  z119:=Tryd.sizeOf122
  t124:=Tryd.underlying88
  a124:=Tryd.isAgg88
  z124:=Tryd.sizeOf88
  v124:=Tryd.zeroValue88
  t138:=Tryd.underlying124
  a138:=Tryd.isAgg124
  z138:=Tryd.sizeOf124
  v138:=Tryd.zeroValue124
  t139:=Tryd.underlying125
  a139:=Tryd.isAgg125
  z139:=Tryd.sizeOf125
  v139:=Tryd.zeroValue125
  g3:=by kernel_rfl
  g4:=by kernel_rfl }
open Go.RowKit in
theorem Tryd.strings_TrimRight_one (s:ByteArray) (c:UInt8) (hc:c.toNat < 128) (w:World) (hs:s.size ≤ 9223372036854775807) :
    Calls Tryd.prog 35 #[.string s,.string ⟨#[c]⟩] w fun e w'=>e = .returned (.string ⟨(Lib.trimRightB s.data.toList c).toArray⟩)∧w' = w:=Any.strings_TrimRight_one Tryd.lays162 s c hc w hs
def Tryd.lays119_ren:Go.Shelf.Ren:=⟨fun|119=>84|n=>n,fun|21=>21|4=>4|n=>n,fun|n=>n⟩
def Tryd.lays137_ren:Go.Shelf.Ren:=⟨fun|137=>19|217=>33|266=>39|n=>n,fun|9=>9|5=>5|3=>3|n=>n,fun|n=>n⟩
theorem Tryd.lays137:Go.Proofs.Lays.n137 Tryd.prog Tryd.lays137_ren:={
  mixed:=by kernel_rfl
  f137:=Tryd.func19.trans (congrArg some (by kernel_rfl))
  f217:=Tryd.func33.trans (congrArg some (by kernel_rfl))
  f266:=Tryd.func39.trans (congrArg some (by kernel_rfl))
  t3:=Tryd.underlying3
  a3:=Tryd.isAgg3
  z3:=Tryd.sizeOf3
  v3:=Tryd.zeroValue3
  t5:=Tryd.underlying5
  a5:=Tryd.isAgg5
  z5:=Tryd.sizeOf5
  v5:=Tryd.zeroValue5
  t9:=Tryd.underlying9
  a9:=Tryd.isAgg9
  z9:=Tryd.sizeOf9
  v9:=Tryd.zeroValue9 }
open Go.RowKit in
theorem Tryd.strings_IndexByte (s:ByteArray) (c:Int) (w:World) :
    Calls Tryd.prog 19 #[.string s,.int .u8 c] w fun e w'=>e = .returned (.int .i64 (Lib.indexByte s.data.toList c.toNat.toUInt8))∧w' = w:=Any.strings_IndexByte Tryd.lays137 s c w
def Tryd.laysM171_ren:Go.Shelf.Ren:=⟨fun|171=>15|243=>30|246=>37|283=>50|284=>51|285=>52|286=>53|129=>66|317=>65|318=>67|319=>68|320=>69|337=>78|338=>79|n=>n,fun|3=>3|9=>9|2=>2|4=>4|171=>89|0=>0|53=>90|37=>24|5=>5|173=>93|212=>109|51=>97|20=>20|213=>110|46=>68|232=>120|233=>121|n=>n,fun|17=>1|18=>2|19=>3|n=>n⟩
theorem Tryd.laysM171:Go.Proofs.LaysM.n171 Tryd.prog Tryd.laysM171_ren:={
  mixed:=by kernel_rfl
  f129:=Tryd.func66.trans (congrArg some (by kernel_rfl))
  f171:=Tryd.func15.trans (congrArg some (by kernel_rfl))
  f243:=Tryd.func30.trans (congrArg some (by kernel_rfl))
  f246:=Tryd.func37.trans (congrArg some (by kernel_rfl))
  f283:=Tryd.func50.trans (congrArg some (by kernel_rfl))
  f284:=Tryd.func51.trans (congrArg some (by kernel_rfl))
  f285:=Tryd.func52.trans (congrArg some (by kernel_rfl))
  f286:=Tryd.func53.trans (congrArg some (by kernel_rfl))
  f317:=Tryd.func65.trans (congrArg some (by kernel_rfl))
  f318:=Tryd.func67.trans (congrArg some (by kernel_rfl))
  f319:=Tryd.func68.trans (congrArg some (by kernel_rfl))
  f320:=Tryd.func69.trans (congrArg some (by kernel_rfl))
  f337:=Tryd.func78.trans (congrArg some (by kernel_rfl))
  f338:=Tryd.func79.trans (congrArg some (by kernel_rfl))
  t0:=Tryd.underlying0
  a0:=Tryd.isAgg0
  z0:=Tryd.sizeOf0
  v0:=Tryd.zeroValue0
  t2:=Tryd.underlying2
  a2:=Tryd.isAgg2
  z2:=Tryd.sizeOf2
  v2:=Tryd.zeroValue2
  t3:=Tryd.underlying3
  a3:=Tryd.isAgg3
  z3:=Tryd.sizeOf3
  v3:=Tryd.zeroValue3
  t4:=Tryd.underlying4
  a4:=Tryd.isAgg4
  z4:=Tryd.sizeOf4
  v4:=Tryd.zeroValue4
  t5:=Tryd.underlying5
  a5:=Tryd.isAgg5
  z5:=Tryd.sizeOf5
  v5:=Tryd.zeroValue5
  t9:=Tryd.underlying9
  a9:=Tryd.isAgg9
  z9:=Tryd.sizeOf9
  v9:=Tryd.zeroValue9
  t20:=Tryd.underlying20
  a20:=Tryd.isAgg20
  z20:=Tryd.sizeOf20
  v20:=Tryd.zeroValue20
  t37:=Tryd.underlying24
  a37:=Tryd.isAgg24
  z37:=Tryd.sizeOf24
  v37:=Tryd.zeroValue24
  t46:=Tryd.underlying68
  a46:=Tryd.isAgg68
  z46:=Tryd.sizeOf68
  v46:=Tryd.zeroValue68
  t51:=Tryd.underlying97
  a51:=Tryd.isAgg97
  z51:=Tryd.sizeOf97
  v51:=Tryd.zeroValue97
  t53:=Tryd.underlying90
  a53:=Tryd.isAgg90
  z53:=Tryd.sizeOf90
  v53:=Tryd.zeroValue90
  t171:=Tryd.underlying89
  a171:=Tryd.isAgg89
  z171:=Tryd.sizeOf89
  v171:=Tryd.zeroValue89
  t173:=Tryd.underlying93
  a173:=Tryd.isAgg93
  z173:=Tryd.sizeOf93
  v173:=Tryd.zeroValue93
  t212:=Tryd.underlying109
  a212:=Tryd.isAgg109
  z212:=Tryd.sizeOf109
  v212:=Tryd.zeroValue109
  t213:=Tryd.underlying110
  a213:=Tryd.isAgg110
  z213:=Tryd.sizeOf110
  t232:=Tryd.underlying120
  a232:=Tryd.isAgg120
  z232:=Tryd.sizeOf120
  v232:=Tryd.zeroValue120
  t233:=Tryd.underlying121
  a233:=Tryd.isAgg121
  z233:=Tryd.sizeOf121
  v233:=Tryd.zeroValue121
  g17:=by kernel_rfl
  g18:=by kernel_rfl
  g19:=by kernel_rfl
  i0:=by kernel_rfl
  i2:=by kernel_rfl
  i3:=by kernel_rfl
  i4:=by kernel_rfl
  i5:=by kernel_rfl
  i9:=by kernel_rfl
  i20:=by kernel_rfl
  i37:=by kernel_rfl
  i46:=by kernel_rfl
  i51:=by kernel_rfl
  i53:=by kernel_rfl
  i171:=by kernel_rfl
  i173:=by kernel_rfl
  i212:=by kernel_rfl
  i232:=by kernel_rfl
  i233:=by kernel_rfl
  m17:=by kernel_rfl
  m18:=by kernel_rfl
  m19:=by kernel_rfl }
open Go.RowKit Go.Sort Go.Lib in
theorem Tryd.strconv_Itoa (n : Int) (h0 : -9223372036854775808 ≤ n) (h1 : n ≤ 9223372036854775807) (w : World) (htab : Lib.TabIs Tryd.prog w "internal/strconv.uint64pow10" .u64 Lib.pow10Tab) :
    Calls Tryd.prog 15 #[.int .i64 n] w fun e w'=>e = .returned (.string ⟨(Lib.itoa n).toArray⟩)∧∃ k os,w' = grow (w.drewN k) os:=Any.strconv_Itoa Tryd.laysM171 n h0 h1 w htab
def Tryd.lays219_ren:Go.Shelf.Ren:=⟨fun|219=>73|217=>33|225=>81|224=>82|267=>83|266=>39|314=>85|n=>n,fun|9=>9|3=>3|4=>4|5=>5|46=>68|146=>98|51=>97|n=>n,fun|1=>0|n=>n⟩
open Go.RowKit Go.Lib in
def Tryd.lays143_ren:Go.Shelf.Ren:=⟨fun|143=>56|219=>73|217=>33|225=>81|224=>82|267=>83|266=>39|314=>85|n=>n,fun|9=>9|3=>3|4=>4|5=>5|46=>68|146=>98|51=>97|n=>n,fun|1=>0|n=>n⟩
theorem Tryd.lays143:Go.Proofs.Lays.n143 Tryd.prog Tryd.lays143_ren:={
  mixed:=by kernel_rfl
  f143:=Tryd.func56.trans (congrArg some (by kernel_rfl))
  f217:=Tryd.func33.trans (congrArg some (by kernel_rfl))
  f219:=Tryd.func73.trans (congrArg some (by kernel_rfl))
  f224:=Tryd.func82.trans (congrArg some (by kernel_rfl))
  f225:=Tryd.func81.trans (congrArg some (by kernel_rfl))
  f266:=Tryd.func39.trans (congrArg some (by kernel_rfl))
  f267:=Tryd.func83.trans (congrArg some (by kernel_rfl))
  f314:=Tryd.func85.trans (congrArg some (by kernel_rfl))
  t3:=Tryd.underlying3
  a3:=Tryd.isAgg3
  z3:=Tryd.sizeOf3
  v3:=Tryd.zeroValue3
  t4:=Tryd.underlying4
  a4:=Tryd.isAgg4
  z4:=Tryd.sizeOf4
  v4:=Tryd.zeroValue4
  t5:=Tryd.underlying5
  a5:=Tryd.isAgg5
  z5:=Tryd.sizeOf5
  v5:=Tryd.zeroValue5
  t9:=Tryd.underlying9
  a9:=Tryd.isAgg9
  z9:=Tryd.sizeOf9
  v9:=Tryd.zeroValue9
  t46:=Tryd.underlying68
  a46:=Tryd.isAgg68
  z46:=Tryd.sizeOf68
  v46:=Tryd.zeroValue68
  t51:=Tryd.underlying97
  a51:=Tryd.isAgg97
  z51:=Tryd.sizeOf97
  v51:=Tryd.zeroValue97
  t146:=Tryd.underlying98
  a146:=Tryd.isAgg98
  z146:=Tryd.sizeOf98
  v146:=Tryd.zeroValue98
  g1:=by kernel_rfl }
open Go.RowKit Go.Lib in
theorem Tryd.strings_Index_one (s:ByteArray) (c:UInt8) (w:World) :
    Calls Tryd.prog 56 #[.string s,.string ⟨#[c]⟩] w fun e w'=>e = .returned (.int .i64 (Lib.indexByte s.data.toList c))∧w' = w:=Any.strings_Index_one Tryd.lays143 s c w
def Tryd.lays138_ren:Go.Shelf.Ren:=⟨fun|138=>55|195=>70|218=>72|143=>56|219=>73|217=>33|225=>81|224=>82|267=>83|266=>39|314=>85|n=>n,fun|9=>9|3=>3|4=>4|5=>5|0=>0|46=>68|146=>98|51=>97|n=>n,fun|1=>0|n=>n⟩
theorem Tryd.lays138:Go.Proofs.Lays.n138 Tryd.prog Tryd.lays138_ren:={
  mixed:=by kernel_rfl
  f138:=Tryd.func55.trans (congrArg some (by kernel_rfl))
  f143:=Tryd.func56.trans (congrArg some (by kernel_rfl))
  f195:=Tryd.func70.trans (congrArg some (by kernel_rfl))
  f217:=Tryd.func33.trans (congrArg some (by kernel_rfl))
  f218:=Tryd.func72.trans (congrArg some (by kernel_rfl))
  f219:=Tryd.func73.trans (congrArg some (by kernel_rfl))
  f224:=Tryd.func82.trans (congrArg some (by kernel_rfl))
  f225:=Tryd.func81.trans (congrArg some (by kernel_rfl))
  f266:=Tryd.func39.trans (congrArg some (by kernel_rfl))
  f267:=Tryd.func83.trans (congrArg some (by kernel_rfl))
  f314:=Tryd.func85.trans (congrArg some (by kernel_rfl))
  t0:=Tryd.underlying0
  a0:=Tryd.isAgg0
  z0:=Tryd.sizeOf0
  v0:=Tryd.zeroValue0
  t3:=Tryd.underlying3
  a3:=Tryd.isAgg3
  z3:=Tryd.sizeOf3
  v3:=Tryd.zeroValue3
  t4:=Tryd.underlying4
  a4:=Tryd.isAgg4
  z4:=Tryd.sizeOf4
  v4:=Tryd.zeroValue4
  t5:=Tryd.underlying5
  a5:=Tryd.isAgg5
  z5:=Tryd.sizeOf5
  v5:=Tryd.zeroValue5
  t9:=Tryd.underlying9
  a9:=Tryd.isAgg9
  z9:=Tryd.sizeOf9
  v9:=Tryd.zeroValue9
  t46:=Tryd.underlying68
  a46:=Tryd.isAgg68
  z46:=Tryd.sizeOf68
  v46:=Tryd.zeroValue68
  t51:=Tryd.underlying97
  a51:=Tryd.isAgg97
  z51:=Tryd.sizeOf97
  v51:=Tryd.zeroValue97
  t146:=Tryd.underlying98
  a146:=Tryd.isAgg98
  z146:=Tryd.sizeOf98
  v146:=Tryd.zeroValue98
  g1:=by kernel_rfl }
open Go.RowKit Go.Lib in
theorem Tryd.strings_Count_one (s:ByteArray) (c:UInt8) (w:World) :
    Calls Tryd.prog 55 #[.string s,.string ⟨#[c]⟩] w fun e w'=>e = .returned (.int .i64 (Lib.countByte s.data.toList c))∧w' = w:=Any.strings_Count_one Tryd.lays138 s c w
def Tryd.lays99_ren:Go.Shelf.Ren:=⟨fun|99=>41|206=>59|n=>n,fun|9=>9|4=>4|3=>3|n=>n,fun|n=>n⟩
open Go.RowKit Go.Lib in
def Tryd.lays221_ren:Go.Shelf.Ren:=⟨fun|221=>38|268=>54|138=>55|143=>56|195=>70|197=>71|218=>72|219=>73|260=>80|217=>33|225=>81|224=>82|267=>83|266=>39|314=>85|n=>n,fun|9=>9|3=>3|31=>61|4=>4|0=>0|105=>104|21=>21|5=>5|46=>68|119=>122|139=>125|138=>124|146=>98|51=>97|n=>n,fun|1=>0|3=>4|4=>5|n=>n⟩
theorem Tryd.lays221:Go.Proofs.Lays.n221 Tryd.prog Tryd.lays221_ren:={
  mixed:=by kernel_rfl
  f138:=Tryd.func55.trans (congrArg some (by kernel_rfl))
  f143:=Tryd.func56.trans (congrArg some (by kernel_rfl))
  f195:=Tryd.func70.trans (congrArg some (by kernel_rfl))
  f197:=Tryd.func71.trans (congrArg some (by kernel_rfl))
  f217:=Tryd.func33.trans (congrArg some (by kernel_rfl))
  f218:=Tryd.func72.trans (congrArg some (by kernel_rfl))
  f219:=Tryd.func73.trans (congrArg some (by kernel_rfl))
  f221:=Tryd.func38.trans (congrArg some (by kernel_rfl))
  f224:=Tryd.func82.trans (congrArg some (by kernel_rfl))
  f225:=Tryd.func81.trans (congrArg some (by kernel_rfl))
  f260:=Tryd.func80.trans (congrArg some (by kernel_rfl))
  f266:=Tryd.func39.trans (congrArg some (by kernel_rfl))
  f267:=Tryd.func83.trans (congrArg some (by kernel_rfl))
  f268:=Tryd.func54.trans (congrArg some (by kernel_rfl))
  f314:=Tryd.func85.trans (congrArg some (by kernel_rfl))
  t0:=Tryd.underlying0
  a0:=Tryd.isAgg0
  z0:=Tryd.sizeOf0
  v0:=Tryd.zeroValue0
  t3:=Tryd.underlying3
  a3:=Tryd.isAgg3
  z3:=Tryd.sizeOf3
  v3:=Tryd.zeroValue3
  t4:=Tryd.underlying4
  a4:=Tryd.isAgg4
  z4:=Tryd.sizeOf4
  v4:=Tryd.zeroValue4
  t5:=Tryd.underlying5
  a5:=Tryd.isAgg5
  z5:=Tryd.sizeOf5
  v5:=Tryd.zeroValue5
  t9:=Tryd.underlying9
  a9:=Tryd.isAgg9
  z9:=Tryd.sizeOf9
  v9:=Tryd.zeroValue9
  t21:=Tryd.underlying21
  a21:=Tryd.isAgg21
  z21:=Tryd.sizeOf21
  v21:=Tryd.zeroValue21
  t31:=Tryd.underlying61
  a31:=Tryd.isAgg61
  z31:=Tryd.sizeOf61
  v31:=Tryd.zeroValue61
  t46:=Tryd.underlying68
  a46:=Tryd.isAgg68
  z46:=Tryd.sizeOf68
  v46:=Tryd.zeroValue68
  t51:=Tryd.underlying97
  a51:=Tryd.isAgg97
  z51:=Tryd.sizeOf97
  v51:=Tryd.zeroValue97
  t105:=Tryd.underlying104
  a105:=Tryd.isAgg104
  z105:=Tryd.sizeOf104
  v105:=Tryd.zeroValue104
  t119:=Tryd.underlying122
  a119:=Tryd.isAgg122
  z119:=Tryd.sizeOf122
  t138:=Tryd.underlying124
  a138:=Tryd.isAgg124
  z138:=Tryd.sizeOf124
  v138:=Tryd.zeroValue124
  t139:=Tryd.underlying125
  a139:=Tryd.isAgg125
  z139:=Tryd.sizeOf125
  v139:=Tryd.zeroValue125
  t146:=Tryd.underlying98
  a146:=Tryd.isAgg98
  z146:=Tryd.sizeOf98
  v146:=Tryd.zeroValue98
  g1:=by kernel_rfl
  g3:=by kernel_rfl
  g4:=by kernel_rfl }
def Tryd.lays152_ren:Go.Shelf.Ren:=⟨fun|152=>77|137=>19|119=>84|224=>82|225=>81|217=>33|266=>39|n=>n,fun|9=>9|21=>21|3=>3|4=>4|5=>5|0=>0|46=>68|n=>n,fun|n=>n⟩
open Go.RowKit Go.Lib in
def Tryd.lays105_ren:Go.Shelf.Ren:=⟨fun|105=>34|212=>40|99=>41|165=>42|166=>43|170=>44|169=>45|263=>57|264=>58|206=>59|240=>60|241=>61|276=>74|277=>75|n=>n,fun|9=>9|3=>3|4=>4|20=>20|0=>0|46=>68|109=>69|5=>5|72=>74|76=>78|51=>97|146=>98|53=>90|148=>100|70=>72|37=>24|75=>77|127=>102|164=>114|80=>81|n=>n,fun|n=>n⟩
theorem Tryd.lays105:Go.Proofs.Lays.n105 Tryd.prog Tryd.lays105_ren:={
  mixed:=by kernel_rfl
  f99:=Tryd.func41.trans (congrArg some (by kernel_rfl))
  f105:=Tryd.func34.trans (congrArg some (by kernel_rfl))
  f165:=Tryd.func42.trans (congrArg some (by kernel_rfl))
  f166:=Tryd.func43.trans (congrArg some (by kernel_rfl))
  f169:=Tryd.func45.trans (congrArg some (by kernel_rfl))
  f170:=Tryd.func44.trans (congrArg some (by kernel_rfl))
  f206:=Tryd.func59.trans (congrArg some (by kernel_rfl))
  f212:=Tryd.func40.trans (congrArg some (by kernel_rfl))
  f240:=Tryd.func60.trans (congrArg some (by kernel_rfl))
  f241:=Tryd.func61.trans (congrArg some (by kernel_rfl))
  f263:=Tryd.func57.trans (congrArg some (by kernel_rfl))
  f264:=Tryd.func58.trans (congrArg some (by kernel_rfl))
  f276:=Tryd.func74.trans (congrArg some (by kernel_rfl))
  f277:=Tryd.func75.trans (congrArg some (by kernel_rfl))
  t0:=Tryd.underlying0
  a0:=Tryd.isAgg0
  z0:=Tryd.sizeOf0
  v0:=Tryd.zeroValue0
  t3:=Tryd.underlying3
  a3:=Tryd.isAgg3
  z3:=Tryd.sizeOf3
  v3:=Tryd.zeroValue3
  t4:=Tryd.underlying4
  a4:=Tryd.isAgg4
  z4:=Tryd.sizeOf4
  v4:=Tryd.zeroValue4
  t5:=Tryd.underlying5
  a5:=Tryd.isAgg5
  z5:=Tryd.sizeOf5
  v5:=Tryd.zeroValue5
  t9:=Tryd.underlying9
  a9:=Tryd.isAgg9
  z9:=Tryd.sizeOf9
  v9:=Tryd.zeroValue9
  t20:=Tryd.underlying20
  a20:=Tryd.isAgg20
  z20:=Tryd.sizeOf20
  v20:=Tryd.zeroValue20
  t37:=Tryd.underlying24
  a37:=Tryd.isAgg24
  z37:=Tryd.sizeOf24
  v37:=Tryd.zeroValue24
  t46:=Tryd.underlying68
  a46:=Tryd.isAgg68
  z46:=Tryd.sizeOf68
  v46:=Tryd.zeroValue68
  t51:=Tryd.underlying97
  a51:=Tryd.isAgg97
  z51:=Tryd.sizeOf97
  v51:=Tryd.zeroValue97
  t53:=Tryd.underlying90
  a53:=Tryd.isAgg90
  z53:=Tryd.sizeOf90
  v53:=Tryd.zeroValue90
  t70:=Tryd.underlying72
  a70:=Tryd.isAgg72
  z70:=Tryd.sizeOf72
  v70:=Tryd.zeroValue72
  t72:=Tryd.underlying74
  a72:=Tryd.isAgg74
  z72:=Tryd.sizeOf74
  v72:=Tryd.zeroValue74
  t75:=Tryd.underlying77
  a75:=Tryd.isAgg77
  z75:=Tryd.sizeOf77
  v75:=Tryd.zeroValue77
  t76:=Tryd.underlying78
  a76:=Tryd.isAgg78
  z76:=Tryd.sizeOf78
  v76:=Tryd.zeroValue78
  t109:=Tryd.underlying69
  a109:=Tryd.isAgg69
  z109:=Tryd.sizeOf69
  v109:=Tryd.zeroValue69
  t127:=Tryd.underlying102
  a127:=Tryd.isAgg102
  z127:=Tryd.sizeOf102
  v127:=Tryd.zeroValue102
  t146:=Tryd.underlying98
  a146:=Tryd.isAgg98
  z146:=Tryd.sizeOf98
  v146:=Tryd.zeroValue98
  t148:=Tryd.underlying100
  a148:=Tryd.isAgg100
  z148:=Tryd.sizeOf100
  v148:=Tryd.zeroValue100
  t164:=Tryd.underlying114
  a164:=Tryd.isAgg114
  z164:=Tryd.sizeOf114
  v164:=Tryd.zeroValue114 }
theorem Tryd.Builder_Extra_105:Builder.Extra Tryd.prog Tryd.lays105_ren:={
  sizeBuilder:=by kernel_rfl
  liesBuilder:=by kernel_rfl
  t5:=Tryd.underlying5
  a5:=Tryd.isAgg5
  z5:=Tryd.sizeOf5
  v5:=Tryd.zeroValue5
  infoByte:=by kernel_rfl
  cellsByte:=by kernel_rfl
  sizeByte:=by kernel_rfl
  neB5:=by decide }
open Go.RowKit Go.Lib in
theorem Tryd.strings_Repeat (s:ByteArray) (c:Nat) (w:World) (hc:c ≤ 9223372036854775807) (hlen:s.size * c ≤ 140737488355328) :
    Calls Tryd.prog 34 #[.string s,.int .i64 c] w fun e w'=>e = .returned (.string ⟨(Lib.repeatL s.data.toList c).toArray⟩)∧Below w.heap.size w w':=Any.strings_Repeat Tryd.lays105 Tryd.Builder_Extra_105 s c w hc hlen
end Go.Proofs
end
section
namespace Go.Proofs.YtenbelecmmpdgaaDoor.All
open Go.RowKit Go.Proofs.YtenbelecmmpdgaaDoorW.PrintWords Go.Proofs.YtenbelecmmpdgaaDoorW.PrintLast Go.Proofs.YtenbelecmmpdgaaDoorW.PrintMore
open Go.Proofs.YtenbelecmmpdgaaDoorW.Mine
attribute [local go_sem] gtr_string leq_string geq_string
attribute [local go_sem] max2_int min2_int max_two min_two max_three min_three max_four min_four
set_option linter.unusedVariables false
set_option linter.unusedSimpArgs false
def errW:Option Int→Value
 | none => .nilIface
 | some c => .iface 0 (.int .i64 c)
theorem errW_none:errW none = .nilIface:=rfl
theorem errW_some (c:Int):errW (some c) = .iface 0 (.int .i64 c):=rfl
theorem info9:(Tryd.prog.info? 9).map (fun i=>(i.zero,i.size,i.bytes)) = some (some (.string ⟨#[]⟩),1,16):=by kernel_rfl
def rd_L1 (xs:List (List ByteArray)) (i:Int):(List ByteArray):=xs.getD i.toNat ([]:List ByteArray)
structure S23 where
 f0:Int
 f1:Int
 f2:Int
 f3:ByteArray
 f4:ByteArray
 f5:Int
 f6:Int
def z23:S23:=⟨(0:Int),(0:Int),(0:Int),(⟨#[]⟩:ByteArray),(⟨#[]⟩:ByteArray),(0:Int),(0:Int)⟩
def k23:Kd S23:=Kd.iso (Kd.pair (Kd.int .i64) (Kd.pair (Kd.int .i64) (Kd.pair (Kd.int .i64) (Kd.pair Kd.string (Kd.pair Kd.string (Kd.pair (Kd.int .i64) (Kd.int .i64))))))) (fun x:S23=>(x.f0,x.f1,x.f2,x.f3,x.f4,x.f5,x.f6))
theorem k23_open {w:World} {x:S23} {cs:List Value} (h:k23.K w x cs):cs = [.int .i64 x.f0,.int .i64 x.f1,.int .i64 x.f2,.string x.f3,.string x.f4,.int .i64 x.f5,.int .i64 x.f6]:=by
 obtain ⟨_,_,rfl,rfl,⟨_,_,rfl,rfl,⟨_,_,rfl,rfl,⟨_,_,rfl,rfl,⟨_,_,rfl,rfl,⟨_,_,rfl,rfl,rfl⟩⟩⟩⟩⟩⟩:=h
 exact rfl
def rd_T23 (xs:List S23) (i:Int):S23:=xs.getD i.toNat z23
def rd_L5 (xs:List (List Int)) (i:Int):(List Int):=xs.getD i.toNat ([]:List Int)
structure S26 where
 f0:ByteArray
 f1:Int
 f2:ByteArray
 f3:S23
 f4:(List Int)
def z26:S26:=⟨(⟨#[]⟩:ByteArray),(0:Int),(⟨#[]⟩:ByteArray),z23,([]:List Int)⟩
def k26:Kd S26:=Kd.iso (Kd.pair Kd.string (Kd.pair (Kd.int .i64) (Kd.pair Kd.string (Kd.pair k23 (Kd.slice 5 (Kd.int .u8)))))) (fun x:S26=>(x.f0,x.f1,x.f2,x.f3,x.f4))
theorem k26_open {w:World} {x:S26} {cs:List Value} (h:k26.K w x cs):∃ A10 c10,cs = [.string x.f0,.int .i64 x.f1,.string x.f2,.int .i64 x.f3.f0,.int .i64 x.f3.f1,.int .i64 x.f3.f2,.string x.f3.f3,.string x.f3.f4,.int .i64 x.f3.f5,.int .i64 x.f3.f6,.slice A10 x.f4.length c10]∧x.f4.length ≤ c10∧(Kd.int .u8).C w A10 x.f4.length x.f4:=by
 obtain ⟨_,_,rfl,rfl,⟨_,_,rfl,rfl,⟨_,_,rfl,rfl,⟨_,_,rfl,s3,⟨A10,c10,rfl,l10,g10⟩⟩⟩⟩⟩:=h
 obtain rfl:=k23_open s3
 exact ⟨A10,c10,rfl,l10,g10⟩
def rd_T26 (xs:List S26) (i:Int):S26:=xs.getD i.toNat z26
structure S32 where
 f0:ByteArray
 f1:ByteArray
 f2:ByteArray
 f3:Int
 f4:Int
 f5:Int
 f6:Int
 f7:Int
 f8:Int
 f9:ByteArray
 f10:ByteArray
def z32:S32:=⟨(⟨#[]⟩:ByteArray),(⟨#[]⟩:ByteArray),(⟨#[]⟩:ByteArray),(0:Int),(0:Int),(0:Int),(0:Int),(0:Int),(0:Int),(⟨#[]⟩:ByteArray),(⟨#[]⟩:ByteArray)⟩
def k32:Kd S32:=Kd.iso (Kd.pair Kd.string (Kd.pair Kd.string (Kd.pair Kd.string (Kd.pair (Kd.int .i64) (Kd.pair (Kd.int .i64) (Kd.pair (Kd.int .i64) (Kd.pair (Kd.int .i64) (Kd.pair (Kd.int .i64) (Kd.pair (Kd.int .u8) (Kd.pair Kd.string Kd.string)))))))))) (fun x:S32=>(x.f0,x.f1,x.f2,x.f3,x.f4,x.f5,x.f6,x.f7,x.f8,x.f9,x.f10))
def rd_T32 (xs:List S32) (i:Int):S32:=xs.getD i.toNat z32
structure S43 where
 f0:ByteArray
 f1:ByteArray
def z43:S43:=⟨(⟨#[]⟩:ByteArray),(⟨#[]⟩:ByteArray)⟩
def k43:Kd S43:=Kd.iso (Kd.pair Kd.string Kd.string) (fun x:S43=>(x.f0,x.f1))
theorem k43_open {w:World} {x:S43} {cs:List Value} (h:k43.K w x cs):cs = [.string x.f0,.string x.f1]:=by
 obtain ⟨_,_,rfl,rfl,rfl⟩:=h
 exact rfl
theorem k43_mkM (w:World) (base:Nat) (ok:Nat→Prop) (x:S43)  : k43.M w base ok x [.string x.f0,.string x.f1]:=⟨[.string x.f0],[.string x.f1],rfl,rfl,rfl⟩
def rd_T43 (xs:List S43) (i:Int):S43:=xs.getD i.toNat z43
theorem at_T43 {w:World} {A:Option Addr} {n:Nat} {xs:List S43} (h:Kd.C k43 w A n xs) (i:Int) (h0:0 ≤ i) (h1:i < n):∃ ad ,A = some ad∧w.cell? (ad.add (i.toNat * 2)) = some (.string (rd_T43 xs i).f0)∧w.cell? ⟨(ad.add (i.toNat * 2)).block,(ad.add (i.toNat * 2)).off + 1,none⟩ = some (.string (rd_T43 xs i).f1):=by
 obtain ⟨ad,c,e,_,hK,hc0⟩:=Kd.C_get h z43 i h0 h1
 have hc:∀ j u,c[j]? = some u→w.cell? (ad.add (i.toNat * 2 + j)) = some u:=hc0
 obtain rfl:=k43_open hK
 exact ⟨ad,e,hc 0 _ rfl,by rw [← add_field _ _ 1 (by omega)];exact hc 1 _ rfl⟩
def rd_L9 (xs:List (List S43)) (i:Int):(List S43):=xs.getD i.toNat ([]:List S43)
structure S39 where
 f0:S32
 f1:(List S43)
def z39:S39:=⟨z32,([]:List S43)⟩
def k39:Kd S39:=Kd.iso (Kd.pair k32 (Kd.slice 43 k43)) (fun x:S39=>(x.f0,x.f1))
def rd_T39 (xs:List S39) (i:Int):S39:=xs.getD i.toNat z39
theorem eqA32 (d:Nat) (w:World) (x0 y0:ByteArray) (x1 y1:ByteArray) (x2 y2:ByteArray) (x3 y3:Int) (x4 y4:Int) (x5 y5:Int) (x6 y6:Int) (x7 y7:Int) (x8 y8:Int) (x9 y9:ByteArray) (x10 y10:ByteArray) :
  (Op.equalIn (d + 2) 32 (.agg #[.string x0,.string x1,.string x2,.int .i64 x3,.int .i64 x4,.int .i64 x5,.int .i64 x6,.int .i64 x7,.int .u8 x8,.string x9,.string x10]) (.agg #[.string y0,.string y1,.string y2,.int .i64 y3,.int .i64 y4,.int .i64 y5,.int .i64 y6,.int .i64 y7,.int .u8 y8,.string y9,.string y10])).run Tryd.prog w = .ok (x0.toList == y0.toList && (x1.toList == y1.toList && (x2.toList == y2.toList && (x3 == y3 && (x4 == y4 && (x5 == y5 && (x6 == y6 && (x7 == y7 && (x8 == y8 && (x9.toList == y9.toList && (x10.toList == y10.toList))))))))))) w:=by
 refine eqA_of Tryd.underlying32 (by kernel_rfl) ?_
 refine eqf_cons (by rfl) (by go_simp;rfl) (by go_simp;rfl) (by go_simp) ?_
 refine eqf_cons (by rfl) (by go_simp;rfl) (by go_simp;rfl) (by go_simp) ?_
 refine eqf_cons (by rfl) (by go_simp;rfl) (by go_simp;rfl) (by go_simp) ?_
 refine eqf_cons (by rfl) (by go_simp;rfl) (by go_simp;rfl) (by go_simp) ?_
 refine eqf_cons (by rfl) (by go_simp;rfl) (by go_simp;rfl) (by go_simp) ?_
 refine eqf_cons (by rfl) (by go_simp;rfl) (by go_simp;rfl) (by go_simp) ?_
 refine eqf_cons (by rfl) (by go_simp;rfl) (by go_simp;rfl) (by go_simp) ?_
 refine eqf_cons (by rfl) (by go_simp;rfl) (by go_simp;rfl) (by go_simp) ?_
 refine eqf_cons (by rfl) (by go_simp;rfl) (by go_simp;rfl) (by go_simp) ?_
 refine eqf_cons (by rfl) (by go_simp;rfl) (by go_simp;rfl) (by go_simp) ?_
 exact eqf_last (by rfl) (by go_simp;rfl) (by go_simp;rfl) (by go_simp)
theorem sz26:(Tryd.prog.info? 26).map (·.size) = some 11:=by kernel_rfl
def strings_IndexByte.f (a0:ByteArray) (a1:Int):Option Int:=some (Lib.indexByte a0.data.toList a1.toNat.toUInt8)
theorem strings_IndexByte.calls (a0:ByteArray) (a1:Int) (r:Int) (w:World) (h:strings_IndexByte.f a0 a1 = some r) :
 Calls Tryd.prog 19 #[.string a0,.int .u8 a1] w fun e w'=>e = .returned (.int .i64 r)∧Drawn0 w w':=by
 obtain rfl:=Option.some.inj h;exact (Tryd.strings_IndexByte a0 a1 w).mono fun e w' ⟨he,hw⟩=>⟨he,by rw [hw];exact Drawn0.refl _⟩
def strings_Split.f (a0:ByteArray) (a1:ByteArray):Option (List ByteArray):=match a1 with
 | ⟨⟨[c]⟩⟩=>if a0.size < 4294967281 then some (Lib.splitB ⟨#[c]⟩ 0 (Lib.countB a0 ⟨#[c]⟩) a0) else none
 | _=>none
theorem strings_Split.fresh (w:World) (xs:List ByteArray) (hx:0 < xs.length) (hl:xs.length ≤ 9223372036854775807) :
 Kd.R Kd.string 9 (w.alloc (.cells (xs.map Value.string).toArray 9)) w.heap.size (fun _=>True) (.slice (some ⟨w.heap.size,0,none⟩) xs.length xs.length) xs:=by
 refine ⟨fun _ _=>trivial,xs.map Value.string,⟨by simp [Kd.string,Kd.scalar],.inr ⟨w.heap.size,xs.length,(xs.map Value.string).toArray,rfl,Nat.le_refl _,?_,Nat.le_refl _,?_,?_,?_⟩⟩,?_,?_⟩
 ·show (w.heap.push _)[w.heap.size]? = _
  simp
 ·unfold maxLen;omega
 ·simp [Kd.string,Kd.scalar]
 ·simp only [Kd.string,Kd.scalar,Nat.mul_one];exact List.take_of_length_le (by simp)
 ·simp [Kd.string,Kd.scalar]
 ·intro j p hj;show _ = [Value.string p]
  simp only [Kd.string,Kd.scalar,Nat.mul_one];have hlt:=(List.getElem?_eq_some_iff.1 hj).1;have he:=(List.getElem?_eq_some_iff.1 hj).2;rw [List.drop_eq_getElem_cons (by simpa using hlt),List.take_succ_cons,List.take_zero];simp [he]
set_option maxHeartbeats 1000000 in
theorem strings_Split.calls (a0:ByteArray) (a1:ByteArray) (r:List ByteArray) (w:World) (h:strings_Split.f a0 a1 = some r) :
 Calls Tryd.prog 31 #[.string a0,.string a1] w fun e w'=>∃ v0_:Value,e = .returned (v0_)∧Kd.R Kd.string 9 w' w.heap.size (fun _=>True) v0_ r∧Below w.heap.size w w':=by
 unfold strings_Split.f at h;split at h
 ·rename_i ch
  split at h
  ·rename_i hs
   obtain rfl:=Option.some.inj h;have h1:1 ≤ (⟨#[ch]⟩:ByteArray).size:=Nat.le_refl _;have hle:=Lib.countB_le (⟨#[ch]⟩:ByteArray) h1 a0.size a0 (Nat.le_refl _);have hlen:=Lib.splitB_all (⟨#[ch]⟩:ByteArray) h1 0 _ a0 rfl;have hC:Calls Tryd.prog 55 #[.string a0,.string ⟨#[ch]⟩] w fun e w'=>e = .returned (.int .i64 (Lib.countB a0 ⟨#[ch]⟩))∧w' = w:=by
    refine (Tryd.strings_Count_one a0 ch w).mono fun e w' ⟨he,hw⟩=>⟨?_,hw⟩
    rw [he];show _ = Ending.returned (Value.int .i64 ((Lib.count a0.data.toList [ch]:Nat):Int))
    rw [Lib.count_one];rfl
   have hI:∀ (x:ByteArray) (c:Array Value),x.size ≤ a0.size→Calls Tryd.prog 56 #[.string x,.string ⟨#[ch]⟩] (w.alloc (.cells c 9)) fun e w'=>e = .returned (.int .i64 (Lib.indexB x ⟨#[ch]⟩))∧w' = w.alloc (.cells c 9):=by
    intro x c _;refine (Tryd.strings_Index_one x ch _).mono fun e w' ⟨he,hw⟩=>⟨?_,hw⟩
    rw [he];show _ = Ending.returned (Value.int .i64 (Lib.index x.data.toList [ch]))
    rw [Lib.index_one]
   have c:=Any.strings_genSplit_core Tryd.lays221 (by kernel_rfl) a0 ⟨#[ch]⟩ 0 (-1) (Lib.countB a0 ⟨#[ch]⟩ + 1) w hs h1 (Nat.zero_le _) hI hC (by decide) (by decide) (by rw [if_pos (by decide)];omega);rw [Nat.add_sub_cancel,hlen] at c;have e2:Lib.cellsOf (Lib.splitB ⟨#[ch]⟩ 0 (Lib.countB a0 ⟨#[ch]⟩) a0) (Lib.countB a0 ⟨#[ch]⟩ + 1) = ((Lib.splitB ⟨#[ch]⟩ 0 (Lib.countB a0 ⟨#[ch]⟩) a0).map Value.string).toArray:=by rw [← hlen];exact Lib.cellsOf_full _
   rw [e2] at c;have hfr:=strings_Split.fresh w (Lib.splitB ⟨#[ch]⟩ 0 (Lib.countB a0 ⟨#[ch]⟩) a0) (by rw [hlen];omega) (by rw [hlen];omega);rw [hlen] at hfr;have HF:=Aside0.mk hfr;clear hfr e2 hI hC hle hlen hs;generalize Lib.splitB ⟨#[ch]⟩ 0 (Lib.countB a0 ⟨#[ch]⟩) a0 = ps at *;generalize Lib.countB a0 ⟨#[ch]⟩ + 1 = n at *;go_enter Tryd.func31,Tryd.ntmps31;go_wp2_with (go_at_call 38;refine c.mono ?_;rintro e w' ⟨rfl,hw⟩;rw [hw])
   go_ret
   exact ⟨_,rfl,HF.out,(Below.refl _ _).alloc (Nat.le_refl _) _⟩
  ·cases h
 ·cases h
end Go.Proofs.YtenbelecmmpdgaaDoor.All
end
section
namespace Go.Proofs.YtenbelecmmpdgaaDoor.All
open Go.RowKit Go.Proofs.YtenbelecmmpdgaaDoorW.PrintWords Go.Proofs.YtenbelecmmpdgaaDoorW.PrintLast Go.Proofs.YtenbelecmmpdgaaDoorW.PrintMore
open Go.Proofs.YtenbelecmmpdgaaDoorW.Mine
attribute [local go_sem] gtr_string leq_string geq_string
attribute [local go_sem] max2_int min2_int max_two min_two max_three min_three max_four min_four
set_option linter.unusedVariables false
set_option linter.unusedSimpArgs false
mutual
def path_Check.j0:Nat→ByteArray→Bool→Option (Int)
 | 0,_,_=>none
 | k + 1,x0,x12=>if x12 = true then (some 1) else ((strings_IndexByte.f x0 0).bind fun t101=>(if t101 ≥ 0 then (some 3) else ((strings_Split.f x0 (⟨#[47]⟩:ByteArray)).bind fun t102=>(path_Check.l0 k t102 (t102.length:Int) 0))))
def path_Check.l0:Nat→List ByteArray→Int→Int→Option (Int)
 | 0,_,_,_=>none
 | k + 1,x17,x18,x19=>if x19 < x18 then (if 0 ≤ x19 then (if x19 < (x17.length:Int) then (if (rdOf ByteArray.empty x17 x19).toList = ([]:List UInt8) then (some 9) else (if (rdOf ByteArray.empty x17 x19).toList = ([46]:List UInt8) then (some 9) else (if (rdOf ByteArray.empty x17 x19).toList = ([46,46]:List UInt8) then (some 9) else (path_Check.l0 k x17 x18 (wrap64 (x19 + 1)))))) else (none)) else (none)) else (some 0)
end
def path_Check.f (k:Nat) (a0:ByteArray):Option (Int):=if (a0.size:Int) < 1 then (path_Check.j0 k a0 true) else (path_Check.j0 k a0 (decide ((a0.size:Int) > 400)))
set_option maxHeartbeats 8000000 in
set_option maxRecDepth 100000 in
theorem path_Check.calls (k:Nat) (a0:ByteArray) (r:Int) (w:World) (h:path_Check.f k a0 = some r) :
 Calls Tryd.prog 17 #[.string a0] w fun e w'=>e = .returned (.int .i64 r)∧Below w.heap.size w w':=by
 have HB:=Aside0.mk (Below.refl w.heap.size w);have H:(if (a0.size:Int) < 1 then (path_Check.j0 k a0 true) else (path_Check.j0 k a0 (decide ((a0.size:Int) > 400)))) = some r:=h;clear h;have HC2:=Aside0.mk H;clear H;go_enter Tryd.func17,Tryd.ntmps17;go_upto_region 1 with (fail)
 go_cut [12] (fun v12 wc=>∃ (kq:Nat) (x12_1:Bool),v12 = .bool x12_1∧Aside0 (path_Check.j0 kq a0 x12_1 = some r)∧Aside0 (kq ≤ k)∧Aside0 (Below w.heap.size w wc))
 case first =>
  have H:=HC2.out;clear HC2;by_cases c3:(a0.size:Int) < 1
  ·rw [if_pos c3] at H;have c3b0:decide ((a0.size:Int) < 1) = true:=decide_eq_true c3;have c3b1:decide (a0.size < 1) = true:=decide_eq_true (by omega);clear c3;(first|rw [c3b0]|(simp only [i64_w,i32_w];rw [c3b0])|skip);have H':=Aside0.mk H;clear H;go_wp2;go_meet
   case rel=>exact ⟨_,(true),(by first|rfl|(simp;done)|(simp [*];done)),H',⟨by first|omega|exact Nat.le_refl _⟩,⟨by repeat (first|(with_reducible first|exact HB.out|apply bwA|apply pwbN|apply bw1)|exact HB.out)⟩⟩
  ·rw [if_neg c3] at H;have c3b0:decide ((a0.size:Int) < 1) = false:=decide_eq_false c3;have c3b1:decide (a0.size < 1) = false:=decide_eq_false (by omega);clear c3;(first|rw [c3b0]|(simp only [i64_w,i32_w];rw [c3b0])|skip);have H':=Aside0.mk H;clear H;go_wp2;go_meet
   case rel=>exact ⟨_,(decide ((a0.size:Int) > 400)),(by first|rfl|(simp;done)|(simp [*];done)),H',⟨by first|omega|exact Nat.le_refl _⟩,⟨by repeat (first|(with_reducible first|exact HB.out|apply bwA|apply pwbN|apply bw1)|exact HB.out)⟩⟩
 case rest =>
  clear HC2;obtain ⟨kq,x12_1,rfl,HA,HJ1,HB⟩:=hcut;cases kq with
  | zero=>exact absurd HA.out (by simp [path_Check.j0])
  | succ kj1 =>
   have H:=HA.out;clear HA;simp only [path_Check.j0] at H;by_cases c4:x12_1 = true
   ·subst c4;have H1:(some 1) = some r:=by rw [if_pos rfl] at H;exact H
    clear H;have H:=H1;clear H1;obtain rfl:=Option.some.inj H;go_wp2;go_ret
    exact ⟨by first|rfl|(simp [errW_none,errW_some] <;> rfl)|(simp [*,errW_none,errW_some] <;> rfl),by repeat (first|(with_reducible first|exact HB.out|apply bwA|apply pwbN|apply bw1)|exact HB.out)⟩
   ·replace c4:=Bool.eq_false_iff.mpr c4;subst c4;have H1:((strings_IndexByte.f a0 0).bind fun t101=>(if t101 ≥ 0 then (some 3) else ((strings_Split.f a0 (⟨#[47]⟩:ByteArray)).bind fun t102=>(path_Check.l0 kj1 t102 (t102.length:Int) 0)))) = some r:=by rw [if_neg (show ¬ (false = true) by decide)] at H;exact H
    clear H;have H:=H1;clear H1;replace H:=Option.bind_eq_some_iff.mp H;obtain ⟨t101,A50,H⟩:=H;replace H:(if t101 ≥ 0 then (some 3) else ((strings_Split.f a0 (⟨#[47]⟩:ByteArray)).bind fun t102=>(path_Check.l0 kj1 t102 (t102.length:Int) 0))) = some r:=H;have A5:=Aside0.mk A50;clear A50;by_cases c6:t101 ≥ 0
    ·rw [if_pos c6] at H;have c6b0:decide (0 ≤ t101) = true:=decide_eq_true c6;clear c6;obtain rfl:=Option.some.inj H;go_wp2_with (first|((with_reducible refine gate_callee (f:=19) rfl ?_);refine goesL_ (some 14) rfl rfl Tryd.func19 (by kernel_rfl) rfl #[.string a0,.int .u8 0] rfl (by (try simp only [List.map_toArray,List.map_cons,List.map_nil]);first|done|rfl|(simp only [List.length_drop,List.length_take];rfl)) ?_;(with_reducible refine (strings_IndexByte.calls a0 0 t101 _ A5.out).mono ?_);rintro e w' ⟨rfl,⟨nd,rfl⟩⟩;refine ⟨_,rfl,?_⟩))
     go_ret
     exact ⟨by first|rfl|(simp [errW_none,errW_some] <;> rfl)|(simp [*,errW_none,errW_some] <;> rfl),by repeat (first|(with_reducible first|exact HB.out|apply bwA|apply pwbN|apply bw1)|exact HB.out)⟩
    ·rw [if_neg c6] at H;have c6b0:decide (0 ≤ t101) = false:=decide_eq_false c6;clear c6;replace H:=Option.bind_eq_some_iff.mp H;obtain ⟨t102,A70,H⟩:=H;replace H:(path_Check.l0 kj1 t102 (t102.length:Int) 0) = some r:=H;have A7:=Aside0.mk A70;clear A70;have H':=Aside0.mk H;clear H;go_wp2_with (first|((with_reducible refine gate_callee (f:=19) rfl ?_);refine goesL_ (some 14) rfl rfl Tryd.func19 (by kernel_rfl) rfl #[.string a0,.int .u8 0] rfl (by (try simp only [List.map_toArray,List.map_cons,List.map_nil]);first|done|rfl|(simp only [List.length_drop,List.length_take];rfl)) ?_;(with_reducible refine (strings_IndexByte.calls a0 0 t101 _ A5.out).mono ?_);rintro e w' ⟨rfl,⟨nd,rfl⟩⟩;refine ⟨_,rfl,?_⟩)|((with_reducible refine gate_callee (f:=31) rfl ?_);refine goesL_ (some 17) rfl rfl Tryd.func31 (by kernel_rfl) rfl #[.string a0,.string (⟨#[47]⟩:ByteArray)] rfl (by (try simp only [List.map_toArray,List.map_cons,List.map_nil]);first|done|rfl|(simp only [List.length_drop,List.length_take];rfl)) ?_;(with_reducible refine (strings_Split.calls a0 (⟨#[47]⟩:ByteArray) t102 _ A7.out).mono ?_);rintro e w8 ⟨v103,rfl,ho0,hb⟩;refine ⟨_,rfl,?_⟩;have n0_:=Aside0.mk (Kd.R_lower ho0 (below_size (by repeat (first|(with_reducible first|exact HB.out|apply bwA|apply pwbN|apply bw1)|exact HB.out))));have n1_:=Aside0.mk (below_step (by repeat (first|(with_reducible first|exact HB.out|apply bwA|apply pwbN|apply bw1)|exact HB.out)) hb);clear HB;have HO104:=n0_;have HB:=n1_;clear n0_ n1_;(try clear hb);(try clear hb2);(try clear hk);(try clear hi);(try clear ho0);obtain ⟨Ao9,co9,eo9⟩:=Kd.R_slice HO104.out;subst eo9))
     go_loopg [19] kj1 (fun kq v19 w'=>∃ (x19_2:Int),v19 = .int .i64 x19_2∧Aside0 (path_Check.l0 kq t102 (t102.length:Int) x19_2 = some r)∧Aside0 (kq ≤ kj1)∧Aside0 (Kd.R Kd.string 9 w' w.heap.size (fun _=>True) (.slice Ao9 t102.length co9) t102)∧Aside0 (Below w.heap.size w w'))
     case atStart=>exact ⟨(0),(by first|rfl|(simp;done)|(simp [*];done)),H',⟨Nat.le_refl _⟩,⟨by (with_reducible repeat (first|apply Kd.R_alloc|apply Kd.R_drewN|apply Kd.R_drew));exact HO104.out⟩,⟨by repeat (first|(with_reducible first|exact HB.out|apply bwA|apply pwbN|apply bw1)|exact HB.out)⟩⟩
     case round =>
      clear H';repeat first|clear c4|clear c6|clear c6b0
      obtain ⟨x19_2,rfl,HA,HK2,HO_17,HB⟩:=hrel;cases gk with
      | zero=>exact absurd HA.out (by simp [path_Check.l0])
      | succ k2 =>
       have H:=HA.out;clear HA;simp only [path_Check.l0] at H;by_cases c10:x19_2 < (t102.length:Int)
       ·rw [if_pos c10] at H;have c10b0:decide (x19_2 < (t102.length:Int)) = true:=decide_eq_true c10;clear c10;by_cases c11:0 ≤ x19_2
        ·rw [if_pos c11] at H;have c11b0:decide (0 ≤ x19_2) = true:=decide_eq_true c11;clear c11;by_cases c12:x19_2 < (t102.length:Int)
         ·rw [if_pos c12] at H;have c12b0:decide (x19_2 < (t102.length:Int)) = true:=decide_eq_true c12;clear c12;by_cases c13:(rdOf ByteArray.empty t102 x19_2).toList = ([]:List UInt8)
          ·rw [if_pos c13] at H;have c13b0:((rdOf ByteArray.empty t102 x19_2).toList == ([]:List UInt8)) = true:=beq_iff_eq.mpr c13;have c13b1:((rdOf ByteArray.empty t102 x19_2).toList != ([]:List UInt8)) = false:=bne_eq_false_iff_eq.mpr c13;clear c13;obtain rfl:=Option.some.inj H;have p105:0 ≤ (x19_2:Int):=of_decide_eq_true (by first|(with_reducible assumption)|assumption);have q105:x19_2 < (t102.length:Int):=of_decide_eq_true (by first|(with_reducible assumption)|assumption);obtain ⟨ad105,e105,hx105_0⟩:=Kd.at_string (Kd.R_reads' HO_17.out).2.2 x19_2 p105 q105;cases e105;replace p105:=eq_true p105;replace q105:=eq_true q105;go_wp2;go_ret
           exact ⟨by first|rfl|(simp [errW_none,errW_some] <;> rfl)|(simp [*,errW_none,errW_some] <;> rfl),by repeat (first|(with_reducible first|exact HB.out|apply bwA|apply pwbN|apply bw1)|exact HB.out)⟩
          ·rw [if_neg c13] at H;have c13b0:((rdOf ByteArray.empty t102 x19_2).toList == ([]:List UInt8)) = false:=beq_eq_false_iff_ne.mpr c13;have c13b1:((rdOf ByteArray.empty t102 x19_2).toList != ([]:List UInt8)) = true:=bne_iff_ne.mpr c13;by_cases c14:(rdOf ByteArray.empty t102 x19_2).toList = ([46]:List UInt8)
           ·rw [if_pos c14] at H;have c14b0:((rdOf ByteArray.empty t102 x19_2).toList == ([46]:List UInt8)) = true:=beq_iff_eq.mpr c14;have c14b1:((rdOf ByteArray.empty t102 x19_2).toList != ([46]:List UInt8)) = false:=bne_eq_false_iff_eq.mpr c14;clear c14;obtain rfl:=Option.some.inj H;have p105:0 ≤ (x19_2:Int):=of_decide_eq_true (by first|(with_reducible assumption)|assumption);have q105:x19_2 < (t102.length:Int):=of_decide_eq_true (by first|(with_reducible assumption)|assumption);obtain ⟨ad105,e105,hx105_0⟩:=Kd.at_string (Kd.R_reads' HO_17.out).2.2 x19_2 p105 q105;cases e105;replace p105:=eq_true p105;replace q105:=eq_true q105;go_wp2;go_ret
            exact ⟨by first|rfl|(simp [errW_none,errW_some] <;> rfl)|(simp [*,errW_none,errW_some] <;> rfl),by repeat (first|(with_reducible first|exact HB.out|apply bwA|apply pwbN|apply bw1)|exact HB.out)⟩
           ·rw [if_neg c14] at H;have c14b0:((rdOf ByteArray.empty t102 x19_2).toList == ([46]:List UInt8)) = false:=beq_eq_false_iff_ne.mpr c14;have c14b1:((rdOf ByteArray.empty t102 x19_2).toList != ([46]:List UInt8)) = true:=bne_iff_ne.mpr c14;by_cases c15:(rdOf ByteArray.empty t102 x19_2).toList = ([46,46]:List UInt8)
            ·rw [if_pos c15] at H;have c15b0:((rdOf ByteArray.empty t102 x19_2).toList == ([46,46]:List UInt8)) = true:=beq_iff_eq.mpr c15;have c15b1:((rdOf ByteArray.empty t102 x19_2).toList != ([46,46]:List UInt8)) = false:=bne_eq_false_iff_eq.mpr c15;clear c15;obtain rfl:=Option.some.inj H;have p105:0 ≤ (x19_2:Int):=of_decide_eq_true (by first|(with_reducible assumption)|assumption);have q105:x19_2 < (t102.length:Int):=of_decide_eq_true (by first|(with_reducible assumption)|assumption);obtain ⟨ad105,e105,hx105_0⟩:=Kd.at_string (Kd.R_reads' HO_17.out).2.2 x19_2 p105 q105;cases e105;replace p105:=eq_true p105;replace q105:=eq_true q105;go_wp2;go_ret
             exact ⟨by first|rfl|(simp [errW_none,errW_some] <;> rfl)|(simp [*,errW_none,errW_some] <;> rfl),by repeat (first|(with_reducible first|exact HB.out|apply bwA|apply pwbN|apply bw1)|exact HB.out)⟩
            ·rw [if_neg c15] at H;have c15b0:((rdOf ByteArray.empty t102 x19_2).toList == ([46,46]:List UInt8)) = false:=beq_eq_false_iff_ne.mpr c15;have c15b1:((rdOf ByteArray.empty t102 x19_2).toList != ([46,46]:List UInt8)) = true:=bne_iff_ne.mpr c15;have H':=Aside0.mk H;clear H;have p105:0 ≤ (x19_2:Int):=of_decide_eq_true (by first|(with_reducible assumption)|assumption);have q105:x19_2 < (t102.length:Int):=of_decide_eq_true (by first|(with_reducible assumption)|assumption);obtain ⟨ad105,e105,hx105_0⟩:=Kd.at_string (Kd.R_reads' HO_17.out).2.2 x19_2 p105 q105;cases e105;replace p105:=eq_true p105;replace q105:=eq_true q105;go_wp2;go_roundg k2
             case measure=>have:=HJ1.out;have:=HK2.out;omega
             case rel=>exact ⟨(wrap64 (x19_2 + 1)),(by first|rfl|(simp;done)|(simp [*];done)),H',⟨by have:=HJ1.out;have:=HK2.out;omega⟩,⟨by (with_reducible repeat (first|apply Kd.R_alloc|apply Kd.R_drewN|apply Kd.R_drew));exact HO_17.out⟩,⟨by repeat (first|(with_reducible first|exact HB.out|apply bwA|apply pwbN|apply bw1)|exact HB.out)⟩⟩
         ·rw [if_neg c12] at H;exact absurd H (by simp)
        ·rw [if_neg c11] at H;exact absurd H (by simp)
       ·rw [if_neg c10] at H;have c10b0:decide (x19_2 < (t102.length:Int)) = false:=decide_eq_false c10;clear c10;obtain rfl:=Option.some.inj H;go_wp2;go_ret
        exact ⟨by first|rfl|(simp [errW_none,errW_some] <;> rfl)|(simp [*,errW_none,errW_some] <;> rfl),by repeat (first|(with_reducible first|exact HB.out|apply bwA|apply pwbN|apply bw1)|exact HB.out)⟩
end Go.Proofs.YtenbelecmmpdgaaDoor.All
end
section
namespace Go.Proofs.YtenbelecmmpdgaaDoor.All
open Go.RowKit Go.Proofs.YtenbelecmmpdgaaDoorW.PrintWords Go.Proofs.YtenbelecmmpdgaaDoorW.PrintLast Go.Proofs.YtenbelecmmpdgaaDoorW.PrintMore
open Go.Proofs.YtenbelecmmpdgaaDoorW.Mine
attribute [local go_sem] gtr_string leq_string geq_string
attribute [local go_sem] max2_int min2_int max_two min_two max_three min_three max_four min_four
set_option linter.unusedVariables false
set_option linter.unusedSimpArgs false
def stamp_Check.f (a0:Int) (a1:Int):Option (Int):=if a0 < (-1099511627776) then (some 4) else (if a0 > 1099511627776 then (some 4) else (if a1 < 0 then (some 4) else (if a1 > 999999999 then (some 4) else (some 0))))
set_option maxHeartbeats 8000000 in
set_option maxRecDepth 100000 in
theorem stamp_Check.calls (a0:Int) (a1:Int) (r:Int) (w:World) (h:stamp_Check.f a0 a1 = some r) :
 Calls Tryd.prog 32 #[.int .i64 a0,.int .i64 a1] w fun e w'=>e = .returned (.int .i64 r)∧Drawn0 w w':=by
 have H:(if a0 < (-1099511627776) then (some 4) else (if a0 > 1099511627776 then (some 4) else (if a1 < 0 then (some 4) else (if a1 > 999999999 then (some 4) else (some 0))))) = some r:=h;clear h;by_cases c3:a0 < (-1099511627776)
 ·rw [if_pos c3] at H;have c3b0:decide (a0 < (-1099511627776)) = true:=decide_eq_true c3;clear c3;obtain rfl:=Option.some.inj H;go_enter Tryd.func32,Tryd.ntmps32;go_wp2;go_ret
  exact ⟨by first|rfl|(simp;done)|(simp [*];done),by repeat (first|exact Drawn0.refl _|apply Drawn0.step)⟩
 ·rw [if_neg c3] at H;have c3b0:decide (a0 < (-1099511627776)) = false:=decide_eq_false c3;clear c3;by_cases c4:a0 > 1099511627776
  ·rw [if_pos c4] at H;have c4b0:decide (1099511627776 < a0) = true:=decide_eq_true c4;clear c4;obtain rfl:=Option.some.inj H;go_enter Tryd.func32,Tryd.ntmps32;go_wp2;go_ret
   exact ⟨by first|rfl|(simp;done)|(simp [*];done),by repeat (first|exact Drawn0.refl _|apply Drawn0.step)⟩
  ·rw [if_neg c4] at H;have c4b0:decide (1099511627776 < a0) = false:=decide_eq_false c4;clear c4;by_cases c5:a1 < 0
   ·rw [if_pos c5] at H;have c5b0:decide (a1 < 0) = true:=decide_eq_true c5;clear c5;obtain rfl:=Option.some.inj H;go_enter Tryd.func32,Tryd.ntmps32;go_wp2;go_ret
    exact ⟨by first|rfl|(simp;done)|(simp [*];done),by repeat (first|exact Drawn0.refl _|apply Drawn0.step)⟩
   ·rw [if_neg c5] at H;have c5b0:decide (a1 < 0) = false:=decide_eq_false c5;clear c5;by_cases c6:a1 > 999999999
    ·rw [if_pos c6] at H;have c6b0:decide (999999999 < a1) = true:=decide_eq_true c6;clear c6;obtain rfl:=Option.some.inj H;go_enter Tryd.func32,Tryd.ntmps32;go_wp2;go_ret
     exact ⟨by first|rfl|(simp;done)|(simp [*];done),by repeat (first|exact Drawn0.refl _|apply Drawn0.step)⟩
    ·rw [if_neg c6] at H;have c6b0:decide (999999999 < a1) = false:=decide_eq_false c6;clear c6;obtain rfl:=Option.some.inj H;go_enter Tryd.func32,Tryd.ntmps32;go_wp2;go_ret
     exact ⟨by first|rfl|(simp;done)|(simp [*];done),by repeat (first|exact Drawn0.refl _|apply Drawn0.step)⟩
end Go.Proofs.YtenbelecmmpdgaaDoor.All
end
section
namespace Go.Proofs.YtenbelecmmpdgaaDoor.All
open Go.RowKit Go.Proofs.YtenbelecmmpdgaaDoorW.PrintWords Go.Proofs.YtenbelecmmpdgaaDoorW.PrintLast Go.Proofs.YtenbelecmmpdgaaDoorW.PrintMore
open Go.Proofs.YtenbelecmmpdgaaDoorW.Mine
attribute [local go_sem] gtr_string leq_string geq_string
attribute [local go_sem] max2_int min2_int max_two min_two max_three min_three max_four min_four
set_option linter.unusedVariables false
set_option linter.unusedSimpArgs false
mutual
def meta_Check.j0:Nat→Bool→Int→Int→Int→ByteArray→ByteArray→Int→Int→Option (Int)
 | 0,_,_,_,_,_,_,_,_=>none
 | k + 1,x3,x102000,x102001,x102002,x102003,x102004,x102005,x102006=>if x3 = true then (meta_Check.j1 k x3 x102000 x102001 x102002 x102003 x102004 x102005 x102006) else (if x102001 < 0 then (meta_Check.j1 k true x102000 x102001 x102002 x102003 x102004 x102005 x102006) else (if x102001 > 1125899906842624 then (meta_Check.j1 k (decide (x102001 > 1125899906842624)) x102000 x102001 x102002 x102003 x102004 x102005 x102006) else (if x102002 < 0 then (meta_Check.j1 k true x102000 x102001 x102002 x102003 x102004 x102005 x102006) else (meta_Check.j1 k (decide (x102002 > 1125899906842624)) x102000 x102001 x102002 x102003 x102004 x102005 x102006))))
def meta_Check.j1:Nat→Bool→Int→Int→Int→ByteArray→ByteArray→Int→Int→Option (Int)
 | 0,_,_,_,_,_,_,_,_=>none
 | k + 1,x3,x102000,x102001,x102002,x102003,x102004,x102005,x102006=>if x3 = true then (some 4) else (if (x102003.size:Int) > 60 then (meta_Check.j2 k true x102000 x102001 x102002 x102003 x102004 x102005 x102006) else (meta_Check.j2 k (decide ((x102004.size:Int) > 60)) x102000 x102001 x102002 x102003 x102004 x102005 x102006))
def meta_Check.j2:Nat→Bool→Int→Int→Int→ByteArray→ByteArray→Int→Int→Option (Int)
 | 0,_,_,_,_,_,_,_,_=>none
 | k + 1,x28,x102000,x102001,x102002,x102003,x102004,x102005,x102006=>if x28 = true then (some 1) else (if x102003.size + x102004.size ≤ 9223372036854775807 then ((strings_IndexByte.f (x102003 ++ x102004) 0).bind fun t102=>(if t102 ≥ 0 then (some 3) else ((stamp_Check.f x102005 x102006).bind fun t103=>(some t103)))) else (none))
end
def meta_Check.f (k:Nat) (a0_0:Int) (a0_1:Int) (a0_2:Int) (a0_3:ByteArray) (a0_4:ByteArray) (a0_5:Int) (a0_6:Int):Option (Int):=if a0_0 < 0 then (meta_Check.j0 k true a0_0 a0_1 a0_2 a0_3 a0_4 a0_5 a0_6) else (meta_Check.j0 k (decide (a0_0 > 4095)) a0_0 a0_1 a0_2 a0_3 a0_4 a0_5 a0_6)
set_option maxHeartbeats 8000000 in
set_option maxRecDepth 100000 in
theorem meta_Check.calls (k:Nat) (a0_0:Int) (a0_1:Int) (a0_2:Int) (a0_3:ByteArray) (a0_4:ByteArray) (a0_5:Int) (a0_6:Int) (r:Int) (w:World) (h:meta_Check.f k a0_0 a0_1 a0_2 a0_3 a0_4 a0_5 a0_6 = some r) :
 Calls Tryd.prog 18 #[.agg #[.int .i64 a0_0,.int .i64 a0_1,.int .i64 a0_2,.string a0_3,.string a0_4,.int .i64 a0_5,.int .i64 a0_6]] w fun e w'=>e = .returned (.int .i64 r)∧Below w.heap.size w w':=by
 have hu23:=Tryd.underlying23;have HB:=Aside0.mk (Below.refl w.heap.size w);have H:(if a0_0 < 0 then (meta_Check.j0 k true a0_0 a0_1 a0_2 a0_3 a0_4 a0_5 a0_6) else (meta_Check.j0 k (decide (a0_0 > 4095)) a0_0 a0_1 a0_2 a0_3 a0_4 a0_5 a0_6)) = some r:=h;clear h;have HC2:=Aside0.mk H;clear H;go_enter Tryd.func18,Tryd.ntmps18;go_upto_region 1 with (first|((with_reducible refine gate_dst (N:=1) rfl ?_);(try (refine gate_guard (by rfl) ?_;dsimp only));refine box_event ?hg (N:=1) ?hd (cs:=#[.int .i64 a0_0,.int .i64 a0_1,.int .i64 a0_2,.string a0_3,.string a0_4,.int .i64 a0_5,.int .i64 a0_6]) (t:=23) ?hr ?_;(case hd=>rfl);(case hg=>rfl);(case hr=>first|(go_simp;done)|(go_simp;rfl));intro gb101 hg w3 hbox hb;have n0_:=Aside0.mk (below_step (by repeat (first|(with_reducible first|exact HB.out|apply bwA|apply pwbN|apply bw1)|exact HB.out)) hb);have n1_:=Aside0.mk (hbox);have n2_:=Aside0.mk ((by rw [hg];exact (below_size (by repeat (first|(with_reducible first|exact HB.out|apply bwA|apply pwbN|apply bw1)|exact HB.out))):w.heap.size ≤ gb101));have n3_:=Aside0.mk ((by rw [hg];exact (below_size (by repeat (first|(with_reducible first|exact HB.out|apply bwA|apply pwbN|apply bw1)|exact HB.out))):w.heap.size ≤ gb101));clear HB;have HB:=n0_;have BK101:=n1_;have GW101:=n2_;have GE101:=n3_;clear n0_ n1_ n2_ n3_;clear hb hbox hg))
 (try simp only [Act.put,List.setIfInBounds_toArray,List.set_cons_zero,List.set_cons_succ]);go_cut [3] (fun v3 wc=>∃ (kq:Nat) (x3_1:Bool),v3 = .bool x3_1∧Aside0 (meta_Check.j0 kq x3_1 a0_0 a0_1 a0_2 a0_3 a0_4 a0_5 a0_6 = some r)∧Aside0 (kq ≤ k)∧Aside0 (wc.heap[gb101]? = some (.cells #[.int .i64 a0_0,.int .i64 a0_1,.int .i64 a0_2,.string a0_3,.string a0_4,.int .i64 a0_5,.int .i64 a0_6] 23 (0,0)))∧Aside0 (Below w.heap.size w wc))
 case first =>
  have H:=HC2.out;clear HC2;by_cases c4:a0_0 < 0
  ·rw [if_pos c4] at H;have c4b0:decide (a0_0 < 0) = true:=decide_eq_true c4;clear c4;(first|rw [c4b0]|(simp only [i64_w,i32_w];rw [c4b0])|skip);have H':=Aside0.mk H;clear H;obtain ⟨_,_,_,_,_,_,_,_,_,_,_,_,_,_⟩:=blkA7 BK101.out;go_wp2;go_meet
   case rel=>exact ⟨_,(true),(by first|rfl|(simp;done)|(simp [*];done)),H',⟨by first|omega|exact Nat.le_refl _⟩,⟨by (with_reducible repeat (first|refine blk_drewN ?_ _|refine blk_drew ?_|refine blk_alloc ?_ _));exact BK101.out⟩,⟨by repeat (first|(with_reducible first|exact HB.out|apply bwA|apply pwbN|apply bw1|refine below_set ?_ GE101.out)|exact HB.out)⟩⟩
  ·rw [if_neg c4] at H;have c4b0:decide (a0_0 < 0) = false:=decide_eq_false c4;clear c4;(first|rw [c4b0]|(simp only [i64_w,i32_w];rw [c4b0])|skip);have H':=Aside0.mk H;clear H;obtain ⟨_,_,_,_,_,_,_,_,_,_,_,_,_,_⟩:=blkA7 BK101.out;go_wp2;go_meet
   case rel=>exact ⟨_,(decide (a0_0 > 4095)),(by first|rfl|(simp;done)|(simp [*];done)),H',⟨by first|omega|exact Nat.le_refl _⟩,⟨by (with_reducible repeat (first|refine blk_drewN ?_ _|refine blk_drew ?_|refine blk_alloc ?_ _));exact BK101.out⟩,⟨by repeat (first|(with_reducible first|exact HB.out|apply bwA|apply pwbN|apply bw1|refine below_set ?_ GE101.out)|exact HB.out)⟩⟩
 case rest =>
  clear HC2;obtain ⟨kq,x3_1,rfl,HA,HJ1,BK101,HB⟩:=hcut;cases kq with
  | zero=>exact absurd HA.out (by simp [meta_Check.j0])
  | succ kj1 =>
   have H:=HA.out;clear HA;simp only [meta_Check.j0] at H;have HC7:=Aside0.mk H;clear H;go_upto_if 3 with (fail)
   go_cut [3] (fun v3 wc=>∃ (kq:Nat) (x3_6:Bool),v3 = .bool x3_6∧Aside0 (meta_Check.j1 kq x3_6 a0_0 a0_1 a0_2 a0_3 a0_4 a0_5 a0_6 = some r)∧Aside0 (kq ≤ kj1)∧Aside0 (wc.heap[gb101]? = some (.cells #[.int .i64 a0_0,.int .i64 a0_1,.int .i64 a0_2,.string a0_3,.string a0_4,.int .i64 a0_5,.int .i64 a0_6] 23 (0,0)))∧Aside0 (Below w.heap.size w wc))
   case first =>
    have H:=HC7.out;clear HC7;by_cases c8:x3_1 = true
    ·subst c8;have H1:(meta_Check.j1 kj1 true a0_0 a0_1 a0_2 a0_3 a0_4 a0_5 a0_6) = some r:=by rw [if_pos rfl] at H;exact H
     clear H;have H:=H1;clear H1;have H':=Aside0.mk H;clear H;go_wp2;go_meet
     case rel=>exact ⟨_,(true),(by first|rfl|(simp;done)|(simp [*];done)),H',⟨by have:=HJ1.out;first|omega|exact Nat.le_refl _⟩,⟨by (with_reducible repeat (first|refine blk_drewN ?_ _|refine blk_drew ?_|refine blk_alloc ?_ _));exact BK101.out⟩,⟨by repeat (first|(with_reducible first|exact HB.out|apply bwA|apply pwbN|apply bw1|refine below_set ?_ GE101.out)|exact HB.out)⟩⟩
    ·replace c8:=Bool.eq_false_iff.mpr c8;subst c8;have H1:(if a0_1 < 0 then (meta_Check.j1 kj1 true a0_0 a0_1 a0_2 a0_3 a0_4 a0_5 a0_6) else (if a0_1 > 1125899906842624 then (meta_Check.j1 kj1 (decide (a0_1 > 1125899906842624)) a0_0 a0_1 a0_2 a0_3 a0_4 a0_5 a0_6) else (if a0_2 < 0 then (meta_Check.j1 kj1 true a0_0 a0_1 a0_2 a0_3 a0_4 a0_5 a0_6) else (meta_Check.j1 kj1 (decide (a0_2 > 1125899906842624)) a0_0 a0_1 a0_2 a0_3 a0_4 a0_5 a0_6)))) = some r:=by rw [if_neg (show ¬ (false = true) by decide)] at H;exact H
     clear H;have H:=H1;clear H1;by_cases c9:a0_1 < 0
     ·rw [if_pos c9] at H;have c9b0:decide (a0_1 < 0) = true:=decide_eq_true c9;clear c9;(first|rw [c9b0]|(simp only [i64_w,i32_w];rw [c9b0])|skip);have H':=Aside0.mk H;clear H;obtain ⟨_,_,_,_,_,_,_,_,_,_,_,_,_,_⟩:=blkA7 BK101.out;go_wp2;go_meet
      case rel=>exact ⟨_,(true),(by first|rfl|(simp;done)|(simp [*];done)),H',⟨by have:=HJ1.out;first|omega|exact Nat.le_refl _⟩,⟨by (with_reducible repeat (first|refine blk_drewN ?_ _|refine blk_drew ?_|refine blk_alloc ?_ _));exact BK101.out⟩,⟨by repeat (first|(with_reducible first|exact HB.out|apply bwA|apply pwbN|apply bw1|refine below_set ?_ GE101.out)|exact HB.out)⟩⟩
     ·rw [if_neg c9] at H;have c9b0:decide (a0_1 < 0) = false:=decide_eq_false c9;clear c9;(first|rw [c9b0]|(simp only [i64_w,i32_w];rw [c9b0])|skip);by_cases c11:a0_1 > 1125899906842624
      ·rw [if_pos c11] at H;have c11b0:decide (1125899906842624 < a0_1) = true:=decide_eq_true c11;clear c11;have H':=Aside0.mk H;clear H;obtain ⟨_,_,_,_,_,_,_,_,_,_,_,_,_,_⟩:=blkA7 BK101.out;go_wp2;go_meet
       case rel=>exact ⟨_,(decide (a0_1 > 1125899906842624)),(by first|rfl|(simp;done)|(simp [*];done)),H',⟨by have:=HJ1.out;first|omega|exact Nat.le_refl _⟩,⟨by (with_reducible repeat (first|refine blk_drewN ?_ _|refine blk_drew ?_|refine blk_alloc ?_ _));exact BK101.out⟩,⟨by repeat (first|(with_reducible first|exact HB.out|apply bwA|apply pwbN|apply bw1|refine below_set ?_ GE101.out)|exact HB.out)⟩⟩
      ·rw [if_neg c11] at H;have c11b0:decide (1125899906842624 < a0_1) = false:=decide_eq_false c11;clear c11;by_cases c13:a0_2 < 0
       ·rw [if_pos c13] at H;have c13b0:decide (a0_2 < 0) = true:=decide_eq_true c13;clear c13;have H':=Aside0.mk H;clear H;obtain ⟨_,_,_,_,_,_,_,_,_,_,_,_,_,_⟩:=blkA7 BK101.out;go_wp2;go_meet
        case rel=>exact ⟨_,(true),(by first|rfl|(simp;done)|(simp [*];done)),H',⟨by have:=HJ1.out;first|omega|exact Nat.le_refl _⟩,⟨by (with_reducible repeat (first|refine blk_drewN ?_ _|refine blk_drew ?_|refine blk_alloc ?_ _));exact BK101.out⟩,⟨by repeat (first|(with_reducible first|exact HB.out|apply bwA|apply pwbN|apply bw1|refine below_set ?_ GE101.out)|exact HB.out)⟩⟩
       ·rw [if_neg c13] at H;have c13b0:decide (a0_2 < 0) = false:=decide_eq_false c13;clear c13;have H':=Aside0.mk H;clear H;obtain ⟨_,_,_,_,_,_,_,_,_,_,_,_,_,_⟩:=blkA7 BK101.out;go_wp2;go_meet
        case rel=>exact ⟨_,(decide (a0_2 > 1125899906842624)),(by first|rfl|(simp;done)|(simp [*];done)),H',⟨by have:=HJ1.out;first|omega|exact Nat.le_refl _⟩,⟨by (with_reducible repeat (first|refine blk_drewN ?_ _|refine blk_drew ?_|refine blk_alloc ?_ _));exact BK101.out⟩,⟨by repeat (first|(with_reducible first|exact HB.out|apply bwA|apply pwbN|apply bw1|refine below_set ?_ GE101.out)|exact HB.out)⟩⟩
   case rest =>
    clear HC7;obtain ⟨kq,x3_6,rfl,HA,HJ6,BK101,HB⟩:=hcut;cases kq with
    | zero=>exact absurd HA.out (by simp [meta_Check.j1])
    | succ kj6 =>
     have H:=HA.out;clear HA;simp only [meta_Check.j1] at H;by_cases c16:x3_6 = true
     ·subst c16;have H1:(some 4) = some r:=by rw [if_pos rfl] at H;exact H
      clear H;have H:=H1;clear H1;obtain rfl:=Option.some.inj H;go_wp2;go_ret
      exact ⟨by first|rfl|(simp [errW_none,errW_some] <;> rfl)|(simp [*,errW_none,errW_some] <;> rfl),by repeat (first|(with_reducible first|exact HB.out|apply bwA|apply pwbN|apply bw1|refine below_set ?_ GE101.out)|exact HB.out)⟩
     ·replace c16:=Bool.eq_false_iff.mpr c16;subst c16;have H1:(if (a0_3.size:Int) > 60 then (meta_Check.j2 kj6 true a0_0 a0_1 a0_2 a0_3 a0_4 a0_5 a0_6) else (meta_Check.j2 kj6 (decide ((a0_4.size:Int) > 60)) a0_0 a0_1 a0_2 a0_3 a0_4 a0_5 a0_6)) = some r:=by rw [if_neg (show ¬ (false = true) by decide)] at H;exact H
      clear H;have H:=H1;clear H1;have HC17:=Aside0.mk H;clear H;go_upto_region 5 with (fail)
      go_cut [28] (fun v28 wc=>∃ (kq:Nat) (x28_16:Bool),v28 = .bool x28_16∧Aside0 (meta_Check.j2 kq x28_16 a0_0 a0_1 a0_2 a0_3 a0_4 a0_5 a0_6 = some r)∧Aside0 (kq ≤ kj6)∧Aside0 (wc.heap[gb101]? = some (.cells #[.int .i64 a0_0,.int .i64 a0_1,.int .i64 a0_2,.string a0_3,.string a0_4,.int .i64 a0_5,.int .i64 a0_6] 23 (0,0)))∧Aside0 (Below w.heap.size w wc))
      case first =>
       have H:=HC17.out;clear HC17;by_cases c18:(a0_3.size:Int) > 60
       ·rw [if_pos c18] at H;have c18b0:decide (60 < (a0_3.size:Int)) = true:=decide_eq_true c18;have c18b1:decide (60 < a0_3.size) = true:=decide_eq_true (by omega);clear c18;(first|rw [c18b0]|(simp only [i64_w,i32_w];rw [c18b0])|skip);have H':=Aside0.mk H;clear H;obtain ⟨_,_,_,_,_,_,_,_,_,_,_,_,_,_⟩:=blkA7 BK101.out;go_wp2;go_meet
        case rel=>exact ⟨_,(true),(by first|rfl|(simp;done)|(simp [*];done)),H',⟨by have:=HJ1.out;have:=HJ6.out;first|omega|exact Nat.le_refl _⟩,⟨by (with_reducible repeat (first|refine blk_drewN ?_ _|refine blk_drew ?_|refine blk_alloc ?_ _));exact BK101.out⟩,⟨by repeat (first|(with_reducible first|exact HB.out|apply bwA|apply pwbN|apply bw1|refine below_set ?_ GE101.out)|exact HB.out)⟩⟩
       ·rw [if_neg c18] at H;have c18b0:decide (60 < (a0_3.size:Int)) = false:=decide_eq_false c18;have c18b1:decide (60 < a0_3.size) = false:=decide_eq_false (by omega);clear c18;(first|rw [c18b0]|(simp only [i64_w,i32_w];rw [c18b0])|skip);have H':=Aside0.mk H;clear H;obtain ⟨_,_,_,_,_,_,_,_,_,_,_,_,_,_⟩:=blkA7 BK101.out;go_wp2;go_meet
        case rel=>exact ⟨_,(decide ((a0_4.size:Int) > 60)),(by first|rfl|(simp;done)|(simp [*];done)),H',⟨by have:=HJ1.out;have:=HJ6.out;first|omega|exact Nat.le_refl _⟩,⟨by (with_reducible repeat (first|refine blk_drewN ?_ _|refine blk_drew ?_|refine blk_alloc ?_ _));exact BK101.out⟩,⟨by repeat (first|(with_reducible first|exact HB.out|apply bwA|apply pwbN|apply bw1|refine below_set ?_ GE101.out)|exact HB.out)⟩⟩
      case rest =>
       clear HC17;try clear c16
       obtain ⟨kq,x28_16,rfl,HA,HJ16,BK101,HB⟩:=hcut;cases kq with
       | zero=>exact absurd HA.out (by simp [meta_Check.j2])
       | succ kj16 =>
        have H:=HA.out;clear HA;simp only [meta_Check.j2] at H;by_cases c21:x28_16 = true
        ·subst c21;have H1:(some 1) = some r:=by rw [if_pos rfl] at H;exact H
         clear H;have H:=H1;clear H1;obtain rfl:=Option.some.inj H;go_wp2;go_ret
         exact ⟨by first|rfl|(simp [errW_none,errW_some] <;> rfl)|(simp [*,errW_none,errW_some] <;> rfl),by repeat (first|(with_reducible first|exact HB.out|apply bwA|apply pwbN|apply bw1|refine below_set ?_ GE101.out)|exact HB.out)⟩
        ·replace c21:=Bool.eq_false_iff.mpr c21;subst c21;have H1:(if a0_3.size + a0_4.size ≤ 9223372036854775807 then ((strings_IndexByte.f (a0_3 ++ a0_4) 0).bind fun t102=>(if t102 ≥ 0 then (some 3) else ((stamp_Check.f a0_5 a0_6).bind fun t103=>(some t103)))) else (none)) = some r:=by rw [if_neg (show ¬ (false = true) by decide)] at H;exact H
         clear H;have H:=H1;clear H1;by_cases c22:a0_3.size + a0_4.size ≤ 9223372036854775807
         ·rw [if_pos c22] at H;have c22b0:=eq_true c22;have c22b1:decide (a0_3.size + a0_4.size ≤ 9223372036854775807) = true:=decide_eq_true c22;try have c22b2:(9223372036854775807 < a0_3.size + a0_4.size) = False:=eq_false (Nat.not_lt.2 c22)
          replace H:=Option.bind_eq_some_iff.mp H;obtain ⟨t102,A230,H⟩:=H;replace H:(if t102 ≥ 0 then (some 3) else ((stamp_Check.f a0_5 a0_6).bind fun t103=>(some t103))) = some r:=H;have A23:=Aside0.mk A230;clear A230;by_cases c24:t102 ≥ 0
          ·rw [if_pos c24] at H;have c24b0:decide (0 ≤ t102) = true:=decide_eq_true c24;clear c24;obtain rfl:=Option.some.inj H;obtain ⟨_,_,_,_,_,_,_,_,_,_,_,_,_,_⟩:=blkA7 BK101.out;go_wp2_with (first|((with_reducible refine gate_callee (f:=19) rfl ?_);refine goesL_ (some 45) rfl rfl Tryd.func19 (by kernel_rfl) rfl #[.string (a0_3 ++ a0_4),.int .u8 0] rfl (by (try simp only [List.map_toArray,List.map_cons,List.map_nil]);first|done|rfl|(simp only [List.length_drop,List.length_take];rfl)) ?_;(with_reducible refine (strings_IndexByte.calls (a0_3 ++ a0_4) 0 t102 _ A23.out).mono ?_);rintro e w' ⟨rfl,⟨nd,rfl⟩⟩;refine ⟨_,rfl,?_⟩))
           go_ret
           exact ⟨by first|rfl|(simp [errW_none,errW_some] <;> rfl)|(simp [*,errW_none,errW_some] <;> rfl),by repeat (first|(with_reducible first|exact HB.out|apply bwA|apply pwbN|apply bw1|refine below_set ?_ GE101.out)|exact HB.out)⟩
          ·rw [if_neg c24] at H;have c24b0:decide (0 ≤ t102) = false:=decide_eq_false c24;clear c24;replace H:=Option.bind_eq_some_iff.mp H;obtain ⟨t103,A260,H⟩:=H;replace H:(some t103) = some r:=H;have A26:=Aside0.mk A260;clear A260;obtain rfl:=Option.some.inj H;obtain ⟨_,_,_,_,_,_,_,_,_,_,_,_,_,_⟩:=blkA7 BK101.out;go_wp2_with (first|((with_reducible refine gate_callee (f:=19) rfl ?_);refine goesL_ (some 45) rfl rfl Tryd.func19 (by kernel_rfl) rfl #[.string (a0_3 ++ a0_4),.int .u8 0] rfl (by (try simp only [List.map_toArray,List.map_cons,List.map_nil]);first|done|rfl|(simp only [List.length_drop,List.length_take];rfl)) ?_;(with_reducible refine (strings_IndexByte.calls (a0_3 ++ a0_4) 0 t102 _ A23.out).mono ?_);rintro e w' ⟨rfl,⟨nd,rfl⟩⟩;refine ⟨_,rfl,?_⟩)|((with_reducible refine gate_callee (f:=32) rfl ?_);refine goesL_ (some 51) rfl rfl Tryd.func32 (by kernel_rfl) rfl #[.int .i64 a0_5,.int .i64 a0_6] rfl (by (try simp only [List.map_toArray,List.map_cons,List.map_nil]);first|done|rfl|(simp only [List.length_drop,List.length_take];rfl)) ?_;(with_reducible refine (stamp_Check.calls a0_5 a0_6 t103 _ A26.out).mono ?_);rintro e w' ⟨rfl,⟨nd,rfl⟩⟩;refine ⟨_,rfl,?_⟩))
           go_ret
           exact ⟨by first|rfl|(simp [errW_none,errW_some] <;> rfl)|(simp [*,errW_none,errW_some] <;> rfl),by repeat (first|(with_reducible first|exact HB.out|apply bwA|apply pwbN|apply bw1|refine below_set ?_ GE101.out)|exact HB.out)⟩
         ·rw [if_neg c22] at H;exact absurd H (by simp)
end Go.Proofs.YtenbelecmmpdgaaDoor.All
end
section
namespace Go.Proofs.YtenbelecmmpdgaaDoor.All
open Go.RowKit Go.Proofs.YtenbelecmmpdgaaDoorW.PrintWords Go.Proofs.YtenbelecmmpdgaaDoorW.PrintLast Go.Proofs.YtenbelecmmpdgaaDoorW.PrintMore
open Go.Proofs.YtenbelecmmpdgaaDoorW.Mine
attribute [local go_sem] gtr_string leq_string geq_string
attribute [local go_sem] max2_int min2_int max_two min_two max_three min_three max_four min_four
set_option linter.unusedVariables false
set_option linter.unusedSimpArgs false
mutual
def plan_Right.j0:Nat→Bool→ByteArray→Int→ByteArray→Int→Int→Int→ByteArray→ByteArray→Int→Int→List Int→Option (Int)
 | 0,_,_,_,_,_,_,_,_,_,_,_,_=>none
 | k + 1,x24,x102000,x102001,x102002,x102003,x102004,x102005,x102006,x102007,x102008,x102009,x102010=>if x24 = true then (some 2) else (if x102001 = 1 then (plan_Right.j1 k ((x102002.toList != ([]:List UInt8)) != (decide (x102001 ≥ 3))) x102000 x102001 x102002 x102003 x102004 x102005 x102006 x102007 x102008 x102009 x102010) else (if (x102010.length:Int) > 0 then (plan_Right.j1 k true x102000 x102001 x102002 x102003 x102004 x102005 x102006 x102007 x102008 x102009 x102010) else (plan_Right.j1 k ((x102002.toList != ([]:List UInt8)) != (decide (x102001 ≥ 3))) x102000 x102001 x102002 x102003 x102004 x102005 x102006 x102007 x102008 x102009 x102010)))
def plan_Right.j1:Nat→Bool→ByteArray→Int→ByteArray→Int→Int→Int→ByteArray→ByteArray→Int→Int→List Int→Option (Int)
 | 0,_,_,_,_,_,_,_,_,_,_,_,_=>none
 | k + 1,x42,x102000,x102001,x102002,x102003,x102004,x102005,x102006,x102007,x102008,x102009,x102010=>if x42 = true then (some 3) else (if (x102010.length:Int) > 2000 then (plan_Right.j2 k true x102000 x102001 x102002 x102003 x102004 x102005 x102006 x102007 x102008 x102009 x102010) else (plan_Right.j2 k (decide ((x102002.size:Int) > 400)) x102000 x102001 x102002 x102003 x102004 x102005 x102006 x102007 x102008 x102009 x102010))
def plan_Right.j2:Nat→Bool→ByteArray→Int→ByteArray→Int→Int→Int→ByteArray→ByteArray→Int→Int→List Int→Option (Int)
 | 0,_,_,_,_,_,_,_,_,_,_,_,_=>none
 | k + 1,x52,x102000,x102001,x102002,x102003,x102004,x102005,x102006,x102007,x102008,x102009,x102010=>if x52 = true then (some 1) else (if x102001 = 4 then ((path_Check.f k x102002).bind fun t104=>(some t104)) else ((strings_IndexByte.f x102002 0).bind fun t105=>(if t105 ≥ 0 then (some 3) else (some 0))))
end
def plan_Right.f (k:Nat) (a0_0:ByteArray) (a0_1:Int) (a0_2:ByteArray) (a0_3:Int) (a0_4:Int) (a0_5:Int) (a0_6:ByteArray) (a0_7:ByteArray) (a0_8:Int) (a0_9:Int) (l0_10:List Int):Option (Int):=(path_Check.f k a0_0).bind fun t102=>(if t102 = 0 then ((meta_Check.f k a0_3 a0_4 a0_5 a0_6 a0_7 a0_8 a0_9).bind fun t103=>(if t103 = 0 then (if a0_1 < 1 then (plan_Right.j0 k true a0_0 a0_1 a0_2 a0_3 a0_4 a0_5 a0_6 a0_7 a0_8 a0_9 l0_10) else (plan_Right.j0 k (decide (a0_1 > 4)) a0_0 a0_1 a0_2 a0_3 a0_4 a0_5 a0_6 a0_7 a0_8 a0_9 l0_10)) else (some t103))) else (some t102))
set_option maxHeartbeats 8000000 in
set_option maxRecDepth 100000 in
theorem plan_Right.calls (k:Nat) (a0_0:ByteArray) (a0_1:Int) (a0_2:ByteArray) (a0_3:Int) (a0_4:Int) (a0_5:Int) (a0_6:ByteArray) (a0_7:ByteArray) (a0_8:Int) (a0_9:Int) (A0_10:Option Addr) (c0_10:Nat) (l0_10:List Int) (r:Int) (w:World) (hr0_10:Kd.C (Kd.int .u8) w A0_10 l0_10.length l0_10) (hc0_10:l0_10.length ≤ c0_10) (h:plan_Right.f k a0_0 a0_1 a0_2 a0_3 a0_4 a0_5 a0_6 a0_7 a0_8 a0_9 l0_10 = some r) :
 Calls Tryd.prog 9 #[.agg #[.string a0_0,.int .i64 a0_1,.string a0_2,.int .i64 a0_3,.int .i64 a0_4,.int .i64 a0_5,.string a0_6,.string a0_7,.int .i64 a0_8,.int .i64 a0_9,.slice A0_10 l0_10.length c0_10]] w fun e w'=>e = .returned (.int .i64 r)∧Below w.heap.size w w':=by
 have hu26:=Tryd.underlying26;have hu23:=Tryd.underlying23;have HR0_10:=Aside0.mk hr0_10;have HC0_10:=Aside0.mk hc0_10;clear hr0_10 hc0_10;have HB:=Aside0.mk (Below.refl w.heap.size w);have H:((path_Check.f k a0_0).bind fun t102=>(if t102 = 0 then ((meta_Check.f k a0_3 a0_4 a0_5 a0_6 a0_7 a0_8 a0_9).bind fun t103=>(if t103 = 0 then (if a0_1 < 1 then (plan_Right.j0 k true a0_0 a0_1 a0_2 a0_3 a0_4 a0_5 a0_6 a0_7 a0_8 a0_9 l0_10) else (plan_Right.j0 k (decide (a0_1 > 4)) a0_0 a0_1 a0_2 a0_3 a0_4 a0_5 a0_6 a0_7 a0_8 a0_9 l0_10)) else (some t103))) else (some t102))) = some r:=h;clear h;replace H:=Option.bind_eq_some_iff.mp H;obtain ⟨t102,A20,H⟩:=H;replace H:(if t102 = 0 then ((meta_Check.f k a0_3 a0_4 a0_5 a0_6 a0_7 a0_8 a0_9).bind fun t103=>(if t103 = 0 then (if a0_1 < 1 then (plan_Right.j0 k true a0_0 a0_1 a0_2 a0_3 a0_4 a0_5 a0_6 a0_7 a0_8 a0_9 l0_10) else (plan_Right.j0 k (decide (a0_1 > 4)) a0_0 a0_1 a0_2 a0_3 a0_4 a0_5 a0_6 a0_7 a0_8 a0_9 l0_10)) else (some t103))) else (some t102)) = some r:=H;have A2:=Aside0.mk A20;clear A20;by_cases c3:t102 = 0
 ·rw [if_pos c3] at H;have c3b0:(t102 == 0) = true:=beq_iff_eq.mpr c3;have c3b1:(t102 != 0) = false:=bne_eq_false_iff_eq.mpr c3;clear c3;replace H:=Option.bind_eq_some_iff.mp H;obtain ⟨t103,A40,H⟩:=H;replace H:(if t103 = 0 then (if a0_1 < 1 then (plan_Right.j0 k true a0_0 a0_1 a0_2 a0_3 a0_4 a0_5 a0_6 a0_7 a0_8 a0_9 l0_10) else (plan_Right.j0 k (decide (a0_1 > 4)) a0_0 a0_1 a0_2 a0_3 a0_4 a0_5 a0_6 a0_7 a0_8 a0_9 l0_10)) else (some t103)) = some r:=H;have A4:=Aside0.mk A40;clear A40;by_cases c5:t103 = 0
  ·rw [if_pos c5] at H;have c5b0:(t103 == 0) = true:=beq_iff_eq.mpr c5;have c5b1:(t103 != 0) = false:=bne_eq_false_iff_eq.mpr c5;clear c5;have HC6:=Aside0.mk H;clear H;go_enter Tryd.func9,Tryd.ntmps9;go_upto_region 7 with (first|((with_reducible refine gate_dst (N:=1) rfl ?_);(try (refine gate_guard (by rfl) ?_;dsimp only));refine box_event ?hg (N:=1) ?hd (cs:=#[.string a0_0,.int .i64 a0_1,.string a0_2,.int .i64 a0_3,.int .i64 a0_4,.int .i64 a0_5,.string a0_6,.string a0_7,.int .i64 a0_8,.int .i64 a0_9,.slice A0_10 l0_10.length c0_10]) (t:=26) ?hr ?_;(case hd=>rfl);(case hg=>rfl);(case hr=>first|(go_simp;done)|(go_simp;rfl));intro gb101 hg w7 hbox hb;have n0_:=Aside0.mk (below_step (by repeat (first|(with_reducible first|exact HB.out|apply bwA|apply pwbN|apply bw1)|exact HB.out)) hb);have n1_:=Aside0.mk (hbox);have n2_:=Aside0.mk ((by rw [hg];exact (below_size (by repeat (first|(with_reducible first|exact HB.out|apply bwA|apply pwbN|apply bw1)|exact HB.out))):w.heap.size ≤ gb101));have n3_:=Aside0.mk ((by rw [hg];exact (below_size (by repeat (first|(with_reducible first|exact HB.out|apply bwA|apply pwbN|apply bw1)|exact HB.out))):w.heap.size ≤ gb101));clear HB;have HB:=n0_;have BK101:=n1_;have GW101:=n2_;have GE101:=n3_;clear n0_ n1_ n2_ n3_;clear hb hbox hg;obtain ⟨hcz8_0,hcz8_1,hcz8_2,hcz8_3,hcz8_4,hcz8_5,hcz8_6,hcz8_7,hcz8_8,hcz8_9,hcz8_10,hfz8_0,hfz8_1,hfz8_2,hfz8_3,hfz8_4,hfz8_5,hfz8_6,hfz8_7,hfz8_8,hfz8_9,hfz8_10⟩:=blkA11 BK101.out)|((with_reducible refine gate_callee (f:=17) rfl ?_);refine goesL_ (some 7) rfl rfl Tryd.func17 (by kernel_rfl) rfl #[.string a0_0] rfl (by (try simp only [List.map_toArray,List.map_cons,List.map_nil]);first|done|rfl|(simp only [List.length_drop,List.length_take];rfl)) ?_;(with_reducible refine (path_Check.calls k a0_0 t102 _ A2.out).mono ?_);rintro e w9 ⟨rfl,hb⟩;refine ⟨_,rfl,?_⟩;have n0_:=Aside0.mk (blk_below (g:=gb101) (o := .cells #[.string a0_0,.int .i64 a0_1,.string a0_2,.int .i64 a0_3,.int .i64 a0_4,.int .i64 a0_5,.string a0_6,.string a0_7,.int .i64 a0_8,.int .i64 a0_9,.slice A0_10 l0_10.length c0_10] 26 (0,0)) (by (with_reducible repeat (first|refine blk_drewN ?_ _|refine blk_drew ?_|refine blk_alloc ?_ _));exact BK101.out) hb);have n1_:=Aside0.mk (below_step (by repeat (first|(with_reducible first|exact HB.out|apply bwA|apply pwbN|apply bw1|refine below_set ?_ GE101.out)|exact HB.out)) hb);clear BK101;clear HB;have BK101:=n0_;have HB:=n1_;clear n0_ n1_;(try clear hb);(try clear hb2);(try clear hk);(try clear hi);obtain ⟨hcz10_0,hcz10_1,hcz10_2,hcz10_3,hcz10_4,hcz10_5,hcz10_6,hcz10_7,hcz10_8,hcz10_9,hcz10_10,hfz10_0,hfz10_1,hfz10_2,hfz10_3,hfz10_4,hfz10_5,hfz10_6,hfz10_7,hfz10_8,hfz10_9,hfz10_10⟩:=blkA11 BK101.out)|((with_reducible refine gate_callee (f:=18) rfl ?_);refine goesL_ (some 13) rfl rfl Tryd.func18 (by kernel_rfl) rfl #[.agg #[.int .i64 a0_3,.int .i64 a0_4,.int .i64 a0_5,.string a0_6,.string a0_7,.int .i64 a0_8,.int .i64 a0_9]] rfl (by (try simp only [List.map_toArray,List.map_cons,List.map_nil]);first|done|rfl|(simp only [List.length_drop,List.length_take];rfl)) ?_;(with_reducible refine (meta_Check.calls k a0_3 a0_4 a0_5 a0_6 a0_7 a0_8 a0_9 t103 _ A4.out).mono ?_);rintro e w11 ⟨rfl,hb⟩;refine ⟨_,rfl,?_⟩;have n0_:=Aside0.mk (blk_below (g:=gb101) (o := .cells #[.string a0_0,.int .i64 a0_1,.string a0_2,.int .i64 a0_3,.int .i64 a0_4,.int .i64 a0_5,.string a0_6,.string a0_7,.int .i64 a0_8,.int .i64 a0_9,.slice A0_10 l0_10.length c0_10] 26 (0,0)) (by (with_reducible repeat (first|refine blk_drewN ?_ _|refine blk_drew ?_|refine blk_alloc ?_ _));exact BK101.out) hb);have n1_:=Aside0.mk (below_step (by repeat (first|(with_reducible first|exact HB.out|apply bwA|apply pwbN|apply bw1|refine below_set ?_ GE101.out)|exact HB.out)) hb);clear BK101;clear HB;have BK101:=n0_;have HB:=n1_;clear n0_ n1_;(try clear hb);(try clear hb2);(try clear hk);(try clear hi)))
   (try simp only [Act.put,List.setIfInBounds_toArray,List.set_cons_zero,List.set_cons_succ]);go_cut [24] (fun v24 wc=>∃ (kq:Nat) (x24_5:Bool),v24 = .bool x24_5∧Aside0 (plan_Right.j0 kq x24_5 a0_0 a0_1 a0_2 a0_3 a0_4 a0_5 a0_6 a0_7 a0_8 a0_9 l0_10 = some r)∧Aside0 (kq ≤ k)∧Aside0 (wc.heap[gb101]? = some (.cells #[.string a0_0,.int .i64 a0_1,.string a0_2,.int .i64 a0_3,.int .i64 a0_4,.int .i64 a0_5,.string a0_6,.string a0_7,.int .i64 a0_8,.int .i64 a0_9,(.slice A0_10 l0_10.length c0_10)] 26 (0,0)))∧Aside0 (Below w.heap.size w wc))
   case first =>
    have H:=HC6.out;clear HC6;by_cases c12:a0_1 < 1
    ·rw [if_pos c12] at H;have c12b0:decide (a0_1 < 1) = true:=decide_eq_true c12;clear c12;(first|rw [c12b0]|(simp only [i64_w,i32_w];rw [c12b0])|skip);have H':=Aside0.mk H;clear H;obtain ⟨_,_,_,_,_,_,_,_,_,_,_,_,_,_,_,_,_,_,_,_,_,_⟩:=blkA11 BK101.out;go_wp2;go_meet
     case rel=>exact ⟨_,(true),(by first|rfl|(simp;done)|(simp [*];done)|(simp [bne];done)|(cases a0_2.toList <;> simp [bne];done)),H',⟨by first|omega|exact Nat.le_refl _⟩,⟨by (with_reducible repeat (first|refine blk_drewN ?_ _|refine blk_drew ?_|refine blk_alloc ?_ _));exact BK101.out⟩,⟨by repeat (first|(with_reducible first|exact HB.out|apply bwA|apply pwbN|apply bw1|refine below_set ?_ GE101.out)|exact HB.out)⟩⟩
    ·rw [if_neg c12] at H;have c12b0:decide (a0_1 < 1) = false:=decide_eq_false c12;clear c12;(first|rw [c12b0]|(simp only [i64_w,i32_w];rw [c12b0])|skip);have H':=Aside0.mk H;clear H;obtain ⟨_,_,_,_,_,_,_,_,_,_,_,_,_,_,_,_,_,_,_,_,_,_⟩:=blkA11 BK101.out;go_wp2;go_meet
     case rel=>exact ⟨_,(decide (a0_1 > 4)),(by first|rfl|(simp;done)|(simp [*];done)|(simp [bne];done)|(cases a0_2.toList <;> simp [bne];done)),H',⟨by first|omega|exact Nat.le_refl _⟩,⟨by (with_reducible repeat (first|refine blk_drewN ?_ _|refine blk_drew ?_|refine blk_alloc ?_ _));exact BK101.out⟩,⟨by repeat (first|(with_reducible first|exact HB.out|apply bwA|apply pwbN|apply bw1|refine below_set ?_ GE101.out)|exact HB.out)⟩⟩
   case rest =>
    clear HC6;repeat first|clear c3|clear c3b0|clear c3b1|clear c5|clear c5b0|clear c5b1|clear hcz10_0|clear hcz10_1|clear hcz10_10|clear hcz10_2|clear hcz10_3|clear hcz10_4|clear hcz10_5|clear hcz10_6|clear hcz10_7|clear hcz10_8|clear hcz10_9|clear hcz8_0|clear hcz8_1|clear hcz8_10|clear hcz8_2|clear hcz8_3|clear hcz8_4|clear hcz8_5|clear hcz8_6|clear hcz8_7|clear hcz8_8|clear hcz8_9|clear hfz10_0|clear hfz10_1|clear hfz10_10|clear hfz10_2|clear hfz10_3|clear hfz10_4|clear hfz10_5|clear hfz10_6|clear hfz10_7|clear hfz10_8|clear hfz10_9|clear hfz8_0|clear hfz8_1|clear hfz8_10|clear hfz8_2|clear hfz8_3|clear hfz8_4|clear hfz8_5|clear hfz8_6|clear hfz8_7|clear hfz8_8|clear hfz8_9
    obtain ⟨kq,x24_5,rfl,HA,HJ5,BK101,HB⟩:=hcut;cases kq with
    | zero=>exact absurd HA.out (by simp [plan_Right.j0])
    | succ kj5 =>
     have H:=HA.out;clear HA;simp only [plan_Right.j0] at H;by_cases c15:x24_5 = true
     ·subst c15;have H1:(some 2) = some r:=by rw [if_pos rfl] at H;exact H
      clear H;have H:=H1;clear H1;obtain rfl:=Option.some.inj H;go_wp2;go_ret
      exact ⟨by first|rfl|(simp [errW_none,errW_some] <;> rfl)|(simp [*,errW_none,errW_some] <;> rfl),by repeat (first|(with_reducible first|exact HB.out|apply bwA|apply pwbN|apply bw1|refine below_set ?_ GE101.out)|exact HB.out)⟩
     ·replace c15:=Bool.eq_false_iff.mpr c15;subst c15;have H1:(if a0_1 = 1 then (plan_Right.j1 kj5 ((a0_2.toList != ([]:List UInt8)) != (decide (a0_1 ≥ 3))) a0_0 a0_1 a0_2 a0_3 a0_4 a0_5 a0_6 a0_7 a0_8 a0_9 l0_10) else (if (l0_10.length:Int) > 0 then (plan_Right.j1 kj5 true a0_0 a0_1 a0_2 a0_3 a0_4 a0_5 a0_6 a0_7 a0_8 a0_9 l0_10) else (plan_Right.j1 kj5 ((a0_2.toList != ([]:List UInt8)) != (decide (a0_1 ≥ 3))) a0_0 a0_1 a0_2 a0_3 a0_4 a0_5 a0_6 a0_7 a0_8 a0_9 l0_10))) = some r:=by rw [if_neg (show ¬ (false = true) by decide)] at H;exact H
      clear H;have H:=H1;clear H1;have HC16:=Aside0.mk H;clear H;go_upto_region 9 with (fail)
      go_cut [42] (fun v42 wc=>∃ (kq:Nat) (x42_15:Bool),v42 = .bool x42_15∧Aside0 (plan_Right.j1 kq x42_15 a0_0 a0_1 a0_2 a0_3 a0_4 a0_5 a0_6 a0_7 a0_8 a0_9 l0_10 = some r)∧Aside0 (kq ≤ kj5)∧Aside0 (wc.heap[gb101]? = some (.cells #[.string a0_0,.int .i64 a0_1,.string a0_2,.int .i64 a0_3,.int .i64 a0_4,.int .i64 a0_5,.string a0_6,.string a0_7,.int .i64 a0_8,.int .i64 a0_9,(.slice A0_10 l0_10.length c0_10)] 26 (0,0)))∧Aside0 (Below w.heap.size w wc))
      case first =>
       have H:=HC16.out;clear HC16;by_cases c17:a0_1 = 1
       ·rw [if_pos c17] at H;have c17b0:(a0_1 == 1) = true:=beq_iff_eq.mpr c17;have c17b1:(a0_1 != 1) = false:=bne_eq_false_iff_eq.mpr c17;clear c17;(first|rw [c17b0]|(simp only [i64_w,i32_w];rw [c17b0])|skip);have H':=Aside0.mk H;clear H;obtain ⟨_,_,_,_,_,_,_,_,_,_,_,_,_,_,_,_,_,_,_,_,_,_⟩:=blkA11 BK101.out;go_wp2;go_meet
        case rel=>exact ⟨_,(((a0_2.toList != ([]:List UInt8)) != (decide (a0_1 ≥ 3)))),(by first|rfl|(simp;done)|(simp [*];done)|(simp [bne];done)|(cases a0_2.toList <;> simp [bne];done)),H',⟨by have:=HJ5.out;first|omega|exact Nat.le_refl _⟩,⟨by (with_reducible repeat (first|refine blk_drewN ?_ _|refine blk_drew ?_|refine blk_alloc ?_ _));exact BK101.out⟩,⟨by repeat (first|(with_reducible first|exact HB.out|apply bwA|apply pwbN|apply bw1|refine below_set ?_ GE101.out)|exact HB.out)⟩⟩
       ·rw [if_neg c17] at H;have c17b0:(a0_1 == 1) = false:=beq_eq_false_iff_ne.mpr c17;have c17b1:(a0_1 != 1) = true:=bne_iff_ne.mpr c17;(first|rw [c17b0]|(simp only [i64_w,i32_w];rw [c17b0])|skip);by_cases c19:(l0_10.length:Int) > 0
        ·rw [if_pos c19] at H;have c19b0:decide (0 < (l0_10.length:Int)) = true:=decide_eq_true c19;have c19b1:decide (0 < l0_10.length) = true:=decide_eq_true (by omega);clear c19;have H':=Aside0.mk H;clear H;obtain ⟨_,_,_,_,_,_,_,_,_,_,_,_,_,_,_,_,_,_,_,_,_,_⟩:=blkA11 BK101.out;go_wp2;go_meet
         case rel=>exact ⟨_,(true),(by first|rfl|(simp;done)|(simp [*];done)|(simp [bne];done)|(cases a0_2.toList <;> simp [bne];done)),H',⟨by have:=HJ5.out;first|omega|exact Nat.le_refl _⟩,⟨by (with_reducible repeat (first|refine blk_drewN ?_ _|refine blk_drew ?_|refine blk_alloc ?_ _));exact BK101.out⟩,⟨by repeat (first|(with_reducible first|exact HB.out|apply bwA|apply pwbN|apply bw1|refine below_set ?_ GE101.out)|exact HB.out)⟩⟩
        ·rw [if_neg c19] at H;have c19b0:decide (0 < (l0_10.length:Int)) = false:=decide_eq_false c19;have c19b1:decide (0 < l0_10.length) = false:=decide_eq_false (by omega);clear c19;have H':=Aside0.mk H;clear H;obtain ⟨_,_,_,_,_,_,_,_,_,_,_,_,_,_,_,_,_,_,_,_,_,_⟩:=blkA11 BK101.out;go_wp2;go_meet
         case rel=>exact ⟨_,(((a0_2.toList != ([]:List UInt8)) != (decide (a0_1 ≥ 3)))),(by first|rfl|(simp;done)|(simp [*];done)|(simp [bne];done)|(cases a0_2.toList <;> simp [bne];done)),H',⟨by have:=HJ5.out;first|omega|exact Nat.le_refl _⟩,⟨by (with_reducible repeat (first|refine blk_drewN ?_ _|refine blk_drew ?_|refine blk_alloc ?_ _));exact BK101.out⟩,⟨by repeat (first|(with_reducible first|exact HB.out|apply bwA|apply pwbN|apply bw1|refine below_set ?_ GE101.out)|exact HB.out)⟩⟩
      case rest =>
       clear HC16;repeat first|clear c3|clear c3b0|clear c3b1|clear c5|clear c5b0|clear c5b1|clear c15|clear hcz10_0|clear hcz10_1|clear hcz10_10|clear hcz10_2|clear hcz10_3|clear hcz10_4|clear hcz10_5|clear hcz10_6|clear hcz10_7|clear hcz10_8|clear hcz10_9|clear hcz8_0|clear hcz8_1|clear hcz8_10|clear hcz8_2|clear hcz8_3|clear hcz8_4|clear hcz8_5|clear hcz8_6|clear hcz8_7|clear hcz8_8|clear hcz8_9|clear hfz10_0|clear hfz10_1|clear hfz10_10|clear hfz10_2|clear hfz10_3|clear hfz10_4|clear hfz10_5|clear hfz10_6|clear hfz10_7|clear hfz10_8|clear hfz10_9|clear hfz8_0|clear hfz8_1|clear hfz8_10|clear hfz8_2|clear hfz8_3|clear hfz8_4|clear hfz8_5|clear hfz8_6|clear hfz8_7|clear hfz8_8|clear hfz8_9
       obtain ⟨kq,x42_15,rfl,HA,HJ15,BK101,HB⟩:=hcut;cases kq with
       | zero=>exact absurd HA.out (by simp [plan_Right.j1])
       | succ kj15 =>
        have H:=HA.out;clear HA;simp only [plan_Right.j1] at H;by_cases c22:x42_15 = true
        ·subst c22;have H1:(some 3) = some r:=by rw [if_pos rfl] at H;exact H
         clear H;have H:=H1;clear H1;obtain rfl:=Option.some.inj H;go_wp2;go_ret
         exact ⟨by first|rfl|(simp [errW_none,errW_some] <;> rfl)|(simp [*,errW_none,errW_some] <;> rfl),by repeat (first|(with_reducible first|exact HB.out|apply bwA|apply pwbN|apply bw1|refine below_set ?_ GE101.out)|exact HB.out)⟩
        ·replace c22:=Bool.eq_false_iff.mpr c22;subst c22;have H1:(if (l0_10.length:Int) > 2000 then (plan_Right.j2 kj15 true a0_0 a0_1 a0_2 a0_3 a0_4 a0_5 a0_6 a0_7 a0_8 a0_9 l0_10) else (plan_Right.j2 kj15 (decide ((a0_2.size:Int) > 400)) a0_0 a0_1 a0_2 a0_3 a0_4 a0_5 a0_6 a0_7 a0_8 a0_9 l0_10)) = some r:=by rw [if_neg (show ¬ (false = true) by decide)] at H;exact H
         clear H;have H:=H1;clear H1;have HC23:=Aside0.mk H;clear H;go_upto_region 11 with (fail)
         go_cut [52] (fun v52 wc=>∃ (kq:Nat) (x52_22:Bool),v52 = .bool x52_22∧Aside0 (plan_Right.j2 kq x52_22 a0_0 a0_1 a0_2 a0_3 a0_4 a0_5 a0_6 a0_7 a0_8 a0_9 l0_10 = some r)∧Aside0 (kq ≤ kj15)∧Aside0 (wc.heap[gb101]? = some (.cells #[.string a0_0,.int .i64 a0_1,.string a0_2,.int .i64 a0_3,.int .i64 a0_4,.int .i64 a0_5,.string a0_6,.string a0_7,.int .i64 a0_8,.int .i64 a0_9,(.slice A0_10 l0_10.length c0_10)] 26 (0,0)))∧Aside0 (Below w.heap.size w wc))
         case first =>
          have H:=HC23.out;clear HC23;by_cases c24:(l0_10.length:Int) > 2000
          ·rw [if_pos c24] at H;have c24b0:decide (2000 < (l0_10.length:Int)) = true:=decide_eq_true c24;have c24b1:decide (2000 < l0_10.length) = true:=decide_eq_true (by omega);clear c24;(first|rw [c24b0]|(simp only [i64_w,i32_w];rw [c24b0])|skip);have H':=Aside0.mk H;clear H;obtain ⟨_,_,_,_,_,_,_,_,_,_,_,_,_,_,_,_,_,_,_,_,_,_⟩:=blkA11 BK101.out;go_wp2;go_meet
           case rel=>exact ⟨_,(true),(by first|rfl|(simp;done)|(simp [*];done)|(simp [bne];done)|(cases a0_2.toList <;> simp [bne];done)),H',⟨by have:=HJ5.out;have:=HJ15.out;first|omega|exact Nat.le_refl _⟩,⟨by (with_reducible repeat (first|refine blk_drewN ?_ _|refine blk_drew ?_|refine blk_alloc ?_ _));exact BK101.out⟩,⟨by repeat (first|(with_reducible first|exact HB.out|apply bwA|apply pwbN|apply bw1|refine below_set ?_ GE101.out)|exact HB.out)⟩⟩
          ·rw [if_neg c24] at H;have c24b0:decide (2000 < (l0_10.length:Int)) = false:=decide_eq_false c24;have c24b1:decide (2000 < l0_10.length) = false:=decide_eq_false (by omega);clear c24;(first|rw [c24b0]|(simp only [i64_w,i32_w];rw [c24b0])|skip);have H':=Aside0.mk H;clear H;obtain ⟨_,_,_,_,_,_,_,_,_,_,_,_,_,_,_,_,_,_,_,_,_,_⟩:=blkA11 BK101.out;go_wp2;go_meet
           case rel=>exact ⟨_,(decide ((a0_2.size:Int) > 400)),(by first|rfl|(simp;done)|(simp [*];done)|(simp [bne];done)|(cases a0_2.toList <;> simp [bne];done)),H',⟨by have:=HJ5.out;have:=HJ15.out;first|omega|exact Nat.le_refl _⟩,⟨by (with_reducible repeat (first|refine blk_drewN ?_ _|refine blk_drew ?_|refine blk_alloc ?_ _));exact BK101.out⟩,⟨by repeat (first|(with_reducible first|exact HB.out|apply bwA|apply pwbN|apply bw1|refine below_set ?_ GE101.out)|exact HB.out)⟩⟩
         case rest =>
          clear HC23;repeat first|clear c3|clear c3b0|clear c3b1|clear c5|clear c5b0|clear c5b1|clear c15|clear c22|clear hcz10_0|clear hcz10_1|clear hcz10_10|clear hcz10_2|clear hcz10_3|clear hcz10_4|clear hcz10_5|clear hcz10_6|clear hcz10_7|clear hcz10_8|clear hcz10_9|clear hcz8_0|clear hcz8_1|clear hcz8_10|clear hcz8_2|clear hcz8_3|clear hcz8_4|clear hcz8_5|clear hcz8_6|clear hcz8_7|clear hcz8_8|clear hcz8_9|clear hfz10_0|clear hfz10_1|clear hfz10_10|clear hfz10_2|clear hfz10_3|clear hfz10_4|clear hfz10_5|clear hfz10_6|clear hfz10_7|clear hfz10_8|clear hfz10_9|clear hfz8_0|clear hfz8_1|clear hfz8_10|clear hfz8_2|clear hfz8_3|clear hfz8_4|clear hfz8_5|clear hfz8_6|clear hfz8_7|clear hfz8_8|clear hfz8_9
          obtain ⟨kq,x52_22,rfl,HA,HJ22,BK101,HB⟩:=hcut;cases kq with
          | zero=>exact absurd HA.out (by simp [plan_Right.j2])
          | succ kj22 =>
           have H:=HA.out;clear HA;simp only [plan_Right.j2] at H;by_cases c27:x52_22 = true
           ·subst c27;have H1:(some 1) = some r:=by rw [if_pos rfl] at H;exact H
            clear H;have H:=H1;clear H1;obtain rfl:=Option.some.inj H;go_wp2;go_ret
            exact ⟨by first|rfl|(simp [errW_none,errW_some] <;> rfl)|(simp [*,errW_none,errW_some] <;> rfl),by repeat (first|(with_reducible first|exact HB.out|apply bwA|apply pwbN|apply bw1|refine below_set ?_ GE101.out)|exact HB.out)⟩
           ·replace c27:=Bool.eq_false_iff.mpr c27;subst c27;have H1:(if a0_1 = 4 then ((path_Check.f kj22 a0_2).bind fun t104=>(some t104)) else ((strings_IndexByte.f a0_2 0).bind fun t105=>(if t105 ≥ 0 then (some 3) else (some 0)))) = some r:=by rw [if_neg (show ¬ (false = true) by decide)] at H;exact H
            clear H;have H:=H1;clear H1;by_cases c28:a0_1 = 4
            ·rw [if_pos c28] at H;have c28b0:(a0_1 == 4) = true:=beq_iff_eq.mpr c28;have c28b1:(a0_1 != 4) = false:=bne_eq_false_iff_eq.mpr c28;clear c28;replace H:=Option.bind_eq_some_iff.mp H;obtain ⟨t104,A290,H⟩:=H;replace H:(some t104) = some r:=H;have A29:=Aside0.mk A290;clear A290;obtain rfl:=Option.some.inj H;obtain ⟨_,_,_,_,_,_,_,_,_,_,_,_,_,_,_,_,_,_,_,_,_,_⟩:=blkA11 BK101.out;go_wp2_with (first|((with_reducible refine gate_callee (f:=17) rfl ?_);refine goesL_ (some 58) rfl rfl Tryd.func17 (by kernel_rfl) rfl #[.string a0_2] rfl (by (try simp only [List.map_toArray,List.map_cons,List.map_nil]);first|done|rfl|(simp only [List.length_drop,List.length_take];rfl)) ?_;(with_reducible refine (path_Check.calls kj22 a0_2 t104 _ A29.out).mono ?_);rintro e w31 ⟨rfl,hb⟩;refine ⟨_,rfl,?_⟩;have n0_:=Aside0.mk (blk_below (g:=gb101) (o := .cells #[.string a0_0,.int .i64 a0_1,.string a0_2,.int .i64 a0_3,.int .i64 a0_4,.int .i64 a0_5,.string a0_6,.string a0_7,.int .i64 a0_8,.int .i64 a0_9,.slice A0_10 l0_10.length c0_10] 26 (0,0)) (by (with_reducible repeat (first|refine blk_drewN ?_ _|refine blk_drew ?_|refine blk_alloc ?_ _));exact BK101.out) hb);have n1_:=Aside0.mk (below_step (by repeat (first|(with_reducible first|exact HB.out|apply bwA|apply pwbN|apply bw1|refine below_set ?_ GE101.out)|exact HB.out)) hb);clear BK101;clear HB;have BK101:=n0_;have HB:=n1_;clear n0_ n1_;(try clear hb);(try clear hb2);(try clear hk);(try clear hi)))
             go_ret
             exact ⟨by first|rfl|(simp [errW_none,errW_some] <;> rfl)|(simp [*,errW_none,errW_some] <;> rfl),by repeat (first|(with_reducible first|exact HB.out|apply bwA|apply pwbN|apply bw1|refine below_set ?_ GE101.out)|exact HB.out)⟩
            ·rw [if_neg c28] at H;have c28b0:(a0_1 == 4) = false:=beq_eq_false_iff_ne.mpr c28;have c28b1:(a0_1 != 4) = true:=bne_iff_ne.mpr c28;replace H:=Option.bind_eq_some_iff.mp H;obtain ⟨t105,A320,H⟩:=H;replace H:(if t105 ≥ 0 then (some 3) else (some 0)) = some r:=H;have A32:=Aside0.mk A320;clear A320;by_cases c33:t105 ≥ 0
             ·rw [if_pos c33] at H;have c33b0:decide (0 ≤ t105) = true:=decide_eq_true c33;clear c33;obtain rfl:=Option.some.inj H;obtain ⟨_,_,_,_,_,_,_,_,_,_,_,_,_,_,_,_,_,_,_,_,_,_⟩:=blkA11 BK101.out;go_wp2_with (first|((with_reducible refine gate_callee (f:=19) rfl ?_);refine goesL_ (some 61) rfl rfl Tryd.func19 (by kernel_rfl) rfl #[.string a0_2,.int .u8 0] rfl (by (try simp only [List.map_toArray,List.map_cons,List.map_nil]);first|done|rfl|(simp only [List.length_drop,List.length_take];rfl)) ?_;(with_reducible refine (strings_IndexByte.calls a0_2 0 t105 _ A32.out).mono ?_);rintro e w' ⟨rfl,⟨nd,rfl⟩⟩;refine ⟨_,rfl,?_⟩))
              go_ret
              exact ⟨by first|rfl|(simp [errW_none,errW_some] <;> rfl)|(simp [*,errW_none,errW_some] <;> rfl),by repeat (first|(with_reducible first|exact HB.out|apply bwA|apply pwbN|apply bw1|refine below_set ?_ GE101.out)|exact HB.out)⟩
             ·rw [if_neg c33] at H;have c33b0:decide (0 ≤ t105) = false:=decide_eq_false c33;clear c33;obtain rfl:=Option.some.inj H;obtain ⟨_,_,_,_,_,_,_,_,_,_,_,_,_,_,_,_,_,_,_,_,_,_⟩:=blkA11 BK101.out;go_wp2_with (first|((with_reducible refine gate_callee (f:=19) rfl ?_);refine goesL_ (some 61) rfl rfl Tryd.func19 (by kernel_rfl) rfl #[.string a0_2,.int .u8 0] rfl (by (try simp only [List.map_toArray,List.map_cons,List.map_nil]);first|done|rfl|(simp only [List.length_drop,List.length_take];rfl)) ?_;(with_reducible refine (strings_IndexByte.calls a0_2 0 t105 _ A32.out).mono ?_);rintro e w' ⟨rfl,⟨nd,rfl⟩⟩;refine ⟨_,rfl,?_⟩))
              go_ret
              exact ⟨by first|rfl|(simp [errW_none,errW_some] <;> rfl)|(simp [*,errW_none,errW_some] <;> rfl),by repeat (first|(with_reducible first|exact HB.out|apply bwA|apply pwbN|apply bw1|refine below_set ?_ GE101.out)|exact HB.out)⟩
  ·rw [if_neg c5] at H;have c5b0:(t103 == 0) = false:=beq_eq_false_iff_ne.mpr c5;have c5b1:(t103 != 0) = true:=bne_iff_ne.mpr c5;obtain rfl:=Option.some.inj H;go_enter Tryd.func9,Tryd.ntmps9;go_wp2_with (first|((with_reducible refine gate_dst (N:=1) rfl ?_);(try (refine gate_guard (by rfl) ?_;dsimp only));refine box_event ?hg (N:=1) ?hd (cs:=#[.string a0_0,.int .i64 a0_1,.string a0_2,.int .i64 a0_3,.int .i64 a0_4,.int .i64 a0_5,.string a0_6,.string a0_7,.int .i64 a0_8,.int .i64 a0_9,.slice A0_10 l0_10.length c0_10]) (t:=26) ?hr ?_;(case hd=>rfl);(case hg=>rfl);(case hr=>first|(go_simp;done)|(go_simp;rfl));intro gb101 hg w36 hbox hb;have n0_:=Aside0.mk (below_step (by repeat (first|(with_reducible first|exact HB.out|apply bwA|apply pwbN|apply bw1)|exact HB.out)) hb);have n1_:=Aside0.mk (hbox);have n2_:=Aside0.mk ((by rw [hg];exact (below_size (by repeat (first|(with_reducible first|exact HB.out|apply bwA|apply pwbN|apply bw1)|exact HB.out))):w.heap.size ≤ gb101));have n3_:=Aside0.mk ((by rw [hg];exact (below_size (by repeat (first|(with_reducible first|exact HB.out|apply bwA|apply pwbN|apply bw1)|exact HB.out))):w.heap.size ≤ gb101));clear HB;have HB:=n0_;have BK101:=n1_;have GW101:=n2_;have GE101:=n3_;clear n0_ n1_ n2_ n3_;clear hb hbox hg;obtain ⟨_,_,_,_,_,_,_,_,_,_,_,_,_,_,_,_,_,_,_,_,_,_⟩:=blkA11 BK101.out)|((with_reducible refine gate_callee (f:=17) rfl ?_);refine goesL_ (some 7) rfl rfl Tryd.func17 (by kernel_rfl) rfl #[.string a0_0] rfl (by (try simp only [List.map_toArray,List.map_cons,List.map_nil]);first|done|rfl|(simp only [List.length_drop,List.length_take];rfl)) ?_;(with_reducible refine (path_Check.calls k a0_0 t102 _ A2.out).mono ?_);rintro e w38 ⟨rfl,hb⟩;refine ⟨_,rfl,?_⟩;have n0_:=Aside0.mk (blk_below (g:=gb101) (o := .cells #[.string a0_0,.int .i64 a0_1,.string a0_2,.int .i64 a0_3,.int .i64 a0_4,.int .i64 a0_5,.string a0_6,.string a0_7,.int .i64 a0_8,.int .i64 a0_9,.slice A0_10 l0_10.length c0_10] 26 (0,0)) (by (with_reducible repeat (first|refine blk_drewN ?_ _|refine blk_drew ?_|refine blk_alloc ?_ _));exact BK101.out) hb);have n1_:=Aside0.mk (below_step (by repeat (first|(with_reducible first|exact HB.out|apply bwA|apply pwbN|apply bw1|refine below_set ?_ GE101.out)|exact HB.out)) hb);clear BK101;clear HB;have BK101:=n0_;have HB:=n1_;clear n0_ n1_;(try clear hb);(try clear hb2);(try clear hk);(try clear hi);obtain ⟨_,_,_,_,_,_,_,_,_,_,_,_,_,_,_,_,_,_,_,_,_,_⟩:=blkA11 BK101.out)|((with_reducible refine gate_callee (f:=18) rfl ?_);refine goesL_ (some 13) rfl rfl Tryd.func18 (by kernel_rfl) rfl #[.agg #[.int .i64 a0_3,.int .i64 a0_4,.int .i64 a0_5,.string a0_6,.string a0_7,.int .i64 a0_8,.int .i64 a0_9]] rfl (by (try simp only [List.map_toArray,List.map_cons,List.map_nil]);first|done|rfl|(simp only [List.length_drop,List.length_take];rfl)) ?_;(with_reducible refine (meta_Check.calls k a0_3 a0_4 a0_5 a0_6 a0_7 a0_8 a0_9 t103 _ A4.out).mono ?_);rintro e w40 ⟨rfl,hb⟩;refine ⟨_,rfl,?_⟩;have n0_:=Aside0.mk (blk_below (g:=gb101) (o := .cells #[.string a0_0,.int .i64 a0_1,.string a0_2,.int .i64 a0_3,.int .i64 a0_4,.int .i64 a0_5,.string a0_6,.string a0_7,.int .i64 a0_8,.int .i64 a0_9,.slice A0_10 l0_10.length c0_10] 26 (0,0)) (by (with_reducible repeat (first|refine blk_drewN ?_ _|refine blk_drew ?_|refine blk_alloc ?_ _));exact BK101.out) hb);have n1_:=Aside0.mk (below_step (by repeat (first|(with_reducible first|exact HB.out|apply bwA|apply pwbN|apply bw1|refine below_set ?_ GE101.out)|exact HB.out)) hb);clear BK101;clear HB;have BK101:=n0_;have HB:=n1_;clear n0_ n1_;(try clear hb);(try clear hb2);(try clear hk);(try clear hi)))
   go_ret
   exact ⟨by first|rfl|(simp [errW_none,errW_some] <;> rfl)|(simp [*,errW_none,errW_some] <;> rfl),by repeat (first|(with_reducible first|exact HB.out|apply bwA|apply pwbN|apply bw1|refine below_set ?_ GE101.out)|exact HB.out)⟩
 ·rw [if_neg c3] at H;have c3b0:(t102 == 0) = false:=beq_eq_false_iff_ne.mpr c3;have c3b1:(t102 != 0) = true:=bne_iff_ne.mpr c3;obtain rfl:=Option.some.inj H;go_enter Tryd.func9,Tryd.ntmps9;go_wp2_with (first|((with_reducible refine gate_dst (N:=1) rfl ?_);(try (refine gate_guard (by rfl) ?_;dsimp only));refine box_event ?hg (N:=1) ?hd (cs:=#[.string a0_0,.int .i64 a0_1,.string a0_2,.int .i64 a0_3,.int .i64 a0_4,.int .i64 a0_5,.string a0_6,.string a0_7,.int .i64 a0_8,.int .i64 a0_9,.slice A0_10 l0_10.length c0_10]) (t:=26) ?hr ?_;(case hd=>rfl);(case hg=>rfl);(case hr=>first|(go_simp;done)|(go_simp;rfl));intro gb101 hg w41 hbox hb;have n0_:=Aside0.mk (below_step (by repeat (first|(with_reducible first|exact HB.out|apply bwA|apply pwbN|apply bw1)|exact HB.out)) hb);have n1_:=Aside0.mk (hbox);have n2_:=Aside0.mk ((by rw [hg];exact (below_size (by repeat (first|(with_reducible first|exact HB.out|apply bwA|apply pwbN|apply bw1)|exact HB.out))):w.heap.size ≤ gb101));have n3_:=Aside0.mk ((by rw [hg];exact (below_size (by repeat (first|(with_reducible first|exact HB.out|apply bwA|apply pwbN|apply bw1)|exact HB.out))):w.heap.size ≤ gb101));clear HB;have HB:=n0_;have BK101:=n1_;have GW101:=n2_;have GE101:=n3_;clear n0_ n1_ n2_ n3_;clear hb hbox hg;obtain ⟨_,_,_,_,_,_,_,_,_,_,_,_,_,_,_,_,_,_,_,_,_,_⟩:=blkA11 BK101.out)|((with_reducible refine gate_callee (f:=17) rfl ?_);refine goesL_ (some 7) rfl rfl Tryd.func17 (by kernel_rfl) rfl #[.string a0_0] rfl (by (try simp only [List.map_toArray,List.map_cons,List.map_nil]);first|done|rfl|(simp only [List.length_drop,List.length_take];rfl)) ?_;(with_reducible refine (path_Check.calls k a0_0 t102 _ A2.out).mono ?_);rintro e w43 ⟨rfl,hb⟩;refine ⟨_,rfl,?_⟩;have n0_:=Aside0.mk (blk_below (g:=gb101) (o := .cells #[.string a0_0,.int .i64 a0_1,.string a0_2,.int .i64 a0_3,.int .i64 a0_4,.int .i64 a0_5,.string a0_6,.string a0_7,.int .i64 a0_8,.int .i64 a0_9,.slice A0_10 l0_10.length c0_10] 26 (0,0)) (by (with_reducible repeat (first|refine blk_drewN ?_ _|refine blk_drew ?_|refine blk_alloc ?_ _));exact BK101.out) hb);have n1_:=Aside0.mk (below_step (by repeat (first|(with_reducible first|exact HB.out|apply bwA|apply pwbN|apply bw1|refine below_set ?_ GE101.out)|exact HB.out)) hb);clear BK101;clear HB;have BK101:=n0_;have HB:=n1_;clear n0_ n1_;(try clear hb);(try clear hb2);(try clear hk);(try clear hi)))
  go_ret
  exact ⟨by first|rfl|(simp [errW_none,errW_some] <;> rfl)|(simp [*,errW_none,errW_some] <;> rfl),by repeat (first|(with_reducible first|exact HB.out|apply bwA|apply pwbN|apply bw1|refine below_set ?_ GE101.out)|exact HB.out)⟩
end Go.Proofs.YtenbelecmmpdgaaDoor.All
end
section
namespace Go.Proofs.YtenbelecmmpdgaaDoorW.Blks
open Go Go.RowKit Go.Proofs.YtenbelecmmpdgaaDoorW.PrintWords Go.Proofs.YtenbelecmmpdgaaDoorW.MapOwn
structure Blks (w W:World) (L:List (Nat × Obj)):Prop where
  below:Below w.heap.size w W
  own:∀ p ∈ L,w.heap.size ≤ p.1∧W.heap[p.1]? = some p.2
  apart:(L.map Prod.fst).Nodup
section
variable {w W W':World} {L:List (Nat × Obj)} {g:Nat} {o o':Obj} {j:Nat}
theorem grownBy_setCell (W:World) (g i:Nat) (v:Value):W.grownBy (W.setCell ⟨g,i,none⟩ v) (some g) :=
  ⟨rfl,rfl,rfl,by simp [World.setCell],fun k hk hne=>Below.heap_setCell W ⟨g,i,none⟩ v k (fun e=>hne (by rw [e]))⟩
end
end Go.Proofs.YtenbelecmmpdgaaDoorW.Blks
end
