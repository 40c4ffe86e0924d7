/- Texts of this claim, joined. -/
import Derived.Test.YtmefnfhghfemgaaDoorProg
import Derived.Below
import Derived.Deep.Draws
import Derived.Deep.AppendLies
import Derived.Maps.AppendAt
import Derived.OwnWalk
import Derived.Laws.BytesArg
import Derived.Laws.MakeOwn
import Derived.Laws.OwnMore
import Derived.Deep.OwnRows
import Derived.Tactics
import Derived.Lib.ConvBytes
import Derived.Laws.Slices
import Derived.WalkKit
import Derived.KernelRfl
import Derived.RowKit3
import Derived.Deep.LoopGhost
import Derived.Deep.QuietTactic
import Derived.BigQuiet
import Derived.WideLaws
import Derived.Deep.DeepCutAuto
import Derived.Deep.CutBlock
import Derived.Deep.RegionHeld3
import Derived.Laws.Rows
import Derived.Lib.AppendStr
import Derived.ArgAppend
import Derived.Laws.IdiomCopy
import Derived.OrdersHeld
import Derived.Laws.BitsLemmas
import Derived.RowKit
import Derived.Test.YtmefnfhghfemgaaDoorV
import Derived.Shelf.Strings.Count
import Derived.Shelf.Strings.OnBuilder
import Derived.Shelf.Strings.Search3
import Derived.Shelf.Strings.SlTrimAscii
import Derived.Shelf.Strings.Split
import Derived.Laws.Runes
import Derived.Lib.Split
import Derived.Lib.SplitLaws
import Derived.Lib.IndexLaws
import Derived.Lib.SlTrimSet
set_option linter.unusedVariables false
set_option linter.unusedSimpArgs false
set_option linter.unusedSectionVars false
section
namespace Go.Proofs.YtmefnfhghfemgaaDoor.Q
open Go.RowKit Go.Proofs.YtmefnfhghfemgaaDoorW.PrintWords Go.Proofs.YtmefnfhghfemgaaDoorW.PrintLast Go.Proofs.YtmefnfhghfemgaaDoorW.PrintMore
attribute [local go_sem] max2_int min2_int max_two min_two max_three min_three max_four min_four
set_option linter.unusedVariables false
set_option linter.unusedSimpArgs false
def errW : Option Int → Value
 | none => .nilIface
 | some c => .iface 0 (.int .i64 c)
theorem errW_none : errW none = .nilIface := rfl
theorem errW_some (c : Int) : errW (some c) = .iface 0 (.int .i64 c) := rfl
theorem info3 : (Tryd.prog.info? 3).map (fun i => (i.zero, i.size, i.bytes)) = some (some (.int .i64 0), 1, 8) := by kernel_rfl
theorem info5 : (Tryd.prog.info? 5).map (fun i => (i.zero, i.size, i.bytes)) = some (some (.int .u8 0), 1, 1) := by kernel_rfl
theorem info31 : (Tryd.prog.info? 31).map (fun i => (i.zero, i.size, i.bytes)) = some (some (.slice none 0 0), 1, 24) := by kernel_rfl
-- the values' own types
structure S46 where
 f0 : Int
 f1 : Int
 f2 : (List Int)
def z46 : S46 := ⟨(0 : Int), (0 : Int), ([] : List Int)⟩
structure S128 where
 f0 : Int
 f1 : Int
def z128 : S128 := ⟨(0 : Int), (0 : Int)⟩
def k128 : Kd S128 := Kd.iso (Kd.pair (Kd.int .i64) (Kd.int .i64)) (fun x : S128 => (x.f0, x.f1))
theorem k128_open {w : World} {x : S128} {cs : List Value} (h : k128.K w x cs) : cs = [.int .i64 x.f0, .int .i64 x.f1] := by
 obtain ⟨_, _, rfl, rfl, rfl⟩ := h
 exact rfl
theorem k128_mkM (w : World) (base : Nat) (ok : Nat → Prop) (x : S128)  : k128.M w base ok x [.int .i64 x.f0, .int .i64 x.f1] := ⟨[.int .i64 x.f0], [.int .i64 x.f1], rfl, rfl, rfl⟩
def rd_T128 (xs : List S128) (i : Int) : S128 := xs.getD i.toNat z128
theorem at_T128 {w : World} {A : Option Addr} {n : Nat} {xs : List S128} (h : Kd.C k128 w A n xs) (i : Int) (h0 : 0 ≤ i) (h1 : i < n) : ∃ ad , A = some ad ∧ w.cell? (ad.add (i.toNat * 2)) = some (.int .i64 (rd_T128 xs i).f0) ∧ w.cell? ⟨(ad.add (i.toNat * 2)).block, (ad.add (i.toNat * 2)).off + 1, none⟩ = some (.int .i64 (rd_T128 xs i).f1) := by
 obtain ⟨ad, c, e, _, hK, hc0⟩ := Kd.C_get h z128 i h0 h1
 have hc : ∀ j u, c[j]? = some u → w.cell? (ad.add (i.toNat * 2 + j)) = some u := hc0
 obtain rfl := k128_open hK
 exact ⟨ad, e, hc 0 _ rfl, by rw [← add_field _ _ 1 (by omega)]; exact hc 1 _ rfl⟩
end Go.Proofs.YtmefnfhghfemgaaDoor.Q
end
section
namespace Go.Proofs.YtmefnfhghfemgaaDoor.Q
open Go.RowKit Go.Proofs.YtmefnfhghfemgaaDoorW.PrintWords Go.Proofs.YtmefnfhghfemgaaDoorW.PrintLast Go.Proofs.YtmefnfhghfemgaaDoorW.PrintMore
def GoodW (w : World) : Prop := ∃ m, w.cell? ⟨0, 0, none⟩ = some (.int .i64 m)
theorem GoodW.below {w w1 : World} (h : GoodW w) (hb : Below w.heap.size w w1) : GoodW w1 := by
 obtain ⟨m, hm⟩ := h
 exact ⟨m, pw_cell_below hb hm⟩
theorem GoodW.max {w : World} (h : GoodW w) : ∃ m, w.cell? ⟨0, 0, none⟩ = some (.int .i64 m) := h
end Go.Proofs.YtmefnfhghfemgaaDoor.Q
end
section
namespace Go.Proofs
open Go.Shelf
def Tryd.lays146_ren : Go.Shelf.Ren := ⟨fun | 146 => 55 | 221 => 89 | 268 => 120 | 138 => 97 | 143 => 121 | 195 => 128 | 197 => 131 | 218 => 129 | 219 => 151 | 260 => 155 | 217 => 166 | 225 => 167 | 224 => 168 | 267 => 169 | 266 => 172 | 314 => 173 | n => n, fun | 9 => 9 | 31 => 64 | 3 => 3 | 4 => 4 | 0 => 0 | 105 => 146 | 21 => 21 | 5 => 5 | 46 => 111 | 119 => 176 | 139 => 179 | 138 => 178 | 146 => 139 | 51 => 138 | n => n, fun | 1 => 0 | 3 => 1 | 4 => 2 | n => n⟩
theorem Tryd.lays146 : Go.Proofs.Lays.n146 Tryd.prog Tryd.lays146_ren := {
 mixed := by kernel_rfl
 f138 := Tryd.func97.trans (congrArg some (by kernel_rfl))
 f143 := Tryd.func121.trans (congrArg some (by kernel_rfl))
 f146 := Tryd.func55.trans (congrArg some (by kernel_rfl))
 f195 := Tryd.func128.trans (congrArg some (by kernel_rfl))
 f197 := Tryd.func131.trans (congrArg some (by kernel_rfl))
 f217 := Tryd.func166.trans (congrArg some (by kernel_rfl))
 f218 := Tryd.func129.trans (congrArg some (by kernel_rfl))
 f219 := Tryd.func151.trans (congrArg some (by kernel_rfl))
 f221 := Tryd.func89.trans (congrArg some (by kernel_rfl))
 f224 := Tryd.func168.trans (congrArg some (by kernel_rfl))
 f225 := Tryd.func167.trans (congrArg some (by kernel_rfl))
 f260 := Tryd.func155.trans (congrArg some (by kernel_rfl))
 f266 := Tryd.func172.trans (congrArg some (by kernel_rfl))
 f267 := Tryd.func169.trans (congrArg some (by kernel_rfl))
 f268 := Tryd.func120.trans (congrArg some (by kernel_rfl))
 f314 := Tryd.func173.trans (congrArg some (by kernel_rfl))
 t0 := Tryd.underlying0
 a0 := Tryd.isAgg0
 z0 := Tryd.sizeOf0
 v0 := Tryd.zeroValue0
 t3 := Tryd.underlying3
 a3 := Tryd.isAgg3
 z3 := Tryd.sizeOf3
 v3 := Tryd.zeroValue3
 t4 := Tryd.underlying4
 a4 := Tryd.isAgg4
 z4 := Tryd.sizeOf4
 v4 := Tryd.zeroValue4
 t5 := Tryd.underlying5
 a5 := Tryd.isAgg5
 z5 := Tryd.sizeOf5
 v5 := Tryd.zeroValue5
 t9 := Tryd.underlying9
 a9 := Tryd.isAgg9
 z9 := Tryd.sizeOf9
 v9 := Tryd.zeroValue9
 t21 := Tryd.underlying21
 a21 := Tryd.isAgg21
 z21 := Tryd.sizeOf21
 v21 := Tryd.zeroValue21
 t31 := Tryd.underlying64
 a31 := Tryd.isAgg64
 z31 := Tryd.sizeOf64
 v31 := Tryd.zeroValue64
 t46 := Tryd.underlying111
 a46 := Tryd.isAgg111
 z46 := Tryd.sizeOf111
 v46 := Tryd.zeroValue111
 t51 := Tryd.underlying138
 a51 := Tryd.isAgg138
 z51 := Tryd.sizeOf138
 v51 := Tryd.zeroValue138
 t105 := Tryd.underlying146
 a105 := Tryd.isAgg146
 z105 := Tryd.sizeOf146
 v105 := Tryd.zeroValue146
 t119 := Tryd.underlying176
 a119 := Tryd.isAgg176
 z119 := Tryd.sizeOf176
 t138 := Tryd.underlying178
 a138 := Tryd.isAgg178
 z138 := Tryd.sizeOf178
 v138 := Tryd.zeroValue178
 t139 := Tryd.underlying179
 a139 := Tryd.isAgg179
 z139 := Tryd.sizeOf179
 v139 := Tryd.zeroValue179
 t146 := Tryd.underlying139
 a146 := Tryd.isAgg139
 z146 := Tryd.sizeOf139
 v146 := Tryd.zeroValue139
 g1 := by kernel_rfl
 g3 := by kernel_rfl
 g4 := by kernel_rfl }
open Go.RowKit Go.Lib in
theorem Tryd.strings_Split (s sep : ByteArray) (m : Int) (w : World) (hs : s.size < 4294967281) (hm : w.cell? ⟨0, 0, none⟩ = some (.int .i64 m)) (h1 : 1 ≤ sep.size) :
  Calls Tryd.prog 55 #[.string s, .string sep] w fun e w' =>
   e = .returned (.slice (some ⟨w.heap.size, 0, none⟩) (Lib.countB s sep + 1) (Lib.countB s sep + 1)) ∧ w' = w.alloc (.cells ((Lib.splitB sep 0 (Lib.countB s sep) s).map Value.string).toArray 9) := Any.strings_Split Tryd.lays146 (by kernel_rfl) s sep m w hs hm h1
def Tryd.lays156_ren : Go.Shelf.Ren := ⟨fun | 156 => 56 | 165 => 90 | 166 => 91 | 169 => 92 | 240 => 122 | 241 => 123 | 276 => 152 | 277 => 153 | n => n, fun | 31 => 64 | 9 => 9 | 3 => 3 | 4 => 4 | 0 => 0 | 20 => 20 | 72 => 105 | 76 => 109 | 70 => 103 | 37 => 38 | 75 => 108 | 127 => 137 | 164 => 165 | 5 => 5 | 80 => 95 | n => n, fun | n => n⟩
theorem Tryd.lays156 : Go.Proofs.Lays.n156 Tryd.prog Tryd.lays156_ren := {
 mixed := by kernel_rfl
 f156 := Tryd.func56.trans (congrArg some (by kernel_rfl))
 f165 := Tryd.func90.trans (congrArg some (by kernel_rfl))
 f166 := Tryd.func91.trans (congrArg some (by kernel_rfl))
 f169 := Tryd.func92.trans (congrArg some (by kernel_rfl))
 f240 := Tryd.func122.trans (congrArg some (by kernel_rfl))
 f241 := Tryd.func123.trans (congrArg some (by kernel_rfl))
 f276 := Tryd.func152.trans (congrArg some (by kernel_rfl))
 f277 := Tryd.func153.trans (congrArg some (by kernel_rfl))
 t0 := Tryd.underlying0
 a0 := Tryd.isAgg0
 z0 := Tryd.sizeOf0
 v0 := Tryd.zeroValue0
 t3 := Tryd.underlying3
 a3 := Tryd.isAgg3
 z3 := Tryd.sizeOf3
 v3 := Tryd.zeroValue3
 t4 := Tryd.underlying4
 a4 := Tryd.isAgg4
 z4 := Tryd.sizeOf4
 v4 := Tryd.zeroValue4
 t9 := Tryd.underlying9
 a9 := Tryd.isAgg9
 z9 := Tryd.sizeOf9
 v9 := Tryd.zeroValue9
 t20 := Tryd.underlying20
 a20 := Tryd.isAgg20
 z20 := Tryd.sizeOf20
 v20 := Tryd.zeroValue20
 t31 := Tryd.underlying64
 a31 := Tryd.isAgg64
 z31 := Tryd.sizeOf64
 v31 := Tryd.zeroValue64
 t37 := Tryd.underlying38
 a37 := Tryd.isAgg38
 z37 := Tryd.sizeOf38
 v37 := Tryd.zeroValue38
 t70 := Tryd.underlying103
 a70 := Tryd.isAgg103
 z70 := Tryd.sizeOf103
 v70 := Tryd.zeroValue103
 t72 := Tryd.underlying105
 a72 := Tryd.isAgg105
 z72 := Tryd.sizeOf105
 v72 := Tryd.zeroValue105
 t75 := Tryd.underlying108
 a75 := Tryd.isAgg108
 z75 := Tryd.sizeOf108
 v75 := Tryd.zeroValue108
 t76 := Tryd.underlying109
 a76 := Tryd.isAgg109
 z76 := Tryd.sizeOf109
 v76 := Tryd.zeroValue109
 t127 := Tryd.underlying137
 a127 := Tryd.isAgg137
 z127 := Tryd.sizeOf137
 v127 := Tryd.zeroValue137
 t164 := Tryd.underlying165
 a164 := Tryd.isAgg165
 z164 := Tryd.sizeOf165
 v164 := Tryd.zeroValue165 }
theorem Tryd.Builder_Extra_156 : Builder.Extra Tryd.prog Tryd.lays156_ren := {
 sizeBuilder := by kernel_rfl
 liesBuilder := by kernel_rfl
 t5 := Tryd.underlying5
 a5 := Tryd.isAgg5
 z5 := Tryd.sizeOf5
 v5 := Tryd.zeroValue5
 infoByte := by kernel_rfl
 cellsByte := by kernel_rfl
 sizeByte := by kernel_rfl
 neB5 := by decide }
open Go.RowKit in
theorem Tryd.strings_Join (bk o c : Nat) (xs : List ByteArray) (sep : ByteArray) (w : World) (hcells : ∀ (j : Nat) x, xs[j]? = some x → w.cell? ⟨bk, o + j, none⟩ = some (.string x)) (hbk : bk < w.heap.size) (hN : xs.length ≤ 140737488355328) (hcap : xs.length ≤ c) (hlen : (Lib.join (xs.map (·.data.toList)) sep.data.toList).length ≤ 140737488355328) :
  Calls Tryd.prog 56 #[.slice (some ⟨bk, o, none⟩) xs.length c, .string sep] w fun e w' => e = .returned (.string ⟨(Lib.join (xs.map (·.data.toList)) sep.data.toList).toArray⟩) ∧ Below w.heap.size w w' := Any.strings_Join Tryd.lays156 Tryd.Builder_Extra_156 bk o c xs sep w hcells hbk hN hcap hlen
open Go.RowKit in
theorem Tryd.strings_Join_none (a : Option Addr) (c : Nat) (sep : ByteArray) (w : World) :
  Calls Tryd.prog 56 #[.slice a 0 c, .string sep] w fun e w' => e = .returned (.string ⟨#[]⟩) ∧ w' = w := Any.strings_Join_none Tryd.lays156 Tryd.Builder_Extra_156 a c sep w
def Tryd.lays138_ren : Go.Shelf.Ren := ⟨fun | 138 => 97 | 195 => 128 | 218 => 129 | 143 => 121 | 219 => 151 | 217 => 166 | 225 => 167 | 224 => 168 | 267 => 169 | 266 => 172 | 314 => 173 | n => n, fun | 9 => 9 | 3 => 3 | 4 => 4 | 5 => 5 | 0 => 0 | 46 => 111 | 146 => 139 | 51 => 138 | n => n, fun | 1 => 0 | n => n⟩
theorem Tryd.lays138 : Go.Proofs.Lays.n138 Tryd.prog Tryd.lays138_ren := {
 mixed := by kernel_rfl
 f138 := Tryd.func97.trans (congrArg some (by kernel_rfl))
 f143 := Tryd.func121.trans (congrArg some (by kernel_rfl))
 f195 := Tryd.func128.trans (congrArg some (by kernel_rfl))
 f217 := Tryd.func166.trans (congrArg some (by kernel_rfl))
 f218 := Tryd.func129.trans (congrArg some (by kernel_rfl))
 f219 := Tryd.func151.trans (congrArg some (by kernel_rfl))
 f224 := Tryd.func168.trans (congrArg some (by kernel_rfl))
 f225 := Tryd.func167.trans (congrArg some (by kernel_rfl))
 f266 := Tryd.func172.trans (congrArg some (by kernel_rfl))
 f267 := Tryd.func169.trans (congrArg some (by kernel_rfl))
 f314 := Tryd.func173.trans (congrArg some (by kernel_rfl))
 t0 := Tryd.underlying0
 a0 := Tryd.isAgg0
 z0 := Tryd.sizeOf0
 v0 := Tryd.zeroValue0
 t3 := Tryd.underlying3
 a3 := Tryd.isAgg3
 z3 := Tryd.sizeOf3
 v3 := Tryd.zeroValue3
 t4 := Tryd.underlying4
 a4 := Tryd.isAgg4
 z4 := Tryd.sizeOf4
 v4 := Tryd.zeroValue4
 t5 := Tryd.underlying5
 a5 := Tryd.isAgg5
 z5 := Tryd.sizeOf5
 v5 := Tryd.zeroValue5
 t9 := Tryd.underlying9
 a9 := Tryd.isAgg9
 z9 := Tryd.sizeOf9
 v9 := Tryd.zeroValue9
 t46 := Tryd.underlying111
 a46 := Tryd.isAgg111
 z46 := Tryd.sizeOf111
 v46 := Tryd.zeroValue111
 t51 := Tryd.underlying138
 a51 := Tryd.isAgg138
 z51 := Tryd.sizeOf138
 v51 := Tryd.zeroValue138
 t146 := Tryd.underlying139
 a146 := Tryd.isAgg139
 z146 := Tryd.sizeOf139
 v146 := Tryd.zeroValue139
 g1 := by kernel_rfl }
open Go.RowKit Go.Lib in
theorem Tryd.strings_Count_one (s : ByteArray) (c : UInt8) (w : World) :
  Calls Tryd.prog 97 #[.string s, .string ⟨#[c]⟩] w fun e w' => e = .returned (.int .i64 (Lib.countByte s.data.toList c)) ∧ w' = w := Any.strings_Count_one Tryd.lays138 s c w
def Tryd.lays137_ren : Go.Shelf.Ren := ⟨fun | 137 => 158 | 217 => 166 | 266 => 172 | n => n, fun | 9 => 9 | 5 => 5 | 3 => 3 | n => n, fun | n => n⟩
theorem Tryd.lays137 : Go.Proofs.Lays.n137 Tryd.prog Tryd.lays137_ren := {
 mixed := by kernel_rfl
 f137 := Tryd.func158.trans (congrArg some (by kernel_rfl))
 f217 := Tryd.func166.trans (congrArg some (by kernel_rfl))
 f266 := Tryd.func172.trans (congrArg some (by kernel_rfl))
 t3 := Tryd.underlying3
 a3 := Tryd.isAgg3
 z3 := Tryd.sizeOf3
 v3 := Tryd.zeroValue3
 t5 := Tryd.underlying5
 a5 := Tryd.isAgg5
 z5 := Tryd.sizeOf5
 v5 := Tryd.zeroValue5
 t9 := Tryd.underlying9
 a9 := Tryd.isAgg9
 z9 := Tryd.sizeOf9
 v9 := Tryd.zeroValue9 }
open Go.RowKit in
theorem Tryd.strings_IndexByte (s : ByteArray) (c : Int) (w : World) :
  Calls Tryd.prog 158 #[.string s, .int .u8 c] w fun e w' => e = .returned (.int .i64 (Lib.indexByte s.data.toList c.toNat.toUInt8)) ∧ w' = w := Any.strings_IndexByte Tryd.lays137 s c w
def Tryd.lays160_ren : Go.Shelf.Ren := ⟨fun | 160 => 64 | 232 => 99 | 231 => 98 | 227 => 100 | 234 => 102 | 233 => 101 | 236 => 104 | 235 => 103 | 228 => 130 | 271 => 133 | 151 => 132 | 197 => 131 | 120 => 157 | 152 => 156 | 260 => 155 | 137 => 158 | 119 => 170 | 224 => 168 | 225 => 167 | 217 => 166 | 266 => 172 | n => n, fun | 9 => 9 | 4 => 4 | 3 => 3 | 5 => 5 | 117 => 121 | 116 => 120 | 0 => 0 | 124 => 124 | 21 => 21 | 105 => 146 | 46 => 111 | 119 => 176 | 139 => 179 | 138 => 178 | n => n, fun | 3 => 1 | 4 => 2 | n => n⟩
theorem Tryd.lays160 : Go.Proofs.Lays.n160 Tryd.prog Tryd.lays160_ren := {
 mixed := by kernel_rfl
 f119 := Tryd.func170.trans (congrArg some (by kernel_rfl))
 f120 := Tryd.func157.trans (congrArg some (by kernel_rfl))
 f137 := Tryd.func158.trans (congrArg some (by kernel_rfl))
 f151 := Tryd.func132.trans (congrArg some (by kernel_rfl))
 f152 := Tryd.func156.trans (congrArg some (by kernel_rfl))
 f160 := Tryd.func64.trans (congrArg some (by kernel_rfl))
 f197 := Tryd.func131.trans (congrArg some (by kernel_rfl))
 f217 := Tryd.func166.trans (congrArg some (by kernel_rfl))
 f224 := Tryd.func168.trans (congrArg some (by kernel_rfl))
 f225 := Tryd.func167.trans (congrArg some (by kernel_rfl))
 f227 := Tryd.func100.trans (congrArg some (by kernel_rfl))
 f228 := Tryd.func130.trans (congrArg some (by kernel_rfl))
 f231 := Tryd.func98.trans (congrArg some (by kernel_rfl))
 f232 := Tryd.func99.trans (congrArg some (by kernel_rfl))
 f233 := Tryd.func101.trans (congrArg some (by kernel_rfl))
 f234 := Tryd.func102.trans (congrArg some (by kernel_rfl))
 f235 := Tryd.func103.trans (congrArg some (by kernel_rfl))
 f236 := Tryd.func104.trans (congrArg some (by kernel_rfl))
 f260 := Tryd.func155.trans (congrArg some (by kernel_rfl))
 f266 := Tryd.func172.trans (congrArg some (by kernel_rfl))
 f271 := Tryd.func133.trans (congrArg some (by kernel_rfl))
 t0 := Tryd.underlying0
 a0 := Tryd.isAgg0
 z0 := Tryd.sizeOf0
 v0 := Tryd.zeroValue0
 t3 := Tryd.underlying3
 a3 := Tryd.isAgg3
 z3 := Tryd.sizeOf3
 v3 := Tryd.zeroValue3
 t4 := Tryd.underlying4
 a4 := Tryd.isAgg4
 z4 := Tryd.sizeOf4
 v4 := Tryd.zeroValue4
 t5 := Tryd.underlying5
 a5 := Tryd.isAgg5
 z5 := Tryd.sizeOf5
 v5 := Tryd.zeroValue5
 t9 := Tryd.underlying9
 a9 := Tryd.isAgg9
 z9 := Tryd.sizeOf9
 v9 := Tryd.zeroValue9
 t21 := Tryd.underlying21
 a21 := Tryd.isAgg21
 z21 := Tryd.sizeOf21
 v21 := Tryd.zeroValue21
 t46 := Tryd.underlying111
 a46 := Tryd.isAgg111
 z46 := Tryd.sizeOf111
 v46 := Tryd.zeroValue111
 t105 := Tryd.underlying146
 a105 := Tryd.isAgg146
 z105 := Tryd.sizeOf146
 v105 := Tryd.zeroValue146
 t116 := Tryd.underlying120
 a116 := Tryd.isAgg120
 z116 := Tryd.sizeOf120
 t117 := Tryd.underlying121
 a117 := Tryd.isAgg121
 z117 := Tryd.sizeOf121
 v117 := Tryd.zeroValue121
 t119 := Tryd.underlying176
 a119 := Tryd.isAgg176
 z119 := Tryd.sizeOf176
 t124 := Tryd.underlying124
 a124 := Tryd.isAgg124
 z124 := Tryd.sizeOf124
 v124 := Tryd.zeroValue124
 t138 := Tryd.underlying178
 a138 := Tryd.isAgg178
 z138 := Tryd.sizeOf178
 v138 := Tryd.zeroValue178
 t139 := Tryd.underlying179
 a139 := Tryd.isAgg179
 z139 := Tryd.sizeOf179
 v139 := Tryd.zeroValue179
 g3 := by kernel_rfl
 g4 := by kernel_rfl }
end Go.Proofs
end
section
namespace Go.Proofs.YtmefnfhghfemgaaDoor.Q
open Go.RowKit Go.Shelf Go.Proofs.YtmefnfhghfemgaaDoorW.PrintWords Go.Proofs.YtmefnfhghfemgaaDoorW.PrintLast Go.Proofs.YtmefnfhghfemgaaDoorW.PrintMore
theorem R_alloc_strs (w : World) (ps : List ByteArray) (hm : ps.length ≤ maxLen) : Kd.R Kd.string 9 (w.alloc (.cells (ps.map Value.string).toArray 9)) w.heap.size (fun _ => True) (.slice (some ⟨w.heap.size, 0, none⟩) ps.length ps.length) ps := by
 refine Kd.R_of_own (enc := Value.string) ?_ (fun _ _ => trivial)
 have h := World.ownsRow_lit (base := w.heap.size) (e := 9) (size := 1) w (ps.map Value.string).toArray ps.length (Nat.le_refl _) hm (by simp)
 exact h
def strings_Split.f (a0 a1 : ByteArray) : Option (List ByteArray) := if a0.size < 4294967281 ∧ 1 ≤ a1.size then some (Lib.splitB a1 0 (Lib.countB a0 a1) a0) else none
theorem strings_Split.calls (a0 a1 : ByteArray) (r : List ByteArray) (w : World) (hG : GoodW w) (h : strings_Split.f a0 a1 = some r) :
  Calls Tryd.prog 55 #[.string a0, .string a1] w fun e w' => ∃ v0_ : Value, e = .returned (v0_) ∧ Kd.R Kd.string 9 w' w.heap.size (fun _ => True) v0_ r ∧ Below w.heap.size w w' := by
 unfold strings_Split.f at h
 split at h
 ·rename_i hc
  obtain rfl := Option.some.inj h
  obtain ⟨m, hm⟩ := hG.max
  have hle := Lib.countB_le a1 hc.2 a0.size a0 (Nat.le_refl _)
  have hlen := Lib.splitB_all a1 hc.2 0 _ a0 rfl
  refine (Tryd.strings_Split a0 a1 m w hc.1 hm hc.2).mono fun e w' ⟨he, hw⟩ => ⟨_, he, ?_, ?_⟩
  ·subst hw
   rw [← hlen]
   exact R_alloc_strs w _ (by unfold maxLen; omega)
  ·subst hw
   exact below_alloc (Below.refl _ _) _
 ·cases h
def strings_Join.f (l0 : List ByteArray) (a1 : ByteArray) : Option ByteArray :=
 if l0.length ≤ 140737488355328 ∧ (Lib.join (l0.map (·.data.toList)) a1.data.toList).length ≤ 140737488355328 then some ⟨(Lib.join (l0.map (·.data.toList)) a1.data.toList).toArray⟩ else none
theorem strings_Join.calls (A0 : Option Addr) (c0 : Nat) (l0 : List ByteArray) (a1 : ByteArray) (r : ByteArray) (w : World) (hr0 : Kd.C Kd.string w A0 l0.length l0) (hc0 : l0.length ≤ c0) (h : strings_Join.f l0 a1 = some r) :
  Calls Tryd.prog 56 #[.slice A0 l0.length c0, .string a1] w fun e w' => e = .returned (.string r) ∧ Below w.heap.size w w' := by
 unfold strings_Join.f at h
 split at h
 ·rename_i hc
  obtain rfl := Option.some.inj h
  rcases Nat.eq_zero_or_pos l0.length with h0 | h0
  ·obtain rfl := List.eq_nil_of_length_eq_zero h0
   exact (Tryd.strings_Join_none A0 c0 a1 w).mono fun e w' ⟨he, hw⟩ => ⟨he, hw ▸ Below.refl _ _⟩
  ·obtain ⟨ad, rfl, hcell⟩ := hr0.2.2 h0
   have hcells : ∀ (j : Nat) x, l0[j]? = some x → w.cell? (ad.add j) = some (.string x) := fun j x hj => by
    obtain ⟨c, hl, hR, hg⟩ := hcell j x hj
    have hR' : c = [.string x] := hR
    subst hR'
    have h2 := hg 0 (.string x) rfl
    have hsz : (Kd.string).sz = 1 := rfl
    rw [hsz, Nat.mul_one, Nat.add_zero] at h2
    exact h2
   have h00 := hcells 0 _ (List.getElem?_eq_getElem h0)
   have hsp : ad.spot = none := by
    rcases hs : ad.spot with _ | z
    ·rfl
    ·rw [Addr.add, if_pos rfl] at h00
     unfold World.cell? at h00
     split at h00
     ·rw [hs] at h00
      simp at h00
     ·cases h00
   obtain ⟨bk, o, sp⟩ := ad
   obtain rfl : sp = none := hsp
   have hb : bk < w.heap.size := by
    have := World.block_lt_of_cell? _ _ h00
    rw [Addr.add, if_pos rfl] at this
    exact this
   exact Tryd.strings_Join bk o c0 l0 a1 w (fun j x hj => by
    have h2 := hcells j x hj
    rw [Addr.add] at h2
    split at h2
    ·rename_i hz
     subst hz
     exact h2
    ·exact h2) hb hc.1 hc0 hc.2
 ·cases h
def asciiB (l : List UInt8) : Bool := l.all (fun b => decide (b.toNat < 128))
def strings_Trim.f (a0 a1 : ByteArray) : Option ByteArray :=
 if a0.size ≤ 9223372036854775807 ∧ a1.size < 4294967281 ∧ asciiB a1.data.toList = true then some ⟨(Lib.trimS a0.data.toList a1.data.toList).toArray⟩ else none
theorem strings_Trim.calls (a0 a1 : ByteArray) (r : ByteArray) (w : World) (h : strings_Trim.f a0 a1 = some r) :
  Calls Tryd.prog 64 #[.string a0, .string a1] w fun e w' => e = .returned (.string r) ∧ Below w.heap.size w w' := by
 unfold strings_Trim.f at h
 split at h
 ·rename_i hc
  obtain rfl := Option.some.inj h
  exact Any.strings_Trim_laid Tryd.lays160 (by kernel_rfl) a0 a1 w hc.1 hc.2.1 (ascii_of_all hc.2.2)
 ·cases h
def strings_Count.f (a0 a1 : ByteArray) : Option Int := if a1.size = 1 then some (Lib.countByte a0.data.toList (a1.data.toList.getD 0 0) : Int) else none
theorem strings_Count.calls (a0 a1 : ByteArray) (r : Int) (w : World) (h : strings_Count.f a0 a1 = some r) :
  Calls Tryd.prog 97 #[.string a0, .string a1] w fun e w' => e = .returned (.int .i64 r) ∧ Drawn0 w w' := by
 unfold strings_Count.f at h
 split at h
 ·rename_i hc
  obtain rfl := Option.some.inj h
  obtain ⟨c, rfl⟩ := Lib.one_byte a1 hc
  exact (Tryd.strings_Count_one a0 c w).mono fun e w' ⟨he, hw⟩ => ⟨he, hw ▸ Drawn0.refl _⟩
 ·cases h
end Go.Proofs.YtmefnfhghfemgaaDoor.Q
end
section
namespace Go.Proofs.YtmefnfhghfemgaaDoor.Q
open Go.RowKit Go.Proofs.YtmefnfhghfemgaaDoorW.PrintWords Go.Proofs.YtmefnfhghfemgaaDoorW.PrintLast Go.Proofs.YtmefnfhghfemgaaDoorW.PrintMore
def runeS.f (x : Int) : Option ByteArray := some (Utf8.encode x)
section
variable {P : Program} {ops : Array Oper} {Q : Exit → Act → World → Prop} {rest : List Oper} {o : Oper} {a : Act} {W : World}
theorem bytes_read_of {W' : World} {g : Nat} {e : TypeId} (s : ByteArray) (hs : s.size ≤ 140737488355328) (cs : Array Value) (fr : Nat × Nat)
  (hb : W'.heap[g]? = some (.cells ((s.data.map fun b => Value.int .u8 b.toNat) ++ cs) e fr)) : Kd.C (Kd.int .u8) W' (some ⟨g, 0, none⟩) (bytesOf s).length (bytesOf s) := by
 have hl : (bytesOf s).length = s.size := bytesOf_length s
 refine ⟨rfl, by omega, fun _ => ⟨_, rfl, fun j p hj => ⟨[.int .u8 p], rfl, rfl, fun i u hu => ?_⟩⟩⟩
 have hi : i = 0 := by
  rcases i with _ | i
  ·rfl
  ·simp at hu
 subst hi
 have hu' : u = .int .u8 p := by simpa using hu.symm
 subst hu'
 have hjl : j < s.size := by have := (List.getElem?_eq_some_iff.1 hj).1; omega
 have hp : p = ((s.data[j]'(by simpa using hjl)).toNat : Int) := by
  have h2 : (bytesOf s)[j]? = some ((s.data[j]'(by simpa using hjl)).toNat : Int) := by
   unfold bytesOf
   rw [List.getElem?_map, List.getElem?_eq_getElem (by simpa using hjl)]
   simp
  rw [h2] at hj
  exact (Option.some.inj hj).symm
 subst hp
 have hsz : (Kd.int IntKind.u8).sz = 1 := rfl
 rw [hsz, Nat.mul_one, Nat.add_zero, add_plain]
 have hjd : j < s.data.size := by simpa using hjl
 simp [World.cell?, hb, Array.getElem?_append]
 rw [if_pos hjl, Array.getElem?_eq_getElem hjd]
 rfl
theorem V_bytes {W1 : World} {g B base cap : Nat} {e : TypeId} (s : ByteArray) (hs : s.size ≤ 140737488355328) (cs : Array Value) (fr : Nat × Nat)
  (hb : W1.heap[g]? = some (.cells ((s.data.map fun b => Value.int .u8 b.toNat) ++ cs) e fr)) (hg : B ≤ g) (hcap : s.size ≤ cap) :
  Kd.V (Kd.int .u8) e W1 base (fun k_ => B ≤ k_) (.slice (some ⟨g, 0, none⟩) s.size cap) (bytesOf s) := by
 have hl : (bytesOf s).length = s.size := bytesOf_length s
 refine ⟨some ⟨g, 0, none⟩, cap, by rw [hl], by rw [hl]; exact hcap, fun W' hW' => ?_⟩
 have hlt : g < W1.heap.size := (Array.getElem?_eq_some_iff.1 hb).1
 exact bytes_read_of s hs cs fr ((hW' g hg hlt).trans hb)
def litB.f (l : List Int) : Option (List Int) := some l
def litWorld (W : World) (e : TypeId) (cs : Array Value) : World := (W.alloc (.cells cs e)).freeze ⟨W.heap.size, cs.size, none⟩ 1
theorem litWorld_old (W : World) (e : TypeId) (cs : Array Value) (j : Nat) (hj : j < W.heap.size) : (litWorld W e cs).heap[j]? = W.heap[j]? := by
 have h1 : W.heap.size ≠ j := by omega
 simp [litWorld, World.freeze, World.alloc, -World.alloc_eq, Array.getElem?_modify, Array.getElem?_push, h1, Ne.symm h1]
theorem litWorld_new (W : World) (e : TypeId) (cs : Array Value) : (litWorld W e cs).heap[W.heap.size]? = some (.cells cs e (cs.size, cs.size + 1)) := by
 simp [litWorld, World.freeze, World.alloc, -World.alloc_eq]
 rw [Array.getElem_modify_self]
 simp
theorem litWorld_size (W : World) (e : TypeId) (cs : Array Value) : (litWorld W e cs).heap.size = W.heap.size + 1 := by
 simp [litWorld, World.freeze, World.alloc, -World.alloc_eq]
theorem lit_read {W' : World} {g : Nat} {e : TypeId} {fr : Nat × Nat} (l : List Int) (hl : l.length ≤ 1000) (hb : W'.heap[g]? = some (.cells (l.map (Value.int .u8)).toArray e fr)) : Kd.C (Kd.int .u8) W' (some ⟨g, 0, none⟩) l.length l := by
 refine ⟨rfl, by omega, fun _ => ⟨_, rfl, fun j p hj => ⟨[.int .u8 p], rfl, rfl, fun i u hu => ?_⟩⟩⟩
 have hi : i = 0 := by
  rcases i with _ | i
  ·rfl
  ·simp at hu
 subst hi
 obtain rfl : u = .int .u8 p := by simpa using hu.symm
 have hsz : (Kd.int IntKind.u8).sz = 1 := rfl
 rw [hsz, Nat.mul_one, Nat.add_zero, add_plain]
 simp [World.cell?, hb, hj]
theorem litB.step {o1 o2 : Oper} (hg1 : o1.guard = none) (hg2 : o2.guard = none) {N1 N2 : Tmp} (_hd1 : o1.dst = some N1) (_hd2 : o2.dst = some N2) (T e : TypeId) (x : Operand) (ho2 : o2.op = .convert T T x)
  (hT : P.underlying T = some (.slice e)) (he : P.underlying e = some (.int .u8)) (l : List Int) (hl : l.length ≤ 1000)
  (hrun : (execOp a.eval o1).run P W = .ok (.value (.slice (some ⟨W.heap.size, 0, none⟩) l.length l.length)) (W.alloc (.cells (l.map (Value.int .u8)).toArray e)))
  (hx : (a.put o1.dst (.slice (some ⟨W.heap.size, 0, none⟩) l.length l.length)).eval x = .slice (some ⟨W.heap.size, 0, none⟩) l.length l.length) {r : List Int} (hr : litB.f l = some r)
  (h : ∀ v1 w1, Kd.V (Kd.int .u8) e w1 W.heap.size (fun k_ => W.heap.size ≤ k_) v1 r → Below W.heap.size W w1 → wpList P ops Q rest ((a.put o1.dst v1).put o2.dst v1) w1) : wpList P ops Q (o1 :: o2 :: rest) a W := by
 obtain rfl := Option.some.inj hr
 refine Kd.event_run hg1 hrun (Kd.event_run hg2 (w1 := litWorld W e (l.map (Value.int .u8)).toArray) (v := .slice (some ⟨W.heap.size, 0, none⟩) l.length l.length) ?_ ?_)
 ·have hsh : (W.alloc (.cells (l.map (Value.int .u8)).toArray e)).shape? W.heap.size = some (e, (l.map (Value.int .u8)).toArray.size) := by
   simp [World.shape?, World.alloc, -World.alloc_eq]
  simp [execOp, ho2, hx, convert, run_underlying hT, run_underlying he, markStringish, Question.forced, hsh, Result.andThen, litWorld]
 ·refine h _ _ ⟨some ⟨W.heap.size, 0, none⟩, l.length, rfl, Nat.le_refl _, fun W' hW' => ?_⟩ ⟨rfl, rfl, rfl, by rw [litWorld_size]; omega, fun i hi => litWorld_old _ _ _ i hi⟩
  have hk := hW' W.heap.size (Nat.le_refl _) (by rw [litWorld_size]; omega)
  rw [litWorld_new] at hk
  exact lit_read l hl hk
theorem runeS.step (hgd : o.guard = none) {N : Tmp} (_hd : o.dst = some N) (src dst : TypeId) (k : IntKind) (x : Operand) (ho : o.op = .convert src dst x)
  (hsrc : (P.underlying src).isSome = true) (hdst : P.underlying dst = some .string) {n : Int} {r : ByteArray} (hx : a.eval x = .int k n) (hr : runeS.f n = some r)
  (h : wpList P ops Q rest (a.put o.dst (.string r)) W) : wpList P ops Q (o :: rest) a W := by
 obtain rfl := Option.some.inj hr
 refine Kd.event_run hgd (w1 := W) (v := .string (Utf8.encode n)) ?_ h
 simp [execOp, ho, hx, run_convert_int_string W src dst k n hsrc hdst]
end
end Go.Proofs.YtmefnfhghfemgaaDoor.Q
end
section
namespace Go.Proofs.YtmefnfhghfemgaaDoor.Q
def rows (c : UInt8) : List UInt8 → List (List UInt8)
 | [] => [[]]
 | b :: l => if b = c then [] :: rows c l else match rows c l with
  | [] => [[b]]
  | r :: rs => (b :: r) :: rs
theorem rows_ne (c : UInt8) : ∀ l, rows c l ≠ []
 | [] => by simp [rows]
 | b :: l => by
  unfold rows
  split
  ·simp
  ·split <;> simp
theorem rows_free (c : UInt8) : ∀ l : List UInt8, c ∉ l → rows c l = [l]
 | [], _ => rfl
 | b :: l, h => by
  have h1 : b ≠ c := fun e => h (by simp [e])
  have h2 : c ∉ l := fun e => h (by simp [e])
  unfold rows
  rw [if_neg h1, rows_free c l h2]
theorem rows_at (c : UInt8) (q : List UInt8) : ∀ p : List UInt8, c ∉ p → rows c (p ++ c :: q) = p :: rows c q
 | [], _ => by simp [rows]
 | b :: p, h => by
  have h1 : b ≠ c := fun e => h (by simp [e])
  have h2 : c ∉ p := fun e => h (by simp [e])
  have ih := rows_at c q p h2
  rw [List.cons_append, rows, if_neg h1, ih]
theorem index_at (c : UInt8) (q : List UInt8) : ∀ p : List UInt8, c ∉ p → Lib.index (p ++ c :: q) [c] = p.length
 | [], _ => by simp [Lib.index, List.isPrefixOf]
 | b :: p, h => by
  have h1 : c ≠ b := fun e => h (by simp [e])
  have h2 : c ∉ p := fun e => h (by simp [e])
  have ih := index_at c q p h2
  rw [List.cons_append]
  unfold Lib.index
  rw [if_neg (by simp [List.isPrefixOf, h1]), ih, if_neg (by simp)]
  simp
theorem cut_at (c : UInt8) : ∀ l : List UInt8, c ∈ l → ∃ p q, l = p ++ c :: q ∧ c ∉ p
 | [], h => by simp at h
 | b :: l, h => by
  by_cases e : b = c
  ·exact ⟨[], l, by simp [e], by simp⟩
  ·obtain ⟨p, q, h1, h2⟩ := cut_at c l (by simpa [Ne.symm e] using h)
   exact ⟨b :: p, q, by simp [h1], by simp [Ne.symm e, h2]⟩
theorem splitK_rows (c : UInt8) : ∀ (k : Nat) (l : List UInt8), l.count c = k → Lib.splitK [c] 0 k l = rows c l
 | 0, l, h => by
  have h2 : c ∉ l := List.count_eq_zero.1 h
  rw [rows_free c l h2]
  rfl
 | k + 1, l, h => by
  have h2 : c ∈ l := List.count_pos_iff.1 (by omega)
  obtain ⟨p, q, rfl, hp⟩ := cut_at c l h2
  unfold Lib.splitK
  rw [index_at c q p hp, if_neg (by simp), rows_at c q p hp]
  have hq : q.count c = k := by
   rw [List.count_append, List.count_cons_self, List.count_eq_zero.2 hp] at h
   omega
  simp only [Int.toNat_natCast, Nat.add_zero, List.take_left, List.length_singleton]
  congr 1
  rw [show (p ++ c :: q).drop (p.length + 1) = q by rw [← List.drop_drop, List.drop_left]; rfl]
  exact splitK_rows c k q hq
theorem rows_flat (c : UInt8) : ∀ l, (rows c l).flatten.length ≤ l.length
 | [] => by simp [rows]
 | b :: l => by
  have ih := rows_flat c l
  unfold rows
  split
  ·simp at ih ⊢; omega
  ·split
   ·simp
   ·rename_i r rs e
    rw [e] at ih
    simp at ih ⊢
    omega
end Go.Proofs.YtmefnfhghfemgaaDoor.Q
end
section
namespace Go.Proofs.YtmefnfhghfemgaaDoor.Q
open Go.RowKit Go.Shelf Go.Proofs.YtmefnfhghfemgaaDoorW.PrintWords Go.Proofs.YtmefnfhghfemgaaDoorW.PrintLast Go.Proofs.YtmefnfhghfemgaaDoorW.PrintMore
def sep1 : ByteArray := ⟨#[47]⟩
def rowsL (s : ByteArray) : List ByteArray := Lib.splitB sep1 0 (Lib.countB s sep1) s
def joinedB (s : ByteArray) : ByteArray := ⟨(Lib.join ((rowsL s).map (·.data.toList)) []).toArray⟩
theorem rowsL_map (s : ByteArray) : (rowsL s).map (·.data.toList) = rows 47 s.data.toList := by
 unfold rowsL
 rw [Lib.splitB_data]
 have h : Lib.countB s sep1 = s.data.toList.count 47 := Lib.count_one 47 s.data.toList
 rw [h]
 exact splitK_rows 47 _ _ rfl
theorem join_none (xs : List (List UInt8)) : Lib.join xs [] = xs.flatten := by
 unfold Lib.join
 induction xs with
 | nil => rfl
 | cons x xs ih =>
  cases xs with
  | nil => simp [List.intercalate]
  | cons y ys =>
   simp only [List.intercalate, List.intersperse] at ih ⊢
   simpa using ih
theorem joinedB_list (s : ByteArray) : (joinedB s).data.toList = (rows 47 s.data.toList).flatten := by
 unfold joinedB
 rw [rowsL_map, join_none]
theorem joinedB_size (s : ByteArray) : (joinedB s).size ≤ s.size := by
 have h := rows_flat 47 s.data.toList
 rw [← joinedB_list] at h
 simpa using h
def impl_read.f (a0 : ByteArray) : Option (Int × Int × List Int) := if a0.size ≤ 1048576 then some (((rowsL a0).getD 0 ByteArray.empty).size, (rowsL a0).length, bytesOf (joinedB a0)) else none
def slotV (w : World) (a : Addr) : Value := (w.cell? a).getD undef
theorem slotV_def (w : World) (a : Addr) : slotV w a = (w.cell? a).getD undef := rfl
structure SR (w : World) (ad : Addr) (n : Nat) (xs : List ByteArray) (w' : World) : Prop where
 below : Below w.heap.size w w'
 slot : ∃ cs, cs.size = 3 ∧ w'.heap[w.heap.size]? = some (.cells cs 46 (0, 0))
 reads : Kd.C Kd.string w' (some ad) n xs
 apart : ad.block ≠ w.heap.size
section
variable {w : World} {ad : Addr} {n : Nat} {xs : List ByteArray} {w1 w2 : World}
theorem SR.step (h : SR w ad n xs w1) (hb : Below w1.heap.size w1 w2) : SR w ad n xs w2 := by
 obtain ⟨cs, hc, hs⟩ := h.slot
 exact ⟨below_then h.below h.below.size hb, ⟨cs, hc, (hb.block _ (blk_lt hs)).trans hs⟩, Kd.C_below h.reads hb, h.apart⟩
theorem SR.drew (h : SR w ad n xs w1) : SR w ad n xs w1.drew := h.step (below_drew (Below.refl _ _))
theorem SR.bytes (h : SR w ad n xs w1) (e : TypeId) (s : ByteArray) : SR w ad n xs (Lib.bytesWorld w1 e s) :=
 h.step ⟨rfl, rfl, rfl, by rw [Lib.bytesWorld_size]; omega, fun i hi => Lib.bytesWorld_at_old w1 e s i hi⟩
theorem three_set {cs : Array Value} (h : cs.size = 3) {a b c : Value} : ((cs.setIfInBounds 0 a).setIfInBounds 1 b).setIfInBounds 2 c = #[a, b, c] := by
 obtain ⟨l⟩ := cs
 match l, h with
 | [_, _, _], _ => rfl
def SRC (w : World) (ad : Addr) (n : Nat) (xs : List ByteArray) (w1 : World) : Prop := SR w ad n xs w1
theorem slotV_of {w1 : World} {g j : Nat} {cs : Array Value} (h : w1.heap[g]? = some (.cells cs 46 (0, 0))) (hj : j < cs.size) : w1.cell? ⟨g, j, none⟩ = some (slotV w1 ⟨g, j, none⟩) := by
 rw [slotV_def, blk_cell h j, Array.getElem?_eq_getElem hj]
 rfl
theorem SR.all (h : SR w ad n xs w1) (hn : 0 < xs.length) :
  w1.cell? ad = some (.string (xs.getD 0 ByteArray.empty)) ∧ w1.cell? ⟨w.heap.size, 0, none⟩ = some (slotV w1 ⟨w.heap.size, 0, none⟩) ∧ w1.cell? ⟨w.heap.size, 1, none⟩ = some (slotV w1 ⟨w.heap.size, 1, none⟩) ∧ w1.cell? ⟨w.heap.size, 2, none⟩ = some (slotV w1 ⟨w.heap.size, 2, none⟩) ∧
  w1.frozen? ⟨w.heap.size, 0, none⟩ = false ∧ w1.frozen? ⟨w.heap.size, 1, none⟩ = false ∧ w1.frozen? ⟨w.heap.size, 2, none⟩ = false ∧ SRC w ad n xs w1 := by
 obtain ⟨ad', e, hx⟩ := Kd.at_string h.reads 0 (by omega) (by have := h.reads.1; omega)
 injection e with e
 subst e
 obtain ⟨cs, hc, hs⟩ := h.slot
 exact ⟨by simpa [Addr.add, rdOf] using hx, slotV_of hs (by omega), slotV_of hs (by omega), slotV_of hs (by omega), blk_frozen hs 0, blk_frozen hs 1, blk_frozen hs 2, h⟩
end
set_option maxHeartbeats 4000000 in
set_option maxRecDepth 100000 in
theorem impl_read.calls (a0 : ByteArray) (r1 r2 : Int) (r3 : List Int) (w : World) (hG : GoodW w) (h : impl_read.f a0 = some (r1, r2, r3)) :
  Calls Tryd.prog 27 #[.string a0] w fun e w' => ∃ v2_ : Value, e = .returned (.agg #[.int .i64 r1, .int .i64 r2, v2_]) ∧ Kd.V (Kd.int .u8) 5 w' w.heap.size (fun k_ => w.heap.size ≤ k_) v2_ r3 ∧ Below w.heap.size w w' := by
 unfold impl_read.f at h
 split at h
 case isFalse => cases h
 rename_i hsz
 simp only [Option.some.injEq, Prod.mk.injEq] at h
 obtain ⟨rfl, rfl, rfl⟩ := h
 have HG := Aside0.mk hG
 have hsp : strings_Split.f a0 sep1 = some (rowsL a0) := by
  unfold strings_Split.f
  rw [if_pos ⟨by omega, by decide⟩]
  rfl
 have hrl : 0 < (rowsL a0).length := by
  unfold rowsL
  rw [Lib.splitB_all sep1 (by decide) 0 _ a0 rfl]
  omega
 go_enter Tryd.func27, Tryd.ntmps27
 go_wp2_with fail
 refine (strings_Split.calls a0 sep1 (rowsL a0) _ (hG.below (below_alloc (Below.refl _ _) _)) hsp).mono ?_
 rintro e w1 ⟨v, rfl, hR, hB⟩
 obtain ⟨A, c, rfl, hlc, hC⟩ := Kd.R_reads hR
 obtain ⟨ad, rfl, hx⟩ := Kd.at_string hC 0 (by omega) (by omega)
 have hap : ad.block ≠ w.heap.size := by
  have h2 := Kd.R_base hR ad.block (by simp [Value.ownBlock])
  simp at h2
  omega
 have S0 : SR w ad (rowsL a0).length (rowsL a0) w1 := ⟨below_then (below_alloc (Below.refl _ _) _) (by simp) hB, ⟨_, rfl, (hB.block _ (by simp)).trans (heap_alloc_new w _)⟩, hC, hap⟩
 have n0 : (0 : Int) < ((rowsL a0).length : Int) := by omega
 have kb := fun (W : World) (s : ByteArray) => Lib.run_convert_string_bytes (P := Tryd.prog) W 9 38 5 s Tryd.underlying9 Tryd.underlying38 Tryd.underlying5
 have hx0 : w1.cell? ad = some (.string ((rowsL a0).getD 0 ByteArray.empty)) := by simpa [Addr.add, rdOf] using hx
 have hjn : strings_Join.f (rowsL a0) ⟨#[]⟩ = some (joinedB a0) := by
  unfold strings_Join.f
  have h1 := Lib.countB_le sep1 (by decide) a0.size a0 (Nat.le_refl _)
  have h2 := Lib.splitB_all sep1 (by decide) 0 _ a0 rfl
  have h3 := joinedB_size a0
  have h4 : (Lib.join ((rowsL a0).map (·.data.toList)) (⟨#[]⟩ : ByteArray).data.toList).length = (joinedB a0).size := by
   show _ = (Lib.join ((rowsL a0).map (·.data.toList)) []).toArray.size
   rw [List.size_toArray]
  rw [if_pos ⟨by unfold rowsL; omega, by rw [h4]; omega⟩]
  rfl
 clear hx hG hB hR HG hC hap
 go_wp2_with fail
 obtain ⟨hxd, _, _, _, _, _, _, SD⟩ := SR.all S0.drew hrl
 go_region_with (refine (strings_Join.calls (some ad) c (rowsL a0) ⟨#[]⟩ (joinedB a0) _ (S0.drew).reads hlc hjn).mono ?_; rintro e w2 ⟨rfl, hb2⟩; (have S2 := S0.drew.step hb2); (obtain ⟨hx2, _, _, _, _, _, _, _⟩ := SR.all S2 hrl); (obtain ⟨hx3, hs0, hs1, hs2, hf0, hf1, hf2, _⟩ := SR.all (S2.bytes 5 (joinedB a0)) hrl))
 all_goals go_wp2
 all_goals
  obtain ⟨cs, hc, hs⟩ := S2.slot
  have hz : (joinedB a0).size ≤ 140737488355328 := by have := joinedB_size a0; omega
  have e0 : (rowsL a0).getD 0 ByteArray.empty = (rowsL a0)[0] := by rw [List.getD_eq_getElem?_getD, List.getElem?_eq_getElem hrl]; rfl
  have b0 := (Lib.bytesWorld_at_old w2 5 (joinedB a0) w.heap.size (blk_lt hs)).trans hs
  have b1 := blk_set (blk_set (blk_set b0 0 (.int .i64 ((rowsL a0)[0].size : Int))) 1 (.int .i64 ((rowsL a0).length : Int))) 2 (.slice (some ⟨w2.heap.size, 0, none⟩) (joinedB a0).size (grownCap w2 (joinedB a0).size 0 5))
  rw [three_set hc] at b1
  have hlt := blk_lt hs
  refine bodyPost_ret (results_cell_row rfl _ _ w.heap.size 46 _ (0, 0) _ rfl b1 Tryd.underlying46 rfl (by kernel_rfl)) rfl ⟨_, by rw [e0], ?_, ?_⟩
  ·refine V_bytes (joinedB a0) hz (Array.replicate (grownCap w2 (joinedB a0).size 0 5 - (joinedB a0).size) (.int .u8 0)) ((Lib.bytesCells w2 5 (joinedB a0)).size, (Lib.bytesCells w2 5 (joinedB a0)).size + 1) ?_ (by have := S2.below.size; omega) (grownCap_ge _ _ _ _)
   rw [Below.heap_setCell _ _ _ _ (by simp; omega), Below.heap_setCell _ _ _ _ (by simp; omega), Below.heap_setCell _ _ _ _ (by simp; omega)]
   exact Lib.bytesWorld_at_new w2 5 (joinedB a0)
  ·exact below_set (below_set (below_set (S2.bytes 5 (joinedB a0)).below (Nat.le_refl _)) (Nat.le_refl _)) (Nat.le_refl _)
end Go.Proofs.YtmefnfhghfemgaaDoor.Q
end
section
namespace Go.Proofs.YtmefnfhghfemgaaDoor.Q
open Go.RowKit Go.Proofs.YtmefnfhghfemgaaDoorW.PrintWords Go.Proofs.YtmefnfhghfemgaaDoorW.PrintLast Go.Proofs.YtmefnfhghfemgaaDoorW.PrintMore
theorem R_any {α : Type} {d : Kd α} {e base : Nat} {ok ok' : Nat → Prop} {w : World} {v : Value} {xs : List α} (h : Kd.R d e w base ok v xs)
  (hok : ∀ k, ok k → ok' k := by intro _ hk; repeat' (first | exact trivial | exact hk | exact hk.1 | exact hk.2 | exact hk.1.1 | exact hk.1.2 | exact hk.2.1 | exact hk.2.2 | refine ⟨?_, ?_⟩)) : Kd.R d e w base ok' v xs := Kd.R_mono h hok
theorem bel {B : Nat} {w0 w w1 : World} (_H : Aside0 (Below B w0 w)) (h : Below B w0 w1 := by repeat (first | (with_reducible first | exact Aside0.out (by assumption) | apply below_alloc | apply pw_below_drewN | apply below_drew1 | refine below_set ?_ (Aside0.out (by assumption))) | exact Aside0.out (by assumption))) : Below B w0 w1 := h
theorem blc {w1 : World} {g : Nat} {o : Option Obj} (h : w1.heap[g]? = o := by (with_reducible repeat (first | refine blk_drewN ?_ _ | refine blk_drew ?_ | refine blk_alloc ?_ _)); exact Aside0.out (by assumption)) : w1.heap[g]? = o := h
theorem rch {α : Type} {d : Kd α} {e base : Nat} {ok ok' : Nat → Prop} {w w1 : World} {v : Value} {xs : List α} (_H : Aside0 (Kd.R d e w base ok v xs))
  (h : Kd.R d e w1 base ok' v xs := by (with_reducible repeat (first | apply Kd.R_alloc | apply Kd.R_drewN | apply Kd.R_drew)); (first | exact Aside0.out (by assumption) | exact R_any (Aside0.out (by assumption)))) : Kd.R d e w1 base ok' v xs := h
theorem nil_bool {α : Type} [BEq α] (l : List α) : (l != []) = !l.isEmpty := by cases l <;> rfl
section
variable {P : Program} {ops : Array Oper} {Q : Exit → Act → World → Prop}
theorem goesV_ {rest : List Oper} {oi : Oper} {a : Act} {w : World} (N : Option Tmp) (hd : oi.dst = N) (hg : oi.guard = none) {f : FuncId} {fn : Func} {p : Tmp} {ys : Array Operand} {ts : Array TypeId} (hf : P.funcs[f]? = some fn) (hname : (fn.name == "runtime.NumGoroutine") = false) (hb : fn.body.isSome = true) (args : Array Value)
  (hop : oi.op = .call { callee := .value (.tmp p), args := ys, argTypes := ts }) (hargs : ys.map a.eval = args)
  (h : Calls P f args w fun e w' => ∃ v, e = .returned v ∧ wpList P ops Q rest (a.put N v) w') (hv : a.eval (.tmp p) = .func (.func f) #[] #[] := by rfl) : wpList P ops Q (oi :: rest) a w := by
 refine wpList_plain hg fun K hK => ?_
 have he := enters_ hf hname hb args w
 have hrun : (execOp a.eval oi).run P w = .ok (.enter f args) w := by
  unfold execOp
  simp [hop, resolve, Deferred.ofValue, invoke, hv, hargs, he]
 unfold Oper.wp
 rw [hrun, Oper.upon_enter]
 refine h.mono fun e w'' hh => ?_
 obtain ⟨v, rfl, hk⟩ := hh
 subst hd
 exact hK _ _ hk
theorem gcall {rest : List Oper} {oi : Oper} {a : Act} {w : World} (N : Option Tmp) {f : FuncId} {fn : Func} {as_ : Array Operand} {ts : Array TypeId} (hf : P.funcs[f]? = some fn) (args : Array Value) (hop : oi.op = .call { callee := .value (.func f), args := as_, argTypes := ts })
  (h : Calls P f args w fun e w' => ∃ v, e = .returned v ∧ wpList P ops Q rest (a.put N v) w') (hd : oi.dst = N := by rfl) (hg : oi.guard = none := by rfl) (hname : (fn.name == "runtime.NumGoroutine") = false := by kernel_rfl) (hb : fn.body.isSome = true := by rfl)
  (hargs : as_.map a.eval = args := by (try simp only [List.map_toArray, List.map_cons, List.map_nil]); first | done | rfl | (simp only [List.length_drop, List.length_take]; rfl)) : wpList P ops Q (oi :: rest) a w := goesL_ N hd hg hf hname hb args hop hargs h
theorem boxE {rest : List Oper} {o : Oper} {a : Act} {W : World} {N : Tmp} {cs : Array Value} {t : TypeId}
  (h : ∀ g, g = W.heap.size → ∀ w1, w1.heap[g]? = some (.cells cs t (0, 0)) → Below W.heap.size W w1 → wpList P ops Q rest (a.put o.dst (.pointer (some ⟨g, 0, none⟩))) w1) (hgd : o.guard = none := by rfl) (hd : o.dst = some N := by rfl)
  (hrun : (execOp a.eval o).run P W = .ok (.value (.pointer (some ⟨W.heap.size, 0, none⟩))) (W.alloc (.cells cs t (0, 0))) := by first | (go_simp; done) | (go_simp; rfl)) : wpList P ops Q (o :: rest) a W := box_event hgd hd hrun h
theorem gsz {w W : World} {g : Nat} (hg : g = W.heap.size) (h : Below w.heap.size w W) : w.heap.size ≤ g := by rw [hg]; exact h.size
theorem rH {A B : Prop} {β : Sort _} {y z : β} (hy : y = z) (H : A)
  (k : y = z → A → B := by intro hy H; first | (rw [hy]; with_reducible exact H) | (have H2_ := (Option.bind_some _ _).symm.trans H; rw [hy]; with_reducible exact H2_) | (have H2_ := (Option.bind_some _ _).symm.trans H; with_reducible exact H2_) | with_reducible exact H | (rw [hy]; exact H) | exact H) : B := k hy H
theorem R_litG {α : Type} {o : Oper} {rest : List Oper} {a : Act} {W : World} (d : Kd α) {w0 : World} (base e : Nat) (hw : Region.wanted o (yielded ops a.tmps) = true) {N : Tmp} (_hd : o.dst = some N) {xs : List α} {inner : List Value} {ok okp : Nat → Prop}
  (hrun : (execOp a.eval o).run P W = .ok (.value (.slice (some ⟨W.heap.size, 0, none⟩) xs.length xs.length)) (W.alloc (.cells inner.toArray e)))
  (hrep : Reps (d.M W base okp) d.sz xs inner) (hok : ∀ k, okp k → ok k) (hfresh : ok W.heap.size) (HB : Below base w0 W) (hbase : base ≤ W.heap.size) (hm : xs.length ≤ 9223372036854775807)
  (h : ∀ v1 w1, d.R e w1 base ok v1 xs → Below base w0 w1 → W.grownBy w1 none → (∃ b, v1.ownBlock = some b ∧ W.heap.size ≤ b) → wpList P ops Q rest (a.put o.dst v1) w1) : wpList P ops Q (o :: rest) a W :=
 wpList_step fun _ hK => Kd.R_lit_step d base e hw _hd hrun hrep hok hfresh HB hbase hm fun v1 w1 h1 h2 h3 h4 => hK _ _ (h v1 w1 h1 h2 h3 h4)
end
end Go.Proofs.YtmefnfhghfemgaaDoor.Q
end
section
namespace Go.Proofs.YtmefnfhghfemgaaDoor.Q
open Go.RowKit Go.Proofs.YtmefnfhghfemgaaDoorW.PrintWords Go.Proofs.YtmefnfhghfemgaaDoorW.PrintLast Go.Proofs.YtmefnfhghfemgaaDoorW.PrintMore
attribute [local go_sem] max2_int min2_int max_two min_two max_three min_three max_four min_four
set_option linter.unusedVariables false
set_option linter.unusedSimpArgs false
def spec_tyBall.f (a0 : Int) : Option (Bool) := if a0 = 111 then (some true) else (if a0 ≥ 97 then (some (decide (a0 ≤ 102))) else (some false))
set_option maxHeartbeats 8000000 in
set_option maxRecDepth 100000 in
theorem spec_tyBall.calls (a0 : Int) (r : Bool) (w : World) (h : spec_tyBall.f a0 = some r) :
  Calls Tryd.prog 70 #[.int .u8 a0] w fun e w' => e = .returned (.bool r) ∧ Drawn0 w w' := by
 have H : (if a0 = 111 then (some true) else (if a0 ≥ 97 then (some (decide (a0 ≤ 102))) else (some false))) = some r := h
 clear h
 by_cases c2 : a0 = 111
 ·rw [if_pos c2] at H
  have c2b0 : (a0 == 111) = true := beq_iff_eq.mpr c2
  have c2b1 : (a0 != 111) = false := bne_eq_false_iff_eq.mpr c2
  clear c2
  obtain rfl := Option.some.inj H
  go_enter Tryd.func70, Tryd.ntmps70
  go_wp2
  go_ret
  exact ⟨by first | rfl | (simp; done) | (simp [*]; done), by repeat (first | exact Drawn0.refl _ | apply Drawn0.step)⟩
 ·rw [if_neg c2] at H
  have c2b0 : (a0 == 111) = false := beq_eq_false_iff_ne.mpr c2
  have c2b1 : (a0 != 111) = true := bne_iff_ne.mpr c2
  by_cases c3 : a0 ≥ 97
  ·rw [if_pos c3] at H
   have c3b0 : decide (97 ≤ a0) = true := decide_eq_true c3
   clear c3
   obtain rfl := Option.some.inj H
   go_enter Tryd.func70, Tryd.ntmps70
   go_wp2
   go_ret
   exact ⟨by first | rfl | (simp; done) | (simp [*]; done), by repeat (first | exact Drawn0.refl _ | apply Drawn0.step)⟩
  ·rw [if_neg c3] at H
   have c3b0 : decide (97 ≤ a0) = false := decide_eq_false c3
   clear c3
   obtain rfl := Option.some.inj H
   go_enter Tryd.func70, Tryd.ntmps70
   go_wp2
   go_ret
   exact ⟨by first | rfl | (simp; done) | (simp [*]; done), by repeat (first | exact Drawn0.refl _ | apply Drawn0.step)⟩
def spec_tyIs.f (a0 : Int) : Option (Bool) := if a0 = 35 then (some true) else (if a0 = 46 then (some true) else ((spec_tyBall.f a0).bind fun t101 => (some t101)))
set_option maxHeartbeats 8000000 in
set_option maxRecDepth 100000 in
theorem spec_tyIs.calls (a0 : Int) (r : Bool) (w : World) (h : spec_tyIs.f a0 = some r) :
  Calls Tryd.prog 83 #[.int .u8 a0] w fun e w' => e = .returned (.bool r) ∧ Drawn0 w w' := by
 have H : (if a0 = 35 then (some true) else (if a0 = 46 then (some true) else ((spec_tyBall.f a0).bind fun t101 => (some t101)))) = some r := h
 clear h
 by_cases c2 : a0 = 35
 ·rw [if_pos c2] at H
  have c2b0 : (a0 == 35) = true := beq_iff_eq.mpr c2
  have c2b1 : (a0 != 35) = false := bne_eq_false_iff_eq.mpr c2
  clear c2
  obtain rfl := Option.some.inj H
  go_enter Tryd.func83, Tryd.ntmps83
  go_wp2
  go_ret
  exact ⟨by first | rfl | (simp; done) | (simp [*]; done), by repeat (first | exact Drawn0.refl _ | apply Drawn0.step)⟩
 ·rw [if_neg c2] at H
  have c2b0 : (a0 == 35) = false := beq_eq_false_iff_ne.mpr c2
  have c2b1 : (a0 != 35) = true := bne_iff_ne.mpr c2
  by_cases c3 : a0 = 46
  ·rw [if_pos c3] at H
   have c3b0 : (a0 == 46) = true := beq_iff_eq.mpr c3
   have c3b1 : (a0 != 46) = false := bne_eq_false_iff_eq.mpr c3
   clear c3
   obtain rfl := Option.some.inj H
   go_enter Tryd.func83, Tryd.ntmps83
   go_wp2
   go_ret
   exact ⟨by first | rfl | (simp; done) | (simp [*]; done), by repeat (first | exact Drawn0.refl _ | apply Drawn0.step)⟩
  ·rw [if_neg c3] at H
   have c3b0 : (a0 == 46) = false := beq_eq_false_iff_ne.mpr c3
   have c3b1 : (a0 != 46) = true := bne_iff_ne.mpr c3
   replace H := Option.bind_eq_some_iff.mp H
   obtain ⟨t101, A40, H⟩ := H
   replace H : (some t101) = some r := H
   have A4 := Aside0.mk A40
   clear A40
   obtain rfl := Option.some.inj H
   go_enter Tryd.func83, Tryd.ntmps83
   go_wp2_with (first | (go_at_call 70; (with_reducible refine (spec_tyBall.calls a0 t101 _ A4.out).mono ?_); rintro e w' ⟨rfl, ⟨nd, rfl⟩⟩))
   go_ret
   exact ⟨by first | rfl | (simp; done) | (simp [*]; done), by repeat (first | exact Drawn0.refl _ | apply Drawn0.step)⟩
mutual
def spec_tyRead.l0 : Nat → ByteArray → Int → Int → Int → Int → List Int → Option (Int × Int × List Int × Bool)
 | 0, _, _, _, _, _, _ => none
 | k + 1, x0, x5, x6, x103000, x103001, x103002 => if x6 ≤ (x0.size : Int) then (if x6 < (x0.size : Int) then (if 0 ≤ x6 then (spec_tyRead.j1 k x0 x5 x6 ((bt x0 x6) != 47) x103000 x103001 x103002) else (none)) else (spec_tyRead.j1 k x0 x5 x6 false x103000 x103001 x103002)) else (if x103000 > 7 then (spec_tyRead.j2 k true x103000 x103001 x103002) else (if x103001 > 7 then (spec_tyRead.j2 k true x103000 x103001 x103002) else (spec_tyRead.j2 k (decide ((x103002.length : Int) > 36)) x103000 x103001 x103002)))
def spec_tyRead.j1 : Nat → ByteArray → Int → Int → Bool → Int → Int → List Int → Option (Int × Int × List Int × Bool)
 | 0, _, _, _, _, _, _, _ => none
 | k + 1, x0, x5, x6, x31, x103000, x103001, x103002 => if x31 = true then (if 0 ≤ x6 then (if x6 < (x0.size : Int) then ((spec_tyIs.f (bt x0 x6)).bind fun t103 => (if t103 = true then (if x103002.length < 140737488355328 then (spec_tyRead.l0 k x0 (wrap64 (x5 + 1)) (wrap64 (x6 + 1)) x103000 x103001 (x103002 ++ [bt x0 x6])) else (none)) else (some (0, 0, ([] : List Int), false)))) else (none)) else (none)) else (if x103001 > 0 then (if x5 = x103000 then (if x5 = 0 then (some (0, 0, ([] : List Int), false)) else (spec_tyRead.l0 k x0 0 (wrap64 (x6 + 1)) x5 (wrap64 (x103001 + 1)) x103002)) else (some (0, 0, ([] : List Int), false))) else (if x5 = 0 then (some (0, 0, ([] : List Int), false)) else (spec_tyRead.l0 k x0 0 (wrap64 (x6 + 1)) x5 (wrap64 (x103001 + 1)) x103002)))
def spec_tyRead.j2 : Nat → Bool → Int → Int → List Int → Option (Int × Int × List Int × Bool)
 | 0, _, _, _, _ => none
 | k + 1, x81, x103000, x103001, x103002 => if x81 = true then (some (0, 0, ([] : List Int), false)) else (spec_tyRead.l1 k x103002 (x103002.length : Int) 0 x103000 x103001 x103002)
def spec_tyRead.l1 : Nat → List Int → Int → Int → Int → Int → List Int → Option (Int × Int × List Int × Bool)
 | 0, _, _, _, _, _, _ => none
 | k + 1, x84, x85, x86, x103000, x103001, x103002 => if x86 < x85 then (if 0 ≤ x86 then (if x86 < (x84.length : Int) then (if x86 ≤ (x103002.length : Int) then ((some (x103002.take (x86 : Int).toNat : List Int)).bind fun y108 => (spec_tyRead.l2 k (rd x84 x86) x84 x85 x86 y108 (y108.length : Int) 0 x103000 x103001 x103002)) else (none)) else (none)) else (none)) else (some (x103000, x103001, x103002, true))
def spec_tyRead.l2 : Nat → Int → List Int → Int → Int → List Int → Int → Int → Int → Int → List Int → Option (Int × Int × List Int × Bool)
 | 0, _, _, _, _, _, _, _, _, _, _ => none
 | k + 1, x8, x84, x85, x86, x94, x95, x96, x103000, x103001, x103002 => if x96 < x95 then (if 0 ≤ x96 then (if x96 < (x94.length : Int) then (if x8 = (rd x94 x96) then (if x8 ≥ 97 then (if x8 ≤ 102 then (some (0, 0, ([] : List Int), false)) else (spec_tyRead.l2 k x8 x84 x85 x86 x94 x95 (wrap64 (x96 + 1)) x103000 x103001 x103002)) else (spec_tyRead.l2 k x8 x84 x85 x86 x94 x95 (wrap64 (x96 + 1)) x103000 x103001 x103002)) else (spec_tyRead.l2 k x8 x84 x85 x86 x94 x95 (wrap64 (x96 + 1)) x103000 x103001 x103002)) else (none)) else (none)) else (spec_tyRead.l1 k x84 x85 (wrap64 (x86 + 1)) x103000 x103001 x103002)
end
def spec_tyRead.f (k : Nat) (a0 : ByteArray) : Option (Int × Int × List Int × Bool) := if (a0.size : Int) > 42 then (some (0, 0, ([] : List Int), false)) else (spec_tyRead.l0 k a0 0 0 0 0 ([] : List Int))
def spec_tyRead.T11 : Bool × List (List Nat × List Nat) := (true, [([], []), ([0], [0]), ([], []), ([], []), ([2, 3], [2, 3]), ([4], [4]), ([1, 5], [1, 5]), ([0, 1, 2, 3, 4, 5, 6], []), ([7, 6, 6, 0, 1, 2, 3, 4, 5, 6], [6, 7])])
def spec_tyRead.B11 : List Nat := [0, 1, 0, 0, 12, 28, 63, 127, 255]
theorem spec_tyRead.tab11 : rtab .any (opsOf Tryd.f46 11) = spec_tyRead.T11 := by kernel_rfl
theorem spec_tyRead.bits11 : waitsOk spec_tyRead.T11.2 spec_tyRead.B11 = true := by kernel_rfl
set_option maxHeartbeats 8000000 in
set_option maxRecDepth 100000 in
theorem spec_tyRead.calls (k : Nat) (a0 : ByteArray) (r1 : Int) (r2 : Int) (r3 : List Int) (r4 : Bool) (w : World) (h : spec_tyRead.f k a0 = some (r1, r2, r3, r4)) :
  Calls Tryd.prog 46 #[.string a0] w fun e w' => ∃ v2_ : Value, e = .returned (.tuple #[.agg #[.int .i64 r1, .int .i64 r2, v2_], .bool r4]) ∧ Kd.R (Kd.int .u8) 5 w' w.heap.size (fun _ => True) v2_ r3 ∧ Below w.heap.size w w' := by
 have hu40 := Tryd.underlying40
 have HB := Aside0.mk (Below.refl w.heap.size w)
 have H : (if (a0.size : Int) > 42 then (some (0, 0, ([] : List Int), false)) else (spec_tyRead.l0 k a0 0 0 0 0 ([] : List Int))) = some (r1, r2, r3, r4) := h
 clear h
 by_cases c2 : (a0.size : Int) > 42
 ·rw [if_pos c2] at H
  have c2b0 : decide (42 < (a0.size : Int)) = true := decide_eq_true c2
  have c2b1 : decide (42 < a0.size) = true := decide_eq_true (by omega)
  clear c2
  simp only [Option.some.injEq, Prod.mk.injEq] at H
  obtain ⟨rfl, rfl, rfl, rfl⟩ := H
  go_enter Tryd.func46, Tryd.ntmps46
  go_wp2_with (first | ((with_reducible refine gate_dst (N := 2) rfl ?_); refine boxE (N := 2) (cs := #[.int .i64 0, .int .i64 0, .slice none 0 0]) (t := 40) ?_; intro gb101 hg w3 hbox hb; have n0_ := Aside0.mk (below_step (bel HB) hb); have n1_ := Aside0.mk (hbox); have n2_ := Aside0.mk (gsz hg (bel HB)); have n3_ := Aside0.mk (gsz hg (bel HB)); clear HB; have HB := n0_; have BK101 := n1_; have GW101 := n2_; have GE101 := n3_; clear n0_ n1_ n2_ n3_; clear hb hbox hg) | ((with_reducible refine gate_dst (N := 4) rfl ?_); refine boxE (N := 4) (cs := #[.int .i64 0, .int .i64 0, .slice none 0 0]) (t := 40) ?_; intro gb102 hg w4 hbox hb; have n0_ := Aside0.mk (blk_below (g := gb101) (o := .cells #[.int .i64 0, .int .i64 0, .slice none 0 0] 40 (0, 0)) blc hb); have n1_ := Aside0.mk (below_step (bel HB) hb); have n2_ := Aside0.mk (hbox); have n3_ := Aside0.mk (gsz hg (bel HB)); have n4_ := Aside0.mk (gsz hg (bel HB)); have n5_ := Aside0.mk ((by rw [hg]; exact Nat.ne_of_lt (blk_lt (g := gb101) (o := .cells #[.int .i64 0, .int .i64 0, .slice none 0 0] 40 (0, 0)) blc) : gb101 ≠ gb102)); have n6_ := Aside0.mk ((by rw [hg]; exact Nat.ne_of_gt (blk_lt (g := gb101) (o := .cells #[.int .i64 0, .int .i64 0, .slice none 0 0] 40 (0, 0)) blc) : gb102 ≠ gb101)); clear BK101; clear HB; have BK101 := n0_; have HB := n1_; have BK102 := n2_; have GW102 := n3_; have GE102 := n4_; have NB101_102 := n5_; have NB102_101 := n6_; clear n0_ n1_ n2_ n3_ n4_ n5_ n6_; clear hb hbox hg; have hnb5 := NB102_101.out; have hnc5 := NB101_102.out; have hcz6_0 : w4.cell? ⟨gb102, 0, none⟩ = some (.int .i64 0) := (blk_cell BK102.out 0).trans rfl; have hcz6_1 : w4.cell? ⟨gb102, 1, none⟩ = some (.int .i64 0) := (blk_cell BK102.out 1).trans rfl; have hcz6_2 : w4.cell? ⟨gb102, 2, none⟩ = some (.slice none 0 0) := (blk_cell BK102.out 2).trans rfl; have hfz6_0 := blk_frozen BK102.out 0; have hfz6_1 := blk_frozen BK102.out 1; have hfz6_2 := blk_frozen BK102.out 2; have hcz7_0 : w4.cell? ⟨gb101, 0, none⟩ = some (.int .i64 0) := (blk_cell BK101.out 0).trans rfl; have hcz7_1 : w4.cell? ⟨gb101, 1, none⟩ = some (.int .i64 0) := (blk_cell BK101.out 1).trans rfl; have hcz7_2 : w4.cell? ⟨gb101, 2, none⟩ = some (.slice none 0 0) := (blk_cell BK101.out 2).trans rfl; have hfz7_0 := blk_frozen BK101.out 0; have hfz7_1 := blk_frozen BK101.out 1; have hfz7_2 := blk_frozen BK101.out 2))
  refine bodyPost_ret (results_ct rfl _ _ gb101 40 #[.int .i64 0, .int .i64 0, .slice none 0 0] (0, 0) _ rfl (by (with_reducible repeat (first | refine blk_drewN ?_ _ | refine blk_drew ?_ | refine blk_alloc ?_ _)); refine blk_put (cs := #[.int .i64 0, .int .i64 0, .slice none 0 0]) ?_ 2 _ rfl; (with_reducible repeat (first | refine blk_drewN ?_ _ | refine blk_drew ?_ | refine blk_alloc ?_ _)); refine blk_put (cs := #[.int .i64 0, .int .i64 0, .slice none 0 0]) ?_ 1 _ rfl; (with_reducible repeat (first | refine blk_drewN ?_ _ | refine blk_drew ?_ | refine blk_alloc ?_ _)); refine blk_put (cs := #[.int .i64 0, .int .i64 0, .slice none 0 0]) ?_ 0 _ rfl; (with_reducible repeat (first | refine blk_drewN ?_ _ | refine blk_drew ?_ | refine blk_alloc ?_ _)); refine blk_far ?_ NB101_102.out _; (with_reducible repeat (first | refine blk_drewN ?_ _ | refine blk_drew ?_ | refine blk_alloc ?_ _)); refine blk_far ?_ NB101_102.out _; (with_reducible repeat (first | refine blk_drewN ?_ _ | refine blk_drew ?_ | refine blk_alloc ?_ _)); refine blk_far ?_ NB101_102.out _; exact blc) Tryd.underlying40 rfl (by kernel_rfl)) rfl ?_
  exact ⟨_, by first | rfl | (simp [errW_none, errW_some] <;> rfl) | (simp [*, errW_none, errW_some] <;> rfl), by first | exact Kd.R_nil _ _ _ _ _ | exact Kd.N_nil _ _ _ _ _ | exact Kd.V_nil _ _ _ _ _ | exact Kd.Q_nil _ _ _ _ _ | exact Kd.S_nil _ _ _ _ _, bel HB⟩
 ·rw [if_neg c2] at H
  have c2b0 : decide (42 < (a0.size : Int)) = false := decide_eq_false c2
  have c2b1 : decide (42 < a0.size) = false := decide_eq_false (by omega)
  clear c2
  have H' := Aside0.mk H
  clear H
  go_enter Tryd.func46, Tryd.ntmps46
  go_wp2_with (first | ((with_reducible refine gate_dst (N := 2) rfl ?_); refine boxE (N := 2) (cs := #[.int .i64 0, .int .i64 0, .slice none 0 0]) (t := 40) ?_; intro gb101 hg w8 hbox hb; have n0_ := Aside0.mk (below_step (bel HB) hb); have n1_ := Aside0.mk (hbox); have n2_ := Aside0.mk (gsz hg (bel HB)); have n3_ := Aside0.mk (gsz hg (bel HB)); clear HB; have HB := n0_; have BK101 := n1_; have GW101 := n2_; have GE101 := n3_; clear n0_ n1_ n2_ n3_; clear hb hbox hg) | ((with_reducible refine gate_dst (N := 4) rfl ?_); refine boxE (N := 4) (cs := #[.int .i64 0, .int .i64 0, .slice none 0 0]) (t := 40) ?_; intro gb102 hg w9 hbox hb; have n0_ := Aside0.mk (blk_below (g := gb101) (o := .cells #[.int .i64 0, .int .i64 0, .slice none 0 0] 40 (0, 0)) blc hb); have n1_ := Aside0.mk (below_step (bel HB) hb); have n2_ := Aside0.mk (hbox); have n3_ := Aside0.mk (gsz hg (bel HB)); have n4_ := Aside0.mk (gsz hg (bel HB)); have n5_ := Aside0.mk ((by rw [hg]; exact Nat.ne_of_lt (blk_lt (g := gb101) (o := .cells #[.int .i64 0, .int .i64 0, .slice none 0 0] 40 (0, 0)) blc) : gb101 ≠ gb102)); have n6_ := Aside0.mk ((by rw [hg]; exact Nat.ne_of_gt (blk_lt (g := gb101) (o := .cells #[.int .i64 0, .int .i64 0, .slice none 0 0] 40 (0, 0)) blc) : gb102 ≠ gb101)); clear BK101; clear HB; have BK101 := n0_; have HB := n1_; have BK102 := n2_; have GW102 := n3_; have GE102 := n4_; have NB101_102 := n5_; have NB102_101 := n6_; clear n0_ n1_ n2_ n3_ n4_ n5_ n6_; clear hb hbox hg; have hnb10 := NB102_101.out; have hnc10 := NB101_102.out; have hcz11_0 : w9.cell? ⟨gb102, 0, none⟩ = some (.int .i64 0) := (blk_cell BK102.out 0).trans rfl; have hcz11_1 : w9.cell? ⟨gb102, 1, none⟩ = some (.int .i64 0) := (blk_cell BK102.out 1).trans rfl; have hcz11_2 : w9.cell? ⟨gb102, 2, none⟩ = some (.slice none 0 0) := (blk_cell BK102.out 2).trans rfl; have hfz11_0 := blk_frozen BK102.out 0; have hfz11_1 := blk_frozen BK102.out 1; have hfz11_2 := blk_frozen BK102.out 2))
  go_loopg [5, 6] k (fun kq v5 v6 w' => ∃ (x5_1 : Int) (x6_1 : Int) (x102000_1 : Int) (x102001_1 : Int) (x103000_1 : Int) (x103001_1 : Int) (x103002_1 : List Int) (u103002 : Value), v5 = .int .i64 x5_1 ∧ v6 = .int .i64 x6_1 ∧ Aside0 (spec_tyRead.l0 kq a0 x5_1 x6_1 x103000_1 x103001_1 x103002_1 = some (r1, r2, r3, r4)) ∧ Aside0 (kq ≤ k) ∧ Aside0 (Kd.R (Kd.int .u8) 5 w' w.heap.size (fun _ => True) u103002 x103002_1) ∧ Aside0 (w'.heap[gb101]? = some (.cells #[.int .i64 x102000_1, .int .i64 x102001_1, (.slice none 0 0)] 40 (0, 0))) ∧ Aside0 (w'.heap[gb102]? = some (.cells #[.int .i64 x103000_1, .int .i64 x103001_1, u103002] 40 (0, 0))) ∧ Aside0 (Below w.heap.size w w'))
  case atStart => exact ⟨(0), (0), (0), (0), (0), (0), (([] : List Int)), (.slice none 0 0), (by first | rfl | (simp; done) | (simp [*]; done)), (by first | rfl | (simp; done) | (simp [*]; done)), H', ⟨Nat.le_refl _⟩, ⟨by first | exact Kd.R_nil _ _ _ _ _ | exact Kd.N_nil _ _ _ _ _ | exact Kd.V_nil _ _ _ _ _ | exact Kd.Q_nil _ _ _ _ _ | exact Kd.S_nil _ _ _ _ _⟩, ⟨by (with_reducible repeat (first | refine blk_drewN ?_ _ | refine blk_drew ?_ | refine blk_alloc ?_ _)); refine blk_far ?_ NB101_102.out _; (with_reducible repeat (first | refine blk_drewN ?_ _ | refine blk_drew ?_ | refine blk_alloc ?_ _)); refine blk_far ?_ NB101_102.out _; (with_reducible repeat (first | refine blk_drewN ?_ _ | refine blk_drew ?_ | refine blk_alloc ?_ _)); refine blk_far ?_ NB101_102.out _; exact blc⟩, ⟨by (with_reducible repeat (first | refine blk_drewN ?_ _ | refine blk_drew ?_ | refine blk_alloc ?_ _)); refine blk_put (cs := #[.int .i64 0, .int .i64 0, .slice none 0 0]) ?_ 2 _ rfl; (with_reducible repeat (first | refine blk_drewN ?_ _ | refine blk_drew ?_ | refine blk_alloc ?_ _)); refine blk_put (cs := #[.int .i64 0, .int .i64 0, .slice none 0 0]) ?_ 1 _ rfl; (with_reducible repeat (first | refine blk_drewN ?_ _ | refine blk_drew ?_ | refine blk_alloc ?_ _)); refine blk_put (cs := #[.int .i64 0, .int .i64 0, .slice none 0 0]) ?_ 0 _ rfl; exact blc⟩, ⟨bel HB⟩⟩
  case round =>
   clear H'
   try clear c1
   try clear c2
   try clear c2b0
   try clear c2b0y
   try clear c2b1
   try clear p2
   try clear c4
   try clear c5
   try clear c10
   try clear hcz11_0
   try clear hcz11_1
   try clear hcz11_2
   try clear hcz6_0
   try clear hcz6_1
   try clear hcz6_2
   try clear hcz7_0
   try clear hcz7_1
   try clear hcz7_2
   try clear hfz11_0
   try clear hfz11_1
   try clear hfz11_2
   try clear hfz6_0
   try clear hfz6_1
   try clear hfz6_2
   try clear hfz7_0
   try clear hfz7_1
   try clear hfz7_2
   obtain ⟨x5_1, x6_1, x102000_1, x102001_1, x103000_1, x103001_1, x103002_1, u103002, rfl, rfl, HA, HK1, HO_103002, BK101, BK102, HB⟩ := hrel
   cases gk with
   | zero => exact absurd HA.out (by simp [spec_tyRead.l0])
   | succ k1 =>
    have H := HA.out
    clear HA
    simp only [spec_tyRead.l0] at H
    by_cases c12 : x6_1 ≤ (a0.size : Int)
    ·rw [if_pos c12] at H
     have c12b0 : decide (x6_1 ≤ (a0.size : Int)) = true := decide_eq_true c12
     clear c12
     have HC13 := Aside0.mk H
     clear H
     go_upto_region 8 with (fail)
     go_cut [31] (fun v31 wc => ∃ (kq : Nat) (x31_12 : Bool), v31 = .bool x31_12 ∧ Aside0 (spec_tyRead.j1 kq a0 x5_1 x6_1 x31_12 x103000_1 x103001_1 x103002_1 = some (r1, r2, r3, r4)) ∧ Aside0 (kq ≤ k1) ∧ Aside0 (Kd.R (Kd.int .u8) 5 wc w.heap.size (fun _ => True) u103002 x103002_1) ∧ Aside0 (wc.heap[gb101]? = some (.cells #[.int .i64 x102000_1, .int .i64 x102001_1, (.slice none 0 0)] 40 (0, 0))) ∧ Aside0 (wc.heap[gb102]? = some (.cells #[.int .i64 x103000_1, .int .i64 x103001_1, u103002] 40 (0, 0))) ∧ Aside0 (Below w.heap.size w wc))
     case first =>
      have H := HC13.out
      clear HC13
      by_cases c14 : x6_1 < (a0.size : Int)
      ·rw [if_pos c14] at H
       have c14b0 : decide (x6_1 < (a0.size : Int)) = true := decide_eq_true c14
       clear c14
       (first | rw [c14b0] | (simp only [i64_w, i32_w]; rw [c14b0]) | skip)
       by_cases c15 : 0 ≤ x6_1
       ·rw [if_pos c15] at H
        have c15b0 : decide (0 ≤ x6_1) = true := decide_eq_true c15
        clear c15
        have H' := Aside0.mk H
        clear H
        have p16 : 0 ≤ (x6_1 : Int) := of_decide_eq_true (by first | (with_reducible assumption) | assumption)
        have q16 : x6_1 < (a0.size : Int) := of_decide_eq_true (by first | (with_reducible assumption) | assumption)
        have hx16 := bt_at a0 x6_1
        replace p16 := eq_true p16
        replace q16 := eq_true q16
        go_wp2
        go_meet
        case rel => exact ⟨_, (((bt a0 x6_1) != 47)), (by first | rfl | (simp; done) | (simp [*]; done)), H', ⟨by have := HK1.out; first | omega | exact Nat.le_refl _⟩, ⟨rch HO_103002⟩, ⟨blc⟩, ⟨blc⟩, ⟨bel HB⟩⟩
       ·rw [if_neg c15] at H
        exact absurd H (by simp)
      ·rw [if_neg c14] at H
       have c14b0 : decide (x6_1 < (a0.size : Int)) = false := decide_eq_false c14
       clear c14
       (first | rw [c14b0] | (simp only [i64_w, i32_w]; rw [c14b0]) | skip)
       have H' := Aside0.mk H
       clear H
       go_wp2
       go_meet
       case rel => exact ⟨_, (false), (by first | rfl | (simp; done) | (simp [*]; done)), H', ⟨by have := HK1.out; first | omega | exact Nat.le_refl _⟩, ⟨rch HO_103002⟩, ⟨blc⟩, ⟨blc⟩, ⟨bel HB⟩⟩
     case rest =>
      clear HC13
      try clear c1
      try clear p1
      try clear q1
      try clear hx1
      try clear c2
      try clear c2b0
      try clear c2b0y
      try clear c2b1
      try clear p2
      try clear c4
      try clear c5
      try clear c10
      try clear c12
      try clear c12b0
      try clear c12b0y
      try clear c14
      try clear c14b0
      try clear c14b0y
      try clear c15
      try clear c15b0
      try clear c15b0y
      try clear p16
      try clear q16
      try clear hx16
      try clear hcz11_0
      try clear hcz11_1
      try clear hcz11_2
      try clear hcz6_0
      try clear hcz6_1
      try clear hcz6_2
      try clear hcz7_0
      try clear hcz7_1
      try clear hcz7_2
      try clear hfz11_0
      try clear hfz11_1
      try clear hfz11_2
      try clear hfz6_0
      try clear hfz6_1
      try clear hfz6_2
      try clear hfz7_0
      try clear hfz7_1
      try clear hfz7_2
      try clear p16
      try clear p2
      try clear q16
      obtain ⟨kq, x31_12, rfl, HA, HJ12, HO_103002, BK101, BK102, HB⟩ := hcut
      cases kq with
      | zero => exact absurd HA.out (by simp [spec_tyRead.j1])
      | succ kj12 =>
       have H := HA.out
       clear HA
       simp only [spec_tyRead.j1] at H
       by_cases c17 : x31_12 = true
       ·subst c17
        have H1 : (if 0 ≤ x6_1 then (if x6_1 < (a0.size : Int) then ((spec_tyIs.f (bt a0 x6_1)).bind fun t103 => (if t103 = true then (if x103002_1.length < 140737488355328 then (spec_tyRead.l0 kj12 a0 (wrap64 (x5_1 + 1)) (wrap64 (x6_1 + 1)) x103000_1 x103001_1 (x103002_1 ++ [bt a0 x6_1])) else (none)) else (some (0, 0, ([] : List Int), false)))) else (none)) else (none)) = some (r1, r2, r3, r4) := by rw [if_pos rfl] at H; exact H
        clear H
        have H := H1
        clear H1
        by_cases c18 : 0 ≤ x6_1
        ·rw [if_pos c18] at H
         have c18b0 : decide (0 ≤ x6_1) = true := decide_eq_true c18
         clear c18
         by_cases c19 : x6_1 < (a0.size : Int)
         ·rw [if_pos c19] at H
          have c19b0 : decide (x6_1 < (a0.size : Int)) = true := decide_eq_true c19
          clear c19
          replace H := Option.bind_eq_some_iff.mp H
          obtain ⟨t103, A210, H⟩ := H
          replace H : (if t103 = true then (if x103002_1.length < 140737488355328 then (spec_tyRead.l0 kj12 a0 (wrap64 (x5_1 + 1)) (wrap64 (x6_1 + 1)) x103000_1 x103001_1 (x103002_1 ++ [bt a0 x6_1])) else (none)) else (some (0, 0, ([] : List Int), false))) = some (r1, r2, r3, r4) := H
          have A21 := Aside0.mk A210
          clear A210
          by_cases c22 : t103 = true
          ·subst c22
           have H1 : (if x103002_1.length < 140737488355328 then (spec_tyRead.l0 kj12 a0 (wrap64 (x5_1 + 1)) (wrap64 (x6_1 + 1)) x103000_1 x103001_1 (x103002_1 ++ [bt a0 x6_1])) else (none)) = some (r1, r2, r3, r4) := by rw [if_pos rfl] at H; exact H
           clear H
           have H := H1
           clear H1
           by_cases c24 : x103002_1.length < 140737488355328
           ·rw [if_pos c24] at H
            have LMc24 := Aside0.mk c24
            clear c24
            obtain ⟨y104, hy104⟩ : ∃ y_ : List Int, y_ = (x103002_1 ++ [bt a0 x6_1]) := ⟨_, rfl⟩
            replace H : (spec_tyRead.l0 kj12 a0 (wrap64 (x5_1 + 1)) (wrap64 (x6_1 + 1)) x103000_1 x103001_1 y104) = some (r1, r2, r3, r4) := rH hy104 H
            have Ny104 := Aside0.mk hy104
            clear hy104
            have H' := Aside0.mk H
            clear H
            have p20 : 0 ≤ (x6_1 : Int) := of_decide_eq_true (by first | (with_reducible assumption) | assumption)
            have q20 : x6_1 < (a0.size : Int) := of_decide_eq_true (by first | (with_reducible assumption) | assumption)
            have hx20 := bt_at a0 x6_1
            replace p20 := eq_true p20
            replace q20 := eq_true q20
            try go_wp2_with (first | ((with_reducible refine gate_callee (f := 83) rfl ?_); refine gcall (some 35) Tryd.func83 #[.int .u8 (bt a0 x6_1)] rfl ?_; (with_reducible refine (spec_tyIs.calls (bt a0 x6_1) true _ A21.out).mono ?_); rintro e w' ⟨rfl, ⟨nd, rfl⟩⟩; refine ⟨_, rfl, ?_⟩; (try (rw [drewN_self wc]; generalize hq_ : World.drewN wc _ = wc; have n0_ : Aside0 (Kd.R (Kd.int .u8) 5 wc w.heap.size (fun _ => True) u103002 x103002_1) := ⟨by rw [← hq_]; exact (rch HO_103002)⟩; have n1_ : Aside0 (wc.heap[gb101]? = some (.cells #[.int .i64 x102000_1, .int .i64 x102001_1, .slice none 0 0] 40 (0, 0))) := ⟨by rw [← hq_]; exact blc⟩; have n2_ : Aside0 (wc.heap[gb102]? = some (.cells #[.int .i64 x103000_1, .int .i64 x103001_1, u103002] 40 (0, 0))) := ⟨by rw [← hq_]; exact blc⟩; have n3_ : Aside0 (Below w.heap.size w wc) := ⟨by rw [← hq_]; exact (bel HB)⟩; clear HO_103002 BK101 BK102 HB hq_; have HO_103002 := n0_; have BK101 := n1_; have BK102 := n2_; have HB := n3_; clear n0_ n1_ n2_ n3_))))
            have n0_ := Aside0.mk (Kd.R_drew HO_103002.out)
            have n1_ := Aside0.mk (blk_drew BK101.out)
            have n2_ := Aside0.mk (blk_drew BK102.out)
            have n3_ := Aside0.mk (below_drew1 HB.out)
            clear HO_103002
            clear BK101
            clear BK102
            clear HB
            have HO_103002 := n0_
            have BK101 := n1_
            have BK102 := n2_
            have HB := n3_
            clear n0_ n1_ n2_ n3_
            have p23 : 0 ≤ (x6_1 : Int) := of_decide_eq_true (by first | (with_reducible assumption) | assumption)
            have q23 : x6_1 < (a0.size : Int) := of_decide_eq_true (by first | (with_reducible assumption) | assumption)
            have hx23 := bt_at a0 x6_1
            replace p23 := eq_true p23
            replace q23 := eq_true q23
            refine start_ (n := 9) (S := fun w' => w'.cell? ⟨gb102, 0, none⟩ = some (.int .i64 x103000_1) ∧ w'.cell? ⟨gb102, 1, none⟩ = some (.int .i64 x103001_1) ∧ w'.cell? ⟨gb102, 2, none⟩ = some (u103002)) (ds := [8]) #[false, false, false, false, false, false, false, false, false] (by kernel_rfl) rfl rfl ⟨(blk_cell BK102.out 0).trans rfl, (blk_cell BK102.out 1).trans rfl, (blk_cell BK102.out 2).trans rfl⟩ (fun hHeld => ?_); refine with_tabW spec_tyRead.tab11 spec_tyRead.bits11 (fun HT_ HW_ => ?_)
            generalize wc.drew = w25 at HO_103002 BK101 BK102 HB hHeld ⊢
            refine pure_ (i := 0) (N := some 38) (v := ?_) (a' := ?_) #[true, false, false, false, false, false, false, false, false] rfl rfl (any_of HT_.out (by kernel_rfl)) (fun _ _ _ h => h) (Or.inl ⟨by rfl, ?_⟩) ?_ ?_
            rotate_left
            ·intro w'
             go_simp
             with_reducible rfl
            rotate_left
            ·simp only [Act.put, List.setIfInBounds_toArray, List.set_cons_zero, List.set_cons_succ, i64_w, i32_w]
             rfl
            refine pure_ (i := 2) (N := some 40) (v := ?_) (a' := ?_) #[true, false, true, false, false, false, false, false, false] rfl rfl (any_of HT_.out (by kernel_rfl)) (fun _ _ _ h => h) (Or.inl ⟨by rfl, ?_⟩) ?_ ?_
            rotate_left
            ·intro w'
             go_simp
             with_reducible rfl
            rotate_left
            ·simp only [Act.put, List.setIfInBounds_toArray, List.set_cons_zero, List.set_cons_succ, i64_w, i32_w]
             rfl
            refine pure_ (i := 3) (N := some 41) (v := ?_) (a' := ?_) #[true, false, true, true, false, false, false, false, false] rfl rfl (any_of HT_.out (by kernel_rfl)) (fun _ _ _ h => h) (Or.inl ⟨by rfl, ?_⟩) ?_ ?_
            rotate_left
            ·intro w'
             go_simp
             with_reducible rfl
            rotate_left
            ·simp only [Act.put, List.setIfInBounds_toArray, List.set_cons_zero, List.set_cons_succ, i64_w, i32_w]
             rfl
            refine take_ (i := 1) (N := some 39) (v := ?_) (a' := ?_) #[true, true, true, true, false, false, false, false, false] rfl rfl (take_ofW HT_.out HW_.out (by kernel_rfl)) (fun _ _ _ h => h) (Or.inl ⟨by rfl, ?_⟩) hHeld ?_ ?_
            rotate_left
            ·rintro w' ⟨s0, s1, s2⟩
             go_simp
             with_reducible rfl
            rotate_left
            ·simp only [Act.put, List.setIfInBounds_toArray, List.set_cons_zero, List.set_cons_succ, i64_w, i32_w]
             rfl
            refine take_ (i := 4) (N := some 42) (v := ?_) (a' := ?_) #[true, true, true, true, true, false, false, false, false] rfl rfl (take_ofW HT_.out HW_.out (by kernel_rfl)) (fun _ _ _ h => h) (Or.inl ⟨by rfl, ?_⟩) hHeld ?_ ?_
            rotate_left
            ·rintro w' ⟨s0, s1, s2⟩
             go_simp
             with_reducible rfl
            rotate_left
            ·simp only [Act.put, List.setIfInBounds_toArray, List.set_cons_zero, List.set_cons_succ, i64_w, i32_w]
             rfl
            refine one_ (i := 5) (N := some 43) #[true, true, true, true, true, true, false, false, false] rfl rfl (one_of HT_.out (by kernel_rfl)) (by decide) (fun K hK => ?_)
            refine value_ (w1 := ?_) (v := ?_) (by rfl) rfl ?_ ?_
            rotate_left 2
            ·go_simp
             constructor
             ·rfl
             ·rfl
            refine hK.out _ _ ⟨(blk_cell (blk_alloc BK102.out _) 0).trans rfl, (blk_cell (blk_alloc BK102.out _) 1).trans rfl, (blk_cell (blk_alloc BK102.out _) 2).trans rfl⟩ (fun hHeld => ?_)
            clear hK K
            refine norm_ (a' := ?_) ?_ ?_
            rotate_left
            ·show Act.put _ (some 43) _ = _
             simp only [Act.put, List.setIfInBounds_toArray, List.set_cons_zero, List.set_cons_succ, i64_w, i32_w]
             rfl
            refine one_ (i := 6) (N := some 44) #[true, true, true, true, true, true, true, false, false] rfl rfl (one_of HT_.out (by kernel_rfl)) (by decide) (fun K hK => ?_)
            refine Kd.R_append_step (Kd.int .u8) (w0 := w) w.heap.size (by rfl) (.tmp 39) (.tmp 43) 38 5 (.int .u8 0) 1 rfl Tryd.underlying38 info5 rfl (by decide) (by omega) u103002 x103002_1 (bt a0 x6_1) [.int .u8 (bt a0 x6_1)] (fun _ => True) (fun _ => False) rfl rfl ?aP (fun _ hk => hk.elim) ?aF ?aO ?aB ?aS ?aL ?_
            (case aP => exact rfl)
            (case aB => exact (bel HB))
            (case aF => exact (fun _ _ => trivial))
            (case aO => exact (rch HO_103002))
            (case aS => exact (below_size (bel HB)))
            (case aL => have := LMc24.out; omega)
            intro v105 w26 ho hb hg hat
            rw [← Ny104.out] at ho
            have n0_ := Aside0.mk (blk_grown (g := gb101) (o := .cells #[.int .i64 x102000_1, .int .i64 x102001_1, .slice none 0 0] 40 (0, 0)) blc hg (Kd.R_ne HO_103002.out BK101.out (by decide)))
            have n1_ := Aside0.mk (blk_grown (g := gb102) (o := .cells #[.int .i64 x103000_1, .int .i64 x103001_1, u103002] 40 (0, 0)) blc hg (Kd.R_ne HO_103002.out BK102.out (by decide)))
            have n2_ := Aside0.mk (hb)
            have n3_ := Aside0.mk (ho)
            clear BK101
            clear BK102
            clear HB
            clear HO_103002
            have BK101 := n0_
            have BK102 := n1_
            have HB := n2_
            have HO106 := n3_
            clear n0_ n1_ n2_ n3_
            clear ho hb hg hat
            obtain ⟨Ao27, co27, eo27⟩ := Kd.R_slice HO106.out
            (first | subst eo27 | (injection eo27 with f1_ f2_ f3_; have f4_ := f1_.symm; have f5_ := f3_.symm; clear f1_ f2_ f3_; subst f4_; subst f5_))
            refine hK.out _ _ ⟨(blk_cell BK102.out 0).trans rfl, (blk_cell BK102.out 1).trans rfl, (blk_cell BK102.out 2).trans rfl⟩ (fun hHeld => ?_)
            clear hK K
            refine norm_ (a' := ?_) ?_ ?_
            rotate_left
            ·show Act.put _ (some 44) _ = _
             simp only [Act.put, List.setIfInBounds_toArray, List.set_cons_zero, List.set_cons_succ, i64_w, i32_w]
             rfl
            refine pure_ (i := 7) (N := some 45) (v := ?_) (a' := ?_) #[true, true, true, true, true, true, true, true, false] rfl rfl (any_of HT_.out (by kernel_rfl)) (fun _ _ _ h => h) (Or.inl ⟨by rfl, ?_⟩) ?_ ?_
            rotate_left
            ·intro w'
             go_simp
             with_reducible rfl
            rotate_left
            ·simp only [Act.put, List.setIfInBounds_toArray, List.set_cons_zero, List.set_cons_succ, i64_w, i32_w]
             rfl
            refine last_ (i := 8) (N := none) #[true, true, true, true, true, true, true, true, true] rfl rfl (one_of HT_.out (by kernel_rfl)) (by decide) (fun K hK => ?_)
            have hs28 : w26.cell? ⟨gb102, 2, none⟩ = some (u103002) := (blk_cell BK102.out 2).trans rfl
            have hfs28 := blk_frozen BK102.out 2
            have hns28_0 := NB101_102.out
            have hms28_0 := NB102_101.out
            refine skip_ (w1 := ?_) (by rfl) rfl ?_ ?_
            rotate_left
            ·go_simp
             rfl
            refine hK.out _ _ ?_
            clear hK K
            refine done_ (done_of HT_.out (by kernel_rfl)) ?_
            try go_wp2
            go_roundg kj12
            case measure => have := HK1.out; have := HJ12.out; omega
            case rel => exact ⟨(wrap64 (x5_1 + 1)), (wrap64 (x6_1 + 1)), (x102000_1), (x102001_1), (x103000_1), (x103001_1), (y104), (.slice Ao27 y104.length co27), (by first | rfl | (simp; done) | (simp [*]; done)), (by first | rfl | (simp; done) | (simp [*]; done)), H', ⟨by have := HK1.out; have := HJ12.out; omega⟩, ⟨by (with_reducible repeat (first | apply Kd.R_alloc | apply Kd.R_drewN | apply Kd.R_drew)); exact Kd.R_mono (Kd.R_far (p := ⟨gb102, 2, none⟩) (Kd.R_types HO106.out BK102.out (by decide)) (fun _ hk => hk.2) (.slice Ao27 y104.length co27)) (fun _ hk => trivial)⟩, ⟨by (with_reducible repeat (first | refine blk_drewN ?_ _ | refine blk_drew ?_ | refine blk_alloc ?_ _)); refine blk_far ?_ NB101_102.out _; exact blc⟩, ⟨by (with_reducible repeat (first | refine blk_drewN ?_ _ | refine blk_drew ?_ | refine blk_alloc ?_ _)); refine blk_put (cs := #[.int .i64 x103000_1, .int .i64 x103001_1, u103002]) ?_ 2 _ rfl; exact blc⟩, ⟨bel HB⟩⟩
           ·rw [if_neg c24] at H
            exact absurd H (by simp)
          ·replace c22 := Bool.eq_false_iff.mpr c22
           subst c22
           have H1 : (some (0, 0, ([] : List Int), false)) = some (r1, r2, r3, r4) := by rw [if_neg (show ¬ (false = true) by decide)] at H; exact H
           clear H
           have H := H1
           clear H1
           simp only [Option.some.injEq, Prod.mk.injEq] at H
           obtain ⟨rfl, rfl, rfl, rfl⟩ := H
           have p20 : 0 ≤ (x6_1 : Int) := of_decide_eq_true (by first | (with_reducible assumption) | assumption)
           have q20 : x6_1 < (a0.size : Int) := of_decide_eq_true (by first | (with_reducible assumption) | assumption)
           have hx20 := bt_at a0 x6_1
           replace p20 := eq_true p20
           replace q20 := eq_true q20
           go_wp2_with (first | ((with_reducible refine gate_callee (f := 83) rfl ?_); refine gcall (some 35) Tryd.func83 #[.int .u8 (bt a0 x6_1)] rfl ?_; (with_reducible refine (spec_tyIs.calls (bt a0 x6_1) false _ A21.out).mono ?_); rintro e w' ⟨rfl, ⟨nd, rfl⟩⟩; refine ⟨_, rfl, ?_⟩; (try (rw [drewN_self wc]; generalize hq_ : World.drewN wc _ = wc; have n0_ : Aside0 (Kd.R (Kd.int .u8) 5 wc w.heap.size (fun _ => True) u103002 x103002_1) := ⟨by rw [← hq_]; exact (rch HO_103002)⟩; have n1_ : Aside0 (wc.heap[gb101]? = some (.cells #[.int .i64 x102000_1, .int .i64 x102001_1, .slice none 0 0] 40 (0, 0))) := ⟨by rw [← hq_]; exact blc⟩; have n2_ : Aside0 (wc.heap[gb102]? = some (.cells #[.int .i64 x103000_1, .int .i64 x103001_1, u103002] 40 (0, 0))) := ⟨by rw [← hq_]; exact blc⟩; have n3_ : Aside0 (Below w.heap.size w wc) := ⟨by rw [← hq_]; exact (bel HB)⟩; clear HO_103002 BK101 BK102 HB hq_; have HO_103002 := n0_; have BK101 := n1_; have BK102 := n2_; have HB := n3_; clear n0_ n1_ n2_ n3_)); have hnb29 := NB101_102.out; have hnc29 := NB102_101.out; have hcz30_0 : wc.cell? ⟨gb101, 0, none⟩ = some (.int .i64 x102000_1) := (blk_cell BK101.out 0).trans rfl; have hcz30_1 : wc.cell? ⟨gb101, 1, none⟩ = some (.int .i64 x102001_1) := (blk_cell BK101.out 1).trans rfl; have hcz30_2 : wc.cell? ⟨gb101, 2, none⟩ = some (.slice none 0 0) := (blk_cell BK101.out 2).trans rfl; have hfz30_0 := blk_frozen BK101.out 0; have hfz30_1 := blk_frozen BK101.out 1; have hfz30_2 := blk_frozen BK101.out 2))
           refine bodyPost_ret (results_ct rfl _ _ gb101 40 #[.int .i64 0, .int .i64 0, .slice none 0 0] (0, 0) _ rfl (by (with_reducible repeat (first | refine blk_drewN ?_ _ | refine blk_drew ?_ | refine blk_alloc ?_ _)); refine blk_put (cs := #[.int .i64 0, .int .i64 0, .slice none 0 0]) ?_ 2 _ rfl; (with_reducible repeat (first | refine blk_drewN ?_ _ | refine blk_drew ?_ | refine blk_alloc ?_ _)); refine blk_put (cs := #[.int .i64 0, .int .i64 x102001_1, .slice none 0 0]) ?_ 1 _ rfl; (with_reducible repeat (first | refine blk_drewN ?_ _ | refine blk_drew ?_ | refine blk_alloc ?_ _)); refine blk_put (cs := #[.int .i64 x102000_1, .int .i64 x102001_1, .slice none 0 0]) ?_ 0 _ rfl; exact blc) Tryd.underlying40 rfl (by kernel_rfl)) rfl ?_
           exact ⟨_, by first | rfl | (simp [errW_none, errW_some] <;> rfl) | (simp [*, errW_none, errW_some] <;> rfl), by first | exact Kd.R_nil _ _ _ _ _ | exact Kd.N_nil _ _ _ _ _ | exact Kd.V_nil _ _ _ _ _ | exact Kd.Q_nil _ _ _ _ _ | exact Kd.S_nil _ _ _ _ _, bel HB⟩
         ·rw [if_neg c19] at H
          exact absurd H (by simp)
        ·rw [if_neg c18] at H
         exact absurd H (by simp)
       ·replace c17 := Bool.eq_false_iff.mpr c17
        subst c17
        have H1 : (if x103001_1 > 0 then (if x5_1 = x103000_1 then (if x5_1 = 0 then (some (0, 0, ([] : List Int), false)) else (spec_tyRead.l0 kj12 a0 0 (wrap64 (x6_1 + 1)) x5_1 (wrap64 (x103001_1 + 1)) x103002_1)) else (some (0, 0, ([] : List Int), false))) else (if x5_1 = 0 then (some (0, 0, ([] : List Int), false)) else (spec_tyRead.l0 kj12 a0 0 (wrap64 (x6_1 + 1)) x5_1 (wrap64 (x103001_1 + 1)) x103002_1))) = some (r1, r2, r3, r4) := by rw [if_neg (show ¬ (false = true) by decide)] at H; exact H
        clear H
        have H := H1
        clear H1
        by_cases c31 : x103001_1 > 0
        ·rw [if_pos c31] at H
         have c31b0 : decide (0 < x103001_1) = true := decide_eq_true c31
         clear c31
         by_cases c32 : x5_1 = x103000_1
         ·rw [if_pos c32] at H
          have c32b0 : (x5_1 == x103000_1) = true := beq_iff_eq.mpr c32
          have c32b1 : (x5_1 != x103000_1) = false := bne_eq_false_iff_eq.mpr c32
          clear c32
          by_cases c33 : x5_1 = 0
          ·rw [if_pos c33] at H
           have c33b0 : (x5_1 == 0) = true := beq_iff_eq.mpr c33
           have c33b1 : (x5_1 != 0) = false := bne_eq_false_iff_eq.mpr c33
           clear c33
           simp only [Option.some.injEq, Prod.mk.injEq] at H
           obtain ⟨rfl, rfl, rfl, rfl⟩ := H
           have hnb34 := NB102_101.out
           have hnc34 := NB101_102.out
           have hcz35_0 : wc.cell? ⟨gb102, 0, none⟩ = some (.int .i64 x103000_1) := (blk_cell BK102.out 0).trans rfl
           have hcz35_1 : wc.cell? ⟨gb102, 1, none⟩ = some (.int .i64 x103001_1) := (blk_cell BK102.out 1).trans rfl
           have hcz35_2 : wc.cell? ⟨gb102, 2, none⟩ = some (u103002) := (blk_cell BK102.out 2).trans rfl
           have hfz35_0 := blk_frozen BK102.out 0
           have hfz35_1 := blk_frozen BK102.out 1
           have hfz35_2 := blk_frozen BK102.out 2
           have hcz36_0 : wc.cell? ⟨gb101, 0, none⟩ = some (.int .i64 x102000_1) := (blk_cell BK101.out 0).trans rfl
           have hcz36_1 : wc.cell? ⟨gb101, 1, none⟩ = some (.int .i64 x102001_1) := (blk_cell BK101.out 1).trans rfl
           have hcz36_2 : wc.cell? ⟨gb101, 2, none⟩ = some (.slice none 0 0) := (blk_cell BK101.out 2).trans rfl
           have hfz36_0 := blk_frozen BK101.out 0
           have hfz36_1 := blk_frozen BK101.out 1
           have hfz36_2 := blk_frozen BK101.out 2
           go_wp2
           refine bodyPost_ret (results_ct rfl _ _ gb101 40 #[.int .i64 0, .int .i64 0, .slice none 0 0] (0, 0) _ rfl (by (with_reducible repeat (first | refine blk_drewN ?_ _ | refine blk_drew ?_ | refine blk_alloc ?_ _)); refine blk_put (cs := #[.int .i64 0, .int .i64 0, .slice none 0 0]) ?_ 2 _ rfl; (with_reducible repeat (first | refine blk_drewN ?_ _ | refine blk_drew ?_ | refine blk_alloc ?_ _)); refine blk_put (cs := #[.int .i64 0, .int .i64 x102001_1, .slice none 0 0]) ?_ 1 _ rfl; (with_reducible repeat (first | refine blk_drewN ?_ _ | refine blk_drew ?_ | refine blk_alloc ?_ _)); refine blk_put (cs := #[.int .i64 x102000_1, .int .i64 x102001_1, .slice none 0 0]) ?_ 0 _ rfl; exact blc) Tryd.underlying40 rfl (by kernel_rfl)) rfl ?_
           exact ⟨_, by first | rfl | (simp [errW_none, errW_some] <;> rfl) | (simp [*, errW_none, errW_some] <;> rfl), by first | exact Kd.R_nil _ _ _ _ _ | exact Kd.N_nil _ _ _ _ _ | exact Kd.V_nil _ _ _ _ _ | exact Kd.Q_nil _ _ _ _ _ | exact Kd.S_nil _ _ _ _ _, bel HB⟩
          ·rw [if_neg c33] at H
           have c33b0 : (x5_1 == 0) = false := beq_eq_false_iff_ne.mpr c33
           have c33b1 : (x5_1 != 0) = true := bne_iff_ne.mpr c33
           have H' := Aside0.mk H
           clear H
           have hnb37 := NB102_101.out
           have hnc37 := NB101_102.out
           have hcz38_0 : wc.cell? ⟨gb102, 0, none⟩ = some (.int .i64 x103000_1) := (blk_cell BK102.out 0).trans rfl
           have hcz38_1 : wc.cell? ⟨gb102, 1, none⟩ = some (.int .i64 x103001_1) := (blk_cell BK102.out 1).trans rfl
           have hcz38_2 : wc.cell? ⟨gb102, 2, none⟩ = some (u103002) := (blk_cell BK102.out 2).trans rfl
           have hfz38_0 := blk_frozen BK102.out 0
           have hfz38_1 := blk_frozen BK102.out 1
           have hfz38_2 := blk_frozen BK102.out 2
           go_wp2
           go_roundg kj12
           case measure => have := HK1.out; have := HJ12.out; omega
           case rel => exact ⟨(0), (wrap64 (x6_1 + 1)), (x102000_1), (x102001_1), (x5_1), (wrap64 (x103001_1 + 1)), (x103002_1), (u103002), (by first | rfl | (simp; done) | (simp [*]; done)), (by first | rfl | (simp; done) | (simp [*]; done)), H', ⟨by have := HK1.out; have := HJ12.out; omega⟩, ⟨by (with_reducible repeat (first | apply Kd.R_alloc | apply Kd.R_drewN | apply Kd.R_drew)); exact Kd.R_mono (Kd.R_far (p := ⟨gb102, 1, none⟩) (Kd.R_far (p := ⟨gb102, 0, none⟩) (Kd.R_types HO_103002.out BK102.out (by decide)) (fun _ hk => hk.2) (.int .i64 x5_1)) (fun _ hk => hk.2) (.int .i64 (wrap64 (x103001_1 + 1)))) (fun _ hk => trivial)⟩, ⟨by (with_reducible repeat (first | refine blk_drewN ?_ _ | refine blk_drew ?_ | refine blk_alloc ?_ _)); refine blk_far ?_ NB101_102.out _; (with_reducible repeat (first | refine blk_drewN ?_ _ | refine blk_drew ?_ | refine blk_alloc ?_ _)); refine blk_far ?_ NB101_102.out _; exact blc⟩, ⟨by (with_reducible repeat (first | refine blk_drewN ?_ _ | refine blk_drew ?_ | refine blk_alloc ?_ _)); refine blk_put (cs := #[.int .i64 x5_1, .int .i64 x103001_1, u103002]) ?_ 1 _ rfl; (with_reducible repeat (first | refine blk_drewN ?_ _ | refine blk_drew ?_ | refine blk_alloc ?_ _)); refine blk_put (cs := #[.int .i64 x103000_1, .int .i64 x103001_1, u103002]) ?_ 0 _ rfl; exact blc⟩, ⟨bel HB⟩⟩
         ·rw [if_neg c32] at H
          have c32b0 : (x5_1 == x103000_1) = false := beq_eq_false_iff_ne.mpr c32
          have c32b1 : (x5_1 != x103000_1) = true := bne_iff_ne.mpr c32
          simp only [Option.some.injEq, Prod.mk.injEq] at H
          obtain ⟨rfl, rfl, rfl, rfl⟩ := H
          have hnb39 := NB102_101.out
          have hnc39 := NB101_102.out
          have hcz40_0 : wc.cell? ⟨gb102, 0, none⟩ = some (.int .i64 x103000_1) := (blk_cell BK102.out 0).trans rfl
          have hcz40_1 : wc.cell? ⟨gb102, 1, none⟩ = some (.int .i64 x103001_1) := (blk_cell BK102.out 1).trans rfl
          have hcz40_2 : wc.cell? ⟨gb102, 2, none⟩ = some (u103002) := (blk_cell BK102.out 2).trans rfl
          have hfz40_0 := blk_frozen BK102.out 0
          have hfz40_1 := blk_frozen BK102.out 1
          have hfz40_2 := blk_frozen BK102.out 2
          have hcz41_0 : wc.cell? ⟨gb101, 0, none⟩ = some (.int .i64 x102000_1) := (blk_cell BK101.out 0).trans rfl
          have hcz41_1 : wc.cell? ⟨gb101, 1, none⟩ = some (.int .i64 x102001_1) := (blk_cell BK101.out 1).trans rfl
          have hcz41_2 : wc.cell? ⟨gb101, 2, none⟩ = some (.slice none 0 0) := (blk_cell BK101.out 2).trans rfl
          have hfz41_0 := blk_frozen BK101.out 0
          have hfz41_1 := blk_frozen BK101.out 1
          have hfz41_2 := blk_frozen BK101.out 2
          go_wp2
          refine bodyPost_ret (results_ct rfl _ _ gb101 40 #[.int .i64 0, .int .i64 0, .slice none 0 0] (0, 0) _ rfl (by (with_reducible repeat (first | refine blk_drewN ?_ _ | refine blk_drew ?_ | refine blk_alloc ?_ _)); refine blk_put (cs := #[.int .i64 0, .int .i64 0, .slice none 0 0]) ?_ 2 _ rfl; (with_reducible repeat (first | refine blk_drewN ?_ _ | refine blk_drew ?_ | refine blk_alloc ?_ _)); refine blk_put (cs := #[.int .i64 0, .int .i64 x102001_1, .slice none 0 0]) ?_ 1 _ rfl; (with_reducible repeat (first | refine blk_drewN ?_ _ | refine blk_drew ?_ | refine blk_alloc ?_ _)); refine blk_put (cs := #[.int .i64 x102000_1, .int .i64 x102001_1, .slice none 0 0]) ?_ 0 _ rfl; exact blc) Tryd.underlying40 rfl (by kernel_rfl)) rfl ?_
          exact ⟨_, by first | rfl | (simp [errW_none, errW_some] <;> rfl) | (simp [*, errW_none, errW_some] <;> rfl), by first | exact Kd.R_nil _ _ _ _ _ | exact Kd.N_nil _ _ _ _ _ | exact Kd.V_nil _ _ _ _ _ | exact Kd.Q_nil _ _ _ _ _ | exact Kd.S_nil _ _ _ _ _, bel HB⟩
        ·rw [if_neg c31] at H
         have c31b0 : decide (0 < x103001_1) = false := decide_eq_false c31
         clear c31
         by_cases c42 : x5_1 = 0
         ·rw [if_pos c42] at H
          have c42b0 : (x5_1 == 0) = true := beq_iff_eq.mpr c42
          have c42b1 : (x5_1 != 0) = false := bne_eq_false_iff_eq.mpr c42
          clear c42
          simp only [Option.some.injEq, Prod.mk.injEq] at H
          obtain ⟨rfl, rfl, rfl, rfl⟩ := H
          have hnb43 := NB102_101.out
          have hnc43 := NB101_102.out
          have hcz44_0 : wc.cell? ⟨gb102, 0, none⟩ = some (.int .i64 x103000_1) := (blk_cell BK102.out 0).trans rfl
          have hcz44_1 : wc.cell? ⟨gb102, 1, none⟩ = some (.int .i64 x103001_1) := (blk_cell BK102.out 1).trans rfl
          have hcz44_2 : wc.cell? ⟨gb102, 2, none⟩ = some (u103002) := (blk_cell BK102.out 2).trans rfl
          have hfz44_0 := blk_frozen BK102.out 0
          have hfz44_1 := blk_frozen BK102.out 1
          have hfz44_2 := blk_frozen BK102.out 2
          have hcz45_0 : wc.cell? ⟨gb101, 0, none⟩ = some (.int .i64 x102000_1) := (blk_cell BK101.out 0).trans rfl
          have hcz45_1 : wc.cell? ⟨gb101, 1, none⟩ = some (.int .i64 x102001_1) := (blk_cell BK101.out 1).trans rfl
          have hcz45_2 : wc.cell? ⟨gb101, 2, none⟩ = some (.slice none 0 0) := (blk_cell BK101.out 2).trans rfl
          have hfz45_0 := blk_frozen BK101.out 0
          have hfz45_1 := blk_frozen BK101.out 1
          have hfz45_2 := blk_frozen BK101.out 2
          go_wp2
          refine bodyPost_ret (results_ct rfl _ _ gb101 40 #[.int .i64 0, .int .i64 0, .slice none 0 0] (0, 0) _ rfl (by (with_reducible repeat (first | refine blk_drewN ?_ _ | refine blk_drew ?_ | refine blk_alloc ?_ _)); refine blk_put (cs := #[.int .i64 0, .int .i64 0, .slice none 0 0]) ?_ 2 _ rfl; (with_reducible repeat (first | refine blk_drewN ?_ _ | refine blk_drew ?_ | refine blk_alloc ?_ _)); refine blk_put (cs := #[.int .i64 0, .int .i64 x102001_1, .slice none 0 0]) ?_ 1 _ rfl; (with_reducible repeat (first | refine blk_drewN ?_ _ | refine blk_drew ?_ | refine blk_alloc ?_ _)); refine blk_put (cs := #[.int .i64 x102000_1, .int .i64 x102001_1, .slice none 0 0]) ?_ 0 _ rfl; exact blc) Tryd.underlying40 rfl (by kernel_rfl)) rfl ?_
          exact ⟨_, by first | rfl | (simp [errW_none, errW_some] <;> rfl) | (simp [*, errW_none, errW_some] <;> rfl), by first | exact Kd.R_nil _ _ _ _ _ | exact Kd.N_nil _ _ _ _ _ | exact Kd.V_nil _ _ _ _ _ | exact Kd.Q_nil _ _ _ _ _ | exact Kd.S_nil _ _ _ _ _, bel HB⟩
         ·rw [if_neg c42] at H
          have c42b0 : (x5_1 == 0) = false := beq_eq_false_iff_ne.mpr c42
          have c42b1 : (x5_1 != 0) = true := bne_iff_ne.mpr c42
          have H' := Aside0.mk H
          clear H
          have hnb46 := NB102_101.out
          have hnc46 := NB101_102.out
          have hcz47_0 : wc.cell? ⟨gb102, 0, none⟩ = some (.int .i64 x103000_1) := (blk_cell BK102.out 0).trans rfl
          have hcz47_1 : wc.cell? ⟨gb102, 1, none⟩ = some (.int .i64 x103001_1) := (blk_cell BK102.out 1).trans rfl
          have hcz47_2 : wc.cell? ⟨gb102, 2, none⟩ = some (u103002) := (blk_cell BK102.out 2).trans rfl
          have hfz47_0 := blk_frozen BK102.out 0
          have hfz47_1 := blk_frozen BK102.out 1
          have hfz47_2 := blk_frozen BK102.out 2
          go_wp2
          go_roundg kj12
          case measure => have := HK1.out; have := HJ12.out; omega
          case rel => exact ⟨(0), (wrap64 (x6_1 + 1)), (x102000_1), (x102001_1), (x5_1), (wrap64 (x103001_1 + 1)), (x103002_1), (u103002), (by first | rfl | (simp; done) | (simp [*]; done)), (by first | rfl | (simp; done) | (simp [*]; done)), H', ⟨by have := HK1.out; have := HJ12.out; omega⟩, ⟨by (with_reducible repeat (first | apply Kd.R_alloc | apply Kd.R_drewN | apply Kd.R_drew)); exact Kd.R_mono (Kd.R_far (p := ⟨gb102, 1, none⟩) (Kd.R_far (p := ⟨gb102, 0, none⟩) (Kd.R_types HO_103002.out BK102.out (by decide)) (fun _ hk => hk.2) (.int .i64 x5_1)) (fun _ hk => hk.2) (.int .i64 (wrap64 (x103001_1 + 1)))) (fun _ hk => trivial)⟩, ⟨by (with_reducible repeat (first | refine blk_drewN ?_ _ | refine blk_drew ?_ | refine blk_alloc ?_ _)); refine blk_far ?_ NB101_102.out _; (with_reducible repeat (first | refine blk_drewN ?_ _ | refine blk_drew ?_ | refine blk_alloc ?_ _)); refine blk_far ?_ NB101_102.out _; exact blc⟩, ⟨by (with_reducible repeat (first | refine blk_drewN ?_ _ | refine blk_drew ?_ | refine blk_alloc ?_ _)); refine blk_put (cs := #[.int .i64 x5_1, .int .i64 x103001_1, u103002]) ?_ 1 _ rfl; (with_reducible repeat (first | refine blk_drewN ?_ _ | refine blk_drew ?_ | refine blk_alloc ?_ _)); refine blk_put (cs := #[.int .i64 x103000_1, .int .i64 x103001_1, u103002]) ?_ 0 _ rfl; exact blc⟩, ⟨bel HB⟩⟩
    ·rw [if_neg c12] at H
     have c12b0 : decide (x6_1 ≤ (a0.size : Int)) = false := decide_eq_false c12
     clear c12
     have HC48 := Aside0.mk H
     clear H
     go_upto_region 18 with (fail)
     go_cut [81] (fun v81 wc => ∃ (kq : Nat) (x81_47 : Bool), v81 = .bool x81_47 ∧ Aside0 (spec_tyRead.j2 kq x81_47 x103000_1 x103001_1 x103002_1 = some (r1, r2, r3, r4)) ∧ Aside0 (kq ≤ k1) ∧ Aside0 (Kd.R (Kd.int .u8) 5 wc w.heap.size (fun _ => True) u103002 x103002_1) ∧ Aside0 (wc.heap[gb101]? = some (.cells #[.int .i64 x102000_1, .int .i64 x102001_1, (.slice none 0 0)] 40 (0, 0))) ∧ Aside0 (wc.heap[gb102]? = some (.cells #[.int .i64 x103000_1, .int .i64 x103001_1, u103002] 40 (0, 0))) ∧ Aside0 (Below w.heap.size w wc))
     case first =>
      have H := HC48.out
      clear HC48
      by_cases c49 : x103000_1 > 7
      ·rw [if_pos c49] at H
       have c49b0 : decide (7 < x103000_1) = true := decide_eq_true c49
       clear c49
       (first | rw [c49b0] | (simp only [i64_w, i32_w]; rw [c49b0]) | skip)
       have H' := Aside0.mk H
       clear H
       have hnb50 := NB102_101.out
       have hnc50 := NB101_102.out
       have hcz51_0 : wr.cell? ⟨gb102, 0, none⟩ = some (.int .i64 x103000_1) := (blk_cell BK102.out 0).trans rfl
       have hcz51_1 : wr.cell? ⟨gb102, 1, none⟩ = some (.int .i64 x103001_1) := (blk_cell BK102.out 1).trans rfl
       have hcz51_2 : wr.cell? ⟨gb102, 2, none⟩ = some (u103002) := (blk_cell BK102.out 2).trans rfl
       have hfz51_0 := blk_frozen BK102.out 0
       have hfz51_1 := blk_frozen BK102.out 1
       have hfz51_2 := blk_frozen BK102.out 2
       go_wp2
       go_meet
       case rel => exact ⟨_, (true), (by first | rfl | (simp; done) | (simp [*]; done)), H', ⟨by have := HK1.out; first | omega | exact Nat.le_refl _⟩, ⟨rch HO_103002⟩, ⟨blc⟩, ⟨blc⟩, ⟨bel HB⟩⟩
      ·rw [if_neg c49] at H
       have c49b0 : decide (7 < x103000_1) = false := decide_eq_false c49
       clear c49
       (first | rw [c49b0] | (simp only [i64_w, i32_w]; rw [c49b0]) | skip)
       by_cases c52 : x103001_1 > 7
       ·rw [if_pos c52] at H
        have c52b0 : decide (7 < x103001_1) = true := decide_eq_true c52
        clear c52
        have H' := Aside0.mk H
        clear H
        have hnb53 := NB102_101.out
        have hnc53 := NB101_102.out
        have hcz54_0 : wr.cell? ⟨gb102, 0, none⟩ = some (.int .i64 x103000_1) := (blk_cell BK102.out 0).trans rfl
        have hcz54_1 : wr.cell? ⟨gb102, 1, none⟩ = some (.int .i64 x103001_1) := (blk_cell BK102.out 1).trans rfl
        have hcz54_2 : wr.cell? ⟨gb102, 2, none⟩ = some (u103002) := (blk_cell BK102.out 2).trans rfl
        have hfz54_0 := blk_frozen BK102.out 0
        have hfz54_1 := blk_frozen BK102.out 1
        have hfz54_2 := blk_frozen BK102.out 2
        go_wp2
        go_meet
        case rel => exact ⟨_, (true), (by first | rfl | (simp; done) | (simp [*]; done)), H', ⟨by have := HK1.out; first | omega | exact Nat.le_refl _⟩, ⟨rch HO_103002⟩, ⟨blc⟩, ⟨blc⟩, ⟨bel HB⟩⟩
       ·rw [if_neg c52] at H
        have c52b0 : decide (7 < x103001_1) = false := decide_eq_false c52
        clear c52
        have H' := Aside0.mk H
        clear H
        have hnb55 := NB102_101.out
        have hnc55 := NB101_102.out
        have hcz56_0 : wr.cell? ⟨gb102, 0, none⟩ = some (.int .i64 x103000_1) := (blk_cell BK102.out 0).trans rfl
        have hcz56_1 : wr.cell? ⟨gb102, 1, none⟩ = some (.int .i64 x103001_1) := (blk_cell BK102.out 1).trans rfl
        have hcz56_2 : wr.cell? ⟨gb102, 2, none⟩ = some (u103002) := (blk_cell BK102.out 2).trans rfl
        have hfz56_0 := blk_frozen BK102.out 0
        have hfz56_1 := blk_frozen BK102.out 1
        have hfz56_2 := blk_frozen BK102.out 2
        obtain ⟨Ao57, co57, eo57⟩ := Kd.R_slice HO_103002.out
        subst eo57
        go_wp2
        go_meet
        case rel => exact ⟨_, (decide ((x103002_1.length : Int) > 36)), (by first | rfl | (simp; done) | (simp [*]; done)), H', ⟨by have := HK1.out; first | omega | exact Nat.le_refl _⟩, ⟨rch HO_103002⟩, ⟨blc⟩, ⟨blc⟩, ⟨bel HB⟩⟩
     case rest =>
      clear HC48
      try clear c1
      try clear p1
      try clear q1
      try clear hx1
      try clear c2
      try clear c2b0
      try clear c2b0y
      try clear c2b1
      try clear p2
      try clear q2
      try clear hx2
      try clear c3
      try clear c4
      try clear c5
      try clear p6
      try clear c8
      try clear c10
      try clear c12
      try clear c12b0
      try clear c12b0y
      try clear c14
      try clear c14b0
      try clear c14b0y
      try clear c15
      try clear c15b0
      try clear c15b0y
      try clear p16
      try clear q16
      try clear hx16
      try clear c17
      try clear c18
      try clear c18b0
      try clear c18b0y
      try clear c19
      try clear c19b0
      try clear c19b0y
      try clear p20
      try clear q20
      try clear hx20
      try clear c22
      try clear p23
      try clear q23
      try clear hx23
      try clear c24
      try clear c29
      try clear c31
      try clear c31b0
      try clear c31b0y
      try clear c32
      try clear c32b0
      try clear c32b0y
      try clear c32b1
      try clear c33
      try clear c33b0
      try clear c33b0y
      try clear c33b1
      try clear c34
      try clear c37
      try clear c39
      try clear c42
      try clear c42b0
      try clear c42b0y
      try clear c42b1
      try clear c43
      try clear c46
      try clear c49
      try clear c49b0
      try clear c49b0y
      try clear c50
      try clear c52
      try clear c52b0
      try clear c52b0y
      try clear c53
      try clear c55
      try clear hcz11_0
      try clear hcz11_1
      try clear hcz11_2
      try clear hcz30_0
      try clear hcz30_1
      try clear hcz30_2
      try clear hcz35_0
      try clear hcz35_1
      try clear hcz35_2
      try clear hcz36_0
      try clear hcz36_1
      try clear hcz36_2
      try clear hcz38_0
      try clear hcz38_1
      try clear hcz38_2
      try clear hcz40_0
      try clear hcz40_1
      try clear hcz40_2
      try clear hcz41_0
      try clear hcz41_1
      try clear hcz41_2
      try clear hcz44_0
      try clear hcz44_1
      try clear hcz44_2
      try clear hcz45_0
      try clear hcz45_1
      try clear hcz45_2
      try clear hcz47_0
      try clear hcz47_1
      try clear hcz47_2
      try clear hcz51_0
      try clear hcz51_1
      try clear hcz51_2
      try clear hcz54_0
      try clear hcz54_1
      try clear hcz54_2
      try clear hcz56_0
      try clear hcz56_1
      try clear hcz56_2
      try clear hcz6_0
      try clear hcz6_1
      try clear hcz6_2
      try clear hcz7_0
      try clear hcz7_1
      try clear hcz7_2
      try clear hfz11_0
      try clear hfz11_1
      try clear hfz11_2
      try clear hfz30_0
      try clear hfz30_1
      try clear hfz30_2
      try clear hfz35_0
      try clear hfz35_1
      try clear hfz35_2
      try clear hfz36_0
      try clear hfz36_1
      try clear hfz36_2
      try clear hfz38_0
      try clear hfz38_1
      try clear hfz38_2
      try clear hfz40_0
      try clear hfz40_1
      try clear hfz40_2
      try clear hfz41_0
      try clear hfz41_1
      try clear hfz41_2
      try clear hfz44_0
      try clear hfz44_1
      try clear hfz44_2
      try clear hfz45_0
      try clear hfz45_1
      try clear hfz45_2
      try clear hfz47_0
      try clear hfz47_1
      try clear hfz47_2
      try clear hfz51_0
      try clear hfz51_1
      try clear hfz51_2
      try clear hfz54_0
      try clear hfz54_1
      try clear hfz54_2
      try clear hfz56_0
      try clear hfz56_1
      try clear hfz56_2
      try clear hfz6_0
      try clear hfz6_1
      try clear hfz6_2
      try clear hfz7_0
      try clear hfz7_1
      try clear hfz7_2
      try clear p1
      try clear p16
      try clear p2
      try clear p20
      try clear p23
      try clear q1
      try clear q16
      try clear q20
      try clear q23
      obtain ⟨kq, x81_47, rfl, HA, HJ47, HO_103002, BK101, BK102, HB⟩ := hcut
      cases kq with
      | zero => exact absurd HA.out (by simp [spec_tyRead.j2])
      | succ kj47 =>
       have H := HA.out
       clear HA
       simp only [spec_tyRead.j2] at H
       by_cases c58 : x81_47 = true
       ·subst c58
        have H1 : (some (0, 0, ([] : List Int), false)) = some (r1, r2, r3, r4) := by rw [if_pos rfl] at H; exact H
        clear H
        have H := H1
        clear H1
        simp only [Option.some.injEq, Prod.mk.injEq] at H
        obtain ⟨rfl, rfl, rfl, rfl⟩ := H
        have hnb59 := NB101_102.out
        have hnc59 := NB102_101.out
        have hcz60_0 : wc.cell? ⟨gb101, 0, none⟩ = some (.int .i64 x102000_1) := (blk_cell BK101.out 0).trans rfl
        have hcz60_1 : wc.cell? ⟨gb101, 1, none⟩ = some (.int .i64 x102001_1) := (blk_cell BK101.out 1).trans rfl
        have hcz60_2 : wc.cell? ⟨gb101, 2, none⟩ = some (.slice none 0 0) := (blk_cell BK101.out 2).trans rfl
        have hfz60_0 := blk_frozen BK101.out 0
        have hfz60_1 := blk_frozen BK101.out 1
        have hfz60_2 := blk_frozen BK101.out 2
        go_wp2
        refine bodyPost_ret (results_ct rfl _ _ gb101 40 #[.int .i64 0, .int .i64 0, .slice none 0 0] (0, 0) _ rfl (by (with_reducible repeat (first | refine blk_drewN ?_ _ | refine blk_drew ?_ | refine blk_alloc ?_ _)); refine blk_put (cs := #[.int .i64 0, .int .i64 0, .slice none 0 0]) ?_ 2 _ rfl; (with_reducible repeat (first | refine blk_drewN ?_ _ | refine blk_drew ?_ | refine blk_alloc ?_ _)); refine blk_put (cs := #[.int .i64 0, .int .i64 x102001_1, .slice none 0 0]) ?_ 1 _ rfl; (with_reducible repeat (first | refine blk_drewN ?_ _ | refine blk_drew ?_ | refine blk_alloc ?_ _)); refine blk_put (cs := #[.int .i64 x102000_1, .int .i64 x102001_1, .slice none 0 0]) ?_ 0 _ rfl; exact blc) Tryd.underlying40 rfl (by kernel_rfl)) rfl ?_
        exact ⟨_, by first | rfl | (simp [errW_none, errW_some] <;> rfl) | (simp [*, errW_none, errW_some] <;> rfl), by first | exact Kd.R_nil _ _ _ _ _ | exact Kd.N_nil _ _ _ _ _ | exact Kd.V_nil _ _ _ _ _ | exact Kd.Q_nil _ _ _ _ _ | exact Kd.S_nil _ _ _ _ _, bel HB⟩
       ·replace c58 := Bool.eq_false_iff.mpr c58
        subst c58
        have H1 : (spec_tyRead.l1 kj47 x103002_1 (x103002_1.length : Int) 0 x103000_1 x103001_1 x103002_1) = some (r1, r2, r3, r4) := by rw [if_neg (show ¬ (false = true) by decide)] at H; exact H
        clear H
        have H := H1
        clear H1
        have H' := Aside0.mk H
        clear H
        have hnb61 := NB102_101.out
        have hnc61 := NB101_102.out
        have hcz62_0 : wc.cell? ⟨gb102, 0, none⟩ = some (.int .i64 x103000_1) := (blk_cell BK102.out 0).trans rfl
        have hcz62_1 : wc.cell? ⟨gb102, 1, none⟩ = some (.int .i64 x103001_1) := (blk_cell BK102.out 1).trans rfl
        have hcz62_2 : wc.cell? ⟨gb102, 2, none⟩ = some (u103002) := (blk_cell BK102.out 2).trans rfl
        have hfz62_0 := blk_frozen BK102.out 0
        have hfz62_1 := blk_frozen BK102.out 1
        have hfz62_2 := blk_frozen BK102.out 2
        obtain ⟨Ao63, co63, eo63⟩ := Kd.R_slice HO_103002.out
        subst eo63
        go_wp2
        go_loopg [86] kj47 (fun kq v86 w' => ∃ (x86_3 : Int) (x102000_3 : Int) (x102001_3 : Int), v86 = .int .i64 x86_3 ∧ Aside0 (spec_tyRead.l1 kq x103002_1 (x103002_1.length : Int) x86_3 x103000_1 x103001_1 x103002_1 = some (r1, r2, r3, r4)) ∧ Aside0 (kq ≤ kj47) ∧ Aside0 (Kd.R (Kd.int .u8) 5 w' w.heap.size (fun _ => True) (.slice Ao63 x103002_1.length co63) x103002_1) ∧ Aside0 (Kd.R (Kd.int .u8) 5 w' w.heap.size (fun _ => True) (.slice Ao63 x103002_1.length co63) x103002_1) ∧ Aside0 (w'.heap[gb101]? = some (.cells #[.int .i64 x102000_3, .int .i64 x102001_3, (.slice none 0 0)] 40 (0, 0))) ∧ Aside0 (w'.heap[gb102]? = some (.cells #[.int .i64 x103000_1, .int .i64 x103001_1, (.slice Ao63 x103002_1.length co63)] 40 (0, 0))) ∧ Aside0 (Below w.heap.size w w'))
        case atStart => exact ⟨(0), (x102000_1), (x102001_1), (by first | rfl | (simp; done) | (simp [*]; done)), H', ⟨Nat.le_refl _⟩, ⟨rch HO_103002⟩, ⟨rch HO_103002⟩, ⟨blc⟩, ⟨blc⟩, ⟨bel HB⟩⟩
        case round =>
         clear H'
         try clear c1
         try clear p1
         try clear q1
         try clear hx1
         try clear c2
         try clear c2b0
         try clear c2b0y
         try clear c2b1
         try clear p2
         try clear q2
         try clear hx2
         try clear c3
         try clear c4
         try clear c5
         try clear c6
         try clear p6
         try clear c8
         try clear c10
         try clear c12
         try clear c12b0
         try clear c12b0y
         try clear c14
         try clear c14b0
         try clear c14b0y
         try clear c15
         try clear c15b0
         try clear c15b0y
         try clear p16
         try clear q16
         try clear hx16
         try clear c17
         try clear c18
         try clear c18b0
         try clear c18b0y
         try clear c19
         try clear c19b0
         try clear c19b0y
         try clear p20
         try clear q20
         try clear hx20
         try clear c22
         try clear p23
         try clear q23
         try clear hx23
         try clear c24
         try clear c29
         try clear c31
         try clear c31b0
         try clear c31b0y
         try clear c32
         try clear c32b0
         try clear c32b0y
         try clear c32b1
         try clear c33
         try clear c33b0
         try clear c33b0y
         try clear c33b1
         try clear c34
         try clear c37
         try clear c39
         try clear c42
         try clear c42b0
         try clear c42b0y
         try clear c42b1
         try clear c43
         try clear c46
         try clear c49
         try clear c49b0
         try clear c49b0y
         try clear c50
         try clear c52
         try clear c52b0
         try clear c52b0y
         try clear c53
         try clear c55
         try clear c58
         try clear c59
         try clear c61
         try clear hcz11_0
         try clear hcz11_1
         try clear hcz11_2
         try clear hcz30_0
         try clear hcz30_1
         try clear hcz30_2
         try clear hcz35_0
         try clear hcz35_1
         try clear hcz35_2
         try clear hcz36_0
         try clear hcz36_1
         try clear hcz36_2
         try clear hcz38_0
         try clear hcz38_1
         try clear hcz38_2
         try clear hcz40_0
         try clear hcz40_1
         try clear hcz40_2
         try clear hcz41_0
         try clear hcz41_1
         try clear hcz41_2
         try clear hcz44_0
         try clear hcz44_1
         try clear hcz44_2
         try clear hcz45_0
         try clear hcz45_1
         try clear hcz45_2
         try clear hcz47_0
         try clear hcz47_1
         try clear hcz47_2
         try clear hcz51_0
         try clear hcz51_1
         try clear hcz51_2
         try clear hcz54_0
         try clear hcz54_1
         try clear hcz54_2
         try clear hcz56_0
         try clear hcz56_1
         try clear hcz56_2
         try clear hcz60_0
         try clear hcz60_1
         try clear hcz60_2
         try clear hcz62_0
         try clear hcz62_1
         try clear hcz62_2
         try clear hcz6_0
         try clear hcz6_1
         try clear hcz6_2
         try clear hcz7_0
         try clear hcz7_1
         try clear hcz7_2
         try clear hfz11_0
         try clear hfz11_1
         try clear hfz11_2
         try clear hfz30_0
         try clear hfz30_1
         try clear hfz30_2
         try clear hfz35_0
         try clear hfz35_1
         try clear hfz35_2
         try clear hfz36_0
         try clear hfz36_1
         try clear hfz36_2
         try clear hfz38_0
         try clear hfz38_1
         try clear hfz38_2
         try clear hfz40_0
         try clear hfz40_1
         try clear hfz40_2
         try clear hfz41_0
         try clear hfz41_1
         try clear hfz41_2
         try clear hfz44_0
         try clear hfz44_1
         try clear hfz44_2
         try clear hfz45_0
         try clear hfz45_1
         try clear hfz45_2
         try clear hfz47_0
         try clear hfz47_1
         try clear hfz47_2
         try clear hfz51_0
         try clear hfz51_1
         try clear hfz51_2
         try clear hfz54_0
         try clear hfz54_1
         try clear hfz54_2
         try clear hfz56_0
         try clear hfz56_1
         try clear hfz56_2
         try clear hfz60_0
         try clear hfz60_1
         try clear hfz60_2
         try clear hfz62_0
         try clear hfz62_1
         try clear hfz62_2
         try clear hfz6_0
         try clear hfz6_1
         try clear hfz6_2
         try clear hfz7_0
         try clear hfz7_1
         try clear hfz7_2
         try clear p1
         try clear p16
         try clear p2
         try clear p20
         try clear p23
         try clear p6
         try clear q1
         try clear q16
         try clear q2
         try clear q20
         try clear q23
         obtain ⟨x86_3, x102000_3, x102001_3, rfl, HA, HK3, HO_84, HO_103002, BK101, BK102, HB⟩ := hrel
         cases gk with
         | zero => exact absurd HA.out (by simp [spec_tyRead.l1])
         | succ k3 =>
          have H := HA.out
          clear HA
          simp only [spec_tyRead.l1] at H
          by_cases c64 : x86_3 < (x103002_1.length : Int)
          ·rw [if_pos c64] at H
           have c64b0 : decide (x86_3 < (x103002_1.length : Int)) = true := decide_eq_true c64
           clear c64
           by_cases c65 : 0 ≤ x86_3
           ·rw [if_pos c65] at H
            have c65b0 : decide (0 ≤ x86_3) = true := decide_eq_true c65
            clear c65
            by_cases c66 : x86_3 < (x103002_1.length : Int)
            ·rw [if_pos c66] at H
             have c66b0 : decide (x86_3 < (x103002_1.length : Int)) = true := decide_eq_true c66
             clear c66
             have c67b0 := eq_true (of_decide_eq_true (by first | (with_reducible assumption) | assumption) : 0 ≤ x86_3)
             by_cases c68 : x86_3 ≤ (x103002_1.length : Int)
             ·rw [if_pos c68] at H
              have c68b0 := eq_true c68
              have c68b1 : decide (x86_3 ≤ (x103002_1.length : Int)) = true := decide_eq_true c68
              clear c68
              obtain ⟨y108, hy108⟩ : ∃ y_ : List Int, y_ = (x103002_1.take (x86_3 : Int).toNat) := ⟨_, rfl⟩
              replace H : (spec_tyRead.l2 k3 (rd x103002_1 x86_3) x103002_1 (x103002_1.length : Int) x86_3 y108 (y108.length : Int) 0 x103000_1 x103001_1 x103002_1) = some (r1, r2, r3, r4) := rH hy108 H
              have Ny108 := Aside0.mk hy108
              clear hy108
              have H' := Aside0.mk H
              clear H
              have p107 : 0 ≤ (x86_3 : Int) := of_decide_eq_true (by first | (with_reducible assumption) | assumption)
              have q107 : x86_3 < (x103002_1.length : Int) := of_decide_eq_true (by first | (with_reducible assumption) | assumption)
              obtain ⟨ad107, e107, hx107_0⟩ := Kd.at_int (Kd.R_reads' HO_84.out).2.2 x86_3 p107 q107
              cases e107
              replace p107 := eq_true p107
              replace q107 := eq_true q107
              have hnb69 := NB102_101.out
              have hnc69 := NB101_102.out
              have hcz70_0 : wr.cell? ⟨gb102, 0, none⟩ = some (.int .i64 x103000_1) := (blk_cell BK102.out 0).trans rfl
              have hcz70_1 : wr.cell? ⟨gb102, 1, none⟩ = some (.int .i64 x103001_1) := (blk_cell BK102.out 1).trans rfl
              have hcz70_2 : wr.cell? ⟨gb102, 2, none⟩ = some (.slice (some ad107) x103002_1.length co63) := (blk_cell BK102.out 2).trans rfl
              have hfz70_0 := blk_frozen BK102.out 0
              have hfz70_1 := blk_frozen BK102.out 1
              have hfz70_2 := blk_frozen BK102.out 2
              have q71 : (x86_3 : Int) ≤ ((x103002_1.length : Int) : Int) := of_decide_eq_true (by first | (with_reducible assumption) | assumption)
              obtain ⟨i071, hi071, _, hsz71, _⟩ := info_parts info5
              have hroom71 : x103002_1.length ≤ co63 := (Kd.R_reads' HO_103002.out).2.1
              have hC71 : Kd.C (Kd.int .u8) _ (some ad107) x103002_1.length x103002_1 := (Kd.R_reads' HO_103002.out).2.2
              have hcut71 := cut_to (P := Tryd.prog) 38 5 .i64 Tryd.underlying38 hi071 (some ad107) x103002_1.length co63 x86_3 (of_decide_eq_true (by first | (with_reducible assumption) | assumption)) q71 hroom71
              have hr71 := Kd.C_take (m := (x86_3 : Int).toNat) hC71 (by omega)
              have hy71 : y108.length = (x86_3 : Int).toNat := (by rw [Ny108.out, List.length_take]; omega)
              rw [← Ny108.out] at hr71
              rw [← hy71] at hcut71
              have HR111 := Aside0.mk hr71
              have HC111 := Aside0.mk (show y108.length ≤ co63 from by omega)
              clear hr71 hC71 hroom71 hi071 hsz71
              have KY71 := Aside0.mk hy71
              clear hy71
              have KL71 := Aside0.mk (show (x86_3 : Int).toNat ≤ x103002_1.length from by omega)
              replace q71 := eq_true q71
              go_wp2
              go_loopg [96] k3 (fun kq v96 w' => ∃ (x96_4 : Int) (x102000_4 : Int) (x102001_4 : Int), v96 = .int .i64 x96_4 ∧ Aside0 (spec_tyRead.l2 kq (rd x103002_1 x86_3) x103002_1 (x103002_1.length : Int) x86_3 y108 (y108.length : Int) x96_4 x103000_1 x103001_1 x103002_1 = some (r1, r2, r3, r4)) ∧ Aside0 (kq ≤ k3) ∧ Aside0 (Kd.R (Kd.int .u8) 5 w' w.heap.size (fun _ => True) (.slice (some ad107) x103002_1.length co63) x103002_1) ∧ Aside0 (Kd.R (Kd.int .u8) 5 w' w.heap.size (fun _ => True) (.slice (some ad107) x103002_1.length co63) x103002_1) ∧ Aside0 (w'.heap[gb101]? = some (.cells #[.int .i64 x102000_4, .int .i64 x102001_4, (.slice none 0 0)] 40 (0, 0))) ∧ Aside0 (w'.heap[gb102]? = some (.cells #[.int .i64 x103000_1, .int .i64 x103001_1, (.slice (some ad107) x103002_1.length co63)] 40 (0, 0))) ∧ Aside0 (Kd.C (Kd.int .u8) w' (some ad107) y108.length y108) ∧ Aside0 (Below w.heap.size w w'))
              case atStart => exact ⟨(0), (x102000_3), (x102001_3), (by first | rfl | (simp; done) | (simp [*]; done)), H', ⟨Nat.le_refl _⟩, ⟨rch HO_84⟩, ⟨rch HO_103002⟩, ⟨blc⟩, ⟨blc⟩, ⟨by repeat (first | (with_reducible exact HR111.out) | (with_reducible refine Kd.C_alloc ?_ _) | (with_reducible refine Kd.C_drewN ?_ _) | (with_reducible refine Kd.C_drew ?_) | exact HR111.out)⟩, ⟨bel HB⟩⟩
              case round =>
               clear H'
               try clear c1
               try clear p1
               try clear q1
               try clear hx1
               try clear c2
               try clear c2b0
               try clear c2b0y
               try clear c2b1
               try clear p2
               try clear q2
               try clear hx2
               try clear c3
               try clear c4
               try clear c5
               try clear c6
               try clear p6
               try clear q7
               try clear c8
               try clear c10
               try clear p10
               try clear q10
               try clear hx10
               try clear c12
               try clear c12b0
               try clear c12b0y
               try clear c14
               try clear c14b0
               try clear c14b0y
               try clear c15
               try clear c15b0
               try clear c15b0y
               try clear p16
               try clear q16
               try clear hx16
               try clear c17
               try clear c18
               try clear c18b0
               try clear c18b0y
               try clear c19
               try clear c19b0
               try clear c19b0y
               try clear p20
               try clear q20
               try clear hx20
               try clear c22
               try clear p23
               try clear q23
               try clear hx23
               try clear c24
               try clear c29
               try clear c31
               try clear c31b0
               try clear c31b0y
               try clear c32
               try clear c32b0
               try clear c32b0y
               try clear c32b1
               try clear c33
               try clear c33b0
               try clear c33b0y
               try clear c33b1
               try clear c34
               try clear c37
               try clear c39
               try clear c42
               try clear c42b0
               try clear c42b0y
               try clear c42b1
               try clear c43
               try clear c46
               try clear c49
               try clear c49b0
               try clear c49b0y
               try clear c50
               try clear c52
               try clear c52b0
               try clear c52b0y
               try clear c53
               try clear c55
               try clear c58
               try clear c59
               try clear c61
               try clear c64
               try clear c64b0
               try clear c64b0y
               try clear p64
               try clear c65
               try clear c65b0
               try clear c65b0y
               try clear c66
               try clear c66b0
               try clear c66b0y
               try clear c67
               try clear c67b0
               try clear c67b0y
               try clear c68
               try clear c68b0
               try clear c68b0y
               try clear c68b1
               try clear c69
               try clear q71
               try clear hcz11_0
               try clear hcz11_1
               try clear hcz11_2
               try clear hcz30_0
               try clear hcz30_1
               try clear hcz30_2
               try clear hcz35_0
               try clear hcz35_1
               try clear hcz35_2
               try clear hcz36_0
               try clear hcz36_1
               try clear hcz36_2
               try clear hcz38_0
               try clear hcz38_1
               try clear hcz38_2
               try clear hcz40_0
               try clear hcz40_1
               try clear hcz40_2
               try clear hcz41_0
               try clear hcz41_1
               try clear hcz41_2
               try clear hcz44_0
               try clear hcz44_1
               try clear hcz44_2
               try clear hcz45_0
               try clear hcz45_1
               try clear hcz45_2
               try clear hcz47_0
               try clear hcz47_1
               try clear hcz47_2
               try clear hcz51_0
               try clear hcz51_1
               try clear hcz51_2
               try clear hcz54_0
               try clear hcz54_1
               try clear hcz54_2
               try clear hcz56_0
               try clear hcz56_1
               try clear hcz56_2
               try clear hcz60_0
               try clear hcz60_1
               try clear hcz60_2
               try clear hcz62_0
               try clear hcz62_1
               try clear hcz62_2
               try clear hcz6_0
               try clear hcz6_1
               try clear hcz6_2
               try clear hcz70_0
               try clear hcz70_1
               try clear hcz70_2
               try clear hcz7_0
               try clear hcz7_1
               try clear hcz7_2
               try clear hfz11_0
               try clear hfz11_1
               try clear hfz11_2
               try clear hfz30_0
               try clear hfz30_1
               try clear hfz30_2
               try clear hfz35_0
               try clear hfz35_1
               try clear hfz35_2
               try clear hfz36_0
               try clear hfz36_1
               try clear hfz36_2
               try clear hfz38_0
               try clear hfz38_1
               try clear hfz38_2
               try clear hfz40_0
               try clear hfz40_1
               try clear hfz40_2
               try clear hfz41_0
               try clear hfz41_1
               try clear hfz41_2
               try clear hfz44_0
               try clear hfz44_1
               try clear hfz44_2
               try clear hfz45_0
               try clear hfz45_1
               try clear hfz45_2
               try clear hfz47_0
               try clear hfz47_1
               try clear hfz47_2
               try clear hfz51_0
               try clear hfz51_1
               try clear hfz51_2
               try clear hfz54_0
               try clear hfz54_1
               try clear hfz54_2
               try clear hfz56_0
               try clear hfz56_1
               try clear hfz56_2
               try clear hfz60_0
               try clear hfz60_1
               try clear hfz60_2
               try clear hfz62_0
               try clear hfz62_1
               try clear hfz62_2
               try clear hfz6_0
               try clear hfz6_1
               try clear hfz6_2
               try clear hfz70_0
               try clear hfz70_1
               try clear hfz70_2
               try clear hfz7_0
               try clear hfz7_1
               try clear hfz7_2
               try clear hx107_0
               try clear p1
               try clear p107
               try clear p16
               try clear p2
               try clear p20
               try clear p23
               try clear p6
               try clear q1
               try clear q107
               try clear q16
               try clear q2
               try clear q20
               try clear q23
               try clear q71
               obtain ⟨x96_4, x102000_4, x102001_4, rfl, HA, HK4, HO_84, HO_103002, BK101, BK102, HR111, HB⟩ := hrel
               cases gk with
               | zero => exact absurd HA.out (by simp [spec_tyRead.l2])
               | succ k4 =>
                have H := HA.out
                clear HA
                simp only [spec_tyRead.l2] at H
                by_cases c72 : x96_4 < (y108.length : Int)
                ·rw [if_pos c72] at H
                 have c72b0 : decide (x96_4 < (y108.length : Int)) = true := decide_eq_true c72
                 clear c72
                 by_cases c73 : 0 ≤ x96_4
                 ·rw [if_pos c73] at H
                  have c73b0 : decide (0 ≤ x96_4) = true := decide_eq_true c73
                  clear c73
                  by_cases c74 : x96_4 < (y108.length : Int)
                  ·rw [if_pos c74] at H
                   have c74b0 : decide (x96_4 < (y108.length : Int)) = true := decide_eq_true c74
                   clear c74
                   by_cases c75 : (rd x103002_1 x86_3) = (rd y108 x96_4)
                   ·rw [if_pos c75] at H
                    have c75b0 : ((rd x103002_1 x86_3) == (rd y108 x96_4)) = true := beq_iff_eq.mpr c75
                    have c75b1 : ((rd x103002_1 x86_3) != (rd y108 x96_4)) = false := bne_eq_false_iff_eq.mpr c75
                    clear c75
                    by_cases c76 : (rd x103002_1 x86_3) ≥ 97
                    ·rw [if_pos c76] at H
                     have c76b0 : decide (97 ≤ (rd x103002_1 x86_3)) = true := decide_eq_true c76
                     clear c76
                     by_cases c77 : (rd x103002_1 x86_3) ≤ 102
                     ·rw [if_pos c77] at H
                      have c77b0 : decide ((rd x103002_1 x86_3) ≤ 102) = true := decide_eq_true c77
                      clear c77
                      simp only [Option.some.injEq, Prod.mk.injEq] at H
                      obtain ⟨rfl, rfl, rfl, rfl⟩ := H
                      have p112 : 0 ≤ (x96_4 : Int) := of_decide_eq_true (by first | (with_reducible assumption) | assumption)
                      have q112 : x96_4 < (y108.length : Int) := of_decide_eq_true (by first | (with_reducible assumption) | assumption)
                      obtain ⟨ad112, e112, hx112_0⟩ := Kd.at_int HR111.out x96_4 p112 q112
                      obtain rfl : ad107 = ad112 := (by injection e112)
                      (try replace hx112_0 := (HB.out.cell (World.block_lt_of_cell? w _ hx112_0)).trans hx112_0)
                      replace p112 := eq_true p112
                      replace q112 := eq_true q112
                      have hnb78 := NB101_102.out
                      have hnc78 := NB102_101.out
                      have hcz79_0 : wr.cell? ⟨gb101, 0, none⟩ = some (.int .i64 x102000_4) := (blk_cell BK101.out 0).trans rfl
                      have hcz79_1 : wr.cell? ⟨gb101, 1, none⟩ = some (.int .i64 x102001_4) := (blk_cell BK101.out 1).trans rfl
                      have hcz79_2 : wr.cell? ⟨gb101, 2, none⟩ = some (.slice none 0 0) := (blk_cell BK101.out 2).trans rfl
                      have hfz79_0 := blk_frozen BK101.out 0
                      have hfz79_1 := blk_frozen BK101.out 1
                      have hfz79_2 := blk_frozen BK101.out 2
                      go_wp2
                      refine bodyPost_ret (results_ct rfl _ _ gb101 40 #[.int .i64 0, .int .i64 0, .slice none 0 0] (0, 0) _ rfl (by (with_reducible repeat (first | refine blk_drewN ?_ _ | refine blk_drew ?_ | refine blk_alloc ?_ _)); refine blk_put (cs := #[.int .i64 0, .int .i64 0, .slice none 0 0]) ?_ 2 _ rfl; (with_reducible repeat (first | refine blk_drewN ?_ _ | refine blk_drew ?_ | refine blk_alloc ?_ _)); refine blk_put (cs := #[.int .i64 0, .int .i64 x102001_4, .slice none 0 0]) ?_ 1 _ rfl; (with_reducible repeat (first | refine blk_drewN ?_ _ | refine blk_drew ?_ | refine blk_alloc ?_ _)); refine blk_put (cs := #[.int .i64 x102000_4, .int .i64 x102001_4, .slice none 0 0]) ?_ 0 _ rfl; exact blc) Tryd.underlying40 rfl (by kernel_rfl)) rfl ?_
                      exact ⟨_, by first | rfl | (simp [errW_none, errW_some] <;> rfl) | (simp [*, errW_none, errW_some] <;> rfl), by first | exact Kd.R_nil _ _ _ _ _ | exact Kd.N_nil _ _ _ _ _ | exact Kd.V_nil _ _ _ _ _ | exact Kd.Q_nil _ _ _ _ _ | exact Kd.S_nil _ _ _ _ _, bel HB⟩
                     ·rw [if_neg c77] at H
                      have c77b0 : decide ((rd x103002_1 x86_3) ≤ 102) = false := decide_eq_false c77
                      clear c77
                      have H' := Aside0.mk H
                      clear H
                      have p112 : 0 ≤ (x96_4 : Int) := of_decide_eq_true (by first | (with_reducible assumption) | assumption)
                      have q112 : x96_4 < (y108.length : Int) := of_decide_eq_true (by first | (with_reducible assumption) | assumption)
                      obtain ⟨ad112, e112, hx112_0⟩ := Kd.at_int HR111.out x96_4 p112 q112
                      obtain rfl : ad107 = ad112 := (by injection e112)
                      (try replace hx112_0 := (HB.out.cell (World.block_lt_of_cell? w _ hx112_0)).trans hx112_0)
                      replace p112 := eq_true p112
                      replace q112 := eq_true q112
                      go_wp2
                      go_roundg k4
                      case measure => have := HK1.out; have := HJ47.out; have := HK3.out; have := HK4.out; omega
                      case rel => exact ⟨(wrap64 (x96_4 + 1)), (x102000_4), (x102001_4), (by first | rfl | (simp; done) | (simp [*]; done)), H', ⟨by have := HK1.out; have := HJ47.out; have := HK3.out; have := HK4.out; omega⟩, ⟨rch HO_84⟩, ⟨rch HO_103002⟩, ⟨blc⟩, ⟨blc⟩, ⟨by repeat (first | (with_reducible exact HR111.out) | (with_reducible refine Kd.C_alloc ?_ _) | (with_reducible refine Kd.C_drewN ?_ _) | (with_reducible refine Kd.C_drew ?_) | exact HR111.out)⟩, ⟨bel HB⟩⟩
                    ·rw [if_neg c76] at H
                     have c76b0 : decide (97 ≤ (rd x103002_1 x86_3)) = false := decide_eq_false c76
                     clear c76
                     have H' := Aside0.mk H
                     clear H
                     have p112 : 0 ≤ (x96_4 : Int) := of_decide_eq_true (by first | (with_reducible assumption) | assumption)
                     have q112 : x96_4 < (y108.length : Int) := of_decide_eq_true (by first | (with_reducible assumption) | assumption)
                     obtain ⟨ad112, e112, hx112_0⟩ := Kd.at_int HR111.out x96_4 p112 q112
                     obtain rfl : ad107 = ad112 := (by injection e112)
                     (try replace hx112_0 := (HB.out.cell (World.block_lt_of_cell? w _ hx112_0)).trans hx112_0)
                     replace p112 := eq_true p112
                     replace q112 := eq_true q112
                     go_wp2
                     go_roundg k4
                     case measure => have := HK1.out; have := HJ47.out; have := HK3.out; have := HK4.out; omega
                     case rel => exact ⟨(wrap64 (x96_4 + 1)), (x102000_4), (x102001_4), (by first | rfl | (simp; done) | (simp [*]; done)), H', ⟨by have := HK1.out; have := HJ47.out; have := HK3.out; have := HK4.out; omega⟩, ⟨rch HO_84⟩, ⟨rch HO_103002⟩, ⟨blc⟩, ⟨blc⟩, ⟨by repeat (first | (with_reducible exact HR111.out) | (with_reducible refine Kd.C_alloc ?_ _) | (with_reducible refine Kd.C_drewN ?_ _) | (with_reducible refine Kd.C_drew ?_) | exact HR111.out)⟩, ⟨bel HB⟩⟩
                   ·rw [if_neg c75] at H
                    have c75b0 : ((rd x103002_1 x86_3) == (rd y108 x96_4)) = false := beq_eq_false_iff_ne.mpr c75
                    have c75b1 : ((rd x103002_1 x86_3) != (rd y108 x96_4)) = true := bne_iff_ne.mpr c75
                    have H' := Aside0.mk H
                    clear H
                    have p112 : 0 ≤ (x96_4 : Int) := of_decide_eq_true (by first | (with_reducible assumption) | assumption)
                    have q112 : x96_4 < (y108.length : Int) := of_decide_eq_true (by first | (with_reducible assumption) | assumption)
                    obtain ⟨ad112, e112, hx112_0⟩ := Kd.at_int HR111.out x96_4 p112 q112
                    obtain rfl : ad107 = ad112 := (by injection e112)
                    (try replace hx112_0 := (HB.out.cell (World.block_lt_of_cell? w _ hx112_0)).trans hx112_0)
                    replace p112 := eq_true p112
                    replace q112 := eq_true q112
                    go_wp2
                    go_roundg k4
                    case measure => have := HK1.out; have := HJ47.out; have := HK3.out; have := HK4.out; omega
                    case rel => exact ⟨(wrap64 (x96_4 + 1)), (x102000_4), (x102001_4), (by first | rfl | (simp; done) | (simp [*]; done)), H', ⟨by have := HK1.out; have := HJ47.out; have := HK3.out; have := HK4.out; omega⟩, ⟨rch HO_84⟩, ⟨rch HO_103002⟩, ⟨blc⟩, ⟨blc⟩, ⟨by repeat (first | (with_reducible exact HR111.out) | (with_reducible refine Kd.C_alloc ?_ _) | (with_reducible refine Kd.C_drewN ?_ _) | (with_reducible refine Kd.C_drew ?_) | exact HR111.out)⟩, ⟨bel HB⟩⟩
                  ·rw [if_neg c74] at H
                   exact absurd H (by simp)
                 ·rw [if_neg c73] at H
                  exact absurd H (by simp)
                ·rw [if_neg c72] at H
                 have c72b0 : decide (x96_4 < (y108.length : Int)) = false := decide_eq_false c72
                 clear c72
                 have H' := Aside0.mk H
                 clear H
                 go_wp2
                 go_roundg k4
                 case measure => have := HK1.out; have := HJ47.out; have := HK3.out; have := HK4.out; omega
                 case rel => exact ⟨(wrap64 (x86_3 + 1)), (x102000_4), (x102001_4), (by first | rfl | (simp; done) | (simp [*]; done)), H', ⟨by have := HK1.out; have := HJ47.out; have := HK3.out; have := HK4.out; omega⟩, ⟨rch HO_84⟩, ⟨rch HO_103002⟩, ⟨blc⟩, ⟨blc⟩, ⟨bel HB⟩⟩
             ·rw [if_neg c68] at H
              exact absurd H (by simp)
            ·rw [if_neg c66] at H
             exact absurd H (by simp)
           ·rw [if_neg c65] at H
            exact absurd H (by simp)
          ·rw [if_neg c64] at H
           have c64b0 : decide (x86_3 < (x103002_1.length : Int)) = false := decide_eq_false c64
           clear c64
           simp only [Option.some.injEq, Prod.mk.injEq] at H
           obtain ⟨rfl, rfl, rfl, rfl⟩ := H
           have hnb80 := NB102_101.out
           have hnc80 := NB101_102.out
           have hcz81_0 : wr.cell? ⟨gb102, 0, none⟩ = some (.int .i64 x103000_1) := (blk_cell BK102.out 0).trans rfl
           have hcz81_1 : wr.cell? ⟨gb102, 1, none⟩ = some (.int .i64 x103001_1) := (blk_cell BK102.out 1).trans rfl
           have hcz81_2 : wr.cell? ⟨gb102, 2, none⟩ = some (.slice Ao63 x103002_1.length co63) := (blk_cell BK102.out 2).trans rfl
           have hfz81_0 := blk_frozen BK102.out 0
           have hfz81_1 := blk_frozen BK102.out 1
           have hfz81_2 := blk_frozen BK102.out 2
           have hcz82_0 : wr.cell? ⟨gb101, 0, none⟩ = some (.int .i64 x102000_3) := (blk_cell BK101.out 0).trans rfl
           have hcz82_1 : wr.cell? ⟨gb101, 1, none⟩ = some (.int .i64 x102001_3) := (blk_cell BK101.out 1).trans rfl
           have hcz82_2 : wr.cell? ⟨gb101, 2, none⟩ = some (.slice none 0 0) := (blk_cell BK101.out 2).trans rfl
           have hfz82_0 := blk_frozen BK101.out 0
           have hfz82_1 := blk_frozen BK101.out 1
           have hfz82_2 := blk_frozen BK101.out 2
           go_wp2
           refine bodyPost_ret (results_ct rfl _ _ gb101 40 #[.int .i64 x103000_1, .int .i64 x103001_1, .slice Ao63 x103002_1.length co63] (0, 0) _ rfl (by (with_reducible repeat (first | refine blk_drewN ?_ _ | refine blk_drew ?_ | refine blk_alloc ?_ _)); refine blk_put (cs := #[.int .i64 x103000_1, .int .i64 x103001_1, .slice none 0 0]) ?_ 2 _ rfl; (with_reducible repeat (first | refine blk_drewN ?_ _ | refine blk_drew ?_ | refine blk_alloc ?_ _)); refine blk_put (cs := #[.int .i64 x103000_1, .int .i64 x102001_3, .slice none 0 0]) ?_ 1 _ rfl; (with_reducible repeat (first | refine blk_drewN ?_ _ | refine blk_drew ?_ | refine blk_alloc ?_ _)); refine blk_put (cs := #[.int .i64 x102000_3, .int .i64 x102001_3, .slice none 0 0]) ?_ 0 _ rfl; exact blc) Tryd.underlying40 rfl (by kernel_rfl)) rfl ?_
           exact ⟨_, by first | rfl | (simp [errW_none, errW_some] <;> rfl) | (simp [*, errW_none, errW_some] <;> rfl), by (with_reducible repeat (first | apply Kd.R_alloc | apply Kd.R_drewN | apply Kd.R_drew)); exact Kd.R_mono (Kd.R_far (p := ⟨gb101, 2, none⟩) (Kd.R_far (p := ⟨gb101, 1, none⟩) (Kd.R_far (p := ⟨gb101, 0, none⟩) (Kd.R_types HO_103002.out BK101.out (by decide)) (fun _ hk => hk.2) (.int .i64 x103000_1)) (fun _ hk => hk.2) (.int .i64 x103001_1)) (fun _ hk => hk.2) (.slice Ao63 x103002_1.length co63)) (fun _ hk => trivial), bel HB⟩
end Go.Proofs.YtmefnfhghfemgaaDoor.Q
end
section
namespace Go.Proofs.YtmefnfhghfemgaaDoor.Q
open Go.RowKit Go.Proofs.YtmefnfhghfemgaaDoorW.PrintWords Go.Proofs.YtmefnfhghfemgaaDoorW.PrintLast Go.Proofs.YtmefnfhghfemgaaDoorW.PrintMore
attribute [local go_sem] max2_int min2_int max_two min_two max_three min_three max_four min_four
set_option linter.unusedVariables false
set_option linter.unusedSimpArgs false
def impl_within.f (a0 : Int) (a1 : Int) (a2 : Int) : Option (Bool) := if a1 ≤ a0 then (some (decide (a0 ≤ a2))) else (some false)
set_option maxHeartbeats 8000000 in
set_option maxRecDepth 100000 in
theorem impl_within.calls (a0 : Int) (a1 : Int) (a2 : Int) (r : Bool) (w : World) (h : impl_within.f a0 a1 a2 = some r) :
  Calls Tryd.prog 44 #[.int .i64 a0, .int .i64 a1, .int .i64 a2] w fun e w' => e = .returned (.bool r) ∧ Drawn0 w w' := by
 have H : (if a1 ≤ a0 then (some (decide (a0 ≤ a2))) else (some false)) = some r := h
 clear h
 by_cases c4 : a1 ≤ a0
 ·rw [if_pos c4] at H
  have c4b0 : decide (a1 ≤ a0) = true := decide_eq_true c4
  clear c4
  obtain rfl := Option.some.inj H
  go_enter Tryd.func44, Tryd.ntmps44
  go_wp2
  go_ret
  exact ⟨by first | rfl | (simp; done) | (simp [*]; done), by repeat (first | exact Drawn0.refl _ | apply Drawn0.step)⟩
 ·rw [if_neg c4] at H
  have c4b0 : decide (a1 ≤ a0) = false := decide_eq_false c4
  clear c4
  obtain rfl := Option.some.inj H
  go_enter Tryd.func44, Tryd.ntmps44
  go_wp2
  go_ret
  exact ⟨by first | rfl | (simp; done) | (simp [*]; done), by repeat (first | exact Drawn0.refl _ | apply Drawn0.step)⟩
def impl_isSize.f (a0 : Int) (a1 : Int) : Option (Bool) := (impl_within.f a0 1 7).bind fun t101 => (if t101 = true then ((impl_within.f a1 1 7).bind fun t102 => (if t102 = true then (some (decide ((wrap64 (a0 * a1)) ≤ 36))) else (some false))) else (some false))
set_option maxHeartbeats 8000000 in
set_option maxRecDepth 100000 in
theorem impl_isSize.calls (a0 : Int) (a1 : Int) (r : Bool) (w : World) (h : impl_isSize.f a0 a1 = some r) :
  Calls Tryd.prog 96 #[.int .i64 a0, .int .i64 a1] w fun e w' => e = .returned (.bool r) ∧ Drawn0 w w' := by
 have H : ((impl_within.f a0 1 7).bind fun t101 => (if t101 = true then ((impl_within.f a1 1 7).bind fun t102 => (if t102 = true then (some (decide ((wrap64 (a0 * a1)) ≤ 36))) else (some false))) else (some false))) = some r := h
 clear h
 replace H := Option.bind_eq_some_iff.mp H
 obtain ⟨t101, A30, H⟩ := H
 replace H : (if t101 = true then ((impl_within.f a1 1 7).bind fun t102 => (if t102 = true then (some (decide ((wrap64 (a0 * a1)) ≤ 36))) else (some false))) else (some false)) = some r := H
 have A3 := Aside0.mk A30
 clear A30
 by_cases c4 : t101 = true
 ·subst c4
  have H1 : ((impl_within.f a1 1 7).bind fun t102 => (if t102 = true then (some (decide ((wrap64 (a0 * a1)) ≤ 36))) else (some false))) = some r := by rw [if_pos rfl] at H; exact H
  clear H
  have H := H1
  clear H1
  replace H := Option.bind_eq_some_iff.mp H
  obtain ⟨t102, A50, H⟩ := H
  replace H : (if t102 = true then (some (decide ((wrap64 (a0 * a1)) ≤ 36))) else (some false)) = some r := H
  have A5 := Aside0.mk A50
  clear A50
  by_cases c6 : t102 = true
  ·subst c6
   have H1 : (some (decide ((wrap64 (a0 * a1)) ≤ 36))) = some r := by rw [if_pos rfl] at H; exact H
   clear H
   have H := H1
   clear H1
   obtain rfl := Option.some.inj H
   go_enter Tryd.func96, Tryd.ntmps96
   go_wp2_with (first | ((with_reducible refine gate_callee (f := 44) rfl ?_); refine gcall (some 6) Tryd.func44 #[.int .i64 a0, .int .i64 1, .int .i64 7] rfl ?_; (with_reducible refine (impl_within.calls a0 1 7 true _ A3.out).mono ?_); rintro e w' ⟨rfl, ⟨nd, rfl⟩⟩; refine ⟨_, rfl, ?_⟩) | (go_at_call 44; (with_reducible refine (impl_within.calls a1 1 7 true _ A5.out).mono ?_); rintro e w' ⟨rfl, ⟨nd, rfl⟩⟩))
   go_ret
   exact ⟨by first | rfl | (simp; done) | (simp [*]; done), by repeat (first | exact Drawn0.refl _ | apply Drawn0.step)⟩
  ·replace c6 := Bool.eq_false_iff.mpr c6
   subst c6
   have H1 : (some false) = some r := by rw [if_neg (show ¬ (false = true) by decide)] at H; exact H
   clear H
   have H := H1
   clear H1
   obtain rfl := Option.some.inj H
   go_enter Tryd.func96, Tryd.ntmps96
   go_wp2_with (first | ((with_reducible refine gate_callee (f := 44) rfl ?_); refine gcall (some 6) Tryd.func44 #[.int .i64 a0, .int .i64 1, .int .i64 7] rfl ?_; (with_reducible refine (impl_within.calls a0 1 7 true _ A3.out).mono ?_); rintro e w' ⟨rfl, ⟨nd, rfl⟩⟩; refine ⟨_, rfl, ?_⟩) | (go_at_call 44; (with_reducible refine (impl_within.calls a1 1 7 false _ A5.out).mono ?_); rintro e w' ⟨rfl, ⟨nd, rfl⟩⟩))
   go_ret
   exact ⟨by first | rfl | (simp; done) | (simp [*]; done), by repeat (first | exact Drawn0.refl _ | apply Drawn0.step)⟩
 ·replace c4 := Bool.eq_false_iff.mpr c4
  subst c4
  have H1 : (some false) = some r := by rw [if_neg (show ¬ (false = true) by decide)] at H; exact H
  clear H
  have H := H1
  clear H1
  obtain rfl := Option.some.inj H
  go_enter Tryd.func96, Tryd.ntmps96
  go_wp2_with (first | ((with_reducible refine gate_callee (f := 44) rfl ?_); refine gcall (some 6) Tryd.func44 #[.int .i64 a0, .int .i64 1, .int .i64 7] rfl ?_; (with_reducible refine (impl_within.calls a0 1 7 false _ A3.out).mono ?_); rintro e w' ⟨rfl, ⟨nd, rfl⟩⟩; refine ⟨_, rfl, ?_⟩))
  go_ret
  exact ⟨by first | rfl | (simp; done) | (simp [*]; done), by repeat (first | exact Drawn0.refl _ | apply Drawn0.step)⟩
mutual
def impl_IsTray.l0 : Nat → ByteArray → List ByteArray → List ByteArray → Int → Int → Option (Bool)
 | 0, _, _, _, _, _ => none
 | k + 1, x0, x3, x17, x18, x19 => if x19 < x18 then (if 0 ≤ x19 then (if x19 < (x17.length : Int) then (if 0 < (x3.length : Int) then (if ((rdOf ByteArray.empty x17 x19).size : Int) = ((rdOf ByteArray.empty x3 0).size : Int) then ((strings_Trim.f (rdOf ByteArray.empty x17 x19) (⟨#[35, 46, 111, 97, 98, 99, 100, 101, 102]⟩ : ByteArray)).bind fun t108 => (if t108.toList = ([] : List UInt8) then (impl_IsTray.l0 k x0 x3 x17 x18 (wrap64 (x19 + 1))) else (some false))) else (some false)) else (none)) else (none)) else (none)) else (impl_IsTray.l1 k x0 97)
def impl_IsTray.l1 : Nat → ByteArray → Int → Option (Bool)
 | 0, _, _ => none
 | k + 1, x0, x6 => if x6 ≤ 102 then ((runeS.f x6).bind fun t109 => ((strings_Count.f x0 t109).bind fun t110 => (if t110 > 1 then (some false) else (impl_IsTray.l1 k x0 (wrap32 (x6 + 1)))))) else (some true)
end
def impl_IsTray.f (k : Nat) (a0 : ByteArray) : Option (Bool) := (strings_Split.f a0 (⟨#[47]⟩ : ByteArray)).bind fun t101 => (if 0 < (t101.length : Int) then ((impl_isSize.f ((rdOf ByteArray.empty t101 0).size : Int) (t101.length : Int)).bind fun t105 => (if t105 = true then (impl_IsTray.l0 k a0 t101 t101 (t101.length : Int) 0) else (some false))) else (none))
set_option maxHeartbeats 8000000 in
set_option maxRecDepth 100000 in
theorem impl_IsTray.calls (k : Nat) (a0 : ByteArray) (r : Bool) (w : World) (hG : GoodW w) (h : impl_IsTray.f k a0 = some r) :
  Calls Tryd.prog 63 #[.string a0] w fun e w' => e = .returned (.bool r) ∧ Below w.heap.size w w' := by
 have HG := Aside0.mk hG
 clear hG
 have HB := Aside0.mk (Below.refl w.heap.size w)
 have H : ((strings_Split.f a0 (⟨#[47]⟩ : ByteArray)).bind fun t101 => (if 0 < (t101.length : Int) then ((impl_isSize.f ((rdOf ByteArray.empty t101 0).size : Int) (t101.length : Int)).bind fun t105 => (if t105 = true then (impl_IsTray.l0 k a0 t101 t101 (t101.length : Int) 0) else (some false))) else (none))) = some r := h
 clear h
 replace H := Option.bind_eq_some_iff.mp H
 obtain ⟨t101, A20, H⟩ := H
 replace H : (if 0 < (t101.length : Int) then ((impl_isSize.f ((rdOf ByteArray.empty t101 0).size : Int) (t101.length : Int)).bind fun t105 => (if t105 = true then (impl_IsTray.l0 k a0 t101 t101 (t101.length : Int) 0) else (some false))) else (none)) = some r := H
 have A2 := Aside0.mk A20
 clear A20
 by_cases c3 : 0 < (t101.length : Int)
 ·rw [if_pos c3] at H
  have c3b0 : decide (0 < (t101.length : Int)) = true := decide_eq_true c3
  have c3b1 : decide (0 < t101.length) = true := decide_eq_true (by omega)
  clear c3
  replace H := Option.bind_eq_some_iff.mp H
  obtain ⟨t105, A40, H⟩ := H
  replace H : (if t105 = true then (impl_IsTray.l0 k a0 t101 t101 (t101.length : Int) 0) else (some false)) = some r := H
  have A4 := Aside0.mk A40
  clear A40
  by_cases c5 : t105 = true
  ·subst c5
   have H1 : (impl_IsTray.l0 k a0 t101 t101 (t101.length : Int) 0) = some r := by rw [if_pos rfl] at H; exact H
   clear H
   have H := H1
   clear H1
   have H' := Aside0.mk H
   clear H
   go_enter Tryd.func63, Tryd.ntmps63
   go_wp2_with (first | ((with_reducible refine gate_callee (f := 55) rfl ?_); refine gcall (some 8) Tryd.func55 #[.string a0, .string (⟨#[47]⟩ : ByteArray)] rfl ?_; (with_reducible refine (strings_Split.calls a0 (⟨#[47]⟩ : ByteArray) t101 _ ?side1 A2.out).mono ?_); (case side1 => (refine GoodW.below HG.out ?_); exact bel HB); rintro e w6 ⟨v102, rfl, ho0, hb⟩; refine ⟨_, rfl, ?_⟩; have n0_ := Aside0.mk (Kd.R_lower ho0 (below_size (bel HB))); have n1_ := Aside0.mk (below_step (bel HB) hb); clear HB; have HO103 := n0_; have HB := n1_; clear n0_ n1_; (try clear hb); (try clear hb2); (try clear hk); (try clear hi); (try clear ho0); obtain ⟨Ao7, co7, eo7⟩ := Kd.R_slice HO103.out; subst eo7; have p104 : 0 ≤ (0 : Int) := (by omega); have q104 : 0 < (t101.length : Int) := of_decide_eq_true (by first | (with_reducible assumption) | assumption); obtain ⟨ad104, e104, hx104_0⟩ := Kd.at_string (Kd.R_reads' HO103.out).2.2 0 p104 q104; cases e104; have qi104 : (0 < t101.length) = True := eq_true (by omega); (try rw [show ((0 : Int)).toNat = 0 from rfl] at hx104_0); (try rw [Addr.add_zero'] at hx104_0); replace p104 := eq_true p104; replace q104 := eq_true q104) | ((with_reducible refine gate_callee (f := 96) rfl ?_); refine gcall (some 15) Tryd.func96 #[.int .i64 ((rdOf ByteArray.empty t101 0).size : Int), .int .i64 (t101.length : Int)] rfl ?_; (with_reducible refine (impl_isSize.calls ((rdOf ByteArray.empty t101 0).size : Int) (t101.length : Int) true _ A4.out).mono ?_); rintro e w' ⟨rfl, ⟨nd, rfl⟩⟩; refine ⟨_, rfl, ?_⟩))
   go_loopg [19] k (fun kq v19 w' => ∃ (x19_1 : Int), v19 = .int .i64 x19_1 ∧ Aside0 (impl_IsTray.l0 kq a0 t101 t101 (t101.length : Int) x19_1 = some r) ∧ Aside0 (kq ≤ k) ∧ Aside0 (Kd.R Kd.string 9 w' w.heap.size (fun _ => True) (.slice (some ad104) t101.length co7) t101) ∧ Aside0 (Kd.R Kd.string 9 w' w.heap.size (fun _ => True) (.slice (some ad104) t101.length co7) t101) ∧ Aside0 (Below w.heap.size w w'))
   case atStart => exact ⟨(0), (by first | rfl | (simp; done) | (simp [*]; done) | (simp [nil_bool]; done)), H', ⟨Nat.le_refl _⟩, ⟨rch HO103⟩, ⟨rch HO103⟩, ⟨bel HB⟩⟩
   case round =>
    clear H'
    try clear p1
    try clear q1
    try clear hx1
    try clear qi1
    try clear p2
    try clear c3
    try clear c3b0
    try clear c3b0y
    try clear c3b1
    try clear c5
    try clear c6
    try clear hx104_0
    try clear p104
    try clear q104
    obtain ⟨x19_1, rfl, HA, HK1, HO_3, HO_17, HB⟩ := hrel
    cases gk with
    | zero => exact absurd HA.out (by simp [impl_IsTray.l0])
    | succ k1 =>
     have H := HA.out
     clear HA
     simp only [impl_IsTray.l0] at H
     by_cases c8 : x19_1 < (t101.length : Int)
     ·rw [if_pos c8] at H
      have c8b0 : decide (x19_1 < (t101.length : Int)) = true := decide_eq_true c8
      clear c8
      by_cases c9 : 0 ≤ x19_1
      ·rw [if_pos c9] at H
       have c9b0 : decide (0 ≤ x19_1) = true := decide_eq_true c9
       clear c9
       by_cases c10 : x19_1 < (t101.length : Int)
       ·rw [if_pos c10] at H
        have c10b0 : decide (x19_1 < (t101.length : Int)) = true := decide_eq_true c10
        clear c10
        by_cases c11 : 0 < (t101.length : Int)
        ·rw [if_pos c11] at H
         have c11b0 : decide (0 < (t101.length : Int)) = true := decide_eq_true c11
         have c11b1 : decide (0 < t101.length) = true := decide_eq_true (by omega)
         clear c11
         by_cases c12 : ((rdOf ByteArray.empty t101 x19_1).size : Int) = ((rdOf ByteArray.empty t101 0).size : Int)
         ·rw [if_pos c12] at H
          have c12b0 : (((rdOf ByteArray.empty t101 x19_1).size : Int) == ((rdOf ByteArray.empty t101 0).size : Int)) = true := beq_iff_eq.mpr c12
          have c12b1 : (((rdOf ByteArray.empty t101 x19_1).size : Int) != ((rdOf ByteArray.empty t101 0).size : Int)) = false := bne_eq_false_iff_eq.mpr c12
          have c12b2 : ((rdOf ByteArray.empty t101 x19_1).size == (rdOf ByteArray.empty t101 0).size) = true := by first | simpa using c12 | (simp at c12 ⊢; omega)
          clear c12
          replace H := Option.bind_eq_some_iff.mp H
          obtain ⟨t108, A130, H⟩ := H
          replace H : (if t108.toList = ([] : List UInt8) then (impl_IsTray.l0 k1 a0 t101 t101 (t101.length : Int) (wrap64 (x19_1 + 1))) else (some false)) = some r := H
          have A13 := Aside0.mk A130
          clear A130
          by_cases c14 : t108.toList = ([] : List UInt8)
          ·rw [if_pos c14] at H
           have c14b0 : (t108.toList == ([] : List UInt8)) = true := beq_iff_eq.mpr c14
           have c14b1 : (t108.toList != ([] : List UInt8)) = false := bne_eq_false_iff_eq.mpr c14
           clear c14
           have H' := Aside0.mk H
           clear H
           have p106 : 0 ≤ (x19_1 : Int) := of_decide_eq_true (by first | (with_reducible assumption) | assumption)
           have q106 : x19_1 < (t101.length : Int) := of_decide_eq_true (by first | (with_reducible assumption) | assumption)
           obtain ⟨ad106, e106, hx106_0⟩ := Kd.at_string (Kd.R_reads' HO_17.out).2.2 x19_1 p106 q106
           obtain rfl : ad104 = ad106 := (by injection e106)
           replace p106 := eq_true p106
           replace q106 := eq_true q106
           have p107 : 0 ≤ (0 : Int) := (by omega)
           have q107 : 0 < (t101.length : Int) := of_decide_eq_true (by first | (with_reducible assumption) | assumption)
           obtain ⟨ad107, e107, hx107_0⟩ := Kd.at_string (Kd.R_reads' HO_3.out).2.2 0 p107 q107
           obtain rfl : ad104 = ad107 := (by injection e107)
           have qi107 : (0 < t101.length) = True := eq_true (by omega)
           (try rw [show ((0 : Int)).toNat = 0 from rfl] at hx107_0)
           (try rw [Addr.add_zero'] at hx107_0)
           replace p107 := eq_true p107
           replace q107 := eq_true q107
           go_wp2_with (first | (go_at_call 64; (with_reducible refine (strings_Trim.calls (rdOf ByteArray.empty t101 x19_1) (⟨#[35, 46, 111, 97, 98, 99, 100, 101, 102]⟩ : ByteArray) t108 _ A13.out).mono ?_); rintro e w15 ⟨rfl, hb⟩; have n0_ := Aside0.mk (Kd.R_below (rch HO_3) hb); have n1_ := Aside0.mk (Kd.R_below (rch HO_17) hb); have n2_ := Aside0.mk (below_step (bel HB) hb); clear HO_3; clear HO_17; clear HB; have HO_3 := n0_; have HO_17 := n1_; have HB := n2_; clear n0_ n1_ n2_; (try clear hb); (try clear hb2); (try clear hk); (try clear hi)))
           go_roundg k1
           case measure => have := HK1.out; omega
           case rel => exact ⟨(wrap64 (x19_1 + 1)), (by first | rfl | (simp; done) | (simp [*]; done) | (simp [nil_bool]; done)), H', ⟨by have := HK1.out; omega⟩, ⟨rch HO_3⟩, ⟨rch HO_17⟩, ⟨bel HB⟩⟩
          ·rw [if_neg c14] at H
           have c14b0 : (t108.toList == ([] : List UInt8)) = false := beq_eq_false_iff_ne.mpr c14
           have c14b1 : (t108.toList != ([] : List UInt8)) = true := bne_iff_ne.mpr c14
           obtain rfl := Option.some.inj H
           have p106 : 0 ≤ (x19_1 : Int) := of_decide_eq_true (by first | (with_reducible assumption) | assumption)
           have q106 : x19_1 < (t101.length : Int) := of_decide_eq_true (by first | (with_reducible assumption) | assumption)
           obtain ⟨ad106, e106, hx106_0⟩ := Kd.at_string (Kd.R_reads' HO_17.out).2.2 x19_1 p106 q106
           obtain rfl : ad104 = ad106 := (by injection e106)
           replace p106 := eq_true p106
           replace q106 := eq_true q106
           have p107 : 0 ≤ (0 : Int) := (by omega)
           have q107 : 0 < (t101.length : Int) := of_decide_eq_true (by first | (with_reducible assumption) | assumption)
           obtain ⟨ad107, e107, hx107_0⟩ := Kd.at_string (Kd.R_reads' HO_3.out).2.2 0 p107 q107
           obtain rfl : ad104 = ad107 := (by injection e107)
           have qi107 : (0 < t101.length) = True := eq_true (by omega)
           (try rw [show ((0 : Int)).toNat = 0 from rfl] at hx107_0)
           (try rw [Addr.add_zero'] at hx107_0)
           replace p107 := eq_true p107
           replace q107 := eq_true q107
           go_wp2_with (first | (go_at_call 64; (with_reducible refine (strings_Trim.calls (rdOf ByteArray.empty t101 x19_1) (⟨#[35, 46, 111, 97, 98, 99, 100, 101, 102]⟩ : ByteArray) t108 _ A13.out).mono ?_); rintro e w16 ⟨rfl, hb⟩; have n0_ := Aside0.mk (Kd.R_below (rch HO_3) hb); have n1_ := Aside0.mk (Kd.R_below (rch HO_17) hb); have n2_ := Aside0.mk (below_step (bel HB) hb); clear HO_3; clear HO_17; clear HB; have HO_3 := n0_; have HO_17 := n1_; have HB := n2_; clear n0_ n1_ n2_; (try clear hb); (try clear hb2); (try clear hk); (try clear hi)))
           go_ret
           exact ⟨by first | rfl | (simp [errW_none, errW_some] <;> rfl) | (simp [*, errW_none, errW_some] <;> rfl), bel HB⟩
         ·rw [if_neg c12] at H
          have c12b0 : (((rdOf ByteArray.empty t101 x19_1).size : Int) == ((rdOf ByteArray.empty t101 0).size : Int)) = false := beq_eq_false_iff_ne.mpr c12
          have c12b1 : (((rdOf ByteArray.empty t101 x19_1).size : Int) != ((rdOf ByteArray.empty t101 0).size : Int)) = true := bne_iff_ne.mpr c12
          have c12b2 : ((rdOf ByteArray.empty t101 x19_1).size == (rdOf ByteArray.empty t101 0).size) = false := by first | simpa using c12 | (simp at c12 ⊢; omega)
          obtain rfl := Option.some.inj H
          have p106 : 0 ≤ (x19_1 : Int) := of_decide_eq_true (by first | (with_reducible assumption) | assumption)
          have q106 : x19_1 < (t101.length : Int) := of_decide_eq_true (by first | (with_reducible assumption) | assumption)
          obtain ⟨ad106, e106, hx106_0⟩ := Kd.at_string (Kd.R_reads' HO_17.out).2.2 x19_1 p106 q106
          obtain rfl : ad104 = ad106 := (by injection e106)
          replace p106 := eq_true p106
          replace q106 := eq_true q106
          have p107 : 0 ≤ (0 : Int) := (by omega)
          have q107 : 0 < (t101.length : Int) := of_decide_eq_true (by first | (with_reducible assumption) | assumption)
          obtain ⟨ad107, e107, hx107_0⟩ := Kd.at_string (Kd.R_reads' HO_3.out).2.2 0 p107 q107
          obtain rfl : ad104 = ad107 := (by injection e107)
          have qi107 : (0 < t101.length) = True := eq_true (by omega)
          (try rw [show ((0 : Int)).toNat = 0 from rfl] at hx107_0)
          (try rw [Addr.add_zero'] at hx107_0)
          replace p107 := eq_true p107
          replace q107 := eq_true q107
          go_wp2
          go_ret
          exact ⟨by first | rfl | (simp [errW_none, errW_some] <;> rfl) | (simp [*, errW_none, errW_some] <;> rfl), bel HB⟩
        ·rw [if_neg c11] at H
         exact absurd H (by simp)
       ·rw [if_neg c10] at H
        exact absurd H (by simp)
      ·rw [if_neg c9] at H
       exact absurd H (by simp)
     ·rw [if_neg c8] at H
      have c8b0 : decide (x19_1 < (t101.length : Int)) = false := decide_eq_false c8
      clear c8
      have H' := Aside0.mk H
      clear H
      go_wp2
      go_loopg [6] k1 (fun kq v6 w' => ∃ (x6_2 : Int), v6 = .int .i32 x6_2 ∧ Aside0 (impl_IsTray.l1 kq a0 x6_2 = some r) ∧ Aside0 (kq ≤ k1) ∧ Aside0 (Below w.heap.size w w'))
      case atStart => exact ⟨(97), (by first | rfl | (simp; done) | (simp [*]; done) | (simp [nil_bool]; done)), H', ⟨Nat.le_refl _⟩, ⟨bel HB⟩⟩
      case round =>
       clear H'
       try clear c1
       try clear p1
       try clear q1
       try clear hx1
       try clear qi1
       try clear p2
       try clear c3
       try clear c3b0
       try clear c3b0y
       try clear c3b1
       try clear c5
       try clear c6
       try clear p6
       try clear c8
       try clear c8b0
       try clear c8b0y
       try clear c9
       try clear c9b0
       try clear c9b0y
       try clear c10
       try clear c10b0
       try clear c10b0y
       try clear p10
       try clear q10
       try clear hx10
       try clear qi10
       try clear c11
       try clear c11b0
       try clear c11b0y
       try clear c11b1
       try clear c12
       try clear c12b0
       try clear c12b0y
       try clear c12b1
       try clear c12b2
       try clear c14
       try clear c14b0
       try clear c14b0y
       try clear c14b1
       try clear hx104_0
       try clear hx106_0
       try clear hx107_0
       try clear p1
       try clear p104
       try clear p106
       try clear p107
       try clear p2
       try clear q1
       try clear q104
       try clear q106
       try clear q107
       obtain ⟨x6_2, rfl, HA, HK2, HB⟩ := hrel
       cases gk with
       | zero => exact absurd HA.out (by simp [impl_IsTray.l1])
       | succ k2 =>
        have H := HA.out
        clear HA
        simp only [impl_IsTray.l1] at H
        by_cases c17 : x6_2 ≤ 102
        ·rw [if_pos c17] at H
         have c17b0 : decide (x6_2 ≤ 102) = true := decide_eq_true c17
         clear c17
         replace H := Option.bind_eq_some_iff.mp H
         obtain ⟨t109, A180, H⟩ := H
         replace H : ((strings_Count.f a0 t109).bind fun t110 => (if t110 > 1 then (some false) else (impl_IsTray.l1 k2 a0 (wrap32 (x6_2 + 1))))) = some r := H
         have A18 := Aside0.mk A180
         clear A180
         replace H := Option.bind_eq_some_iff.mp H
         obtain ⟨t110, A190, H⟩ := H
         replace H : (if t110 > 1 then (some false) else (impl_IsTray.l1 k2 a0 (wrap32 (x6_2 + 1)))) = some r := H
         have A19 := Aside0.mk A190
         clear A190
         by_cases c20 : t110 > 1
         ·rw [if_pos c20] at H
          have c20b0 : decide (1 < t110) = true := decide_eq_true c20
          clear c20
          obtain rfl := Option.some.inj H
          go_wp2_with (first | ((with_reducible refine gate_dst (N := 42) rfl ?_); refine runeS.step rfl (N := 42) rfl 21 9 .i32 _ rfl (by rw [Tryd.underlying21]; rfl) Tryd.underlying9 rfl A18.out ?_) | ((with_reducible refine gate_callee (f := 97) rfl ?_); refine gcall (some 43) Tryd.func97 #[.string a0, .string t109] rfl ?_; (with_reducible refine (strings_Count.calls a0 t109 t110 _ A19.out).mono ?_); rintro e w' ⟨rfl, ⟨nd, rfl⟩⟩; refine ⟨_, rfl, ?_⟩))
          go_ret
          exact ⟨by first | rfl | (simp [errW_none, errW_some] <;> rfl) | (simp [*, errW_none, errW_some] <;> rfl), bel HB⟩
         ·rw [if_neg c20] at H
          have c20b0 : decide (1 < t110) = false := decide_eq_false c20
          clear c20
          have H' := Aside0.mk H
          clear H
          go_wp2_with (first | ((with_reducible refine gate_dst (N := 42) rfl ?_); refine runeS.step rfl (N := 42) rfl 21 9 .i32 _ rfl (by rw [Tryd.underlying21]; rfl) Tryd.underlying9 rfl A18.out ?_) | ((with_reducible refine gate_callee (f := 97) rfl ?_); refine gcall (some 43) Tryd.func97 #[.string a0, .string t109] rfl ?_; (with_reducible refine (strings_Count.calls a0 t109 t110 _ A19.out).mono ?_); rintro e w' ⟨rfl, ⟨nd, rfl⟩⟩; refine ⟨_, rfl, ?_⟩))
          go_roundg k2
          case measure => have := HK1.out; have := HK2.out; omega
          case rel => exact ⟨(wrap32 (x6_2 + 1)), (by first | rfl | (simp; done) | (simp [*]; done) | (simp [nil_bool]; done)), H', ⟨by have := HK1.out; have := HK2.out; omega⟩, ⟨bel HB⟩⟩
        ·rw [if_neg c17] at H
         have c17b0 : decide (x6_2 ≤ 102) = false := decide_eq_false c17
         clear c17
         obtain rfl := Option.some.inj H
         go_wp2
         go_ret
         exact ⟨by first | rfl | (simp [errW_none, errW_some] <;> rfl) | (simp [*, errW_none, errW_some] <;> rfl), bel HB⟩
  ·replace c5 := Bool.eq_false_iff.mpr c5
   subst c5
   have H1 : (some false) = some r := by rw [if_neg (show ¬ (false = true) by decide)] at H; exact H
   clear H
   have H := H1
   clear H1
   obtain rfl := Option.some.inj H
   go_enter Tryd.func63, Tryd.ntmps63
   go_wp2_with (first | ((with_reducible refine gate_callee (f := 55) rfl ?_); refine gcall (some 8) Tryd.func55 #[.string a0, .string (⟨#[47]⟩ : ByteArray)] rfl ?_; (with_reducible refine (strings_Split.calls a0 (⟨#[47]⟩ : ByteArray) t101 _ ?side1 A2.out).mono ?_); (case side1 => (refine GoodW.below HG.out ?_); exact bel HB); rintro e w21 ⟨v102, rfl, ho0, hb⟩; refine ⟨_, rfl, ?_⟩; have n0_ := Aside0.mk (Kd.R_lower ho0 (below_size (bel HB))); have n1_ := Aside0.mk (below_step (bel HB) hb); clear HB; have HO103 := n0_; have HB := n1_; clear n0_ n1_; (try clear hb); (try clear hb2); (try clear hk); (try clear hi); (try clear ho0); obtain ⟨Ao22, co22, eo22⟩ := Kd.R_slice HO103.out; subst eo22; have p104 : 0 ≤ (0 : Int) := (by omega); have q104 : 0 < (t101.length : Int) := of_decide_eq_true (by first | (with_reducible assumption) | assumption); obtain ⟨ad104, e104, hx104_0⟩ := Kd.at_string (Kd.R_reads' HO103.out).2.2 0 p104 q104; cases e104; have qi104 : (0 < t101.length) = True := eq_true (by omega); (try rw [show ((0 : Int)).toNat = 0 from rfl] at hx104_0); (try rw [Addr.add_zero'] at hx104_0); replace p104 := eq_true p104; replace q104 := eq_true q104) | ((with_reducible refine gate_callee (f := 96) rfl ?_); refine gcall (some 15) Tryd.func96 #[.int .i64 ((rdOf ByteArray.empty t101 0).size : Int), .int .i64 (t101.length : Int)] rfl ?_; (with_reducible refine (impl_isSize.calls ((rdOf ByteArray.empty t101 0).size : Int) (t101.length : Int) false _ A4.out).mono ?_); rintro e w' ⟨rfl, ⟨nd, rfl⟩⟩; refine ⟨_, rfl, ?_⟩))
   go_ret
   exact ⟨by first | rfl | (simp [errW_none, errW_some] <;> rfl) | (simp [*, errW_none, errW_some] <;> rfl), bel HB⟩
 ·rw [if_neg c3] at H
  exact absurd H (by simp)
def impl_isName.f (a0 : Int) : Option (Bool) := if a0 ≥ 97 then (some (decide (a0 ≤ 102))) else (some false)
set_option maxHeartbeats 8000000 in
set_option maxRecDepth 100000 in
theorem impl_isName.calls (a0 : Int) (r : Bool) (w : World) (h : impl_isName.f a0 = some r) :
  Calls Tryd.prog 105 #[.int .u8 a0] w fun e w' => e = .returned (.bool r) ∧ Drawn0 w w' := by
 have H : (if a0 ≥ 97 then (some (decide (a0 ≤ 102))) else (some false)) = some r := h
 clear h
 by_cases c2 : a0 ≥ 97
 ·rw [if_pos c2] at H
  have c2b0 : decide (97 ≤ a0) = true := decide_eq_true c2
  clear c2
  obtain rfl := Option.some.inj H
  go_enter Tryd.func105, Tryd.ntmps105
  go_wp2
  go_ret
  exact ⟨by first | rfl | (simp; done) | (simp [*]; done), by repeat (first | exact Drawn0.refl _ | apply Drawn0.step)⟩
 ·rw [if_neg c2] at H
  have c2b0 : decide (97 ≤ a0) = false := decide_eq_false c2
  clear c2
  obtain rfl := Option.some.inj H
  go_enter Tryd.func105, Tryd.ntmps105
  go_wp2
  go_ret
  exact ⟨by first | rfl | (simp; done) | (simp [*]; done), by repeat (first | exact Drawn0.refl _ | apply Drawn0.step)⟩
def impl_isBall.f (a0 : Int) : Option (Bool) := if a0 = 111 then (some true) else ((impl_isName.f a0).bind fun t101 => (some t101))
set_option maxHeartbeats 8000000 in
set_option maxRecDepth 100000 in
theorem impl_isBall.calls (a0 : Int) (r : Bool) (w : World) (h : impl_isBall.f a0 = some r) :
  Calls Tryd.prog 66 #[.int .u8 a0] w fun e w' => e = .returned (.bool r) ∧ Drawn0 w w' := by
 have H : (if a0 = 111 then (some true) else ((impl_isName.f a0).bind fun t101 => (some t101))) = some r := h
 clear h
 by_cases c2 : a0 = 111
 ·rw [if_pos c2] at H
  have c2b0 : (a0 == 111) = true := beq_iff_eq.mpr c2
  have c2b1 : (a0 != 111) = false := bne_eq_false_iff_eq.mpr c2
  clear c2
  obtain rfl := Option.some.inj H
  go_enter Tryd.func66, Tryd.ntmps66
  go_wp2
  go_ret
  exact ⟨by first | rfl | (simp; done) | (simp [*]; done), by repeat (first | exact Drawn0.refl _ | apply Drawn0.step)⟩
 ·rw [if_neg c2] at H
  have c2b0 : (a0 == 111) = false := beq_eq_false_iff_ne.mpr c2
  have c2b1 : (a0 != 111) = true := bne_iff_ne.mpr c2
  replace H := Option.bind_eq_some_iff.mp H
  obtain ⟨t101, A30, H⟩ := H
  replace H : (some t101) = some r := H
  have A3 := Aside0.mk A30
  clear A30
  obtain rfl := Option.some.inj H
  go_enter Tryd.func66, Tryd.ntmps66
  go_wp2_with (first | (go_at_call 105; (with_reducible refine (impl_isName.calls a0 t101 _ A3.out).mono ?_); rintro e w' ⟨rfl, ⟨nd, rfl⟩⟩))
  go_ret
  exact ⟨by first | rfl | (simp; done) | (simp [*]; done), by repeat (first | exact Drawn0.refl _ | apply Drawn0.step)⟩
def impl_tray_number.f (a0_0 : Int) (a0_1 : Int) (l0_2 : List Int) (a1 : Int) (a2 : Int) : Option (Int) := some (wrap64 ((wrap64 (a2 * a0_0)) + a1))
set_option maxHeartbeats 8000000 in
set_option maxRecDepth 100000 in
theorem impl_tray_number.calls (a0_0 : Int) (a0_1 : Int) (A0_2 : Option Addr) (c0_2 : Nat) (l0_2 : List Int) (a1 : Int) (a2 : Int) (r : Int) (w : World) (hr0_2 : Kd.C (Kd.int .u8) w A0_2 l0_2.length l0_2) (hc0_2 : l0_2.length ≤ c0_2) (h : impl_tray_number.f a0_0 a0_1 l0_2 a1 a2 = some r) :
  Calls Tryd.prog 75 #[.agg #[.int .i64 a0_0, .int .i64 a0_1, .slice A0_2 l0_2.length c0_2], .int .i64 a1, .int .i64 a2] w fun e w' => e = .returned (.int .i64 r) ∧ Below w.heap.size w w' := by
 have hu46 := Tryd.underlying46
 have HR0_2 := Aside0.mk hr0_2
 have HC0_2 := Aside0.mk hc0_2
 clear hr0_2 hc0_2
 have HB := Aside0.mk (Below.refl w.heap.size w)
 have H : (some (wrap64 ((wrap64 (a2 * a0_0)) + a1))) = some r := h
 clear h
 obtain rfl := Option.some.inj H
 go_enter Tryd.func75, Tryd.ntmps75
 go_wp2_with (first | ((with_reducible refine gate_dst (N := 3) rfl ?_); refine boxE (N := 3) (cs := #[.int .i64 a0_0, .int .i64 a0_1, .slice A0_2 l0_2.length c0_2]) (t := 46) ?_; intro gb101 hg w4 hbox hb; have n0_ := Aside0.mk (below_step (bel HB) hb); have n1_ := Aside0.mk (hbox); have n2_ := Aside0.mk (gsz hg (bel HB)); have n3_ := Aside0.mk (gsz hg (bel HB)); clear HB; have HB := n0_; have BK101 := n1_; have GW101 := n2_; have GE101 := n3_; clear n0_ n1_ n2_ n3_; clear hb hbox hg; have hcz5_0 : w4.cell? ⟨gb101, 0, none⟩ = some (.int .i64 a0_0) := (blk_cell BK101.out 0).trans rfl; have hcz5_1 : w4.cell? ⟨gb101, 1, none⟩ = some (.int .i64 a0_1) := (blk_cell BK101.out 1).trans rfl; have hcz5_2 : w4.cell? ⟨gb101, 2, none⟩ = some (.slice A0_2 l0_2.length c0_2) := (blk_cell BK101.out 2).trans rfl; have hfz5_0 := blk_frozen BK101.out 0; have hfz5_1 := blk_frozen BK101.out 1; have hfz5_2 := blk_frozen BK101.out 2))
 go_ret
 exact ⟨by first | rfl | (simp [errW_none, errW_some] <;> rfl) | (simp [*, errW_none, errW_some] <;> rfl), bel HB⟩
end Go.Proofs.YtmefnfhghfemgaaDoor.Q
end
section
namespace Go.Proofs.YtmefnfhghfemgaaDoor.Q
open Go.RowKit Go.Proofs.YtmefnfhghfemgaaDoorW.PrintWords Go.Proofs.YtmefnfhghfemgaaDoorW.PrintLast Go.Proofs.YtmefnfhghfemgaaDoorW.PrintMore
def Ev {α : Type} (g : Nat → Option α) (r : α) : Prop := ∃ k0, ∀ k, k0 ≤ k → g k = some r
theorem Ev.step {α : Type} {g g' : Nat → Option α} {r : α} (h : Ev g' r) (e : ∀ k, g (k + 1) = g' k) : Ev g r := by
 obtain ⟨k0, h⟩ := h
 refine ⟨k0 + 1, fun k hk => ?_⟩
 obtain ⟨m, rfl⟩ : ∃ m, k = m + 1 := ⟨k - 1, by omega⟩
 rw [e]
 exact h m (by omega)
theorem Ev.congr {α : Type} {g g' : Nat → Option α} {r : α} (h : Ev g' r) (e : ∀ k, g k = g' k) : Ev g r := by
 obtain ⟨k0, h⟩ := h
 exact ⟨k0, fun k hk => (e k).trans (h k hk)⟩
theorem Ev.const {α : Type} {o : Option α} {r : α} (h : o = some r) : Ev (fun _ => o) r := ⟨0, fun _ _ => h⟩
theorem Ev.bind {α β : Type} {g : Nat → Option α} {f : Nat → α → Option β} {a : α} {r : β} (h1 : Ev g a) (h2 : Ev (fun k => f k a) r) : Ev (fun k => (g k).bind (f k)) r := by
 obtain ⟨k1, h1⟩ := h1
 obtain ⟨k2, h2⟩ := h2
 refine ⟨max k1 k2, fun k hk => ?_⟩
 show (g k).bind (f k) = some r
 rw [h1 k (by omega)]
 exact h2 k (by omega)
theorem Ev.of_mono {α : Type} {g : Nat → Option α} {r : α} (hm : ∀ k, LeO (g k) (g (k + 1))) (k0 : Nat) (h : g k0 = some r) : Ev g r := by
 refine ⟨k0, fun k hk => ?_⟩
 obtain ⟨d, rfl⟩ : ∃ d, k = k0 + d := ⟨k - k0, by omega⟩
 clear hk
 induction d with
 | zero => exact h
 | succ d ih => exact hm _ _ ih
theorem Ev.out {α : Type} {g : Nat → Option α} {r : α} (h : Ev g r) : ∃ k, g k = some r := by
 obtain ⟨k, h⟩ := h
 exact ⟨k, h k (Nat.le_refl _)⟩
theorem ite_iff {p q : Prop} [Decidable p] [Decidable q] {α : Type} {x y : α} (h : p ↔ q) : (if p then x else y) = if q then x else y := by
 by_cases hq : q
 ·rw [if_pos hq, if_pos (h.2 hq)]
 ·rw [if_neg hq, if_neg fun hp => hq (h.1 hp)]
theorem w64 {n : Int} (h0 : -9223372036854775808 ≤ n) (h1 : n < 9223372036854775808) : wrap64 n = n := by unfold wrap64; omega
def cellSet : List UInt8 := [35, 46, 111, 97, 98, 99, 100, 101, 102]
def isCellB (b : UInt8) : Bool := cellSet.contains b
def ints (l : List UInt8) : List Int := l.map fun b => (b.toNat : Int)
theorem tyIs_eq (b : UInt8) : spec_tyIs.f (b.toNat : Int) = some (isCellB b) := by
 have h : ∀ n : Fin 256, spec_tyIs.f (n.val : Int) = some (isCellB (UInt8.ofNat n.val)) := by decide +kernel
 have h2 := h ⟨b.toNat, b.toNat_lt⟩
 simpa using h2
theorem ints_length (l : List UInt8) : (ints l).length = l.length := by simp [ints]
theorem ints_append (l m : List UInt8) : ints (l ++ m) = ints l ++ ints m := by simp [ints]
theorem ints_count (c : UInt8) : ∀ l : List UInt8, (ints l).count (c.toNat : Int) = l.count c
 | [] => rfl
 | b :: l => by
  have ih := ints_count c l
  by_cases e : b = c
  ·subst e
   rw [List.count_cons_self, ← ih]
   exact List.count_cons_self
  ·rw [List.count_cons_of_ne e, ← ih]
   refine List.count_cons_of_ne ?_
   intro e2
   have e3 : (b.toNat : Int) = (c.toNat : Int) := e2
   exact e (UInt8.toNat_inj.1 (by omega))
def namedOK (cs : List Int) : Prop := ∀ c : Int, 97 ≤ c → c ≤ 102 → cs.count c ≤ 1
instance (cs : List Int) : Decidable (namedOK cs) :=
 decidable_of_iff (∀ n : Fin 6, cs.count (97 + (n.val : Int)) ≤ 1) ⟨fun h c h1 h2 => by
  have h3 : cs.count (97 + ((c - 97).toNat : Int)) ≤ 1 := h ⟨(c - 97).toNat, by omega⟩
  rw [show (97 + ((c - 97).toNat : Int)) = c by omega] at h3
  exact h3, fun h n => h _ (by omega) (by omega)⟩
theorem namedOK_nil : namedOK [] := fun c _ _ => by simp
theorem namedOK_snoc (cs : List Int) (x : Int) (h : namedOK cs) : namedOK (cs ++ [x]) ↔ ¬ (97 ≤ x ∧ x ≤ 102 ∧ x ∈ cs) := by
 constructor
 ·intro h2 ⟨h3, h4, h5⟩
  have := h2 x h3 h4
  have h6 : 0 < cs.count x := List.count_pos_iff.2 h5
  rw [List.count_append, List.count_singleton_self] at this
  omega
 ·intro h2 c h3 h4
  rw [List.count_append]
  by_cases e : x = c
  ·subst e
   have : cs.count x = 0 := List.count_eq_zero.2 fun h5 => h2 ⟨h3, h4, h5⟩
   rw [this, List.count_singleton_self]
   omega
  ·have h5 := h c h3 h4
   have : [x].count c = 0 := by
    rw [List.count_eq_zero]
    simp
    exact fun e2 => e e2.symm
   omega
theorem namedOK_take (cs : List Int) (i : Nat) (h : namedOK cs) : namedOK (cs.take i) := fun c h1 h2 =>
 Nat.le_trans ((List.take_sublist i cs).count_le c) (h c h1 h2)
theorem rows_size (c : UInt8) : ∀ l, (rows c l).flatten.length + (rows c l).length = l.length + 1
 | [] => by simp [rows]
 | b :: l => by
  have ih := rows_size c l
  unfold rows
  split
  ·simp only [List.flatten_cons, List.nil_append, List.length_cons]; omega
  ·split
   ·rename_i e; exact absurd e (rows_ne c l)
   ·rename_i r rs e
    rw [e] at ih
    simp only [List.flatten_cons, List.length_append, List.length_cons] at ih ⊢
    omega
theorem rows_count (c d : UInt8) (hd : d ≠ c) : ∀ l, (rows c l).flatten.count d = l.count d
 | [] => by simp [rows]
 | b :: l => by
  have ih := rows_count c d hd l
  unfold rows
  split
  ·rename_i e
   subst e
   rw [List.flatten_cons, List.nil_append, ih, List.count_cons_of_ne (Ne.symm hd)]
  ·split
   ·rename_i e; exact absurd e (rows_ne c l)
   ·rename_i r rs e
    rw [e] at ih
    rw [List.flatten_cons] at ih ⊢
    rw [List.cons_append, List.count_cons, ih, List.count_cons]
def tw (rs : List (List UInt8)) : Nat := (rs.headD []).length
def evenRows (w : Nat) (rs : List (List UInt8)) : Prop := ∀ r ∈ rs, r.length = w ∧ r.all isCellB = true
instance (w : Nat) (rs : List (List UInt8)) : Decidable (evenRows w rs) := inferInstanceAs (Decidable (∀ r ∈ rs, _))
theorem evenRows_cons (w : Nat) (r : List UInt8) (rs : List (List UInt8)) : evenRows w (r :: rs) ↔ (r.length = w ∧ r.all isCellB = true) ∧ evenRows w rs := by
 unfold evenRows
 simp only [List.mem_cons, forall_eq_or_imp]
theorem evenRows_flat (w : Nat) : ∀ rs, evenRows w rs → rs.flatten.length = w * rs.length
 | [], _ => by simp
 | r :: rs, h => by
  have h2 := (evenRows_cons w r rs).1 h
  rw [List.flatten_cons, List.length_append, evenRows_flat w rs h2.2, h2.1.1, List.length_cons, Nat.mul_add, Nat.mul_one]
  omega
def okRows (rs : List (List UInt8)) : Prop := (1 ≤ tw rs ∧ tw rs ≤ 7 ∧ rs.length ≤ 7 ∧ tw rs * rs.length ≤ 36) ∧ evenRows (tw rs) rs ∧ namedOK (ints rs.flatten)
instance (rs : List (List UInt8)) : Decidable (okRows rs) := inferInstanceAs (Decidable (_ ∧ _ ∧ _))
def trayRows (rs : List (List UInt8)) : Option (Int × Int × List Int) := if okRows rs then some (tw rs, rs.length, ints rs.flatten) else none
def trayOf (s : ByteArray) : Option (Int × Int × List Int) := trayRows (rows 47 s.data.toList)
theorem trayOf_small (s : ByteArray) (h : trayOf s ≠ none) : s.size ≤ 42 := by
 unfold trayOf trayRows at h
 split at h
 ·rename_i hk
  have h1 := rows_size 47 s.data.toList
  have h2 := evenRows_flat _ _ hk.2.1
  have h3 := data_length s
  have := hk.1
  omega
 ·exact absurd rfl h
def failT : Int × Int × List Int × Bool := (0, 0, [], false)
def tellT : Option (Int × Int × List Int) → Int × Int × List Int × Bool
 | none => failT
 | some (w, h, cs) => (w, h, cs, true)
theorem ty_l2 (cs pre : List Int) (i w h : Int) (x : Int) (K : Int × Int × List Int × Bool) (hl : pre.length ≤ 36)
  (hK : Ev (fun k => spec_tyRead.l1 k cs cs.length (wrap64 (i + 1)) w h cs) K) :
  ∀ (m j : Nat), j + m = pre.length → Ev (fun k => spec_tyRead.l2 k x cs cs.length i pre pre.length j w h cs) (if 97 ≤ x ∧ x ≤ 102 ∧ x ∈ pre.drop j then failT else K)
 | 0, j, hj => by
  refine Ev.step (g' := fun k => spec_tyRead.l1 k cs cs.length (wrap64 (i + 1)) w h cs) ?_ (fun k => ?_)
  ·rw [List.drop_eq_nil_of_le (by omega), if_neg (by simp)]
   exact hK
  ·rw [spec_tyRead.l2, if_neg (by omega)]
 | m + 1, j, hj => by
  have ih := ty_l2 cs pre i w h x K hl hK m (j + 1) (by omega)
  have hlt : j < pre.length := by omega
  have hd : pre.drop j = pre[j] :: pre.drop (j + 1) := List.drop_eq_getElem_cons hlt
  have hr : rd pre (j : Int) = pre[j] := by
   unfold rd
   rw [Int.toNat_natCast, List.getD_eq_getElem?_getD, List.getElem?_eq_getElem hlt]
   rfl
  have hw : wrap64 ((j : Int) + 1) = ((j + 1 : Nat) : Int) := by rw [w64 (by omega) (by omega)]; omega
  rw [hd]
  by_cases hx : x = pre[j] ∧ 97 ≤ x ∧ x ≤ 102
  ·rw [if_pos ⟨hx.2.1, hx.2.2, by rw [hx.1]; exact List.mem_cons_self⟩]
   refine Ev.step (Ev.const (o := some failT) rfl) (fun k => ?_)
   rw [spec_tyRead.l2, if_pos (by omega), if_pos (by omega), if_pos (by omega), hr, if_pos hx.1, if_pos (by omega), if_pos (by omega)]
   rfl
  ·have e : (97 ≤ x ∧ x ≤ 102 ∧ x ∈ pre[j] :: pre.drop (j + 1)) ↔ (97 ≤ x ∧ x ≤ 102 ∧ x ∈ pre.drop (j + 1)) := by
    constructor
    ·rintro ⟨h1, h2, h3⟩
     refine ⟨h1, h2, (List.mem_cons.1 h3).resolve_left fun e => hx ⟨e, h1, h2⟩⟩
    ·rintro ⟨h1, h2, h3⟩
     exact ⟨h1, h2, List.mem_cons_of_mem _ h3⟩
   rw [ite_iff e]
   refine Ev.step ih (fun k => ?_)
   rw [spec_tyRead.l2, if_pos (by omega), if_pos (by omega), if_pos (by omega), hr, hw]
   by_cases h1 : x = pre[j]
   ·rw [if_pos h1]
    by_cases h2 : x ≥ 97
    ·rw [if_pos h2, if_neg (fun h3 => hx ⟨h1, h2, h3⟩)]
    ·rw [if_neg h2]
   ·rw [if_neg h1]
theorem ty_l2_hit (cs pre : List Int) (i w h x : Int) (hl : pre.length ≤ 36) (h1 : 97 ≤ x) (h2 : x ≤ 102) :
  ∀ (m j : Nat), j + m = pre.length → x ∈ pre.drop j → Ev (fun k => spec_tyRead.l2 k x cs cs.length i pre pre.length j w h cs) failT
 | 0, j, hj, hx => by
  rw [List.drop_eq_nil_of_le (by omega)] at hx
  exact absurd hx (by simp)
 | m + 1, j, hj, hx => by
  have hlt : j < pre.length := by omega
  have hd : pre.drop j = pre[j] :: pre.drop (j + 1) := List.drop_eq_getElem_cons hlt
  have hr : rd pre (j : Int) = pre[j] := by
   unfold rd
   rw [Int.toNat_natCast, List.getD_eq_getElem?_getD, List.getElem?_eq_getElem hlt]
   rfl
  have hw : wrap64 ((j : Int) + 1) = ((j + 1 : Nat) : Int) := by rw [w64 (by omega) (by omega)]; omega
  by_cases hp : x = pre[j]
  ·refine Ev.step (Ev.const (o := some failT) rfl) (fun k => ?_)
   rw [spec_tyRead.l2, if_pos (by omega), if_pos (by omega), if_pos (by omega), hr, if_pos hp, if_pos (by omega), if_pos (by omega)]
   rfl
  ·rw [hd] at hx
   refine Ev.step (ty_l2_hit cs pre i w h x hl h1 h2 m (j + 1) (by omega) ((List.mem_cons.1 hx).resolve_left hp)) (fun k => ?_)
   rw [spec_tyRead.l2, if_pos (by omega), if_pos (by omega), if_pos (by omega), hr, hw, if_neg hp]
theorem ty_l1 (cs : List Int) (w h : Int) (hl : cs.length ≤ 36) :
  ∀ (m i : Nat), i + m = cs.length → namedOK (cs.take i) → Ev (fun k => spec_tyRead.l1 k cs cs.length i w h cs) (if namedOK cs then (w, h, cs, true) else failT)
 | 0, i, hi, hn => by
  have e : cs.take i = cs := List.take_of_length_le (by omega)
  rw [e] at hn
  rw [if_pos hn]
  refine Ev.step (Ev.const (o := some (w, h, cs, true)) rfl) (fun k => ?_)
  rw [spec_tyRead.l1, if_neg (by omega)]
 | m + 1, i, hi, hn => by
  have hlt : i < cs.length := by omega
  have hr : rd cs (i : Int) = cs[i] := by
   unfold rd
   rw [Int.toNat_natCast, List.getD_eq_getElem?_getD, List.getElem?_eq_getElem hlt]
   rfl
  have hw : wrap64 ((i : Int) + 1) = ((i + 1 : Nat) : Int) := by rw [w64 (by omega) (by omega)]; omega
  have ht : cs.take (i + 1) = cs.take i ++ [cs[i]] := List.take_succ_eq_append_getElem hlt
  have hs := namedOK_snoc (cs.take i) cs[i] hn
  have hpl : (cs.take i).length ≤ 36 := by rw [List.length_take]; omega
  have hb : ∀ K, Ev (fun k => spec_tyRead.l1 k cs cs.length (wrap64 ((i : Int) + 1)) w h cs) K →
    Ev (fun k => spec_tyRead.l1 k cs cs.length i w h cs) (if 97 ≤ cs[i] ∧ cs[i] ≤ 102 ∧ cs[i] ∈ cs.take i then failT else K) := by
   intro K hK
   have h2 := ty_l2 cs (cs.take i) i w h cs[i] K hpl hK (cs.take i).length 0 (by omega)
   refine Ev.step h2 (fun k => ?_)
   rw [spec_tyRead.l1, if_pos (by omega), if_pos (by omega), if_pos (by omega), if_pos (by omega), hr]
   simp only [Option.bind_some, Int.toNat_natCast]
   rfl
  by_cases hc : 97 ≤ cs[i] ∧ cs[i] ≤ 102 ∧ cs[i] ∈ cs.take i
  ·have h3 : ¬ namedOK cs := fun h4 => by
    have h5 := namedOK_take cs (i + 1) h4
    rw [ht] at h5
    exact hs.1 h5 hc
   rw [if_neg h3]
   -- the tail's answer does not matter: the inner walk fails first
   refine Ev.step (g' := fun k => spec_tyRead.l2 k cs[i] cs cs.length i (cs.take i) (cs.take i).length 0 w h cs) ?_ (fun k => ?_)
   ·exact ty_l2_hit cs (cs.take i) i w h cs[i] hpl hc.1 hc.2.1 (cs.take i).length 0 (by omega) hc.2.2
   ·rw [spec_tyRead.l1, if_pos (by omega), if_pos (by omega), if_pos (by omega), if_pos (by omega), hr]
    simp only [Option.bind_some, Int.toNat_natCast]
  ·have h4 := ty_l1 cs w h hl m (i + 1) (by omega) (by rw [ht]; exact hs.2 hc)
   rw [← hw] at h4
   have h5 := hb _ h4
   rwa [if_neg hc] at h5
def rr : List (List UInt8) → Nat → Nat → Nat → List Int → Option (Nat × Nat × List Int)
 | [], _, w, h, cs => some (w, h, cs)
 | r :: rs, x, w, h, cs => if r.all isCellB = true ∧ x + r.length ≠ 0 ∧ (h = 0 ∨ x + r.length = w) then rr rs 0 (x + r.length) (h + 1) (cs ++ ints r) else none
def tellR : Option (Nat × Nat × List Int) → Int × Int × List Int × Bool
 | none => failT
 | some (w, h, cs) => if (w ≤ 7 ∧ h ≤ 7 ∧ cs.length ≤ 36) ∧ namedOK cs then (w, h, cs, true) else failT
theorem ty_end (s : ByteArray) (w h : Nat) (cs : List Int) (i x : Int) (hi : ¬ i ≤ (s.size : Int)) : Ev (fun k => spec_tyRead.l0 k s x i w h cs) (tellR (some (w, h, cs))) := by
 by_cases hc : w ≤ 7 ∧ h ≤ 7 ∧ cs.length ≤ 36
 ·have h1 := ty_l1 cs w h hc.2.2 cs.length 0 (by omega) (by simpa using namedOK_nil)
  have e : tellR (some (w, h, cs)) = if namedOK cs then ((w : Int), (h : Int), cs, true) else failT := by
   unfold tellR
   exact ite_iff ⟨fun h2 => h2.2, fun h2 => ⟨hc, h2⟩⟩
  rw [e]
  refine Ev.step (g' := fun k => spec_tyRead.j2 k false w h cs) (Ev.step h1 fun k => ?_) (fun k => ?_)
  ·rw [spec_tyRead.j2, if_neg (by decide)]
   rfl
  ·rw [spec_tyRead.l0, if_neg hi, if_neg (by omega), if_neg (by omega), show decide ((cs.length : Int) > 36) = false from decide_eq_false (by omega)]
 ·have e : tellR (some (w, h, cs)) = failT := if_neg fun h2 => hc h2.1
  rw [e]
  refine Ev.step (g' := fun k => spec_tyRead.j2 k true w h cs) (Ev.step (Ev.const (o := some failT) rfl) fun k => ?_) (fun k => ?_)
  ·rw [spec_tyRead.j2, if_pos rfl]
   rfl
  ·rw [spec_tyRead.l0, if_neg hi]
   by_cases h1 : (w : Int) > 7
   ·rw [if_pos h1]
   ·rw [if_neg h1]
    by_cases h2 : (h : Int) > 7
    ·rw [if_pos h2]
    ·rw [if_neg h2, show decide ((cs.length : Int) > 36) = true from decide_eq_true (by omega)]
theorem ty_row (s : ByteArray) (x w h i : Nat) (cs : List Int) (hh : h ≤ 42) (hi : i ≤ 42) (K : Int × Int × List Int × Bool) (hK : Ev (fun k => spec_tyRead.l0 k s 0 ((i + 1 : Nat) : Int) x ((h + 1 : Nat) : Int) cs) K) :
  Ev (fun k => spec_tyRead.j1 k s x i false w h cs) (if x ≠ 0 ∧ (h = 0 ∨ x = w) then K else failT) := by
 have hw1 : wrap64 ((i : Int) + 1) = ((i + 1 : Nat) : Int) := by rw [w64 (by omega) (by omega)]; omega
 have hw2 : wrap64 ((h : Int) + 1) = ((h + 1 : Nat) : Int) := by rw [w64 (by omega) (by omega)]; omega
 by_cases hc : x ≠ 0 ∧ (h = 0 ∨ x = w)
 ·rw [if_pos hc]
  refine Ev.step hK fun k => ?_
  rw [spec_tyRead.j1, if_neg (by decide), hw1, hw2]
  by_cases h1 : (h : Int) > 0
  ·rw [if_pos h1, if_pos (by omega), if_neg (by omega)]
  ·rw [if_neg h1, if_neg (by omega)]
 ·rw [if_neg hc]
  refine Ev.step (Ev.const (o := some failT) rfl) fun k => ?_
  rw [spec_tyRead.j1, if_neg (by decide)]
  by_cases h1 : (h : Int) > 0
  ·rw [if_pos h1]
   by_cases h2 : (x : Int) = w
   ·rw [if_pos h2, if_pos (by omega)]
    rfl
   ·rw [if_neg h2]
    rfl
  ·rw [if_neg h1, if_pos (by omega)]
   rfl
theorem bt_drop (s : ByteArray) (i : Nat) (b : UInt8) (l : List UInt8) (h : s.data.toList.drop i = b :: l) : bt s (i : Int) = b.toNat ∧ i < s.size ∧ s.data.toList.drop (i + 1) = l := by
 have h1 : i < s.data.toList.length := by
  rcases Nat.lt_or_ge i s.data.toList.length with h2 | h2
  ·exact h2
  ·rw [List.drop_eq_nil_of_le h2] at h
   cases h
 have h2 := List.drop_eq_getElem_cons h1
 rw [h] at h2
 injection h2 with h3 h4
 have hlt : i < s.size := by rw [← data_length]; exact h1
 refine ⟨?_, hlt, h4.symm⟩
 rw [← rd_bytesOf]
 unfold rd bytesOf
 rw [Int.toNat_natCast, List.getD_eq_getElem?_getD, List.getElem?_map, List.getElem?_eq_getElem h1, ← h3]
 rfl
theorem ty_l0 (s : ByteArray) (hs : s.size ≤ 42) : ∀ (rest : List UInt8) (i x w h : Nat) (cs : List Int), s.data.toList.drop i = rest → i ≤ s.size → x ≤ i → h ≤ i → cs.length ≤ i →
  Ev (fun k => spec_tyRead.l0 k s x i w h cs) (tellR (rr (rows 47 rest) x w h cs))
 | [], i, x, w, h, cs, hd, hi, hx, hh, hc => by
  have hle : i = s.size := by
   have : s.data.toList.length ≤ i := List.drop_eq_nil_iff.1 hd
   rw [data_length] at this
   omega
  subst hle
  have h1 := ty_end s x (h + 1) cs ((s.size + 1 : Nat) : Int) 0 (by omega)
  have h2 := ty_row s x w h s.size cs (by omega) (by omega) _ h1
  have e : tellR (rr (rows 47 []) x w h cs) = if x ≠ 0 ∧ (h = 0 ∨ x = w) then tellR (some (x, h + 1, cs)) else failT := by
   simp only [rows, rr, List.all_nil, true_and, List.length_nil, Nat.add_zero, ints, List.map_nil, List.append_nil]
   by_cases hc : x ≠ 0 ∧ (h = 0 ∨ x = w)
   ·rw [if_pos hc, if_pos hc]
   ·rw [if_neg hc, if_neg hc]
    rfl
  rw [e]
  refine Ev.step h2 fun k => ?_
  rw [spec_tyRead.l0, if_pos (by omega), if_neg (by omega)]
 | b :: l, i, x, w, h, cs, hd, hi, hx, hh, hc => by
  obtain ⟨hb, hlt, hd2⟩ := bt_drop s i b l hd
  have hw1 : wrap64 ((i : Int) + 1) = ((i + 1 : Nat) : Int) := by rw [w64 (by omega) (by omega)]; omega
  have hw2 : wrap64 ((x : Int) + 1) = ((x + 1 : Nat) : Int) := by rw [w64 (by omega) (by omega)]; omega
  by_cases h47 : b = 47
  ·subst h47
   have h1 := ty_l0 s hs l (i + 1) 0 x (h + 1) cs hd2 (by omega) (by omega) (by omega) (by omega)
   have h2 := ty_row s x w h i cs (by omega) (by omega) _ h1
   have e : tellR (rr (rows 47 (47 :: l)) x w h cs) = if x ≠ 0 ∧ (h = 0 ∨ x = w) then tellR (rr (rows 47 l) 0 x (h + 1) cs) else failT := by
    rw [rows, if_pos rfl]
    simp only [rr, List.all_nil, true_and, List.length_nil, Nat.add_zero, ints, List.map_nil, List.append_nil]
    by_cases hc : x ≠ 0 ∧ (h = 0 ∨ x = w)
    ·rw [if_pos hc, if_pos hc]
    ·rw [if_neg hc, if_neg hc]
     rfl
   rw [e]
   refine Ev.step h2 fun k => ?_
   rw [spec_tyRead.l0, if_pos (by omega), if_pos (by omega), if_pos (by omega), hb]
   rfl
  ·have hne : ((b.toNat : Int) != 47) = true := by
    rw [bne_iff_ne]
    intro e
    apply h47
    apply UInt8.toNat_inj.1
    show b.toNat = 47
    omega
   obtain ⟨r, rs, e1⟩ : ∃ r rs, rows 47 l = r :: rs := by
    rcases e : rows 47 l with _ | ⟨r, rs⟩
    ·exact absurd e (rows_ne 47 l)
    ·exact ⟨r, rs, rfl⟩
   have e2 : rows 47 (b :: l) = (b :: r) :: rs := by rw [rows, if_neg h47, e1]
   have hstep : ∀ g : Nat → Option (Int × Int × List Int × Bool), ∀ K, Ev g K → (∀ k, spec_tyRead.j1 (k + 1) s x i true w h cs = g k) → Ev (fun k => spec_tyRead.l0 k s x i w h cs) K := by
    intro g K hg he
    refine Ev.step (g' := fun k => spec_tyRead.j1 k s x i true w h cs) (Ev.step hg he) fun k => ?_
    rw [spec_tyRead.l0, if_pos (by omega), if_pos (by omega), if_pos (by omega), hb, hne]
   by_cases hcb : isCellB b = true
   ·have h1 := ty_l0 s hs l (i + 1) (x + 1) w h (cs ++ [(b.toNat : Int)]) hd2 (by omega) (by omega) (by omega) (by rw [List.length_append]; simp; omega)
    have e : rr (rows 47 (b :: l)) x w h cs = rr (rows 47 l) (x + 1) w h (cs ++ [(b.toNat : Int)]) := by
     rw [e1, e2]
     simp only [rr, List.all_cons, hcb, Bool.true_and, List.length_cons, ints, List.map_cons, List.append_assoc, List.cons_append, List.nil_append]
     rw [show x + (r.length + 1) = x + 1 + r.length by omega]
    rw [e]
    refine hstep _ _ h1 fun k => ?_
    rw [spec_tyRead.j1, if_pos rfl, if_pos (by omega), if_pos (by omega), hb, tyIs_eq, hcb, Option.bind_some, if_pos rfl, if_pos (by omega), hw1, hw2]
   ·have e : tellR (rr (rows 47 (b :: l)) x w h cs) = failT := by
     rw [e2, rr, if_neg (fun h3 => by have h4 := h3.1; simp [hcb] at h4)]
     rfl
    rw [e]
    refine hstep (fun _ => some failT) _ (Ev.const rfl) fun k => ?_
    rw [spec_tyRead.j1, if_pos rfl, if_pos (by omega), if_pos (by omega), hb, tyIs_eq, Bool.eq_false_iff.2 hcb, Option.bind_some, if_neg (by decide)]
    rfl
theorem rr_more (w : Nat) (hw : w ≠ 0) : ∀ (rs : List (List UInt8)) (h : Nat) (cs : List Int), 0 < h → rr rs 0 w h cs = if evenRows w rs then some (w, h + rs.length, cs ++ ints rs.flatten) else none
 | [], h, cs, hh => by
  rw [if_pos (show evenRows w [] from fun r hr => by simp at hr)]
  simp [rr, ints]
 | r :: rs, h, cs, hh => by
  have ih := rr_more w hw rs (h + 1) (cs ++ ints r) (by omega)
  unfold rr
  rw [ite_iff (evenRows_cons w r rs)]
  by_cases hc : r.length = w ∧ r.all isCellB = true
  ·rw [if_pos ⟨hc.2, by omega, Or.inr (by omega)⟩, Nat.zero_add, hc.1, ih]
   by_cases h2 : evenRows w rs
   ·rw [if_pos h2, if_pos ⟨⟨rfl, hc.2⟩, h2⟩]
    simp only [List.length_cons, List.flatten_cons, ints_append, List.append_assoc]
    rw [show h + 1 + rs.length = h + (rs.length + 1) by omega]
   ·rw [if_neg h2, if_neg fun h3 => h2 h3.2]
  ·rw [if_neg (fun h3 => hc ⟨by have := h3.2.2; omega, h3.1⟩), if_neg fun h3 => hc h3.1]
theorem rr_all (rs : List (List UInt8)) (hn : rs ≠ []) : rr rs 0 0 0 [] = if tw rs ≠ 0 ∧ evenRows (tw rs) rs then some (tw rs, rs.length, ints rs.flatten) else none := by
 rcases rs with _ | ⟨r, rs⟩
 ·exact absurd rfl hn
 ·have e : tw (r :: rs) = r.length := rfl
  unfold rr
  rw [e]
  by_cases hc : r.all isCellB = true ∧ r.length ≠ 0
  ·rw [if_pos ⟨hc.1, by omega, Or.inl rfl⟩, Nat.zero_add, rr_more r.length hc.2 rs 1 _ (by omega)]
   rw [ite_iff (evenRows_cons r.length r rs |> fun h => show evenRows r.length rs ↔ r.length ≠ 0 ∧ evenRows r.length (r :: rs) from ⟨fun h2 => ⟨hc.2, h.2 ⟨⟨rfl, hc.1⟩, h2⟩⟩, fun h2 => (h.1 h2.2).2⟩)]
   simp only [List.length_cons, List.flatten_cons, ints_append, List.nil_append]
   rw [show 1 + rs.length = rs.length + 1 by omega]
  ·rw [if_neg (fun h3 => hc ⟨h3.1, by have := h3.2.1; omega⟩), if_neg fun h3 => hc ⟨((evenRows_cons _ _ _).1 h3.2).1.2, h3.1⟩]
theorem tyRead_ev (s : ByteArray) : Ev (fun k => spec_tyRead.f k s) (tellT (trayOf s)) := by
 by_cases hs : s.size ≤ 42
 ·have h1 := ty_l0 s hs s.data.toList 0 0 0 0 [] rfl (by omega) (by omega) (by omega) (by simp)
  have e : tellR (rr (rows 47 s.data.toList) 0 0 0 []) = tellT (trayOf s) := by
   rw [rr_all _ (rows_ne 47 _)]
   unfold trayOf trayRows
   have h2 := evenRows_flat (tw (rows 47 s.data.toList)) (rows 47 s.data.toList)
   generalize rows 47 s.data.toList = rs at h2 ⊢
   by_cases hc : tw rs ≠ 0 ∧ evenRows (tw rs) rs
   ·rw [if_pos hc]
    have h3 := h2 hc.2
    show (if _ then _ else _) = _
    rw [ite_iff (show ((tw rs ≤ 7 ∧ rs.length ≤ 7 ∧ (ints rs.flatten).length ≤ 36) ∧ namedOK (ints rs.flatten)) ↔ okRows rs by
     rw [ints_length, h3]
     exact ⟨fun h => ⟨⟨by omega, h.1⟩, hc.2, h.2⟩, fun h => ⟨h.1.2, h.2.2⟩⟩)]
    by_cases h4 : okRows rs
    ·rw [if_pos h4, if_pos h4]
     rfl
    ·rw [if_neg h4, if_neg h4]
     rfl
   ·rw [if_neg hc, if_neg (fun h => hc ⟨by have := h.1.1; omega, h.2.1⟩)]
    rfl
  rw [← e]
  refine Ev.congr h1 fun k => ?_
  rw [spec_tyRead.f, if_neg (by omega)]
  rfl
 ·have e : trayOf s = none := by
   rcases h : trayOf s with _ | t
   ·rfl
   ·exact absurd (trayOf_small s (by rw [h]; exact fun e => nomatch e)) hs
  rw [e]
  refine Ev.congr (Ev.const (o := some failT) rfl) fun k => ?_
  rw [spec_tyRead.f, if_pos (by omega)]
  rfl
end Go.Proofs.YtmefnfhghfemgaaDoor.Q
end
