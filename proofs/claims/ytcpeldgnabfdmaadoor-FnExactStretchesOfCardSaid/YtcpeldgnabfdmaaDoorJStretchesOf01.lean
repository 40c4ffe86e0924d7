/- Texts of this claim, joined. -/
import Derived.Test.YtcpeldgnabfdmaaDoorProg
import Derived.Below
import Derived.Deep.Draws
import Derived.Deep.AppendLies
import Derived.Maps.AppendAt
import Derived.OwnWalk
import Derived.Laws.BytesArg
import Derived.Laws.MakeOwn
import Derived.Laws.OwnMore
import Derived.Deep.OwnRows
import Derived.Tactics
import Derived.Lib.ConvBytes
import Derived.Laws.Slices
import Derived.WalkKit
import Derived.KernelRfl
import Derived.RowKit3
import Derived.Deep.LoopGhost
import Derived.Deep.QuietTactic
import Derived.BigQuiet
import Derived.WideLaws
import Derived.Deep.DeepCutAuto
import Derived.Deep.CutBlock
import Derived.Deep.RegionHeld3
import Derived.Laws.Rows
import Derived.Lib.AppendStr
import Derived.ArgAppend
import Derived.Laws.IdiomCopy
import Derived.OrdersHeld
import Derived.Laws.BitsLemmas
import Derived.RowKit
import Derived.Test.YtcpeldgnabfdmaaDoorV
import Derived.Lib.Split
import Derived.Lib.SplitLaws
import Derived.Lib.IndexLaws
import Derived.Ground.SlsfProg
import Derived.Shelf.SlSortCmp.NoneTotal
import Derived.Shelf.Slices.Turned
import Derived.Shelf.Strings.Count
import Derived.Shelf.Strings.OnBuilder
import Derived.Shelf.Strings.Search3
import Derived.Shelf.Strings.SlTrimAscii
import Derived.Shelf.Strings.Split
import Derived.Laws.Runes
set_option linter.unusedVariables false
set_option linter.unusedSimpArgs false
set_option linter.unusedSectionVars false
section
namespace Go.Proofs.YtcpeldgnabfdmaaDoor.Q
open Go.RowKit Go.Proofs.YtcpeldgnabfdmaaDoorW.PrintWords Go.Proofs.YtcpeldgnabfdmaaDoorW.PrintLast Go.Proofs.YtcpeldgnabfdmaaDoorW.PrintMore
attribute [local go_sem] max2_int min2_int max_two min_two max_three min_three max_four min_four
set_option linter.unusedVariables false
set_option linter.unusedSimpArgs false
def errW : Option Int → Value
 | none => .nilIface
 | some c => .iface 0 (.int .i64 c)
theorem errW_none : errW none = .nilIface := rfl
theorem errW_some (c : Int) : errW (some c) = .iface 0 (.int .i64 c) := rfl
theorem info3 : (Tryd.prog.info? 3).map (fun i => (i.zero, i.size, i.bytes)) = some (some (.int .i64 0), 1, 8) := by kernel_rfl
theorem info5 : (Tryd.prog.info? 5).map (fun i => (i.zero, i.size, i.bytes)) = some (some (.int .u8 0), 1, 1) := by kernel_rfl
theorem info46 : (Tryd.prog.info? 46).map (fun i => (i.zero, i.size, i.bytes)) = some (some (.slice none 0 0), 1, 24) := by kernel_rfl
-- the values' own types
structure S37 where
 f0 : Int
 f1 : Int
 f2 : (List Int)
def z37 : S37 := ⟨(0 : Int), (0 : Int), ([] : List Int)⟩
def rd_Lii (xs : List (List Int)) (i : Int) : (List Int) := xs.getD i.toNat ([] : List Int)
theorem at_Lii {w : World} {A : Option Addr} {n : Nat} {xs : List (List Int)} (h : Kd.C (Kd.slice 3 (Kd.int .i64)) w A n xs) (i : Int) (h0 : 0 ≤ i) (h1 : i < n) : ∃ ad A0 c0, A = some ad ∧ w.cell? (ad.add i.toNat) = some (.slice A0 (rd_Lii xs i).length c0) ∧ (rd_Lii xs i).length ≤ c0 ∧ (Kd.int .i64).C w A0 (rd_Lii xs i).length (rd_Lii xs i) := by
 obtain ⟨ad, c, e, _, hK, hc0⟩ := Kd.C_get h ([] : List Int) i h0 h1
 have hc : ∀ j u, c[j]? = some u → w.cell? (ad.add (i.toNat * 1 + j)) = some u := hc0
 obtain ⟨A0, c0, rfl, l0, g0⟩ := hK
 exact ⟨ad, A0, c0, e, by have hq := hc 0 _ rfl; rwa [Nat.mul_one, Nat.add_zero] at hq, l0, g0⟩
end Go.Proofs.YtcpeldgnabfdmaaDoor.Q
end
section
namespace Go.Proofs.YtcpeldgnabfdmaaDoor.Q
open Go.RowKit Go.Proofs.YtcpeldgnabfdmaaDoorW.PrintWords Go.Proofs.YtcpeldgnabfdmaaDoorW.PrintLast Go.Proofs.YtcpeldgnabfdmaaDoorW.PrintMore
theorem R_any {α : Type} {d : Kd α} {e base : Nat} {ok ok' : Nat → Prop} {w : World} {v : Value} {xs : List α} (h : Kd.R d e w base ok v xs)
  (hok : ∀ k, ok k → ok' k := by intro _ hk; repeat' (first | exact trivial | exact hk | exact hk.1 | exact hk.2 | exact hk.1.1 | exact hk.1.2 | exact hk.2.1 | exact hk.2.2 | refine ⟨?_, ?_⟩)) : Kd.R d e w base ok' v xs := Kd.R_mono h hok
theorem bel {B : Nat} {w0 w w1 : World} (_H : Aside0 (Below B w0 w)) (h : Below B w0 w1 := by repeat (first | (with_reducible first | exact Aside0.out (by assumption) | apply below_alloc | apply pw_below_drewN | apply below_drew1 | refine below_set ?_ (Aside0.out (by assumption))) | exact Aside0.out (by assumption))) : Below B w0 w1 := h
theorem blc {w1 : World} {g : Nat} {o : Option Obj} (h : w1.heap[g]? = o := by (with_reducible repeat (first | refine blk_drewN ?_ _ | refine blk_drew ?_ | refine blk_alloc ?_ _)); exact Aside0.out (by assumption)) : w1.heap[g]? = o := h
theorem rch {α : Type} {d : Kd α} {e base : Nat} {ok ok' : Nat → Prop} {w w1 : World} {v : Value} {xs : List α} (_H : Aside0 (Kd.R d e w base ok v xs))
  (h : Kd.R d e w1 base ok' v xs := by (with_reducible repeat (first | apply Kd.R_alloc | apply Kd.R_drewN | apply Kd.R_drew)); (first | exact Aside0.out (by assumption) | exact R_any (Aside0.out (by assumption)))) : Kd.R d e w1 base ok' v xs := h
theorem nil_bool {α : Type} [BEq α] (l : List α) : (l != []) = !l.isEmpty := by cases l <;> rfl
section
variable {P : Program} {ops : Array Oper} {Q : Exit → Act → World → Prop}
theorem gcall {rest : List Oper} {oi : Oper} {a : Act} {w : World} (N : Option Tmp) {f : FuncId} {fn : Func} {as_ : Array Operand} {ts : Array TypeId} (hf : P.funcs[f]? = some fn) (args : Array Value) (hop : oi.op = .call { callee := .value (.func f), args := as_, argTypes := ts })
  (h : Calls P f args w fun e w' => ∃ v, e = .returned v ∧ wpList P ops Q rest (a.put N v) w') (hd : oi.dst = N := by rfl) (hg : oi.guard = none := by rfl) (hname : (fn.name == "runtime.NumGoroutine") = false := by kernel_rfl) (hb : fn.body.isSome = true := by rfl)
  (hargs : as_.map a.eval = args := by (try simp only [List.map_toArray, List.map_cons, List.map_nil]); first | done | rfl | (simp only [List.length_drop, List.length_take]; rfl)) : wpList P ops Q (oi :: rest) a w := goesL_ N hd hg hf hname hb args hop hargs h
theorem boxE {rest : List Oper} {o : Oper} {a : Act} {W : World} {N : Tmp} {cs : Array Value} {t : TypeId}
  (h : ∀ g, g = W.heap.size → ∀ w1, w1.heap[g]? = some (.cells cs t (0, 0)) → Below W.heap.size W w1 → wpList P ops Q rest (a.put o.dst (.pointer (some ⟨g, 0, none⟩))) w1) (hgd : o.guard = none := by rfl) (hd : o.dst = some N := by rfl)
  (hrun : (execOp a.eval o).run P W = .ok (.value (.pointer (some ⟨W.heap.size, 0, none⟩))) (W.alloc (.cells cs t (0, 0))) := by first | (go_simp; done) | (go_simp; rfl)) : wpList P ops Q (o :: rest) a W := box_event hgd hd hrun h
theorem gsz {w W : World} {g : Nat} (hg : g = W.heap.size) (h : Below w.heap.size w W) : w.heap.size ≤ g := by rw [hg]; exact h.size
theorem rH {A B : Prop} {β : Sort _} {y z : β} (hy : y = z) (H : A)
  (k : y = z → A → B := by intro hy H; first | (rw [hy]; with_reducible exact H) | (have H2_ := (Option.bind_some _ _).symm.trans H; rw [hy]; with_reducible exact H2_) | (have H2_ := (Option.bind_some _ _).symm.trans H; with_reducible exact H2_) | with_reducible exact H | (rw [hy]; exact H) | exact H) : B := k hy H
theorem R_litG {α : Type} {o : Oper} {rest : List Oper} {a : Act} {W : World} (d : Kd α) {w0 : World} (base e : Nat) (hw : Region.wanted o (yielded ops a.tmps) = true) {N : Tmp} (_hd : o.dst = some N) {xs : List α} {inner : List Value} {ok okp : Nat → Prop}
  (hrun : (execOp a.eval o).run P W = .ok (.value (.slice (some ⟨W.heap.size, 0, none⟩) xs.length xs.length)) (W.alloc (.cells inner.toArray e)))
  (hrep : Reps (d.M W base okp) d.sz xs inner) (hok : ∀ k, okp k → ok k) (hfresh : ok W.heap.size) (HB : Below base w0 W) (hbase : base ≤ W.heap.size) (hm : xs.length ≤ 9223372036854775807)
  (h : ∀ v1 w1, d.R e w1 base ok v1 xs → Below base w0 w1 → W.grownBy w1 none → (∃ b, v1.ownBlock = some b ∧ W.heap.size ≤ b) → wpList P ops Q rest (a.put o.dst v1) w1) : wpList P ops Q (o :: rest) a W :=
 wpList_step fun _ hK => Kd.R_lit_step d base e hw _hd hrun hrep hok hfresh HB hbase hm fun v1 w1 h1 h2 h3 h4 => hK _ _ (h v1 w1 h1 h2 h3 h4)
end
end Go.Proofs.YtcpeldgnabfdmaaDoor.Q
end
section
namespace Go.Proofs.YtcpeldgnabfdmaaDoor.Q
open Go.RowKit Go.Proofs.YtcpeldgnabfdmaaDoorW.PrintWords Go.Proofs.YtcpeldgnabfdmaaDoorW.PrintLast Go.Proofs.YtcpeldgnabfdmaaDoorW.PrintMore
attribute [local go_sem] max2_int min2_int max_two min_two max_three min_three max_four min_four
set_option linter.unusedVariables false
set_option linter.unusedSimpArgs false
def laws_eqIntS.l0 : Nat → List Int → List Int → Int → Option (Bool)
 | 0, _, _, _ => none
 | k + 1, x0, x1, x5 => if x5 < (x0.length : Int) then (if 0 ≤ x5 then (if x5 < (x1.length : Int) then (if (rd x0 x5) = (rd x1 x5) then (laws_eqIntS.l0 k x0 x1 (wrap64 (x5 + 1))) else (some false)) else (none)) else (none)) else (some true)
def laws_eqIntS.f (k : Nat) (l0 : List Int) (l1 : List Int) : Option (Bool) := if (l0.length : Int) = (l1.length : Int) then (laws_eqIntS.l0 k l0 l1 0) else (some false)
set_option maxHeartbeats 8000000 in
set_option maxRecDepth 100000 in
theorem laws_eqIntS.calls (k : Nat) (A0 : Option Addr) (c0 : Nat) (l0 : List Int) (A1 : Option Addr) (c1 : Nat) (l1 : List Int) (r : Bool) (w : World) (hr0 : Kd.C (Kd.int .i64) w A0 l0.length l0) (hc0 : l0.length ≤ c0) (hr1 : Kd.C (Kd.int .i64) w A1 l1.length l1) (hc1 : l1.length ≤ c1) (h : laws_eqIntS.f k l0 l1 = some r) :
  Calls Tryd.prog 26 #[.slice A0 l0.length c0, .slice A1 l1.length c1] w fun e w' => e = .returned (.bool r) ∧ Drawn0 w w' := by
 have HR0 := Aside0.mk hr0
 have HC0 := Aside0.mk hc0
 clear hr0 hc0
 have HR1 := Aside0.mk hr1
 have HC1 := Aside0.mk hc1
 clear hr1 hc1
 have H : (if (l0.length : Int) = (l1.length : Int) then (laws_eqIntS.l0 k l0 l1 0) else (some false)) = some r := h
 clear h
 by_cases c3 : (l0.length : Int) = (l1.length : Int)
 ·rw [if_pos c3] at H
  have c3b0 : ((l0.length : Int) == (l1.length : Int)) = true := beq_iff_eq.mpr c3
  have c3b1 : ((l0.length : Int) != (l1.length : Int)) = false := bne_eq_false_iff_eq.mpr c3
  have c3b2 : (l0.length == l1.length) = true := by first | simpa using c3 | (simp at c3 ⊢; omega)
  clear c3
  have H' := Aside0.mk H
  clear H
  go_enter Tryd.func26, Tryd.ntmps26
  go_wp2
  repeat (go_quiet (fail); try go_wp2)
  go_loopg [5] k (fun kq v5 w' => ∃ (x5_1 : Int), v5 = .int .i64 x5_1 ∧ Aside0 (laws_eqIntS.l0 kq l0 l1 x5_1 = some r) ∧ Aside0 (kq ≤ k) ∧ Drawn0 w w')
  case atStart => exact ⟨(0), (by first | rfl | (simp; done) | (simp [*]; done)), H', ⟨Nat.le_refl _⟩, by repeat (first | exact Drawn0.refl _ | apply Drawn0.step)⟩
  case round =>
   clear H'
   try clear c1
   try clear c2
   try clear p2
   try clear c3
   try clear c3b0
   try clear c3b0y
   try clear c3b1
   try clear c3b2
   obtain ⟨x5_1, rfl, HA, HK1, ⟨m1, rfl⟩⟩ := hrel
   cases gk with
   | zero => exact absurd HA.out (by simp [laws_eqIntS.l0])
   | succ k1 =>
    have H := HA.out
    clear HA
    simp only [laws_eqIntS.l0] at H
    by_cases c4 : x5_1 < (l0.length : Int)
    ·rw [if_pos c4] at H
     have c4b0 : decide (x5_1 < (l0.length : Int)) = true := decide_eq_true c4
     clear c4
     by_cases c5 : 0 ≤ x5_1
     ·rw [if_pos c5] at H
      have c5b0 : decide (0 ≤ x5_1) = true := decide_eq_true c5
      clear c5
      by_cases c6 : x5_1 < (l1.length : Int)
      ·rw [if_pos c6] at H
       have c6b0 : decide (x5_1 < (l1.length : Int)) = true := decide_eq_true c6
       clear c6
       by_cases c7 : (rd l0 x5_1) = (rd l1 x5_1)
       ·rw [if_pos c7] at H
        have c7b0 : ((rd l0 x5_1) == (rd l1 x5_1)) = true := beq_iff_eq.mpr c7
        have c7b1 : ((rd l0 x5_1) != (rd l1 x5_1)) = false := bne_eq_false_iff_eq.mpr c7
        clear c7
        have H' := Aside0.mk H
        clear H
        have p101 : 0 ≤ (x5_1 : Int) := of_decide_eq_true (by first | (with_reducible assumption) | assumption)
        have q101 : x5_1 < (l0.length : Int) := of_decide_eq_true (by first | (with_reducible assumption) | assumption)
        obtain ⟨ad101, e101, hx101_0⟩ := Kd.at_int HR0.out x5_1 p101 q101
        cases e101
        replace p101 := eq_true p101
        replace q101 := eq_true q101
        have p102 : 0 ≤ (x5_1 : Int) := of_decide_eq_true (by first | (with_reducible assumption) | assumption)
        have q102 : x5_1 < (l1.length : Int) := of_decide_eq_true (by first | (with_reducible assumption) | assumption)
        obtain ⟨ad102, e102, hx102_0⟩ := Kd.at_int HR1.out x5_1 p102 q102
        cases e102
        replace p102 := eq_true p102
        replace q102 := eq_true q102
        go_wp2
        repeat (go_quiet (fail); try go_wp2)
        go_roundg k1
        case measure => have := HK1.out; omega
        case rel => exact ⟨(wrap64 (x5_1 + 1)), (by first | rfl | (simp; done) | (simp [*]; done)), H', ⟨by have := HK1.out; omega⟩, by repeat (first | exact Drawn0.refl _ | apply Drawn0.step)⟩
       ·rw [if_neg c7] at H
        have c7b0 : ((rd l0 x5_1) == (rd l1 x5_1)) = false := beq_eq_false_iff_ne.mpr c7
        have c7b1 : ((rd l0 x5_1) != (rd l1 x5_1)) = true := bne_iff_ne.mpr c7
        obtain rfl := Option.some.inj H
        have p101 : 0 ≤ (x5_1 : Int) := of_decide_eq_true (by first | (with_reducible assumption) | assumption)
        have q101 : x5_1 < (l0.length : Int) := of_decide_eq_true (by first | (with_reducible assumption) | assumption)
        obtain ⟨ad101, e101, hx101_0⟩ := Kd.at_int HR0.out x5_1 p101 q101
        cases e101
        replace p101 := eq_true p101
        replace q101 := eq_true q101
        have p102 : 0 ≤ (x5_1 : Int) := of_decide_eq_true (by first | (with_reducible assumption) | assumption)
        have q102 : x5_1 < (l1.length : Int) := of_decide_eq_true (by first | (with_reducible assumption) | assumption)
        obtain ⟨ad102, e102, hx102_0⟩ := Kd.at_int HR1.out x5_1 p102 q102
        cases e102
        replace p102 := eq_true p102
        replace q102 := eq_true q102
        go_wp2
        repeat (go_quiet (fail); try go_wp2)
        go_ret
        exact ⟨by first | rfl | (simp; done) | (simp [*]; done), by repeat (first | exact Drawn0.refl _ | apply Drawn0.step)⟩
      ·rw [if_neg c6] at H
       exact absurd H (by simp)
     ·rw [if_neg c5] at H
      exact absurd H (by simp)
    ·rw [if_neg c4] at H
     have c4b0 : decide (x5_1 < (l0.length : Int)) = false := decide_eq_false c4
     clear c4
     obtain rfl := Option.some.inj H
     go_wp2
     repeat (go_quiet (fail); try go_wp2)
     go_ret
     exact ⟨by first | rfl | (simp; done) | (simp [*]; done), by repeat (first | exact Drawn0.refl _ | apply Drawn0.step)⟩
 ·rw [if_neg c3] at H
  have c3b0 : ((l0.length : Int) == (l1.length : Int)) = false := beq_eq_false_iff_ne.mpr c3
  have c3b1 : ((l0.length : Int) != (l1.length : Int)) = true := bne_iff_ne.mpr c3
  have c3b2 : (l0.length == l1.length) = false := by first | simpa using c3 | (simp at c3 ⊢; omega)
  obtain rfl := Option.some.inj H
  go_enter Tryd.func26, Tryd.ntmps26
  go_wp2
  repeat (go_quiet (fail); try go_wp2)
  go_ret
  exact ⟨by first | rfl | (simp; done) | (simp [*]; done), by repeat (first | exact Drawn0.refl _ | apply Drawn0.step)⟩
def laws_markIntS.l0 : Nat → List Int → Int → Int → Option (Int × List Int)
 | 0, _, _, _ => none
 | k + 1, x0, x1, x5 => if x5 < (x0.length : Int) then (if 0 ≤ x5 then (laws_markIntS.l0 k (x0.set (x5 : Int).toNat x1) (wrap64 (x1 + 1)) (wrap64 (x5 + 1))) else (none)) else (some (x1, x0))
def laws_markIntS.f (k : Nat) (l0 : List Int) (a1 : Int) : Option (Int × List Int) := laws_markIntS.l0 k l0 a1 0
set_option maxHeartbeats 8000000 in
set_option maxRecDepth 100000 in
theorem laws_markIntS.calls (k : Nat) (P0_ : Nat → Prop) (u9000_ : Value) (l0 : List Int) (a1 : Int) (r1 : Int) (r2 : List Int) (w0 w : World) (hB : Below w0.heap.size w0 w) (ho0 : Kd.R (Kd.int .i64) 3 w w0.heap.size P0_ u9000_ l0) (h : laws_markIntS.f k l0 a1 = some (r1, r2)) :
  Calls Tryd.prog 27 #[u9000_, .int .i64 a1] w fun e w' => e = .returned (.int .i64 r1) ∧ Kd.R (Kd.int .i64) 3 w' w0.heap.size (fun k_ => (P0_ k_ ∨ w.heap.size ≤ k_)) u9000_ r2 ∧ Below w0.heap.size w0 w' ∧ Kept w w' (fun k_ => P0_ k_) := by
 have HO0 := Aside0.mk (show Kd.R (Kd.int .i64) 3 w w0.heap.size (fun k_ => (P0_ k_ ∨ w.heap.size ≤ k_)) u9000_ l0 from Kd.R_mono ho0 (fun k_ hk => (.inl hk)))
 have HK := Aside0.mk (Kept.refl w (fun k_ => P0_ k_))
 have HW0 := Aside0.mk hB.size
 have HB := Aside0.mk hB
 clear hB
 have H : (laws_markIntS.l0 k l0 a1 0) = some (r1, r2) := h
 clear h
 have H' := Aside0.mk H
 clear H
 go_enter Tryd.func27, Tryd.ntmps27
 go_wp2
 go_loopg [1, 5] k (fun kq v1 v5 w' => ∃ (x0_1 : List Int) (x1_1 : Int) (x5_1 : Int), v1 = .int .i64 x1_1 ∧ v5 = .int .i64 x5_1 ∧ Aside0 (laws_markIntS.l0 kq x0_1 x1_1 x5_1 = some (r1, r2)) ∧ Aside0 (kq ≤ k) ∧ Aside0 (Kd.R (Kd.int .i64) 3 w' w0.heap.size (fun k_ => (P0_ k_ ∨ w.heap.size ≤ k_)) u9000_ x0_1) ∧ Aside0 (Kept w w' (fun k_ => P0_ k_)) ∧ Aside0 (Below w0.heap.size w0 w'))
 case atStart => exact ⟨(l0), (a1), (0), (by first | rfl | (simp; done) | (simp [*]; done)), (by first | rfl | (simp; done) | (simp [*]; done)), H', ⟨Nat.le_refl _⟩, ⟨rch HO0⟩, ⟨by repeat (first | (with_reducible first | exact HK.out | apply Kept.alloc | apply Kept.drewN | apply Kept.drew) | exact HK.out)⟩, ⟨bel HB⟩⟩
 case round =>
  clear H'
  try clear c2
  try clear p2
  obtain ⟨x0_1, x1_1, x5_1, rfl, rfl, HA, HK1, HO_0, HK, HB⟩ := hrel
  cases gk with
  | zero => exact absurd HA.out (by simp [laws_markIntS.l0])
  | succ k1 =>
   have H := HA.out
   clear HA
   simp only [laws_markIntS.l0] at H
   by_cases c3 : x5_1 < (x0_1.length : Int)
   ·rw [if_pos c3] at H
    have c3b0 : decide (x5_1 < (x0_1.length : Int)) = true := decide_eq_true c3
    clear c3
    by_cases c4 : 0 ≤ x5_1
    ·rw [if_pos c4] at H
     have c4b0 : decide (0 ≤ x5_1) = true := decide_eq_true c4
     clear c4
     obtain ⟨y101, hy101⟩ : ∃ y_ : List Int, y_ = (x0_1.set (x5_1 : Int).toNat x1_1) := ⟨_, rfl⟩
     replace H : (laws_markIntS.l0 k1 y101 (wrap64 (x1_1 + 1)) (wrap64 (x5_1 + 1))) = some (r1, r2) := rH hy101 H
     have Ny101 := Aside0.mk hy101
     clear hy101
     have H' := Aside0.mk H
     clear H
     obtain ⟨Ao6, co6, eo6⟩ := Kd.R_slice HO_0.out
     subst eo6
     have p5 : 0 ≤ (x5_1 : Int) := of_decide_eq_true (by first | (with_reducible assumption) | assumption)
     have q5 : (x5_1 : Int) < ((x0_1.length : Int) : Int) := of_decide_eq_true (by first | (with_reducible assumption) | assumption)
     obtain ⟨go5, co5, eo5, gb5, gl5, cl5, HG5⟩ := Kd.R_form HO_0.out (by omega)
     (first | cases eo5 | (injection eo5 with ea_ en_ ec_; (first | subst ea_ | (injection ea_ with ea_; subst ea_)); subst ec_; clear en_))
     have GB5 := Aside0.mk gb5
     have GG5 := Aside0.mk HG5
     clear gb5 gl5 HG5
     have HMgo5 := Aside0.mk (show (P0_ go5 ∨ w.heap.size ≤ go5) from (HO_0.out.1 _ rfl))
     obtain ⟨hx5_0, hf5_0⟩ := Kd.R_celln 0 HO_0.out (x5_1 : Int) p5 q5
     replace p5 := eq_true p5
     replace q5 := eq_true q5
     have HP7 := Kd.R_putg HO_0.out (x5_1 : Int) x1_1
     go_wp2_with (first | ((with_reducible refine gate_store (t := 3) (p := 15) rfl ?_); refine store_event (t := 3) (p := 15) (v := ?vo_w8) (w1 := (wr.setCell ⟨go5, (x5_1 : Int).toNat, none⟩ (.int .i64 x1_1))) ?hg ?ho ?hn ?hr ?_; (case ho => rfl); (case hg => rfl); (case hn => rfl); (case hr => first | (go_simp; done) | (go_simp; rfl)); intro w8 hw; have hg : wr.grownBy w8 (some go5) := (by rw [hw]; exact HP7.2); have hp_ : Kd.R (Kd.int .i64) 3 w8 w0.heap.size (fun k_ => (P0_ k_ ∨ w.heap.size ≤ k_)) (.slice (some ⟨go5, 0, none⟩) x0_1.length co6) y101 := (by rw [hw, Ny101.out]; (first | exact HP7.1 | exact R_any HP7.1)); clear HP7; have n0_ := Aside0.mk (hp_); have n1_ := Aside0.mk ((by rw [hw]; exact below_set (HB.out) GB5.out : Below w0.heap.size w0 w8)); have n2_ := Aside0.mk (Kept.of_grown (S := (fun k_ => P0_ k_)) hg (by repeat (first | (with_reducible first | exact HK.out | apply Kept.alloc | apply Kept.drewN | apply Kept.drew) | exact HK.out)) (fun k_ e_ => (HO_0.out.1 k_ e_))); clear HO_0; clear HB; clear HK; have HO_0 := n0_; have HB := n1_; have HK := n2_; clear n0_ n1_ n2_; clear hg hw hp_))
     go_roundg k1
     case measure => have := HK1.out; omega
     case rel => exact ⟨(y101), (wrap64 (x1_1 + 1)), (wrap64 (x5_1 + 1)), (by first | rfl | (simp; done) | (simp [*]; done)), (by first | rfl | (simp; done) | (simp [*]; done)), H', ⟨by have := HK1.out; omega⟩, ⟨rch HO_0⟩, ⟨by repeat (first | (with_reducible first | exact HK.out | apply Kept.alloc | apply Kept.drewN | apply Kept.drew) | exact HK.out)⟩, ⟨bel HB⟩⟩
    ·rw [if_neg c4] at H
     exact absurd H (by simp)
   ·rw [if_neg c3] at H
    have c3b0 : decide (x5_1 < (x0_1.length : Int)) = false := decide_eq_false c3
    clear c3
    simp only [Option.some.injEq, Prod.mk.injEq] at H
    obtain ⟨rfl, rfl⟩ := H
    obtain ⟨Ao9, co9, eo9⟩ := Kd.R_slice HO_0.out
    subst eo9
    go_wp2
    go_ret
    exact ⟨by first | rfl | (simp [errW_none, errW_some] <;> rfl) | (simp [*, errW_none, errW_some] <;> rfl), rch HO_0, by repeat (first | (with_reducible first | exact HB.out | apply below_alloc | apply pw_below_drewN | apply below_drew1) | exact HB.out), by repeat (first | (with_reducible first | exact HK.out | apply Kept.alloc | apply Kept.drewN | apply Kept.drew) | exact HK.out)⟩
def laws_heldIntS.l0 : Nat → List Int → Int → Int → Option (Int)
 | 0, _, _, _ => none
 | k + 1, x0, x1, x5 => if x5 < (x0.length : Int) then (if 0 ≤ x5 then (if (rd x0 x5) = x1 then (laws_heldIntS.l0 k x0 (wrap64 (x1 + 1)) (wrap64 (x5 + 1))) else (some (-1))) else (none)) else (some x1)
def laws_heldIntS.f (k : Nat) (l0 : List Int) (a1 : Int) : Option (Int) := laws_heldIntS.l0 k l0 a1 0
set_option maxHeartbeats 8000000 in
set_option maxRecDepth 100000 in
theorem laws_heldIntS.calls (k : Nat) (A0 : Option Addr) (c0 : Nat) (l0 : List Int) (a1 : Int) (r : Int) (w : World) (hr0 : Kd.C (Kd.int .i64) w A0 l0.length l0) (hc0 : l0.length ≤ c0) (h : laws_heldIntS.f k l0 a1 = some r) :
  Calls Tryd.prog 28 #[.slice A0 l0.length c0, .int .i64 a1] w fun e w' => e = .returned (.int .i64 r) ∧ Drawn0 w w' := by
 have HR0 := Aside0.mk hr0
 have HC0 := Aside0.mk hc0
 clear hr0 hc0
 have H : (laws_heldIntS.l0 k l0 a1 0) = some r := h
 clear h
 have H' := Aside0.mk H
 clear H
 go_enter Tryd.func28, Tryd.ntmps28
 go_wp2
 go_loopg [1, 5] k (fun kq v1 v5 w' => ∃ (x1_1 : Int) (x5_1 : Int), v1 = .int .i64 x1_1 ∧ v5 = .int .i64 x5_1 ∧ Aside0 (laws_heldIntS.l0 kq l0 x1_1 x5_1 = some r) ∧ Aside0 (kq ≤ k) ∧ Drawn0 w w')
 case atStart => exact ⟨(a1), (0), (by first | rfl | (simp; done) | (simp [*]; done)), (by first | rfl | (simp; done) | (simp [*]; done)), H', ⟨Nat.le_refl _⟩, by repeat (first | exact Drawn0.refl _ | apply Drawn0.step)⟩
 case round =>
  clear H'
  try clear c2
  try clear p2
  obtain ⟨x1_1, x5_1, rfl, rfl, HA, HK1, ⟨m1, rfl⟩⟩ := hrel
  cases gk with
  | zero => exact absurd HA.out (by simp [laws_heldIntS.l0])
  | succ k1 =>
   have H := HA.out
   clear HA
   simp only [laws_heldIntS.l0] at H
   by_cases c3 : x5_1 < (l0.length : Int)
   ·rw [if_pos c3] at H
    have c3b0 : decide (x5_1 < (l0.length : Int)) = true := decide_eq_true c3
    clear c3
    by_cases c4 : 0 ≤ x5_1
    ·rw [if_pos c4] at H
     have c4b0 : decide (0 ≤ x5_1) = true := decide_eq_true c4
     clear c4
     by_cases c5 : (rd l0 x5_1) = x1_1
     ·rw [if_pos c5] at H
      have c5b0 : ((rd l0 x5_1) == x1_1) = true := beq_iff_eq.mpr c5
      have c5b1 : ((rd l0 x5_1) != x1_1) = false := bne_eq_false_iff_eq.mpr c5
      clear c5
      have H' := Aside0.mk H
      clear H
      have p101 : 0 ≤ (x5_1 : Int) := of_decide_eq_true (by first | (with_reducible assumption) | assumption)
      have q101 : x5_1 < (l0.length : Int) := of_decide_eq_true (by first | (with_reducible assumption) | assumption)
      obtain ⟨ad101, e101, hx101_0⟩ := Kd.at_int HR0.out x5_1 p101 q101
      cases e101
      replace p101 := eq_true p101
      replace q101 := eq_true q101
      go_wp2
      go_roundg k1
      case measure => have := HK1.out; omega
      case rel => exact ⟨(wrap64 (x1_1 + 1)), (wrap64 (x5_1 + 1)), (by first | rfl | (simp; done) | (simp [*]; done)), (by first | rfl | (simp; done) | (simp [*]; done)), H', ⟨by have := HK1.out; omega⟩, by repeat (first | exact Drawn0.refl _ | apply Drawn0.step)⟩
     ·rw [if_neg c5] at H
      have c5b0 : ((rd l0 x5_1) == x1_1) = false := beq_eq_false_iff_ne.mpr c5
      have c5b1 : ((rd l0 x5_1) != x1_1) = true := bne_iff_ne.mpr c5
      obtain rfl := Option.some.inj H
      have p101 : 0 ≤ (x5_1 : Int) := of_decide_eq_true (by first | (with_reducible assumption) | assumption)
      have q101 : x5_1 < (l0.length : Int) := of_decide_eq_true (by first | (with_reducible assumption) | assumption)
      obtain ⟨ad101, e101, hx101_0⟩ := Kd.at_int HR0.out x5_1 p101 q101
      cases e101
      replace p101 := eq_true p101
      replace q101 := eq_true q101
      go_wp2
      go_ret
      exact ⟨by first | rfl | (simp; done) | (simp [*]; done), by repeat (first | exact Drawn0.refl _ | apply Drawn0.step)⟩
    ·rw [if_neg c4] at H
     exact absurd H (by simp)
   ·rw [if_neg c3] at H
    have c3b0 : decide (x5_1 < (l0.length : Int)) = false := decide_eq_false c3
    clear c3
    obtain rfl := Option.some.inj H
    go_wp2
    go_ret
    exact ⟨by first | rfl | (simp; done) | (simp [*]; done), by repeat (first | exact Drawn0.refl _ | apply Drawn0.step)⟩
end Go.Proofs.YtcpeldgnabfdmaaDoor.Q
end
section
namespace Go.Proofs.YtcpeldgnabfdmaaDoor.Q
def rows (c : UInt8) : List UInt8 → List (List UInt8)
 | [] => [[]]
 | b :: l => if b = c then [] :: rows c l else match rows c l with
  | [] => [[b]]
  | r :: rs => (b :: r) :: rs
theorem rows_ne (c : UInt8) : ∀ l, rows c l ≠ []
 | [] => by simp [rows]
 | b :: l => by
  unfold rows
  split
  ·simp
  ·split <;> simp
theorem rows_free (c : UInt8) : ∀ l : List UInt8, c ∉ l → rows c l = [l]
 | [], _ => rfl
 | b :: l, h => by
  have h1 : b ≠ c := fun e => h (by simp [e])
  have h2 : c ∉ l := fun e => h (by simp [e])
  unfold rows
  rw [if_neg h1, rows_free c l h2]
theorem rows_at (c : UInt8) (q : List UInt8) : ∀ p : List UInt8, c ∉ p → rows c (p ++ c :: q) = p :: rows c q
 | [], _ => by simp [rows]
 | b :: p, h => by
  have h1 : b ≠ c := fun e => h (by simp [e])
  have h2 : c ∉ p := fun e => h (by simp [e])
  have ih := rows_at c q p h2
  rw [List.cons_append, rows, if_neg h1, ih]
theorem index_at (c : UInt8) (q : List UInt8) : ∀ p : List UInt8, c ∉ p → Lib.index (p ++ c :: q) [c] = p.length
 | [], _ => by simp [Lib.index, List.isPrefixOf]
 | b :: p, h => by
  have h1 : c ≠ b := fun e => h (by simp [e])
  have h2 : c ∉ p := fun e => h (by simp [e])
  have ih := index_at c q p h2
  rw [List.cons_append]
  unfold Lib.index
  rw [if_neg (by simp [List.isPrefixOf, h1]), ih, if_neg (by simp)]
  simp
theorem cut_at (c : UInt8) : ∀ l : List UInt8, c ∈ l → ∃ p q, l = p ++ c :: q ∧ c ∉ p
 | [], h => by simp at h
 | b :: l, h => by
  by_cases e : b = c
  ·exact ⟨[], l, by simp [e], by simp⟩
  ·obtain ⟨p, q, h1, h2⟩ := cut_at c l (by simpa [Ne.symm e] using h)
   exact ⟨b :: p, q, by simp [h1], by simp [Ne.symm e, h2]⟩
theorem splitK_rows (c : UInt8) : ∀ (k : Nat) (l : List UInt8), l.count c = k → Lib.splitK [c] 0 k l = rows c l
 | 0, l, h => by
  have h2 : c ∉ l := List.count_eq_zero.1 h
  rw [rows_free c l h2]
  rfl
 | k + 1, l, h => by
  have h2 : c ∈ l := List.count_pos_iff.1 (by omega)
  obtain ⟨p, q, rfl, hp⟩ := cut_at c l h2
  unfold Lib.splitK
  rw [index_at c q p hp, if_neg (by simp), rows_at c q p hp]
  have hq : q.count c = k := by
   rw [List.count_append, List.count_cons_self, List.count_eq_zero.2 hp] at h
   omega
  simp only [Int.toNat_natCast, Nat.add_zero, List.take_left, List.length_singleton]
  congr 1
  rw [show (p ++ c :: q).drop (p.length + 1) = q by rw [← List.drop_drop, List.drop_left]; rfl]
  exact splitK_rows c k q hq
theorem rows_flat (c : UInt8) : ∀ l, (rows c l).flatten.length ≤ l.length
 | [] => by simp [rows]
 | b :: l => by
  have ih := rows_flat c l
  unfold rows
  split
  ·simp at ih ⊢; omega
  ·split
   ·simp
   ·rename_i r rs e
    rw [e] at ih
    simp at ih ⊢
    omega
end Go.Proofs.YtcpeldgnabfdmaaDoor.Q
end
section
namespace Go.Proofs
open Go.Shelf
def Tryd.lays146_ren : Go.Shelf.Ren := ⟨fun | 146 => 44 | 221 => 66 | 268 => 87 | 138 => 61 | 143 => 81 | 195 => 83 | 197 => 101 | 218 => 84 | 219 => 104 | 260 => 114 | 217 => 117 | 225 => 118 | 224 => 119 | 267 => 120 | 266 => 126 | 314 => 127 | n => n, fun | 9 => 9 | 31 => 60 | 3 => 3 | 4 => 4 | 0 => 0 | 105 => 113 | 21 => 21 | 5 => 5 | 46 => 88 | 119 => 131 | 139 => 134 | 138 => 133 | 146 => 136 | 51 => 110 | n => n, fun | 1 => 0 | 3 => 1 | 4 => 2 | n => n⟩
theorem Tryd.lays146 : Go.Proofs.Lays.n146 Tryd.prog Tryd.lays146_ren := {
 mixed := by kernel_rfl
 f138 := Tryd.func61.trans (congrArg some (by kernel_rfl))
 f143 := Tryd.func81.trans (congrArg some (by kernel_rfl))
 f146 := Tryd.func44.trans (congrArg some (by kernel_rfl))
 f195 := Tryd.func83.trans (congrArg some (by kernel_rfl))
 f197 := Tryd.func101.trans (congrArg some (by kernel_rfl))
 f217 := Tryd.func117.trans (congrArg some (by kernel_rfl))
 f218 := Tryd.func84.trans (congrArg some (by kernel_rfl))
 f219 := Tryd.func104.trans (congrArg some (by kernel_rfl))
 f221 := Tryd.func66.trans (congrArg some (by kernel_rfl))
 f224 := Tryd.func119.trans (congrArg some (by kernel_rfl))
 f225 := Tryd.func118.trans (congrArg some (by kernel_rfl))
 f260 := Tryd.func114.trans (congrArg some (by kernel_rfl))
 f266 := Tryd.func126.trans (congrArg some (by kernel_rfl))
 f267 := Tryd.func120.trans (congrArg some (by kernel_rfl))
 f268 := Tryd.func87.trans (congrArg some (by kernel_rfl))
 f314 := Tryd.func127.trans (congrArg some (by kernel_rfl))
 t0 := Tryd.underlying0
 a0 := Tryd.isAgg0
 z0 := Tryd.sizeOf0
 v0 := Tryd.zeroValue0
 t3 := Tryd.underlying3
 a3 := Tryd.isAgg3
 z3 := Tryd.sizeOf3
 v3 := Tryd.zeroValue3
 t4 := Tryd.underlying4
 a4 := Tryd.isAgg4
 z4 := Tryd.sizeOf4
 v4 := Tryd.zeroValue4
 t5 := Tryd.underlying5
 a5 := Tryd.isAgg5
 z5 := Tryd.sizeOf5
 v5 := Tryd.zeroValue5
 t9 := Tryd.underlying9
 a9 := Tryd.isAgg9
 z9 := Tryd.sizeOf9
 v9 := Tryd.zeroValue9
 t21 := Tryd.underlying21
 a21 := Tryd.isAgg21
 z21 := Tryd.sizeOf21
 v21 := Tryd.zeroValue21
 t31 := Tryd.underlying60
 a31 := Tryd.isAgg60
 z31 := Tryd.sizeOf60
 v31 := Tryd.zeroValue60
 t46 := Tryd.underlying88
 a46 := Tryd.isAgg88
 z46 := Tryd.sizeOf88
 v46 := Tryd.zeroValue88
 t51 := Tryd.underlying110
 a51 := Tryd.isAgg110
 z51 := Tryd.sizeOf110
 v51 := Tryd.zeroValue110
 t105 := Tryd.underlying113
 a105 := Tryd.isAgg113
 z105 := Tryd.sizeOf113
 v105 := Tryd.zeroValue113
 t119 := Tryd.underlying131
 a119 := Tryd.isAgg131
 z119 := Tryd.sizeOf131
 t138 := Tryd.underlying133
 a138 := Tryd.isAgg133
 z138 := Tryd.sizeOf133
 v138 := Tryd.zeroValue133
 t139 := Tryd.underlying134
 a139 := Tryd.isAgg134
 z139 := Tryd.sizeOf134
 v139 := Tryd.zeroValue134
 t146 := Tryd.underlying136
 a146 := Tryd.isAgg136
 z146 := Tryd.sizeOf136
 v146 := Tryd.zeroValue136
 g1 := by kernel_rfl
 g3 := by kernel_rfl
 g4 := by kernel_rfl }
open Go.RowKit Go.Lib in
theorem Tryd.strings_Split (s sep : ByteArray) (m : Int) (w : World) (hs : s.size < 4294967281) (hm : w.cell? ⟨0, 0, none⟩ = some (.int .i64 m)) (h1 : 1 ≤ sep.size) :
  Calls Tryd.prog 44 #[.string s, .string sep] w fun e w' =>
   e = .returned (.slice (some ⟨w.heap.size, 0, none⟩) (Lib.countB s sep + 1) (Lib.countB s sep + 1)) ∧ w' = w.alloc (.cells ((Lib.splitB sep 0 (Lib.countB s sep) s).map Value.string).toArray 9) := Any.strings_Split Tryd.lays146 (by kernel_rfl) s sep m w hs hm h1
def Tryd.lays156_ren : Go.Shelf.Ren := ⟨fun | 156 => 45 | 165 => 67 | 166 => 68 | 169 => 69 | 240 => 88 | 241 => 89 | 276 => 107 | 277 => 108 | n => n, fun | 31 => 60 | 9 => 9 | 3 => 3 | 4 => 4 | 0 => 0 | 20 => 20 | 72 => 79 | 76 => 83 | 70 => 77 | 37 => 35 | 75 => 82 | 127 => 101 | 164 => 117 | 5 => 5 | 80 => 57 | n => n, fun | n => n⟩
theorem Tryd.lays156 : Go.Proofs.Lays.n156 Tryd.prog Tryd.lays156_ren := {
 mixed := by kernel_rfl
 f156 := Tryd.func45.trans (congrArg some (by kernel_rfl))
 f165 := Tryd.func67.trans (congrArg some (by kernel_rfl))
 f166 := Tryd.func68.trans (congrArg some (by kernel_rfl))
 f169 := Tryd.func69.trans (congrArg some (by kernel_rfl))
 f240 := Tryd.func88.trans (congrArg some (by kernel_rfl))
 f241 := Tryd.func89.trans (congrArg some (by kernel_rfl))
 f276 := Tryd.func107.trans (congrArg some (by kernel_rfl))
 f277 := Tryd.func108.trans (congrArg some (by kernel_rfl))
 t0 := Tryd.underlying0
 a0 := Tryd.isAgg0
 z0 := Tryd.sizeOf0
 v0 := Tryd.zeroValue0
 t3 := Tryd.underlying3
 a3 := Tryd.isAgg3
 z3 := Tryd.sizeOf3
 v3 := Tryd.zeroValue3
 t4 := Tryd.underlying4
 a4 := Tryd.isAgg4
 z4 := Tryd.sizeOf4
 v4 := Tryd.zeroValue4
 t9 := Tryd.underlying9
 a9 := Tryd.isAgg9
 z9 := Tryd.sizeOf9
 v9 := Tryd.zeroValue9
 t20 := Tryd.underlying20
 a20 := Tryd.isAgg20
 z20 := Tryd.sizeOf20
 v20 := Tryd.zeroValue20
 t31 := Tryd.underlying60
 a31 := Tryd.isAgg60
 z31 := Tryd.sizeOf60
 v31 := Tryd.zeroValue60
 t37 := Tryd.underlying35
 a37 := Tryd.isAgg35
 z37 := Tryd.sizeOf35
 v37 := Tryd.zeroValue35
 t70 := Tryd.underlying77
 a70 := Tryd.isAgg77
 z70 := Tryd.sizeOf77
 v70 := Tryd.zeroValue77
 t72 := Tryd.underlying79
 a72 := Tryd.isAgg79
 z72 := Tryd.sizeOf79
 v72 := Tryd.zeroValue79
 t75 := Tryd.underlying82
 a75 := Tryd.isAgg82
 z75 := Tryd.sizeOf82
 v75 := Tryd.zeroValue82
 t76 := Tryd.underlying83
 a76 := Tryd.isAgg83
 z76 := Tryd.sizeOf83
 v76 := Tryd.zeroValue83
 t127 := Tryd.underlying101
 a127 := Tryd.isAgg101
 z127 := Tryd.sizeOf101
 v127 := Tryd.zeroValue101
 t164 := Tryd.underlying117
 a164 := Tryd.isAgg117
 z164 := Tryd.sizeOf117
 v164 := Tryd.zeroValue117 }
theorem Tryd.Builder_Extra_156 : Builder.Extra Tryd.prog Tryd.lays156_ren := {
 sizeBuilder := by kernel_rfl
 liesBuilder := by kernel_rfl
 t5 := Tryd.underlying5
 a5 := Tryd.isAgg5
 z5 := Tryd.sizeOf5
 v5 := Tryd.zeroValue5
 infoByte := by kernel_rfl
 cellsByte := by kernel_rfl
 sizeByte := by kernel_rfl
 neB5 := by decide }
open Go.RowKit in
theorem Tryd.strings_Join (bk o c : Nat) (xs : List ByteArray) (sep : ByteArray) (w : World) (hcells : ∀ (j : Nat) x, xs[j]? = some x → w.cell? ⟨bk, o + j, none⟩ = some (.string x)) (hbk : bk < w.heap.size) (hN : xs.length ≤ 140737488355328) (hcap : xs.length ≤ c) (hlen : (Lib.join (xs.map (·.data.toList)) sep.data.toList).length ≤ 140737488355328) :
  Calls Tryd.prog 45 #[.slice (some ⟨bk, o, none⟩) xs.length c, .string sep] w fun e w' => e = .returned (.string ⟨(Lib.join (xs.map (·.data.toList)) sep.data.toList).toArray⟩) ∧ Below w.heap.size w w' := Any.strings_Join Tryd.lays156 Tryd.Builder_Extra_156 bk o c xs sep w hcells hbk hN hcap hlen
open Go.RowKit in
theorem Tryd.strings_Join_none (a : Option Addr) (c : Nat) (sep : ByteArray) (w : World) :
  Calls Tryd.prog 45 #[.slice a 0 c, .string sep] w fun e w' => e = .returned (.string ⟨#[]⟩) ∧ w' = w := Any.strings_Join_none Tryd.lays156 Tryd.Builder_Extra_156 a c sep w
def Tryd.lays138_ren : Go.Shelf.Ren := ⟨fun | 138 => 61 | 195 => 83 | 218 => 84 | 143 => 81 | 219 => 104 | 217 => 117 | 225 => 118 | 224 => 119 | 267 => 120 | 266 => 126 | 314 => 127 | n => n, fun | 9 => 9 | 3 => 3 | 4 => 4 | 5 => 5 | 0 => 0 | 46 => 88 | 146 => 136 | 51 => 110 | n => n, fun | 1 => 0 | n => n⟩
theorem Tryd.lays138 : Go.Proofs.Lays.n138 Tryd.prog Tryd.lays138_ren := {
 mixed := by kernel_rfl
 f138 := Tryd.func61.trans (congrArg some (by kernel_rfl))
 f143 := Tryd.func81.trans (congrArg some (by kernel_rfl))
 f195 := Tryd.func83.trans (congrArg some (by kernel_rfl))
 f217 := Tryd.func117.trans (congrArg some (by kernel_rfl))
 f218 := Tryd.func84.trans (congrArg some (by kernel_rfl))
 f219 := Tryd.func104.trans (congrArg some (by kernel_rfl))
 f224 := Tryd.func119.trans (congrArg some (by kernel_rfl))
 f225 := Tryd.func118.trans (congrArg some (by kernel_rfl))
 f266 := Tryd.func126.trans (congrArg some (by kernel_rfl))
 f267 := Tryd.func120.trans (congrArg some (by kernel_rfl))
 f314 := Tryd.func127.trans (congrArg some (by kernel_rfl))
 t0 := Tryd.underlying0
 a0 := Tryd.isAgg0
 z0 := Tryd.sizeOf0
 v0 := Tryd.zeroValue0
 t3 := Tryd.underlying3
 a3 := Tryd.isAgg3
 z3 := Tryd.sizeOf3
 v3 := Tryd.zeroValue3
 t4 := Tryd.underlying4
 a4 := Tryd.isAgg4
 z4 := Tryd.sizeOf4
 v4 := Tryd.zeroValue4
 t5 := Tryd.underlying5
 a5 := Tryd.isAgg5
 z5 := Tryd.sizeOf5
 v5 := Tryd.zeroValue5
 t9 := Tryd.underlying9
 a9 := Tryd.isAgg9
 z9 := Tryd.sizeOf9
 v9 := Tryd.zeroValue9
 t46 := Tryd.underlying88
 a46 := Tryd.isAgg88
 z46 := Tryd.sizeOf88
 v46 := Tryd.zeroValue88
 t51 := Tryd.underlying110
 a51 := Tryd.isAgg110
 z51 := Tryd.sizeOf110
 v51 := Tryd.zeroValue110
 t146 := Tryd.underlying136
 a146 := Tryd.isAgg136
 z146 := Tryd.sizeOf136
 v146 := Tryd.zeroValue136
 g1 := by kernel_rfl }
open Go.RowKit Go.Lib in
theorem Tryd.strings_Count_one (s : ByteArray) (c : UInt8) (w : World) :
  Calls Tryd.prog 61 #[.string s, .string ⟨#[c]⟩] w fun e w' => e = .returned (.int .i64 (Lib.countByte s.data.toList c)) ∧ w' = w := Any.strings_Count_one Tryd.lays138 s c w
def Tryd.lays144_ren : Go.Shelf.Ren := ⟨fun | 144 => 52 | 143 => 81 | 219 => 104 | 217 => 117 | 225 => 118 | 224 => 119 | 267 => 120 | 266 => 126 | 314 => 127 | n => n, fun | 9 => 9 | 4 => 4 | 3 => 3 | 5 => 5 | 46 => 88 | 146 => 136 | 51 => 110 | n => n, fun | 1 => 0 | n => n⟩
theorem Tryd.lays144 : Go.Proofs.Lays.n144 Tryd.prog Tryd.lays144_ren := {
 mixed := by kernel_rfl
 f143 := Tryd.func81.trans (congrArg some (by kernel_rfl))
 f144 := Tryd.func52.trans (congrArg some (by kernel_rfl))
 f217 := Tryd.func117.trans (congrArg some (by kernel_rfl))
 f219 := Tryd.func104.trans (congrArg some (by kernel_rfl))
 f224 := Tryd.func119.trans (congrArg some (by kernel_rfl))
 f225 := Tryd.func118.trans (congrArg some (by kernel_rfl))
 f266 := Tryd.func126.trans (congrArg some (by kernel_rfl))
 f267 := Tryd.func120.trans (congrArg some (by kernel_rfl))
 f314 := Tryd.func127.trans (congrArg some (by kernel_rfl))
 t3 := Tryd.underlying3
 a3 := Tryd.isAgg3
 z3 := Tryd.sizeOf3
 v3 := Tryd.zeroValue3
 t4 := Tryd.underlying4
 a4 := Tryd.isAgg4
 z4 := Tryd.sizeOf4
 v4 := Tryd.zeroValue4
 t5 := Tryd.underlying5
 a5 := Tryd.isAgg5
 z5 := Tryd.sizeOf5
 v5 := Tryd.zeroValue5
 t9 := Tryd.underlying9
 a9 := Tryd.isAgg9
 z9 := Tryd.sizeOf9
 v9 := Tryd.zeroValue9
 t46 := Tryd.underlying88
 a46 := Tryd.isAgg88
 z46 := Tryd.sizeOf88
 v46 := Tryd.zeroValue88
 t51 := Tryd.underlying110
 a51 := Tryd.isAgg110
 z51 := Tryd.sizeOf110
 v51 := Tryd.zeroValue110
 t146 := Tryd.underlying136
 a146 := Tryd.isAgg136
 z146 := Tryd.sizeOf136
 v146 := Tryd.zeroValue136
 g1 := by kernel_rfl }
open Go.RowKit Go.Lib in
theorem Tryd.strings_Contains_one (s : ByteArray) (c : UInt8) (w : World) :
  Calls Tryd.prog 52 #[.string s, .string ⟨#[c]⟩] w fun e w' => e = .returned (.bool (decide (0 ≤ Lib.indexByte s.data.toList c))) ∧ w' = w := Any.strings_Contains_one Tryd.lays144 s c w
def Tryd.lays114_ren : Go.Shelf.Ren := ⟨fun | 114 => 49 | n => n, fun | 28 => 46 | 3 => 3 | 4 => 4 | 9 => 9 | 20 => 20 | 0 => 0 | n => n, fun | n => n⟩
theorem Tryd.lays114 : Go.Proofs.Lays.n114 Tryd.prog Tryd.lays114_ren := {
 mixed := by kernel_rfl
 f114 := Tryd.func49.trans (congrArg some (by kernel_rfl))
 t0 := Tryd.underlying0
 a0 := Tryd.isAgg0
 z0 := Tryd.sizeOf0
 v0 := Tryd.zeroValue0
 t3 := Tryd.underlying3
 a3 := Tryd.isAgg3
 z3 := Tryd.sizeOf3
 v3 := Tryd.zeroValue3
 t4 := Tryd.underlying4
 a4 := Tryd.isAgg4
 z4 := Tryd.sizeOf4
 v4 := Tryd.zeroValue4
 t9 := Tryd.underlying9
 a9 := Tryd.isAgg9
 z9 := Tryd.sizeOf9
 v9 := Tryd.zeroValue9
 t20 := Tryd.underlying20
 a20 := Tryd.isAgg20
 z20 := Tryd.sizeOf20
 v20 := Tryd.zeroValue20
 t28 := Tryd.underlying46
 a28 := Tryd.isAgg46
 z28 := Tryd.sizeOf46
 v28 := Tryd.zeroValue46 }
open Go.Lib in
theorem Tryd.slices_Min_int (b off n c : Nat) (zs : List Int) (w : World) (hn : 0 < n) (hz : n ≤ zs.length) (hbig : n ≤ 9223372036854775807) (hc : ∀ j, j < zs.length → w.cell? ⟨b, off + j, none⟩ = some (.int .i64 (zs.getD j 0))) :
  Calls Tryd.prog 49 #[.slice (some ⟨b, off, none⟩) n c] w fun e w' => e = .returned (.int .i64 (Lib.minOf (zs.take n))) ∧ w' = w := Any.slices_Min_int Tryd.lays114 b off n c zs w hn hz hbig hc
def Tryd.lays160_ren : Go.Shelf.Ren := ⟨fun | 160 => 51 | 232 => 75 | 231 => 74 | 227 => 76 | 234 => 78 | 233 => 77 | 236 => 80 | 235 => 79 | 228 => 100 | 271 => 103 | 151 => 102 | 197 => 101 | 120 => 116 | 152 => 115 | 260 => 114 | 137 => 124 | 119 => 125 | 224 => 119 | 225 => 118 | 217 => 117 | 266 => 126 | n => n, fun | 9 => 9 | 4 => 4 | 3 => 3 | 5 => 5 | 117 => 92 | 116 => 91 | 0 => 0 | 124 => 95 | 21 => 21 | 105 => 113 | 46 => 88 | 119 => 131 | 139 => 134 | 138 => 133 | n => n, fun | 3 => 1 | 4 => 2 | n => n⟩
theorem Tryd.lays160 : Go.Proofs.Lays.n160 Tryd.prog Tryd.lays160_ren := {
 mixed := by kernel_rfl
 f119 := Tryd.func125.trans (congrArg some (by kernel_rfl))
 f120 := Tryd.func116.trans (congrArg some (by kernel_rfl))
 f137 := Tryd.func124.trans (congrArg some (by kernel_rfl))
 f151 := Tryd.func102.trans (congrArg some (by kernel_rfl))
 f152 := Tryd.func115.trans (congrArg some (by kernel_rfl))
 f160 := Tryd.func51.trans (congrArg some (by kernel_rfl))
 f197 := Tryd.func101.trans (congrArg some (by kernel_rfl))
 f217 := Tryd.func117.trans (congrArg some (by kernel_rfl))
 f224 := Tryd.func119.trans (congrArg some (by kernel_rfl))
 f225 := Tryd.func118.trans (congrArg some (by kernel_rfl))
 f227 := Tryd.func76.trans (congrArg some (by kernel_rfl))
 f228 := Tryd.func100.trans (congrArg some (by kernel_rfl))
 f231 := Tryd.func74.trans (congrArg some (by kernel_rfl))
 f232 := Tryd.func75.trans (congrArg some (by kernel_rfl))
 f233 := Tryd.func77.trans (congrArg some (by kernel_rfl))
 f234 := Tryd.func78.trans (congrArg some (by kernel_rfl))
 f235 := Tryd.func79.trans (congrArg some (by kernel_rfl))
 f236 := Tryd.func80.trans (congrArg some (by kernel_rfl))
 f260 := Tryd.func114.trans (congrArg some (by kernel_rfl))
 f266 := Tryd.func126.trans (congrArg some (by kernel_rfl))
 f271 := Tryd.func103.trans (congrArg some (by kernel_rfl))
 t0 := Tryd.underlying0
 a0 := Tryd.isAgg0
 z0 := Tryd.sizeOf0
 v0 := Tryd.zeroValue0
 t3 := Tryd.underlying3
 a3 := Tryd.isAgg3
 z3 := Tryd.sizeOf3
 v3 := Tryd.zeroValue3
 t4 := Tryd.underlying4
 a4 := Tryd.isAgg4
 z4 := Tryd.sizeOf4
 v4 := Tryd.zeroValue4
 t5 := Tryd.underlying5
 a5 := Tryd.isAgg5
 z5 := Tryd.sizeOf5
 v5 := Tryd.zeroValue5
 t9 := Tryd.underlying9
 a9 := Tryd.isAgg9
 z9 := Tryd.sizeOf9
 v9 := Tryd.zeroValue9
 t21 := Tryd.underlying21
 a21 := Tryd.isAgg21
 z21 := Tryd.sizeOf21
 v21 := Tryd.zeroValue21
 t46 := Tryd.underlying88
 a46 := Tryd.isAgg88
 z46 := Tryd.sizeOf88
 v46 := Tryd.zeroValue88
 t105 := Tryd.underlying113
 a105 := Tryd.isAgg113
 z105 := Tryd.sizeOf113
 v105 := Tryd.zeroValue113
 t116 := Tryd.underlying91
 a116 := Tryd.isAgg91
 z116 := Tryd.sizeOf91
 t117 := Tryd.underlying92
 a117 := Tryd.isAgg92
 z117 := Tryd.sizeOf92
 v117 := Tryd.zeroValue92
 t119 := Tryd.underlying131
 a119 := Tryd.isAgg131
 z119 := Tryd.sizeOf131
 t124 := Tryd.underlying95
 a124 := Tryd.isAgg95
 z124 := Tryd.sizeOf95
 v124 := Tryd.zeroValue95
 t138 := Tryd.underlying133
 a138 := Tryd.isAgg133
 z138 := Tryd.sizeOf133
 v138 := Tryd.zeroValue133
 t139 := Tryd.underlying134
 a139 := Tryd.isAgg134
 z139 := Tryd.sizeOf134
 v139 := Tryd.zeroValue134
 g3 := by kernel_rfl
 g4 := by kernel_rfl }
def Tryd.sortLists_ren : Go.Shelf.Ren := ⟨fun | 6 => 47 | 15 => 73 | 14 => 72 | 28 => 98 | 29 => 99 | 20 => 90 | 21 => 91 | 22 => 92 | 23 => 93 | 24 => 94 | 25 => 95 | 26 => 96 | 27 => 97 | 46 => 109 | 47 => 110 | 48 => 111 | 49 => 112 | 50 => 113 | 57 => 123 | n => n, fun | 22 => 22 | 24 => 46 | 25 => 64 | 3 => 3 | 39 => 88 | 0 => 0 | 53 => 110 | 55 => 112 | 4 => 4 | 46 => 104 | 45 => 103 | 50 => 28 | 5 => 5 | 9 => 9 | 66 => 120 | 70 => 124 | 76 => 128 | 77 => 129 | n => n, fun | n => n⟩
theorem Tryd.sortLists : Go.Proofs.SlLaysF.n6 Tryd.prog Tryd.sortLists_ren := {
 mixed := by kernel_rfl
 f6 := ⟨Tryd.f47.name, by decide, Tryd.func47.trans (congrArg some (by kernel_rfl))⟩
 f14 := ⟨Tryd.f72.name, by decide, Tryd.func72.trans (congrArg some (by kernel_rfl))⟩
 f15 := Tryd.func73.trans (congrArg some (by kernel_rfl))
 f20 := ⟨Tryd.f90.name, by decide, Tryd.func90.trans (congrArg some (by kernel_rfl))⟩
 f21 := ⟨Tryd.f91.name, by decide, Tryd.func91.trans (congrArg some (by kernel_rfl))⟩
 f22 := ⟨Tryd.f92.name, by decide, Tryd.func92.trans (congrArg some (by kernel_rfl))⟩
 f23 := ⟨Tryd.f93.name, by decide, Tryd.func93.trans (congrArg some (by kernel_rfl))⟩
 f24 := ⟨Tryd.f94.name, by decide, Tryd.func94.trans (congrArg some (by kernel_rfl))⟩
 f25 := ⟨Tryd.f95.name, by decide, Tryd.func95.trans (congrArg some (by kernel_rfl))⟩
 f26 := ⟨Tryd.f96.name, by decide, Tryd.func96.trans (congrArg some (by kernel_rfl))⟩
 f27 := ⟨Tryd.f97.name, by decide, Tryd.func97.trans (congrArg some (by kernel_rfl))⟩
 f28 := Tryd.func98.trans (congrArg some (by kernel_rfl))
 f29 := Tryd.func99.trans (congrArg some (by kernel_rfl))
 f46 := ⟨Tryd.f109.name, by decide, Tryd.func109.trans (congrArg some (by kernel_rfl))⟩
 f47 := Tryd.func110.trans (congrArg some (by kernel_rfl))
 f48 := Tryd.func111.trans (congrArg some (by kernel_rfl))
 f49 := ⟨Tryd.f112.name, by decide, Tryd.func112.trans (congrArg some (by kernel_rfl))⟩
 f50 := ⟨Tryd.f113.name, by decide, Tryd.func113.trans (congrArg some (by kernel_rfl))⟩
 f57 := ⟨Tryd.f123.name, by decide, Tryd.func123.trans (congrArg some (by kernel_rfl))⟩
 t0 := Tryd.underlying0
 a0 := Tryd.isAgg0
 z0 := Tryd.sizeOf0
 v0 := Tryd.zeroValue0
 t3 := Tryd.underlying3
 a3 := Tryd.isAgg3
 z3 := Tryd.sizeOf3
 v3 := Tryd.zeroValue3
 t4 := Tryd.underlying4
 a4 := Tryd.isAgg4
 z4 := Tryd.sizeOf4
 v4 := Tryd.zeroValue4
 t5 := Tryd.underlying5
 a5 := Tryd.isAgg5
 z5 := Tryd.sizeOf5
 v5 := Tryd.zeroValue5
 t9 := Tryd.underlying9
 a9 := Tryd.isAgg9
 z9 := Tryd.sizeOf9
 v9 := Tryd.zeroValue9
 t22 := Tryd.underlying22
 a22 := Tryd.isAgg22
 z22 := Tryd.sizeOf22
 v22 := Tryd.zeroValue22
 a24 := Tryd.isAgg46
 z24 := Tryd.sizeOf46
 t25 := Tryd.underlying64
 a25 := Tryd.isAgg64
 z25 := Tryd.sizeOf64
 v25 := Tryd.zeroValue64
 t39 := Tryd.underlying88
 a39 := Tryd.isAgg88
 z39 := Tryd.sizeOf88
 v39 := Tryd.zeroValue88
 t45 := Tryd.underlying103
 a45 := Tryd.isAgg103
 z45 := Tryd.sizeOf103
 v45 := Tryd.zeroValue103
 t46 := Tryd.underlying104
 a46 := Tryd.isAgg104
 z46 := Tryd.sizeOf104
 v46 := Tryd.zeroValue104
 t50 := Tryd.underlying28
 a50 := Tryd.isAgg28
 z50 := Tryd.sizeOf28
 v50 := Tryd.zeroValue28
 t53 := Tryd.underlying110
 a53 := Tryd.isAgg110
 z53 := Tryd.sizeOf110
 v53 := Tryd.zeroValue110
 t55 := Tryd.underlying112
 a55 := Tryd.isAgg112
 z55 := Tryd.sizeOf112
 v55 := Tryd.zeroValue112
 t66 := Tryd.underlying120
 a66 := Tryd.isAgg120
 z66 := Tryd.sizeOf120
 v66 := Tryd.zeroValue120
 t70 := Tryd.underlying124
 a70 := Tryd.isAgg124
 z70 := Tryd.sizeOf124
 v70 := Tryd.zeroValue124
 t76 := Tryd.underlying128
 a76 := Tryd.isAgg128
 z76 := Tryd.sizeOf128
 v76 := Tryd.zeroValue128
 t77 := Tryd.underlying129
 a77 := Tryd.isAgg129
 z77 := Tryd.sizeOf129
 v77 := Tryd.zeroValue129 }
end Go.Proofs
end
section
namespace Go.Proofs.YtcpeldgnabfdmaaDoor.Q
set_option linter.unusedSectionVars false
open Go.RowKit Go.Shelf Go.Proofs.YtcpeldgnabfdmaaDoorW.PrintWords Go.Proofs.YtcpeldgnabfdmaaDoorW.PrintLast Go.Proofs.YtcpeldgnabfdmaaDoorW.PrintMore
def leM (a b : List Int) : Bool := decide (Lib.minOf a ≤ Lib.minOf b)
def sortable (x : List (List Int)) : Bool := decide (x.length ≤ 1000) && x.all (fun s => decide (1 ≤ s.length) && decide (s.length ≤ 1000) && decide (0 ≤ Lib.minOf s) && decide (Lib.minOf s ≤ 1000000)) && decide (x.map Lib.minOf).Nodup
def slices_SortFunc_str.f (x : List (List Int)) : Option (List (List Int)) := if sortable x = true then some (x.mergeSort leM) else none
theorem ints_at {w : World} {A : Option Addr} {l : List Int} (h : Kd.C (Kd.int .i64) w A l.length l) (h0 : 1 ≤ l.length) : ∃ b off, A = some ⟨b, off, none⟩ ∧ ∀ j, j < l.length → w.cell? ⟨b, off + j, none⟩ = some (.int .i64 (l.getD j 0)) := by
 obtain ⟨ad, rfl, _⟩ := Kd.at_int h 0 (by omega) (by omega)
 have hx : ∀ j : Nat, j < l.length → w.cell? (ad.add j) = some (.int .i64 (l.getD j 0)) := fun j hj => by
  obtain ⟨ad2, e2, h2⟩ := Kd.at_int h (j : Int) (by omega) (by omega)
  cases e2
  rw [Int.toNat_natCast] at h2
  rw [h2]
  unfold rd
  rw [Int.toNat_natCast]
 have h00 := hx 0 (by omega)
 have hsp : ad.spot = none := by
  rcases hs : ad.spot with _ | z
  ·rfl
  ·rw [Addr.add, if_pos rfl] at h00
   unfold World.cell? at h00
   split at h00
   ·rw [hs] at h00
    simp at h00
   ·cases h00
 obtain ⟨bk, o, sp⟩ := ad
 obtain rfl : sp = none := hsp
 refine ⟨bk, o, rfl, fun j hj => ?_⟩
 have h3 := hx j hj
 unfold Addr.add at h3
 split at h3
 ·rename_i h4
  subst h4
  exact h3
 ·exact h3
theorem sub_small {x y : Int} (hx : 0 ≤ x ∧ x ≤ 1000000) (hy : 0 ≤ y ∧ y ≤ 1000000) : IntKind.i64.wrap (x - y) = x - y := (i64_w _).trans (by unfold wrap64; omega)
set_option maxHeartbeats 8000000 in
set_option maxRecDepth 100000 in
theorem cmp_calls (A B : Option Addr) (ca cb : Nat) (a b : List Int) (w : World) (ha : Kd.C (Kd.int .i64) w A a.length a) (hb : Kd.C (Kd.int .i64) w B b.length b) (la : 1 ≤ a.length ∧ a.length ≤ 1000) (lb : 1 ≤ b.length ∧ b.length ≤ 1000) (ma : 0 ≤ Lib.minOf a ∧ Lib.minOf a ≤ 1000000) (mb : 0 ≤ Lib.minOf b ∧ Lib.minOf b ≤ 1000000) :
  Calls Tryd.prog 48 #[.slice A a.length ca, .slice B b.length cb] w fun e w' => e = .returned (.int .i64 (Lib.minOf a - Lib.minOf b)) ∧ w' = w := by
 obtain ⟨ba, oa, rfl, xa⟩ := ints_at ha la.1
 obtain ⟨bb, ob, rfl, xb⟩ := ints_at hb lb.1
 have h1 := Tryd.slices_Min_int ba oa a.length ca a w (by omega) (Nat.le_refl _) (by omega) xa
 have h2 := Tryd.slices_Min_int bb ob b.length cb b w (by omega) (Nat.le_refl _) (by omega) xb
 rw [List.take_length] at h1 h2
 have hwr : IntKind.i64.wrap (Lib.minOf a - Lib.minOf b) = Lib.minOf a - Lib.minOf b := sub_small ma mb
 have HW := Aside0.mk hwr
 generalize Lib.minOf a = x at h1 hwr HW ma ⊢
 generalize Lib.minOf b = y at h2 hwr HW mb ⊢
 have H1 := Aside0.mk h1
 have H2 := Aside0.mk h2
 clear ha hb xa xb ma mb la lb h1 h2 HW
 go_enter Tryd.func48, Tryd.ntmps48
 go_wp2_with fail
 refine H1.out.mono ?_
 rintro e w1 ⟨rfl, rfl⟩
 go_wp2_with fail
 refine H2.out.mono ?_
 rintro e w2 ⟨rfl, rfl⟩
 go_wp2_with fail
 go_ret
 exact ⟨rfl, rfl⟩
section
variable {α : Type} [Inhabited α] {enc : α → Value} {w : World} {g : Nat} {cur : Array Value} {T : Nat} (hg : w.heap[g]? = some (.cells cur T (0, 0)))
include hg
theorem sort_heap (m : Nat) (dk : Array α) (os : Array Obj) : (sortWorld enc w g 0 m dk os).heap[g]? = some (.cells (Sort.putCells enc 0 dk cur) T (0, 0)) := by
 have hl := blk_lt hg
 show ((w.heap.modify g _) ++ os)[g]? = _
 rw [Array.getElem?_append_left (by simpa using hl), Array.getElem?_modify, if_pos rfl, hg]
 rfl
theorem sort_other (m : Nat) (dk : Array α) (os : Array Obj) (k : Nat) (hk : k < w.heap.size) (hne : k ≠ g) : (sortWorld enc w g 0 m dk os).heap[k]? = w.heap[k]? := by
 show ((w.heap.modify g _) ++ os)[k]? = _
 rw [Array.getElem?_append_left (by simpa using hk), Array.getElem?_modify, if_neg (Ne.symm hne)]
theorem sort_size (m : Nat) (dk : Array α) (os : Array Obj) : w.heap.size ≤ (sortWorld enc w g 0 m dk os).heap.size := by
 show _ ≤ ((w.heap.modify g _) ++ os).size
 simp
end
theorem putCells_take {α : Type} [Inhabited α] (enc : α → Value) (dk : List α) (cur : Array Value) (h : dk.length ≤ cur.size) : (Sort.putCells enc 0 dk.toArray cur).toList.take dk.length = dk.map enc := by
 refine List.ext_getElem (by simp [Sort.putCells]; omega) fun j h1 h2 => ?_
 have hj : j < dk.length := by simpa using h2
 rw [List.getElem_take, List.getElem_map, Array.getElem_toList]
 unfold Sort.putCells
 rw [Array.getElem_mapIdx, if_pos ⟨Nat.zero_le _, by simpa using hj⟩]
 congr 1
 rw [Nat.sub_zero, getElem!_pos dk.toArray j (by simpa using hj)]
 simp
set_option maxHeartbeats 4000000 in
theorem slices_SortFunc_str.calls (ok : Nat → Prop) (v : Value) (x y : List (List Int)) (w0 w : World) (hB : Below w0.heap.size w0 w) (ho : Kd.S (Kd.slice 3 (Kd.int .i64)) 46 w w0.heap.size ok v x) (h : slices_SortFunc_str.f x = some y) :
  Calls Tryd.prog 47 #[v, .func (.func 48) #[] #[]] w fun e w' => e = .returned (.tuple #[]) ∧ Kd.S (Kd.slice 3 (Kd.int .i64)) 46 w' w0.heap.size ok v y ∧ Below w0.heap.size w0 w' := by
 unfold slices_SortFunc_str.f at h
 split at h
 case isFalse => cases h
 rename_i hs
 unfold sortable at hs
 simp only [Bool.and_eq_true, decide_eq_true_eq, List.all_eq_true] at hs
 obtain ⟨⟨hn1, hall⟩, hnd⟩ := hs
 obtain rfl := Option.some.inj h
 clear h
 by_cases hx0 : x = []
 ·subst hx0
  obtain ⟨A, c, rfl⟩ := Kd.S_slice ho
  have hcon := AnyF.slices_SortFunc_none (P := Tryd.prog) (ρ := Tryd.sortLists_ren) { Tryd.sortLists with } A c (.func (.func 48) #[] #[]) w
  refine hcon.mono ?_
  rintro e w' ⟨rfl, rfl⟩
  rw [List.mergeSort_nil]
  exact ⟨rfl, ho, hB⟩
 ·have hpos : 0 < x.length := List.length_pos_iff.2 hx0
  obtain ⟨f, h0, inner, hown, hrep⟩ := ho
  rw [List.length_zipIdx] at hown
  change w.ownsRow w0.heap.size 46 1 v x.length inner at hown
  rcases hown.2 with ⟨_, hz⟩ | ⟨g, cap, cur, rfl, hbase, hheap, hncap, hmax, hcsz, htake⟩
  ·omega
  have hil : inner.length = x.length := by have := hown.1; omega
  have hrep2 : ∀ i : Fin x.length, (Kd.slice 3 (Kd.int .i64)).M w w0.heap.size (fun k => (ok k ∧ some k ≠ some g) ∧ f k = i.val) x[i] [inner[i.val]'(by rw [hil]; exact i.isLt)] := by
   intro i
   have hz : x.zipIdx[i.val]? = some (x[i], i.val) := by
    rw [List.getElem?_zipIdx, List.getElem?_eq_getElem i.isLt]
    simp
   have h1 := hrep.2 i.val _ hz
   have h2 : (inner.drop (i.val * (Kd.tag f (Kd.slice 3 (Kd.int .i64))).sz)).take (Kd.tag f (Kd.slice 3 (Kd.int .i64))).sz = [inner[i.val]'(by rw [hil]; exact i.isLt)] := by
    show (inner.drop (i.val * 1)).take 1 = _
    rw [Nat.mul_one, List.drop_eq_getElem_cons (by rw [hil]; exact i.isLt)]
    rfl
   rw [h2] at h1
   exact h1
  haveI : Inhabited (Fin x.length) := ⟨⟨0, hpos⟩⟩
  let enc : Fin x.length → Value := fun i => inner[i.val]'(by rw [hil]; exact i.isLt)
  let cf : Fin x.length → Fin x.length → Int := fun i j => Lib.minOf x[i] - Lib.minOf x[j]
  have hlt : ∀ i j, ltOf cf i j = decide (Lib.minOf x[i] < Lib.minOf x[j]) := by
   intro i j
   show decide (Lib.minOf x[i] - Lib.minOf x[j] < 0) = _
   exact decide_eq_decide.2 (by omega)
  have hO : Sort.SWO (ltOf cf) := by
   refine ⟨fun i => ?_, fun i j k h1 h2 => ?_, fun i j k h1 h2 => ?_⟩
   ·rw [hlt]
    simp
   ·rw [hlt, decide_eq_true_eq] at h1 h2 ⊢
    omega
   ·rw [hlt, decide_eq_false_iff_not] at h1 h2 ⊢
    omega
  have hT : ∀ i j, ltOf cf i j = false → ltOf cf j i = false → i = j := by
   intro i j h1 h2
   rw [hlt, decide_eq_false_iff_not] at h1 h2
   have h3 : Lib.minOf x[i] = Lib.minOf x[j] := by omega
   have h4 := (List.getElem_inj (xs := x.map Lib.minOf) (i := i.val) (j := j.val) (h₀ := by simp) (h₁ := by simp) hnd).1 (by simpa using h3)
   exact Fin.ext h4
  have h1c : OneCell enc := by
   intro i
   obtain ⟨v, hv, hr⟩ := hrep2 i
   obtain ⟨A, c, e⟩ := Kd.R_slice hr
   have e2 : enc i = v := by
    have : [enc i] = [v] := hv
    injection this
   rw [e2, e]
   rfl
  let d : Array (Fin x.length) := Array.ofFn fun i => i
  have hds : d.size = x.length := Array.size_ofFn
  have hdi : ∀ j (hj : j < x.length), d[j]! = ⟨j, hj⟩ := by
   intro j hj
   rw [getElem!_pos d j (by rw [hds]; exact hj)]
   exact Array.getElem_ofFn _
  have hH : Sort.Holds enc w g 0 d := by
   intro j hj
   rw [hds] at hj
   rw [Nat.zero_add, hdi j hj]
   refine ⟨?_, blk_frozen hheap j⟩
   rw [blk_cell hheap j]
   have hjc : j < cur.size := by omega
   have h2 : inner[j]'(by rw [hil]; exact hj) = cur[j] := by
    have h3 : inner[j]? = (cur.toList.take (x.length * 1))[j]? := by rw [htake]
    rw [List.getElem?_eq_getElem (by rw [hil]; exact hj), List.getElem?_take, if_pos (by omega)] at h3
    have h4 : cur.toList[j]? = some cur[j] := by simp [hjc]
    exact Option.some.inj (h3.trans h4)
   rw [Array.getElem?_eq_getElem hjc]
   exact congrArg some h2.symm
  have hcmp : CmpLays1 Tryd.prog 48 #[] enc cf g 0 d.size w := by
   intro m os dk _ i j
   have key : ∀ i : Fin x.length, ∃ A c, enc i = .slice A x[i].length c ∧ Kd.C (Kd.int .i64) (sortWorld enc w g 0 m dk os) A x[i].length x[i] := by
    intro i
    obtain ⟨v, hv, hr⟩ := hrep2 i
    have e2 : enc i = v := by
     have : [enc i] = [v] := hv
     injection this
    have hr2 := Kd.R_step (w1 := sortWorld enc w g 0 m dk os) hr fun k hk hks => sort_other hheap m dk os k hks (fun e => hk.1.2 (by rw [e]))
    obtain ⟨A, c, e3, _, hC⟩ := Kd.R_reads hr2
    exact ⟨A, c, e2.trans e3, hC⟩
   obtain ⟨A, ca, ei, hi⟩ := key i
   obtain ⟨B, cb, ej, hj⟩ := key j
   have a1 := hall x[i] (List.getElem_mem i.isLt)
   have a2 := hall x[j] (List.getElem_mem j.isLt)
   have hc := cmp_calls A B ca cb x[i] x[j] _ hi hj ⟨a1.1.1.1, a1.1.1.2⟩ ⟨a2.1.1.1, a2.1.1.2⟩ ⟨a1.1.2, a1.2⟩ ⟨a2.1.2, a2.2⟩
   rw [ei, ej]
   refine Calls.mono hc ?_
   rintro e w' ⟨rfl, rfl⟩
   exact ⟨rfl, 0, #[], (Sort.grow_empty _).symm⟩
  have hcon := Any.slices_SortFunc_total Tryd.sortLists enc h1c cf hO 48 #[] g 0 cap d w (enters_of Tryd.func48 (by kernel_rfl) rfl) hcmp hH (blk_lt hheap) (by omega) hT
  rw [hds] at hcon
  refine Calls.mono hcon ?_
  rintro e w' ⟨rfl, m, os, rfl⟩
  have hdl : d.toList = (List.finRange x.length) := by
   refine List.ext_getElem (by rw [Array.length_toList, hds, List.length_finRange]) fun j h1 h2 => ?_
   rw [Array.getElem_toList, List.getElem_finRange]
   have := hdi j (by simpa using h2)
   rw [getElem!_pos d j (by simpa using h1)] at this
   rw [this]
   rfl
  rw [hdl]
  have hmap : (List.finRange x.length).map (fun i => x[i]) = x := List.ext_getElem (by simp) fun j h1 h2 => by simp
  have hpm : ((List.finRange x.length).mergeSort fun a b => !ltOf cf b a).map (fun i => x[i]) = x.mergeSort leM := by
   rw [List.map_mergeSort (s := leM) (fun a _ b _ => ?_), hmap]
   rw [hlt]
   unfold leM
   by_cases h3 : Lib.minOf x[a] ≤ Lib.minOf x[b]
   ·rw [decide_eq_true h3, decide_eq_false (by omega)]
    rfl
   ·rw [decide_eq_false h3, decide_eq_true (by omega)]
    rfl
  have hpp := List.mergeSort_perm (List.finRange x.length) fun a b => !ltOf cf b a
  generalize hp : ((List.finRange x.length).mergeSort fun a b => !ltOf cf b a) = p at hpm hpp
  have hpl : p.length = x.length := by rw [hpp.length_eq, List.length_finRange]
  have hpn : p.Nodup := hpp.nodup_iff.2 (List.nodup_finRange _)
  rw [← hpm]
  have hyl : (p.map fun i => x[i]).length = x.length := by rw [List.length_map, hpl]
  refine ⟨rfl, ?_, ?_⟩
  ·let f' : Nat → Nat := fun k => if hk : f k < x.length then p.idxOf ⟨f k, hk⟩ else 0
   refine ⟨f', h0, p.map enc, ?_, ?_, ?_⟩
   ·rw [List.length_zipIdx, hyl]
    refine ⟨by rw [List.length_map, hpl]; exact (Nat.mul_one _).symm, .inr ⟨g, cap, Sort.putCells enc 0 p.toArray cur, rfl, hbase, sort_heap hheap m p.toArray os, hncap, hmax, ?_, ?_⟩⟩
    ·unfold Sort.putCells
     rw [Array.size_mapIdx]
     exact hcsz
    ·have := putCells_take enc p cur (by omega)
     rw [hpl] at this
     show _ = _
     rw [show x.length * (Kd.tag f' (Kd.slice 3 (Kd.int .i64))).sz = x.length from Nat.mul_one _]
     exact this
   ·rw [List.length_map, List.length_zipIdx, List.length_map]
    exact (Nat.mul_one _).symm
   ·intro j q hq
    rw [List.getElem?_zipIdx, Nat.zero_add] at hq
    obtain ⟨z, hz, rfl⟩ := Option.map_eq_some_iff.1 hq
    rw [List.getElem?_map] at hz
    obtain ⟨i, hi, rfl⟩ := Option.map_eq_some_iff.1 hz
    have hjp : j < p.length := (List.getElem?_eq_some_iff.1 hi).1
    have hpj : p[j] = i := (List.getElem?_eq_some_iff.1 hi).2
    have h2 : ((p.map enc).drop (j * (Kd.tag f' (Kd.slice 3 (Kd.int .i64))).sz)).take (Kd.tag f' (Kd.slice 3 (Kd.int .i64))).sz = [enc i] := by
     show ((p.map enc).drop (j * 1)).take 1 = _
     rw [Nat.mul_one, List.drop_eq_getElem_cons (by simpa using hjp)]
     show [(p.map enc)[j]'(by simpa using hjp)] = _
     rw [List.getElem_map, hpj]
    rw [h2]
    have h3 := Kd.M_step (w1 := sortWorld enc w g 0 m p.toArray os) (hrep2 i) fun k hk hks => sort_other hheap m p.toArray os k hks (fun e => hk.1.2 (by rw [e]))
    refine (Kd.slice 3 (Kd.int .i64)).M_mono (fun k hk => ⟨hk.1, ?_⟩) h3
    show f' k = j
    have hk2 : f k < x.length := by rw [hk.2]; exact i.isLt
    show (if hk : f k < x.length then p.idxOf ⟨f k, hk⟩ else 0) = j
    rw [dif_pos hk2]
    have : (⟨f k, hk2⟩ : Fin x.length) = p[j] := by rw [hpj]; exact Fin.ext hk.2
    rw [this]
    exact hpn.idxOf_getElem j hjp
  ·refine ⟨hB.os, hB.tape, hB.output, Nat.le_trans hB.size (sort_size hheap m p.toArray os), fun k hk => ?_⟩
   rw [sort_other hheap m p.toArray os k (Nat.lt_of_lt_of_le hk hB.size) (by omega)]
   exact hB.block k hk
end Go.Proofs.YtcpeldgnabfdmaaDoor.Q
end
section
namespace Go.Proofs.YtcpeldgnabfdmaaDoor.Q
open Go.RowKit Go.Proofs.YtcpeldgnabfdmaaDoorW.PrintWords Go.Proofs.YtcpeldgnabfdmaaDoorW.PrintLast Go.Proofs.YtcpeldgnabfdmaaDoorW.PrintMore
def runeS.f (x : Int) : Option ByteArray := some (Utf8.encode x)
section
variable {P : Program} {ops : Array Oper} {Q : Exit → Act → World → Prop} {rest : List Oper} {o : Oper} {a : Act} {W : World}
theorem bytes_read_of {W' : World} {g : Nat} {e : TypeId} (s : ByteArray) (hs : s.size ≤ 140737488355328) (cs : Array Value) (fr : Nat × Nat)
  (hb : W'.heap[g]? = some (.cells ((s.data.map fun b => Value.int .u8 b.toNat) ++ cs) e fr)) : Kd.C (Kd.int .u8) W' (some ⟨g, 0, none⟩) (bytesOf s).length (bytesOf s) := by
 have hl : (bytesOf s).length = s.size := bytesOf_length s
 refine ⟨rfl, by omega, fun _ => ⟨_, rfl, fun j p hj => ⟨[.int .u8 p], rfl, rfl, fun i u hu => ?_⟩⟩⟩
 have hi : i = 0 := by
  rcases i with _ | i
  ·rfl
  ·simp at hu
 subst hi
 have hu' : u = .int .u8 p := by simpa using hu.symm
 subst hu'
 have hjl : j < s.size := by have := (List.getElem?_eq_some_iff.1 hj).1; omega
 have hp : p = ((s.data[j]'(by simpa using hjl)).toNat : Int) := by
  have h2 : (bytesOf s)[j]? = some ((s.data[j]'(by simpa using hjl)).toNat : Int) := by
   unfold bytesOf
   rw [List.getElem?_map, List.getElem?_eq_getElem (by simpa using hjl)]
   simp
  rw [h2] at hj
  exact (Option.some.inj hj).symm
 subst hp
 have hsz : (Kd.int IntKind.u8).sz = 1 := rfl
 rw [hsz, Nat.mul_one, Nat.add_zero, add_plain]
 have hjd : j < s.data.size := by simpa using hjl
 simp [World.cell?, hb, Array.getElem?_append]
 rw [if_pos hjl, Array.getElem?_eq_getElem hjd]
 rfl
theorem V_bytes {W1 : World} {g B base cap : Nat} {e : TypeId} (s : ByteArray) (hs : s.size ≤ 140737488355328) (cs : Array Value) (fr : Nat × Nat)
  (hb : W1.heap[g]? = some (.cells ((s.data.map fun b => Value.int .u8 b.toNat) ++ cs) e fr)) (hg : B ≤ g) (hcap : s.size ≤ cap) :
  Kd.V (Kd.int .u8) e W1 base (fun k_ => B ≤ k_) (.slice (some ⟨g, 0, none⟩) s.size cap) (bytesOf s) := by
 have hl : (bytesOf s).length = s.size := bytesOf_length s
 refine ⟨some ⟨g, 0, none⟩, cap, by rw [hl], by rw [hl]; exact hcap, fun W' hW' => ?_⟩
 have hlt : g < W1.heap.size := (Array.getElem?_eq_some_iff.1 hb).1
 exact bytes_read_of s hs cs fr ((hW' g hg hlt).trans hb)
theorem runeS.step (hgd : o.guard = none) {N : Tmp} (_hd : o.dst = some N) (src dst : TypeId) (k : IntKind) (x : Operand) (ho : o.op = .convert src dst x)
  (hsrc : (P.underlying src).isSome = true) (hdst : P.underlying dst = some .string) {n : Int} {r : ByteArray} (hx : a.eval x = .int k n) (hr : runeS.f n = some r)
  (h : wpList P ops Q rest (a.put o.dst (.string r)) W) : wpList P ops Q (o :: rest) a W := by
 obtain rfl := Option.some.inj hr
 refine Kd.event_run hgd (w1 := W) (v := .string (Utf8.encode n)) ?_ h
 simp [execOp, ho, hx, run_convert_int_string W src dst k n hsrc hdst]
end
end Go.Proofs.YtcpeldgnabfdmaaDoor.Q
end
section
namespace Go.Proofs.YtcpeldgnabfdmaaDoor.Q
open Go.RowKit Go.Proofs.YtcpeldgnabfdmaaDoorW.PrintWords Go.Proofs.YtcpeldgnabfdmaaDoorW.PrintLast Go.Proofs.YtcpeldgnabfdmaaDoorW.PrintMore
def GoodW (w : World) : Prop := ∃ m, w.cell? ⟨0, 0, none⟩ = some (.int .i64 m)
theorem GoodW.below {w w1 : World} (h : GoodW w) (hb : Below w.heap.size w w1) : GoodW w1 := by
 obtain ⟨m, hm⟩ := h
 exact ⟨m, pw_cell_below hb hm⟩
end Go.Proofs.YtcpeldgnabfdmaaDoor.Q
end
section
namespace Go.Proofs.YtcpeldgnabfdmaaDoor.Q
open Go.RowKit Go.Shelf Go.Proofs.YtcpeldgnabfdmaaDoorW.PrintWords Go.Proofs.YtcpeldgnabfdmaaDoorW.PrintLast Go.Proofs.YtcpeldgnabfdmaaDoorW.PrintMore
theorem R_alloc_strs (w : World) (ps : List ByteArray) (hm : ps.length ≤ maxLen) : Kd.R Kd.string 9 (w.alloc (.cells (ps.map Value.string).toArray 9)) w.heap.size (fun _ => True) (.slice (some ⟨w.heap.size, 0, none⟩) ps.length ps.length) ps := by
 refine Kd.R_of_own (enc := Value.string) ?_ (fun _ _ => trivial)
 have h := World.ownsRow_lit (base := w.heap.size) (e := 9) (size := 1) w (ps.map Value.string).toArray ps.length (Nat.le_refl _) hm (by simp)
 exact h
def strings_Split.f (a0 a1 : ByteArray) : Option (List ByteArray) := if a0.size < 4294967281 ∧ 1 ≤ a1.size then some (Lib.splitB a1 0 (Lib.countB a0 a1) a0) else none
theorem strings_Split.calls (a0 a1 : ByteArray) (r : List ByteArray) (w : World) (hG : GoodW w) (h : strings_Split.f a0 a1 = some r) :
  Calls Tryd.prog 44 #[.string a0, .string a1] w fun e w' => ∃ v0_ : Value, e = .returned (v0_) ∧ Kd.R Kd.string 9 w' w.heap.size (fun _ => True) v0_ r ∧ Below w.heap.size w w' := by
 unfold strings_Split.f at h
 split at h
 ·rename_i hc
  obtain rfl := Option.some.inj h
  obtain ⟨m, hm⟩ := hG
  have hle := Lib.countB_le a1 hc.2 a0.size a0 (Nat.le_refl _)
  have hlen := Lib.splitB_all a1 hc.2 0 _ a0 rfl
  refine (Tryd.strings_Split a0 a1 m w hc.1 hm hc.2).mono fun e w' ⟨he, hw⟩ => ⟨_, he, ?_, ?_⟩
  ·subst hw
   rw [← hlen]
   exact R_alloc_strs w _ (by unfold maxLen; omega)
  ·subst hw
   exact below_alloc (Below.refl _ _) _
 ·cases h
def strings_Join.f (l0 : List ByteArray) (a1 : ByteArray) : Option ByteArray :=
 if l0.length ≤ 140737488355328 ∧ (Lib.join (l0.map (·.data.toList)) a1.data.toList).length ≤ 140737488355328 then some ⟨(Lib.join (l0.map (·.data.toList)) a1.data.toList).toArray⟩ else none
theorem strings_Join.calls (A0 : Option Addr) (c0 : Nat) (l0 : List ByteArray) (a1 : ByteArray) (r : ByteArray) (w : World) (hr0 : Kd.C Kd.string w A0 l0.length l0) (hc0 : l0.length ≤ c0) (h : strings_Join.f l0 a1 = some r) :
  Calls Tryd.prog 45 #[.slice A0 l0.length c0, .string a1] w fun e w' => e = .returned (.string r) ∧ Below w.heap.size w w' := by
 unfold strings_Join.f at h
 split at h
 ·rename_i hc
  obtain rfl := Option.some.inj h
  rcases Nat.eq_zero_or_pos l0.length with h0 | h0
  ·obtain rfl := List.eq_nil_of_length_eq_zero h0
   exact (Tryd.strings_Join_none A0 c0 a1 w).mono fun e w' ⟨he, hw⟩ => ⟨he, hw ▸ Below.refl _ _⟩
  ·obtain ⟨ad, rfl, hcell⟩ := hr0.2.2 h0
   have hcells : ∀ (j : Nat) x, l0[j]? = some x → w.cell? (ad.add j) = some (.string x) := fun j x hj => by
    obtain ⟨c, hl, hR, hg⟩ := hcell j x hj
    have hR' : c = [.string x] := hR
    subst hR'
    have h2 := hg 0 (.string x) rfl
    have hsz : (Kd.string).sz = 1 := rfl
    rw [hsz, Nat.mul_one, Nat.add_zero] at h2
    exact h2
   have h00 := hcells 0 _ (List.getElem?_eq_getElem h0)
   have hsp : ad.spot = none := by
    rcases hs : ad.spot with _ | z
    ·rfl
    ·rw [Addr.add, if_pos rfl] at h00
     unfold World.cell? at h00
     split at h00
     ·rw [hs] at h00
      simp at h00
     ·cases h00
   obtain ⟨bk, o, sp⟩ := ad
   obtain rfl : sp = none := hsp
   have hb : bk < w.heap.size := by
    have := World.block_lt_of_cell? _ _ h00
    rw [Addr.add, if_pos rfl] at this
    exact this
   exact Tryd.strings_Join bk o c0 l0 a1 w (fun j x hj => by
    have h2 := hcells j x hj
    rw [Addr.add] at h2
    split at h2
    ·rename_i hz
     subst hz
     exact h2
    ·exact h2) hb hc.1 hc0 hc.2
 ·cases h
def asciiB (l : List UInt8) : Bool := l.all (fun b => decide (b.toNat < 128))
def strings_Trim.f (a0 a1 : ByteArray) : Option ByteArray :=
 if a0.size ≤ 9223372036854775807 ∧ a1.size < 4294967281 ∧ asciiB a1.data.toList = true then some ⟨(Lib.trimS a0.data.toList a1.data.toList).toArray⟩ else none
theorem strings_Trim.calls (a0 a1 : ByteArray) (r : ByteArray) (w : World) (h : strings_Trim.f a0 a1 = some r) :
  Calls Tryd.prog 51 #[.string a0, .string a1] w fun e w' => e = .returned (.string r) ∧ Below w.heap.size w w' := by
 unfold strings_Trim.f at h
 split at h
 ·rename_i hc
  obtain rfl := Option.some.inj h
  exact Any.strings_Trim_laid Tryd.lays160 (by kernel_rfl) a0 a1 w hc.1 hc.2.1 (ascii_of_all hc.2.2)
 ·cases h
def strings_Count.f (a0 a1 : ByteArray) : Option Int := if a1.size = 1 then some (Lib.countByte a0.data.toList (a1.data.toList.getD 0 0) : Int) else none
theorem strings_Count.calls (a0 a1 : ByteArray) (r : Int) (w : World) (h : strings_Count.f a0 a1 = some r) :
  Calls Tryd.prog 61 #[.string a0, .string a1] w fun e w' => e = .returned (.int .i64 r) ∧ Drawn0 w w' := by
 unfold strings_Count.f at h
 split at h
 ·rename_i hc
  obtain rfl := Option.some.inj h
  obtain ⟨c, rfl⟩ := Lib.one_byte a1 hc
  exact (Tryd.strings_Count_one a0 c w).mono fun e w' ⟨he, hw⟩ => ⟨he, hw ▸ Drawn0.refl _⟩
 ·cases h
end Go.Proofs.YtcpeldgnabfdmaaDoor.Q
end
section
namespace Go.Proofs.YtcpeldgnabfdmaaDoor.Q
open Go.RowKit Go.Proofs.YtcpeldgnabfdmaaDoorW.PrintWords Go.Proofs.YtcpeldgnabfdmaaDoorW.PrintLast Go.Proofs.YtcpeldgnabfdmaaDoorW.PrintMore
attribute [local go_sem] max2_int min2_int max_two min_two max_three min_three max_four min_four
set_option linter.unusedVariables false
set_option linter.unusedSimpArgs false
def impl_within.f (a0 : Int) (a1 : Int) (a2 : Int) : Option (Bool) := if a1 ≤ a0 then (some (decide (a0 ≤ a2))) else (some false)
set_option maxHeartbeats 8000000 in
set_option maxRecDepth 100000 in
theorem impl_within.calls (a0 : Int) (a1 : Int) (a2 : Int) (r : Bool) (w : World) (h : impl_within.f a0 a1 a2 = some r) :
  Calls Tryd.prog 54 #[.int .i64 a0, .int .i64 a1, .int .i64 a2] w fun e w' => e = .returned (.bool r) ∧ Drawn0 w w' := by
 have H : (if a1 ≤ a0 then (some (decide (a0 ≤ a2))) else (some false)) = some r := h
 clear h
 by_cases c4 : a1 ≤ a0
 ·rw [if_pos c4] at H
  have c4b0 : decide (a1 ≤ a0) = true := decide_eq_true c4
  clear c4
  obtain rfl := Option.some.inj H
  go_enter Tryd.func54, Tryd.ntmps54
  go_wp2
  go_ret
  exact ⟨by first | rfl | (simp; done) | (simp [*]; done), by repeat (first | exact Drawn0.refl _ | apply Drawn0.step)⟩
 ·rw [if_neg c4] at H
  have c4b0 : decide (a1 ≤ a0) = false := decide_eq_false c4
  clear c4
  obtain rfl := Option.some.inj H
  go_enter Tryd.func54, Tryd.ntmps54
  go_wp2
  go_ret
  exact ⟨by first | rfl | (simp; done) | (simp [*]; done), by repeat (first | exact Drawn0.refl _ | apply Drawn0.step)⟩
def impl_isSize.f (a0 : Int) (a1 : Int) : Option (Bool) := (impl_within.f a0 1 7).bind fun t101 => (if t101 = true then ((impl_within.f a1 1 7).bind fun t102 => (if t102 = true then (some (decide ((wrap64 (a0 * a1)) ≤ 36))) else (some false))) else (some false))
set_option maxHeartbeats 8000000 in
set_option maxRecDepth 100000 in
theorem impl_isSize.calls (a0 : Int) (a1 : Int) (r : Bool) (w : World) (h : impl_isSize.f a0 a1 = some r) :
  Calls Tryd.prog 60 #[.int .i64 a0, .int .i64 a1] w fun e w' => e = .returned (.bool r) ∧ Drawn0 w w' := by
 have H : ((impl_within.f a0 1 7).bind fun t101 => (if t101 = true then ((impl_within.f a1 1 7).bind fun t102 => (if t102 = true then (some (decide ((wrap64 (a0 * a1)) ≤ 36))) else (some false))) else (some false))) = some r := h
 clear h
 replace H := Option.bind_eq_some_iff.mp H
 obtain ⟨t101, A30, H⟩ := H
 replace H : (if t101 = true then ((impl_within.f a1 1 7).bind fun t102 => (if t102 = true then (some (decide ((wrap64 (a0 * a1)) ≤ 36))) else (some false))) else (some false)) = some r := H
 have A3 := Aside0.mk A30
 clear A30
 by_cases c4 : t101 = true
 ·subst c4
  have H1 : ((impl_within.f a1 1 7).bind fun t102 => (if t102 = true then (some (decide ((wrap64 (a0 * a1)) ≤ 36))) else (some false))) = some r := by rw [if_pos rfl] at H; exact H
  clear H
  have H := H1
  clear H1
  replace H := Option.bind_eq_some_iff.mp H
  obtain ⟨t102, A50, H⟩ := H
  replace H : (if t102 = true then (some (decide ((wrap64 (a0 * a1)) ≤ 36))) else (some false)) = some r := H
  have A5 := Aside0.mk A50
  clear A50
  by_cases c6 : t102 = true
  ·subst c6
   have H1 : (some (decide ((wrap64 (a0 * a1)) ≤ 36))) = some r := by rw [if_pos rfl] at H; exact H
   clear H
   have H := H1
   clear H1
   obtain rfl := Option.some.inj H
   go_enter Tryd.func60, Tryd.ntmps60
   go_wp2_with (first | ((with_reducible refine gate_callee (f := 54) rfl ?_); refine gcall (some 6) Tryd.func54 #[.int .i64 a0, .int .i64 1, .int .i64 7] rfl ?_; (with_reducible refine (impl_within.calls a0 1 7 true _ A3.out).mono ?_); rintro e w' ⟨rfl, ⟨nd, rfl⟩⟩; refine ⟨_, rfl, ?_⟩) | (go_at_call 54; (with_reducible refine (impl_within.calls a1 1 7 true _ A5.out).mono ?_); rintro e w' ⟨rfl, ⟨nd, rfl⟩⟩))
   go_ret
   exact ⟨by first | rfl | (simp; done) | (simp [*]; done), by repeat (first | exact Drawn0.refl _ | apply Drawn0.step)⟩
  ·replace c6 := Bool.eq_false_iff.mpr c6
   subst c6
   have H1 : (some false) = some r := by rw [if_neg (show ¬ (false = true) by decide)] at H; exact H
   clear H
   have H := H1
   clear H1
   obtain rfl := Option.some.inj H
   go_enter Tryd.func60, Tryd.ntmps60
   go_wp2_with (first | ((with_reducible refine gate_callee (f := 54) rfl ?_); refine gcall (some 6) Tryd.func54 #[.int .i64 a0, .int .i64 1, .int .i64 7] rfl ?_; (with_reducible refine (impl_within.calls a0 1 7 true _ A3.out).mono ?_); rintro e w' ⟨rfl, ⟨nd, rfl⟩⟩; refine ⟨_, rfl, ?_⟩) | (go_at_call 54; (with_reducible refine (impl_within.calls a1 1 7 false _ A5.out).mono ?_); rintro e w' ⟨rfl, ⟨nd, rfl⟩⟩))
   go_ret
   exact ⟨by first | rfl | (simp; done) | (simp [*]; done), by repeat (first | exact Drawn0.refl _ | apply Drawn0.step)⟩
 ·replace c4 := Bool.eq_false_iff.mpr c4
  subst c4
  have H1 : (some false) = some r := by rw [if_neg (show ¬ (false = true) by decide)] at H; exact H
  clear H
  have H := H1
  clear H1
  obtain rfl := Option.some.inj H
  go_enter Tryd.func60, Tryd.ntmps60
  go_wp2_with (first | ((with_reducible refine gate_callee (f := 54) rfl ?_); refine gcall (some 6) Tryd.func54 #[.int .i64 a0, .int .i64 1, .int .i64 7] rfl ?_; (with_reducible refine (impl_within.calls a0 1 7 false _ A3.out).mono ?_); rintro e w' ⟨rfl, ⟨nd, rfl⟩⟩; refine ⟨_, rfl, ?_⟩))
  go_ret
  exact ⟨by first | rfl | (simp; done) | (simp [*]; done), by repeat (first | exact Drawn0.refl _ | apply Drawn0.step)⟩
mutual
def impl_IsTray.l0 : Nat → ByteArray → List ByteArray → List ByteArray → Int → Int → Option (Bool)
 | 0, _, _, _, _, _ => none
 | k + 1, x0, x3, x17, x18, x19 => if x19 < x18 then (if 0 ≤ x19 then (if x19 < (x17.length : Int) then (if 0 < (x3.length : Int) then (if ((rdOf ByteArray.empty x17 x19).size : Int) = ((rdOf ByteArray.empty x3 0).size : Int) then ((strings_Trim.f (rdOf ByteArray.empty x17 x19) (⟨#[35, 46, 111, 97, 98, 99, 100, 101, 102]⟩ : ByteArray)).bind fun t108 => (if t108.toList = ([] : List UInt8) then (impl_IsTray.l0 k x0 x3 x17 x18 (wrap64 (x19 + 1))) else (some false))) else (some false)) else (none)) else (none)) else (none)) else (impl_IsTray.l1 k x0 97)
def impl_IsTray.l1 : Nat → ByteArray → Int → Option (Bool)
 | 0, _, _ => none
 | k + 1, x0, x6 => if x6 ≤ 102 then ((runeS.f x6).bind fun t109 => ((strings_Count.f x0 t109).bind fun t110 => (if t110 > 1 then (some false) else (impl_IsTray.l1 k x0 (wrap32 (x6 + 1)))))) else (some true)
end
def impl_IsTray.f (k : Nat) (a0 : ByteArray) : Option (Bool) := (strings_Split.f a0 (⟨#[47]⟩ : ByteArray)).bind fun t101 => (if 0 < (t101.length : Int) then ((impl_isSize.f ((rdOf ByteArray.empty t101 0).size : Int) (t101.length : Int)).bind fun t105 => (if t105 = true then (impl_IsTray.l0 k a0 t101 t101 (t101.length : Int) 0) else (some false))) else (none))
set_option maxHeartbeats 8000000 in
set_option maxRecDepth 100000 in
theorem impl_IsTray.calls (k : Nat) (a0 : ByteArray) (r : Bool) (w : World) (hG : GoodW w) (h : impl_IsTray.f k a0 = some r) :
  Calls Tryd.prog 40 #[.string a0] w fun e w' => e = .returned (.bool r) ∧ Below w.heap.size w w' := by
 have HG := Aside0.mk hG
 clear hG
 have HB := Aside0.mk (Below.refl w.heap.size w)
 have H : ((strings_Split.f a0 (⟨#[47]⟩ : ByteArray)).bind fun t101 => (if 0 < (t101.length : Int) then ((impl_isSize.f ((rdOf ByteArray.empty t101 0).size : Int) (t101.length : Int)).bind fun t105 => (if t105 = true then (impl_IsTray.l0 k a0 t101 t101 (t101.length : Int) 0) else (some false))) else (none))) = some r := h
 clear h
 replace H := Option.bind_eq_some_iff.mp H
 obtain ⟨t101, A20, H⟩ := H
 replace H : (if 0 < (t101.length : Int) then ((impl_isSize.f ((rdOf ByteArray.empty t101 0).size : Int) (t101.length : Int)).bind fun t105 => (if t105 = true then (impl_IsTray.l0 k a0 t101 t101 (t101.length : Int) 0) else (some false))) else (none)) = some r := H
 have A2 := Aside0.mk A20
 clear A20
 by_cases c3 : 0 < (t101.length : Int)
 ·rw [if_pos c3] at H
  have c3b0 : decide (0 < (t101.length : Int)) = true := decide_eq_true c3
  have c3b1 : decide (0 < t101.length) = true := decide_eq_true (by omega)
  clear c3
  replace H := Option.bind_eq_some_iff.mp H
  obtain ⟨t105, A40, H⟩ := H
  replace H : (if t105 = true then (impl_IsTray.l0 k a0 t101 t101 (t101.length : Int) 0) else (some false)) = some r := H
  have A4 := Aside0.mk A40
  clear A40
  by_cases c5 : t105 = true
  ·subst c5
   have H1 : (impl_IsTray.l0 k a0 t101 t101 (t101.length : Int) 0) = some r := by rw [if_pos rfl] at H; exact H
   clear H
   have H := H1
   clear H1
   have H' := Aside0.mk H
   clear H
   go_enter Tryd.func40, Tryd.ntmps40
   go_wp2_with (first | ((with_reducible refine gate_callee (f := 44) rfl ?_); refine gcall (some 8) Tryd.func44 #[.string a0, .string (⟨#[47]⟩ : ByteArray)] rfl ?_; (with_reducible refine (strings_Split.calls a0 (⟨#[47]⟩ : ByteArray) t101 _ ?side1 A2.out).mono ?_); (case side1 => (refine GoodW.below HG.out ?_); exact bel HB); rintro e w6 ⟨v102, rfl, ho0, hb⟩; refine ⟨_, rfl, ?_⟩; have n0_ := Aside0.mk (Kd.R_lower ho0 (below_size (bel HB))); have n1_ := Aside0.mk (below_step (bel HB) hb); clear HB; have HO103 := n0_; have HB := n1_; clear n0_ n1_; (try clear hb); (try clear hb2); (try clear hk); (try clear hi); (try clear ho0); obtain ⟨Ao7, co7, eo7⟩ := Kd.R_slice HO103.out; subst eo7; have p104 : 0 ≤ (0 : Int) := (by omega); have q104 : 0 < (t101.length : Int) := of_decide_eq_true (by first | (with_reducible assumption) | assumption); obtain ⟨ad104, e104, hx104_0⟩ := Kd.at_string (Kd.R_reads' HO103.out).2.2 0 p104 q104; cases e104; have qi104 : (0 < t101.length) = True := eq_true (by omega); (try rw [show ((0 : Int)).toNat = 0 from rfl] at hx104_0); (try rw [Addr.add_zero'] at hx104_0); replace p104 := eq_true p104; replace q104 := eq_true q104) | ((with_reducible refine gate_callee (f := 60) rfl ?_); refine gcall (some 15) Tryd.func60 #[.int .i64 ((rdOf ByteArray.empty t101 0).size : Int), .int .i64 (t101.length : Int)] rfl ?_; (with_reducible refine (impl_isSize.calls ((rdOf ByteArray.empty t101 0).size : Int) (t101.length : Int) true _ A4.out).mono ?_); rintro e w' ⟨rfl, ⟨nd, rfl⟩⟩; refine ⟨_, rfl, ?_⟩))
   go_loopg [19] k (fun kq v19 w' => ∃ (x19_1 : Int), v19 = .int .i64 x19_1 ∧ Aside0 (impl_IsTray.l0 kq a0 t101 t101 (t101.length : Int) x19_1 = some r) ∧ Aside0 (kq ≤ k) ∧ Aside0 (Kd.R Kd.string 9 w' w.heap.size (fun _ => True) (.slice (some ad104) t101.length co7) t101) ∧ Aside0 (Kd.R Kd.string 9 w' w.heap.size (fun _ => True) (.slice (some ad104) t101.length co7) t101) ∧ Aside0 (Below w.heap.size w w'))
   case atStart => exact ⟨(0), (by first | rfl | (simp; done) | (simp [*]; done) | (simp [nil_bool]; done)), H', ⟨Nat.le_refl _⟩, ⟨rch HO103⟩, ⟨rch HO103⟩, ⟨bel HB⟩⟩
   case round =>
    clear H'
    try clear p1
    try clear q1
    try clear hx1
    try clear qi1
    try clear p2
    try clear c3
    try clear c3b0
    try clear c3b0y
    try clear c3b1
    try clear c4
    try clear c5
    try clear c6
    try clear hx104_0
    try clear p104
    try clear q104
    obtain ⟨x19_1, rfl, HA, HK1, HO_3, HO_17, HB⟩ := hrel
    cases gk with
    | zero => exact absurd HA.out (by simp [impl_IsTray.l0])
    | succ k1 =>
     have H := HA.out
     clear HA
     simp only [impl_IsTray.l0] at H
     by_cases c8 : x19_1 < (t101.length : Int)
     ·rw [if_pos c8] at H
      have c8b0 : decide (x19_1 < (t101.length : Int)) = true := decide_eq_true c8
      clear c8
      by_cases c9 : 0 ≤ x19_1
      ·rw [if_pos c9] at H
       have c9b0 : decide (0 ≤ x19_1) = true := decide_eq_true c9
       clear c9
       by_cases c10 : x19_1 < (t101.length : Int)
       ·rw [if_pos c10] at H
        have c10b0 : decide (x19_1 < (t101.length : Int)) = true := decide_eq_true c10
        clear c10
        by_cases c11 : 0 < (t101.length : Int)
        ·rw [if_pos c11] at H
         have c11b0 : decide (0 < (t101.length : Int)) = true := decide_eq_true c11
         have c11b1 : decide (0 < t101.length) = true := decide_eq_true (by omega)
         clear c11
         by_cases c12 : ((rdOf ByteArray.empty t101 x19_1).size : Int) = ((rdOf ByteArray.empty t101 0).size : Int)
         ·rw [if_pos c12] at H
          have c12b0 : (((rdOf ByteArray.empty t101 x19_1).size : Int) == ((rdOf ByteArray.empty t101 0).size : Int)) = true := beq_iff_eq.mpr c12
          have c12b1 : (((rdOf ByteArray.empty t101 x19_1).size : Int) != ((rdOf ByteArray.empty t101 0).size : Int)) = false := bne_eq_false_iff_eq.mpr c12
          have c12b2 : ((rdOf ByteArray.empty t101 x19_1).size == (rdOf ByteArray.empty t101 0).size) = true := by first | simpa using c12 | (simp at c12 ⊢; omega)
          clear c12
          replace H := Option.bind_eq_some_iff.mp H
          obtain ⟨t108, A130, H⟩ := H
          replace H : (if t108.toList = ([] : List UInt8) then (impl_IsTray.l0 k1 a0 t101 t101 (t101.length : Int) (wrap64 (x19_1 + 1))) else (some false)) = some r := H
          have A13 := Aside0.mk A130
          clear A130
          by_cases c14 : t108.toList = ([] : List UInt8)
          ·rw [if_pos c14] at H
           have c14b0 : (t108.toList == ([] : List UInt8)) = true := beq_iff_eq.mpr c14
           have c14b1 : (t108.toList != ([] : List UInt8)) = false := bne_eq_false_iff_eq.mpr c14
           clear c14
           have H' := Aside0.mk H
           clear H
           have p106 : 0 ≤ (x19_1 : Int) := of_decide_eq_true (by first | (with_reducible assumption) | assumption)
           have q106 : x19_1 < (t101.length : Int) := of_decide_eq_true (by first | (with_reducible assumption) | assumption)
           obtain ⟨ad106, e106, hx106_0⟩ := Kd.at_string (Kd.R_reads' HO_17.out).2.2 x19_1 p106 q106
           obtain rfl : ad104 = ad106 := (by injection e106)
           replace p106 := eq_true p106
           replace q106 := eq_true q106
           have p107 : 0 ≤ (0 : Int) := (by omega)
           have q107 : 0 < (t101.length : Int) := of_decide_eq_true (by first | (with_reducible assumption) | assumption)
           obtain ⟨ad107, e107, hx107_0⟩ := Kd.at_string (Kd.R_reads' HO_3.out).2.2 0 p107 q107
           obtain rfl : ad104 = ad107 := (by injection e107)
           have qi107 : (0 < t101.length) = True := eq_true (by omega)
           (try rw [show ((0 : Int)).toNat = 0 from rfl] at hx107_0)
           (try rw [Addr.add_zero'] at hx107_0)
           replace p107 := eq_true p107
           replace q107 := eq_true q107
           go_wp2_with (first | (go_at_call 51; (with_reducible refine (strings_Trim.calls (rdOf ByteArray.empty t101 x19_1) (⟨#[35, 46, 111, 97, 98, 99, 100, 101, 102]⟩ : ByteArray) t108 _ A13.out).mono ?_); rintro e w15 ⟨rfl, hb⟩; have n0_ := Aside0.mk (Kd.R_below (rch HO_3) hb); have n1_ := Aside0.mk (Kd.R_below (rch HO_17) hb); have n2_ := Aside0.mk (below_step (bel HB) hb); clear HO_3; clear HO_17; clear HB; have HO_3 := n0_; have HO_17 := n1_; have HB := n2_; clear n0_ n1_ n2_; (try clear hb); (try clear hb2); (try clear hk); (try clear hi)))
           go_roundg k1
           case measure => have := HK1.out; omega
           case rel => exact ⟨(wrap64 (x19_1 + 1)), (by first | rfl | (simp; done) | (simp [*]; done) | (simp [nil_bool]; done)), H', ⟨by have := HK1.out; omega⟩, ⟨rch HO_3⟩, ⟨rch HO_17⟩, ⟨bel HB⟩⟩
          ·rw [if_neg c14] at H
           have c14b0 : (t108.toList == ([] : List UInt8)) = false := beq_eq_false_iff_ne.mpr c14
           have c14b1 : (t108.toList != ([] : List UInt8)) = true := bne_iff_ne.mpr c14
           obtain rfl := Option.some.inj H
           have p106 : 0 ≤ (x19_1 : Int) := of_decide_eq_true (by first | (with_reducible assumption) | assumption)
           have q106 : x19_1 < (t101.length : Int) := of_decide_eq_true (by first | (with_reducible assumption) | assumption)
           obtain ⟨ad106, e106, hx106_0⟩ := Kd.at_string (Kd.R_reads' HO_17.out).2.2 x19_1 p106 q106
           obtain rfl : ad104 = ad106 := (by injection e106)
           replace p106 := eq_true p106
           replace q106 := eq_true q106
           have p107 : 0 ≤ (0 : Int) := (by omega)
           have q107 : 0 < (t101.length : Int) := of_decide_eq_true (by first | (with_reducible assumption) | assumption)
           obtain ⟨ad107, e107, hx107_0⟩ := Kd.at_string (Kd.R_reads' HO_3.out).2.2 0 p107 q107
           obtain rfl : ad104 = ad107 := (by injection e107)
           have qi107 : (0 < t101.length) = True := eq_true (by omega)
           (try rw [show ((0 : Int)).toNat = 0 from rfl] at hx107_0)
           (try rw [Addr.add_zero'] at hx107_0)
           replace p107 := eq_true p107
           replace q107 := eq_true q107
           go_wp2_with (first | (go_at_call 51; (with_reducible refine (strings_Trim.calls (rdOf ByteArray.empty t101 x19_1) (⟨#[35, 46, 111, 97, 98, 99, 100, 101, 102]⟩ : ByteArray) t108 _ A13.out).mono ?_); rintro e w16 ⟨rfl, hb⟩; have n0_ := Aside0.mk (Kd.R_below (rch HO_3) hb); have n1_ := Aside0.mk (Kd.R_below (rch HO_17) hb); have n2_ := Aside0.mk (below_step (bel HB) hb); clear HO_3; clear HO_17; clear HB; have HO_3 := n0_; have HO_17 := n1_; have HB := n2_; clear n0_ n1_ n2_; (try clear hb); (try clear hb2); (try clear hk); (try clear hi)))
           go_ret
           exact ⟨by first | rfl | (simp [errW_none, errW_some] <;> rfl) | (simp [*, errW_none, errW_some] <;> rfl), bel HB⟩
         ·rw [if_neg c12] at H
          have c12b0 : (((rdOf ByteArray.empty t101 x19_1).size : Int) == ((rdOf ByteArray.empty t101 0).size : Int)) = false := beq_eq_false_iff_ne.mpr c12
          have c12b1 : (((rdOf ByteArray.empty t101 x19_1).size : Int) != ((rdOf ByteArray.empty t101 0).size : Int)) = true := bne_iff_ne.mpr c12
          have c12b2 : ((rdOf ByteArray.empty t101 x19_1).size == (rdOf ByteArray.empty t101 0).size) = false := by first | simpa using c12 | (simp at c12 ⊢; omega)
          obtain rfl := Option.some.inj H
          have p106 : 0 ≤ (x19_1 : Int) := of_decide_eq_true (by first | (with_reducible assumption) | assumption)
          have q106 : x19_1 < (t101.length : Int) := of_decide_eq_true (by first | (with_reducible assumption) | assumption)
          obtain ⟨ad106, e106, hx106_0⟩ := Kd.at_string (Kd.R_reads' HO_17.out).2.2 x19_1 p106 q106
          obtain rfl : ad104 = ad106 := (by injection e106)
          replace p106 := eq_true p106
          replace q106 := eq_true q106
          have p107 : 0 ≤ (0 : Int) := (by omega)
          have q107 : 0 < (t101.length : Int) := of_decide_eq_true (by first | (with_reducible assumption) | assumption)
          obtain ⟨ad107, e107, hx107_0⟩ := Kd.at_string (Kd.R_reads' HO_3.out).2.2 0 p107 q107
          obtain rfl : ad104 = ad107 := (by injection e107)
          have qi107 : (0 < t101.length) = True := eq_true (by omega)
          (try rw [show ((0 : Int)).toNat = 0 from rfl] at hx107_0)
          (try rw [Addr.add_zero'] at hx107_0)
          replace p107 := eq_true p107
          replace q107 := eq_true q107
          go_wp2
          go_ret
          exact ⟨by first | rfl | (simp [errW_none, errW_some] <;> rfl) | (simp [*, errW_none, errW_some] <;> rfl), bel HB⟩
        ·rw [if_neg c11] at H
         exact absurd H (by simp)
       ·rw [if_neg c10] at H
        exact absurd H (by simp)
      ·rw [if_neg c9] at H
       exact absurd H (by simp)
     ·rw [if_neg c8] at H
      have c8b0 : decide (x19_1 < (t101.length : Int)) = false := decide_eq_false c8
      clear c8
      have H' := Aside0.mk H
      clear H
      go_wp2
      go_loopg [6] k1 (fun kq v6 w' => ∃ (x6_2 : Int), v6 = .int .i32 x6_2 ∧ Aside0 (impl_IsTray.l1 kq a0 x6_2 = some r) ∧ Aside0 (kq ≤ k1) ∧ Aside0 (Below w.heap.size w w'))
      case atStart => exact ⟨(97), (by first | rfl | (simp; done) | (simp [*]; done) | (simp [nil_bool]; done)), H', ⟨Nat.le_refl _⟩, ⟨bel HB⟩⟩
      case round =>
       clear H'
       try clear c1
       try clear p1
       try clear q1
       try clear hx1
       try clear qi1
       try clear p2
       try clear c3
       try clear c3b0
       try clear c3b0y
       try clear c3b1
       try clear c4
       try clear c5
       try clear c6
       try clear p6
       try clear c8
       try clear c8b0
       try clear c8b0y
       try clear c9
       try clear c9b0
       try clear c9b0y
       try clear c10
       try clear c10b0
       try clear c10b0y
       try clear p10
       try clear q10
       try clear hx10
       try clear qi10
       try clear c11
       try clear c11b0
       try clear c11b0y
       try clear c11b1
       try clear c12
       try clear c12b0
       try clear c12b0y
       try clear c12b1
       try clear c12b2
       try clear c14
       try clear c14b0
       try clear c14b0y
       try clear c14b1
       try clear hx104_0
       try clear hx106_0
       try clear hx107_0
       try clear p1
       try clear p104
       try clear p106
       try clear p107
       try clear p2
       try clear q1
       try clear q104
       try clear q106
       try clear q107
       obtain ⟨x6_2, rfl, HA, HK2, HB⟩ := hrel
       cases gk with
       | zero => exact absurd HA.out (by simp [impl_IsTray.l1])
       | succ k2 =>
        have H := HA.out
        clear HA
        simp only [impl_IsTray.l1] at H
        by_cases c17 : x6_2 ≤ 102
        ·rw [if_pos c17] at H
         have c17b0 : decide (x6_2 ≤ 102) = true := decide_eq_true c17
         clear c17
         replace H := Option.bind_eq_some_iff.mp H
         obtain ⟨t109, A180, H⟩ := H
         replace H : ((strings_Count.f a0 t109).bind fun t110 => (if t110 > 1 then (some false) else (impl_IsTray.l1 k2 a0 (wrap32 (x6_2 + 1))))) = some r := H
         have A18 := Aside0.mk A180
         clear A180
         replace H := Option.bind_eq_some_iff.mp H
         obtain ⟨t110, A190, H⟩ := H
         replace H : (if t110 > 1 then (some false) else (impl_IsTray.l1 k2 a0 (wrap32 (x6_2 + 1)))) = some r := H
         have A19 := Aside0.mk A190
         clear A190
         by_cases c20 : t110 > 1
         ·rw [if_pos c20] at H
          have c20b0 : decide (1 < t110) = true := decide_eq_true c20
          clear c20
          obtain rfl := Option.some.inj H
          go_wp2_with (first | ((with_reducible refine gate_dst (N := 42) rfl ?_); refine runeS.step rfl (N := 42) rfl 21 9 .i32 _ rfl (by rw [Tryd.underlying21]; rfl) Tryd.underlying9 rfl A18.out ?_) | ((with_reducible refine gate_callee (f := 61) rfl ?_); refine gcall (some 43) Tryd.func61 #[.string a0, .string t109] rfl ?_; (with_reducible refine (strings_Count.calls a0 t109 t110 _ A19.out).mono ?_); rintro e w' ⟨rfl, ⟨nd, rfl⟩⟩; refine ⟨_, rfl, ?_⟩))
          go_ret
          exact ⟨by first | rfl | (simp [errW_none, errW_some] <;> rfl) | (simp [*, errW_none, errW_some] <;> rfl), bel HB⟩
         ·rw [if_neg c20] at H
          have c20b0 : decide (1 < t110) = false := decide_eq_false c20
          clear c20
          have H' := Aside0.mk H
          clear H
          go_wp2_with (first | ((with_reducible refine gate_dst (N := 42) rfl ?_); refine runeS.step rfl (N := 42) rfl 21 9 .i32 _ rfl (by rw [Tryd.underlying21]; rfl) Tryd.underlying9 rfl A18.out ?_) | ((with_reducible refine gate_callee (f := 61) rfl ?_); refine gcall (some 43) Tryd.func61 #[.string a0, .string t109] rfl ?_; (with_reducible refine (strings_Count.calls a0 t109 t110 _ A19.out).mono ?_); rintro e w' ⟨rfl, ⟨nd, rfl⟩⟩; refine ⟨_, rfl, ?_⟩))
          go_roundg k2
          case measure => have := HK1.out; have := HK2.out; omega
          case rel => exact ⟨(wrap32 (x6_2 + 1)), (by first | rfl | (simp; done) | (simp [*]; done) | (simp [nil_bool]; done)), H', ⟨by have := HK1.out; have := HK2.out; omega⟩, ⟨bel HB⟩⟩
        ·rw [if_neg c17] at H
         have c17b0 : decide (x6_2 ≤ 102) = false := decide_eq_false c17
         clear c17
         obtain rfl := Option.some.inj H
         go_wp2
         go_ret
         exact ⟨by first | rfl | (simp [errW_none, errW_some] <;> rfl) | (simp [*, errW_none, errW_some] <;> rfl), bel HB⟩
  ·replace c5 := Bool.eq_false_iff.mpr c5
   subst c5
   have H1 : (some false) = some r := by rw [if_neg (show ¬ (false = true) by decide)] at H; exact H
   clear H
   have H := H1
   clear H1
   obtain rfl := Option.some.inj H
   go_enter Tryd.func40, Tryd.ntmps40
   go_wp2_with (first | ((with_reducible refine gate_callee (f := 44) rfl ?_); refine gcall (some 8) Tryd.func44 #[.string a0, .string (⟨#[47]⟩ : ByteArray)] rfl ?_; (with_reducible refine (strings_Split.calls a0 (⟨#[47]⟩ : ByteArray) t101 _ ?side1 A2.out).mono ?_); (case side1 => (refine GoodW.below HG.out ?_); exact bel HB); rintro e w21 ⟨v102, rfl, ho0, hb⟩; refine ⟨_, rfl, ?_⟩; have n0_ := Aside0.mk (Kd.R_lower ho0 (below_size (bel HB))); have n1_ := Aside0.mk (below_step (bel HB) hb); clear HB; have HO103 := n0_; have HB := n1_; clear n0_ n1_; (try clear hb); (try clear hb2); (try clear hk); (try clear hi); (try clear ho0); obtain ⟨Ao22, co22, eo22⟩ := Kd.R_slice HO103.out; subst eo22; have p104 : 0 ≤ (0 : Int) := (by omega); have q104 : 0 < (t101.length : Int) := of_decide_eq_true (by first | (with_reducible assumption) | assumption); obtain ⟨ad104, e104, hx104_0⟩ := Kd.at_string (Kd.R_reads' HO103.out).2.2 0 p104 q104; cases e104; have qi104 : (0 < t101.length) = True := eq_true (by omega); (try rw [show ((0 : Int)).toNat = 0 from rfl] at hx104_0); (try rw [Addr.add_zero'] at hx104_0); replace p104 := eq_true p104; replace q104 := eq_true q104) | ((with_reducible refine gate_callee (f := 60) rfl ?_); refine gcall (some 15) Tryd.func60 #[.int .i64 ((rdOf ByteArray.empty t101 0).size : Int), .int .i64 (t101.length : Int)] rfl ?_; (with_reducible refine (impl_isSize.calls ((rdOf ByteArray.empty t101 0).size : Int) (t101.length : Int) false _ A4.out).mono ?_); rintro e w' ⟨rfl, ⟨nd, rfl⟩⟩; refine ⟨_, rfl, ?_⟩))
   go_ret
   exact ⟨by first | rfl | (simp [errW_none, errW_some] <;> rfl) | (simp [*, errW_none, errW_some] <;> rfl), bel HB⟩
 ·rw [if_neg c3] at H
  exact absurd H (by simp)
def impl_tray_number.f (a0_0 : Int) (a0_1 : Int) (l0_2 : List Int) (a1 : Int) (a2 : Int) : Option (Int) := some (wrap64 ((wrap64 (a2 * a0_0)) + a1))
set_option maxHeartbeats 8000000 in
set_option maxRecDepth 100000 in
theorem impl_tray_number.calls (a0_0 : Int) (a0_1 : Int) (A0_2 : Option Addr) (c0_2 : Nat) (l0_2 : List Int) (a1 : Int) (a2 : Int) (r : Int) (w : World) (hr0_2 : Kd.C (Kd.int .u8) w A0_2 l0_2.length l0_2) (hc0_2 : l0_2.length ≤ c0_2) (h : impl_tray_number.f a0_0 a0_1 l0_2 a1 a2 = some r) :
  Calls Tryd.prog 70 #[.agg #[.int .i64 a0_0, .int .i64 a0_1, .slice A0_2 l0_2.length c0_2], .int .i64 a1, .int .i64 a2] w fun e w' => e = .returned (.int .i64 r) ∧ Below w.heap.size w w' := by
 have hu42 := Tryd.underlying42
 have HR0_2 := Aside0.mk hr0_2
 have HC0_2 := Aside0.mk hc0_2
 clear hr0_2 hc0_2
 have HB := Aside0.mk (Below.refl w.heap.size w)
 have H : (some (wrap64 ((wrap64 (a2 * a0_0)) + a1))) = some r := h
 clear h
 obtain rfl := Option.some.inj H
 go_enter Tryd.func70, Tryd.ntmps70
 go_wp2_with (first | ((with_reducible refine gate_dst (N := 3) rfl ?_); refine boxE (N := 3) (cs := #[.int .i64 a0_0, .int .i64 a0_1, .slice A0_2 l0_2.length c0_2]) (t := 42) ?_; intro gb101 hg w4 hbox hb; have n0_ := Aside0.mk (below_step (bel HB) hb); have n1_ := Aside0.mk (hbox); have n2_ := Aside0.mk (gsz hg (bel HB)); have n3_ := Aside0.mk (gsz hg (bel HB)); clear HB; have HB := n0_; have BK101 := n1_; have GW101 := n2_; have GE101 := n3_; clear n0_ n1_ n2_ n3_; clear hb hbox hg; have hcz5_0 : w4.cell? ⟨gb101, 0, none⟩ = some (.int .i64 a0_0) := (blk_cell BK101.out 0).trans rfl; have hcz5_1 : w4.cell? ⟨gb101, 1, none⟩ = some (.int .i64 a0_1) := (blk_cell BK101.out 1).trans rfl; have hcz5_2 : w4.cell? ⟨gb101, 2, none⟩ = some (.slice A0_2 l0_2.length c0_2) := (blk_cell BK101.out 2).trans rfl; have hfz5_0 := blk_frozen BK101.out 0; have hfz5_1 := blk_frozen BK101.out 1; have hfz5_2 := blk_frozen BK101.out 2))
 go_ret
 exact ⟨by first | rfl | (simp [errW_none, errW_some] <;> rfl) | (simp [*, errW_none, errW_some] <;> rfl), bel HB⟩
end Go.Proofs.YtcpeldgnabfdmaaDoor.Q
end
section
namespace Go.Proofs.YtcpeldgnabfdmaaDoor.Q
open Go.RowKit Go.Proofs.YtcpeldgnabfdmaaDoorW.PrintWords Go.Proofs.YtcpeldgnabfdmaaDoorW.PrintLast Go.Proofs.YtcpeldgnabfdmaaDoorW.PrintMore
attribute [local go_sem] max2_int min2_int max_two min_two max_three min_three max_four min_four
set_option linter.unusedVariables false
set_option linter.unusedSimpArgs false
def slices_Reverse_int_int.l0 : Nat → List Int → Int → Int → Option (List Int)
 | 0, _, _, _ => none
 | k + 1, x0, x2, x3 => if x2 < x3 then (if 0 ≤ x3 then (if x3 < (x0.length : Int) then (if 0 ≤ x2 then (if x2 < (x0.length : Int) then (slices_Reverse_int_int.l0 k ((x0.set (x2 : Int).toNat (rd x0 x3)).set (x3 : Int).toNat (rd x0 x2)) (wrap64 (x2 + 1)) (wrap64 (x3 - 1))) else (none)) else (none)) else (none)) else (none)) else (some x0)
def slices_Reverse_int_int.f (k : Nat) (l0 : List Int) : Option (List Int) := slices_Reverse_int_int.l0 k l0 0 (wrap64 ((l0.length : Int) - 1))
theorem slices_Reverse_int_int.mono_l : ∀ k, (∀ y0 y1 y2, LeO (slices_Reverse_int_int.l0 k y0 y1 y2) (slices_Reverse_int_int.l0 (k + 1) y0 y1 y2))
 | 0 => fun _ _ _ r h => by simp [slices_Reverse_int_int.l0] at h
 | k + 1 => by
  have ih0 := slices_Reverse_int_int.mono_l k
  ·intro y0 y1 y2
   unfold slices_Reverse_int_int.l0
   repeat' first
   | (with_reducible apply ih0)
   | (with_reducible exact LeO.refl _)
   | (with_reducible exact LeO.none _)
   | (with_reducible refine LeO.ite ?_ ?_)
   | (with_reducible refine LeO.bind ?_ (fun _ => ?_))
   | apply ih0
   | exact LeO.none _
   | refine LeO.ite ?_ ?_
   | refine LeO.bind ?_ (fun _ => ?_)
theorem slices_Reverse_int_int.mono : ∀ a0 k, LeO (slices_Reverse_int_int.f k a0) (slices_Reverse_int_int.f (k + 1) a0) := by
 intro a0 k
 have ih0 := slices_Reverse_int_int.mono_l k
 unfold slices_Reverse_int_int.f
 repeat' first
   | (with_reducible apply ih0)
   | (with_reducible exact LeO.refl _)
   | (with_reducible exact LeO.none _)
   | (with_reducible refine LeO.ite ?_ ?_)
   | (with_reducible refine LeO.bind ?_ (fun _ => ?_))
   | apply ih0
   | exact LeO.none _
   | refine LeO.ite ?_ ?_
   | refine LeO.bind ?_ (fun _ => ?_)
def slices_Reverse_int_int.T3 : Bool × List (List Nat × List Nat) := (true, [([], []), ([], []), ([], []), ([], []), ([], []), ([], []), ([4, 5], [4, 5]), ([6], [6]), ([], []), ([], []), ([8, 9], [8, 9]), ([10], [10]), ([0, 1, 0, 1, 4, 5, 6, 7, 11], [0, 1]), ([12, 7, 0, 1, 4, 5, 6, 7, 11], [7, 12]), ([2, 3, 0, 1, 2, 3, 4, 5, 6, 7, 8, 9, 10, 11, 12, 13], [2, 3]), ([14, 11, 13, 0, 1, 2, 3, 4, 5, 6, 7, 8, 9, 10, 11, 12, 13], [11, 14])])
def slices_Reverse_int_int.B3 : List Nat := [0, 0, 0, 0, 0, 0, 48, 112, 0, 0, 768, 1792, 4083, 8179, 16383, 32767]
theorem slices_Reverse_int_int.tab3 : rtab .any (opsOf Tryd.f71 3) = slices_Reverse_int_int.T3 := by kernel_rfl
theorem slices_Reverse_int_int.bits3 : waitsOk slices_Reverse_int_int.T3.2 slices_Reverse_int_int.B3 = true := by kernel_rfl
set_option maxHeartbeats 8000000 in
set_option maxRecDepth 100000 in
theorem slices_Reverse_int_int.calls (k : Nat) (P0_ : Nat → Prop) (u9000_ : Value) (l0 : List Int) (r : List Int) (w0 w : World) (hB : Below w0.heap.size w0 w) (ho0 : Kd.R (Kd.int .i64) 3 w w0.heap.size P0_ u9000_ l0) (h : slices_Reverse_int_int.f k l0 = some r) :
  Calls Tryd.prog 71 #[u9000_] w fun e w' => e = .returned (.tuple #[]) ∧ Kd.R (Kd.int .i64) 3 w' w0.heap.size (fun k_ => (P0_ k_ ∨ w.heap.size ≤ k_)) u9000_ r ∧ Below w0.heap.size w0 w' ∧ Kept w w' (fun k_ => P0_ k_) := by
 have HO0 := Aside0.mk (show Kd.R (Kd.int .i64) 3 w w0.heap.size (fun k_ => (P0_ k_ ∨ w.heap.size ≤ k_)) u9000_ l0 from Kd.R_mono ho0 (fun k_ hk => (.inl hk)))
 have HK := Aside0.mk (Kept.refl w (fun k_ => P0_ k_))
 have HW0 := Aside0.mk hB.size
 have HB := Aside0.mk hB
 clear hB
 have H : (slices_Reverse_int_int.l0 k l0 0 (wrap64 ((l0.length : Int) - 1))) = some r := h
 clear h
 have H' := Aside0.mk H
 clear H
 obtain ⟨Ao2, co2, eo2⟩ := Kd.R_slice HO0.out
 subst eo2
 go_enter Tryd.func71, Tryd.ntmps71
 go_wp2
 go_loopg [2, 3] k (fun kq v2 v3 w' => ∃ (x0_1 : List Int) (x2_1 : Int) (x3_1 : Int), v2 = .int .i64 x2_1 ∧ v3 = .int .i64 x3_1 ∧ Aside0 (slices_Reverse_int_int.l0 kq x0_1 x2_1 x3_1 = some r) ∧ Aside0 (kq ≤ k) ∧ Aside0 (Kd.R (Kd.int .i64) 3 w' w0.heap.size (fun k_ => (P0_ k_ ∨ w.heap.size ≤ k_)) (.slice Ao2 l0.length co2) x0_1) ∧ Aside0 (Kept w w' (fun k_ => P0_ k_)) ∧ Aside0 (Below w0.heap.size w0 w'))
 case atStart => exact ⟨(l0), (0), (wrap64 ((l0.length : Int) - 1)), (by first | rfl | (simp; done) | (simp [*]; done)), (by first | rfl | (simp; done) | (simp [*]; done)), H', ⟨Nat.le_refl _⟩, ⟨rch HO0⟩, ⟨by repeat (first | (with_reducible first | exact HK.out | apply Kept.alloc | apply Kept.drewN | apply Kept.drew) | exact HK.out)⟩, ⟨bel HB⟩⟩
 case round =>
  clear H'
  try clear p2
  obtain ⟨x0_1, x2_1, x3_1, rfl, rfl, HA, HK1, HO_0, HK, HB⟩ := hrel
  have hl0_1 := (Kd.R_reads' HO_0.out).1
  rw [hl0_1] at HO_0
  (try simp only [hl0_1])
  cases gk with
  | zero => exact absurd HA.out (by simp [slices_Reverse_int_int.l0])
  | succ k1 =>
   have H := HA.out
   clear HA
   simp only [slices_Reverse_int_int.l0] at H
   by_cases c3 : x2_1 < x3_1
   ·rw [if_pos c3] at H
    have c3b0 : decide (x2_1 < x3_1) = true := decide_eq_true c3
    clear c3
    by_cases c4 : 0 ≤ x3_1
    ·rw [if_pos c4] at H
     have c4b0 : decide (0 ≤ x3_1) = true := decide_eq_true c4
     clear c4
     by_cases c5 : x3_1 < (x0_1.length : Int)
     ·rw [if_pos c5] at H
      have c5b0 : decide (x3_1 < (x0_1.length : Int)) = true := decide_eq_true c5
      clear c5
      by_cases c6 : 0 ≤ x2_1
      ·rw [if_pos c6] at H
       have c6b0 : decide (0 ≤ x2_1) = true := decide_eq_true c6
       clear c6
       by_cases c7 : x2_1 < (x0_1.length : Int)
       ·rw [if_pos c7] at H
        have c7b0 : decide (x2_1 < (x0_1.length : Int)) = true := decide_eq_true c7
        clear c7
        obtain ⟨y103, hy103⟩ : ∃ y_ : List Int, y_ = (x0_1.set (x2_1 : Int).toNat (rd x0_1 x3_1)) := ⟨_, rfl⟩
        replace H : (slices_Reverse_int_int.l0 k1 (y103.set (x3_1 : Int).toNat (rd x0_1 x2_1)) (wrap64 (x2_1 + 1)) (wrap64 (x3_1 - 1))) = some r := rH hy103 H
        have Ny103 := Aside0.mk hy103
        clear hy103
        obtain ⟨y104, hy104⟩ : ∃ y_ : List Int, y_ = (y103.set (x3_1 : Int).toNat (rd x0_1 x2_1)) := ⟨_, rfl⟩
        replace H : (slices_Reverse_int_int.l0 k1 y104 (wrap64 (x2_1 + 1)) (wrap64 (x3_1 - 1))) = some r := rH hy104 H
        have Ny104 := Aside0.mk hy104
        clear hy104
        have H' := Aside0.mk H
        clear H
        try go_wp2
        have n0_ := Aside0.mk (Kd.R_drew HO_0.out)
        have n1_ := Aside0.mk (Kept.drew HK.out)
        have n2_ := Aside0.mk (below_drew1 HB.out)
        clear HO_0
        clear HK
        clear HB
        have HO_0 := n0_
        have HK := n1_
        have HB := n2_
        clear n0_ n1_ n2_
        have p101 : 0 ≤ (x3_1 : Int) := of_decide_eq_true (by first | (with_reducible assumption) | assumption)
        have q101 : x3_1 < (x0_1.length : Int) := of_decide_eq_true (by first | (with_reducible assumption) | assumption)
        obtain ⟨ad101, e101, hx101_0⟩ := Kd.at_int (Kd.R_reads' HO_0.out).2.2 x3_1 p101 q101
        cases e101
        replace p101 := eq_true p101
        replace q101 := eq_true q101
        have p102 : 0 ≤ (x2_1 : Int) := of_decide_eq_true (by first | (with_reducible assumption) | assumption)
        have q102 : x2_1 < (x0_1.length : Int) := of_decide_eq_true (by first | (with_reducible assumption) | assumption)
        obtain ⟨ad102, e102, hx102_0⟩ := Kd.at_int (Kd.R_reads' HO_0.out).2.2 x2_1 p102 q102
        obtain rfl : ad101 = ad102 := (by injection e102)
        replace p102 := eq_true p102
        replace q102 := eq_true q102
        have p8 : 0 ≤ (x2_1 : Int) := of_decide_eq_true (by first | (with_reducible assumption) | assumption)
        have q8 : (x2_1 : Int) < ((x0_1.length : Int) : Int) := of_decide_eq_true (by first | (with_reducible assumption) | assumption)
        obtain ⟨go8, co8, eo8, gb8, gl8, cl8, HG8⟩ := Kd.R_form HO_0.out (by omega)
        (first | cases eo8 | (injection eo8 with ea_ en_ ec_; (first | subst ea_ | (injection ea_ with ea_; subst ea_)); subst ec_; clear en_))
        have GB8 := Aside0.mk gb8
        have GG8 := Aside0.mk HG8
        clear gb8 gl8 HG8
        have HMgo8 := Aside0.mk (show (P0_ go8 ∨ w.heap.size ≤ go8) from (HO_0.out.1 _ rfl))
        (first | simp only [add_plain] at hx101_0 | skip)
        (first | simp only [add_plain] at hx102_0 | skip)
        obtain ⟨hx8_0, hf8_0⟩ := Kd.R_celln 0 HO_0.out (x2_1 : Int) p8 q8
        replace p8 := eq_true p8
        replace q8 := eq_true q8
        have HP11 := Kd.R_putn HO_0.out (x2_1 : Int) (rd x0_1 x3_1)
        rw [← Ny103.out] at HP11
        have HQ11 := Aside0.mk HP11
        clear HP11
        have p9 : 0 ≤ (x3_1 : Int) := of_decide_eq_true (by first | (with_reducible assumption) | assumption)
        have q9 : (x3_1 : Int) < ((x0_1.length : Int) : Int) := of_decide_eq_true (by first | (with_reducible assumption) | assumption)
        obtain ⟨hx9_0, hf9_0⟩ := Kd.R_celln 0 HQ11.out (x3_1 : Int) p9 q9
        replace p9 := eq_true p9
        replace q9 := eq_true q9
        have HP12 := Kd.R_putn HQ11.out (x3_1 : Int) (rd x0_1 x2_1)
        rw [← Ny104.out] at HP12
        have HQ12 := Aside0.mk HP12
        clear HP12
        refine start_ (n := 16) (S := fun w' => w'.cell? ⟨go8, (x3_1).toNat, none⟩ = some (.int .i64 (rd x0_1 x3_1)) ∧ w'.cell? ⟨go8, (x2_1).toNat, none⟩ = some (.int .i64 (rd x0_1 x2_1))) (ds := [13, 15]) #[false, false, false, false, false, false, false, false, false, false, false, false, false, false, false, false] (by kernel_rfl) rfl rfl ⟨hx101_0, hx102_0⟩ (fun hHeld => ?_); refine with_tabW slices_Reverse_int_int.tab3 slices_Reverse_int_int.bits3 (fun HT_ HW_ => ?_)
        generalize wr.drew = w10 at HO_0 HK HB GG8 HQ11 HQ12 hf8_0 hf9_0 hx101_0 hx102_0 hx8_0 hx9_0 hHeld ⊢
        refine pure_ (i := 0) (N := some 14) (v := ?_) (a' := ?_) #[true, false, false, false, false, false, false, false, false, false, false, false, false, false, false, false] rfl rfl (any_of HT_.out (by kernel_rfl)) (fun _ _ _ h => h) (Or.inl ⟨by rfl, ?_⟩) ?_ ?_
        rotate_left
        ·intro w'
         go_simp
         with_reducible rfl
        rotate_left
        ·simp only [Act.put, List.setIfInBounds_toArray, List.set_cons_zero, List.set_cons_succ, i64_w, i32_w]
         rfl
        refine pure_ (i := 1) (N := some 15) (v := ?_) (a' := ?_) #[true, true, false, false, false, false, false, false, false, false, false, false, false, false, false, false] rfl rfl (any_of HT_.out (by kernel_rfl)) (fun _ _ _ h => h) (Or.inl ⟨by rfl, ?_⟩) ?_ ?_
        rotate_left
        ·intro w'
         go_simp
         with_reducible rfl
        rotate_left
        ·simp only [Act.put, List.setIfInBounds_toArray, List.set_cons_zero, List.set_cons_succ, i64_w, i32_w]
         rfl
        refine pure_ (i := 2) (N := some 16) (v := ?_) (a' := ?_) #[true, true, true, false, false, false, false, false, false, false, false, false, false, false, false, false] rfl rfl (any_of HT_.out (by kernel_rfl)) (fun _ _ _ h => h) (Or.inl ⟨by rfl, ?_⟩) ?_ ?_
        rotate_left
        ·intro w'
         go_simp
         with_reducible rfl
        rotate_left
        ·simp only [Act.put, List.setIfInBounds_toArray, List.set_cons_zero, List.set_cons_succ, i64_w, i32_w]
         rfl
        refine pure_ (i := 3) (N := some 17) (v := ?_) (a' := ?_) #[true, true, true, true, false, false, false, false, false, false, false, false, false, false, false, false] rfl rfl (any_of HT_.out (by kernel_rfl)) (fun _ _ _ h => h) (Or.inl ⟨by rfl, ?_⟩) ?_ ?_
        rotate_left
        ·intro w'
         go_simp
         with_reducible rfl
        rotate_left
        ·simp only [Act.put, List.setIfInBounds_toArray, List.set_cons_zero, List.set_cons_succ, i64_w, i32_w]
         rfl
        refine pure_ (i := 4) (N := some 18) (v := ?_) (a' := ?_) #[true, true, true, true, true, false, false, false, false, false, false, false, false, false, false, false] rfl rfl (any_of HT_.out (by kernel_rfl)) (fun _ _ _ h => h) (Or.inl ⟨by rfl, ?_⟩) ?_ ?_
        rotate_left
        ·intro w'
         go_simp
         with_reducible rfl
        rotate_left
        ·simp only [Act.put, List.setIfInBounds_toArray, List.set_cons_zero, List.set_cons_succ, i64_w, i32_w]
         rfl
        refine pure_ (i := 5) (N := some 19) (v := ?_) (a' := ?_) #[true, true, true, true, true, true, false, false, false, false, false, false, false, false, false, false] rfl rfl (any_of HT_.out (by kernel_rfl)) (fun _ _ _ h => h) (Or.inl ⟨by rfl, ?_⟩) ?_ ?_
        rotate_left
        ·intro w'
         go_simp
         with_reducible rfl
        rotate_left
        ·simp only [Act.put, List.setIfInBounds_toArray, List.set_cons_zero, List.set_cons_succ, i64_w, i32_w]
         rfl
        refine pure_ (i := 6) (N := some 20) (v := ?_) (a' := ?_) #[true, true, true, true, true, true, true, false, false, false, false, false, false, false, false, false] rfl rfl (any_of HT_.out (by kernel_rfl)) (fun _ _ _ h => h) (Or.inl ⟨by rfl, ?_⟩) ?_ ?_
        rotate_left
        ·intro w'
         go_simp
         with_reducible rfl
        rotate_left
        ·simp only [Act.put, List.setIfInBounds_toArray, List.set_cons_zero, List.set_cons_succ, i64_w, i32_w]
         rfl
        refine pure_ (i := 8) (N := some 22) (v := ?_) (a' := ?_) #[true, true, true, true, true, true, true, false, true, false, false, false, false, false, false, false] rfl rfl (any_of HT_.out (by kernel_rfl)) (fun _ _ _ h => h) (Or.inl ⟨by rfl, ?_⟩) ?_ ?_
        rotate_left
        ·intro w'
         go_simp
         with_reducible rfl
        rotate_left
        ·simp only [Act.put, List.setIfInBounds_toArray, List.set_cons_zero, List.set_cons_succ, i64_w, i32_w]
         rfl
        refine pure_ (i := 9) (N := some 23) (v := ?_) (a' := ?_) #[true, true, true, true, true, true, true, false, true, true, false, false, false, false, false, false] rfl rfl (any_of HT_.out (by kernel_rfl)) (fun _ _ _ h => h) (Or.inl ⟨by rfl, ?_⟩) ?_ ?_
        rotate_left
        ·intro w'
         go_simp
         with_reducible rfl
        rotate_left
        ·simp only [Act.put, List.setIfInBounds_toArray, List.set_cons_zero, List.set_cons_succ, i64_w, i32_w]
         rfl
        refine pure_ (i := 10) (N := some 24) (v := ?_) (a' := ?_) #[true, true, true, true, true, true, true, false, true, true, true, false, false, false, false, false] rfl rfl (any_of HT_.out (by kernel_rfl)) (fun _ _ _ h => h) (Or.inl ⟨by rfl, ?_⟩) ?_ ?_
        rotate_left
        ·intro w'
         go_simp
         with_reducible rfl
        rotate_left
        ·simp only [Act.put, List.setIfInBounds_toArray, List.set_cons_zero, List.set_cons_succ, i64_w, i32_w]
         rfl
        refine take_ (i := 7) (N := some 21) (v := ?_) (a' := ?_) #[true, true, true, true, true, true, true, true, true, true, true, false, false, false, false, false] rfl rfl (take_ofW HT_.out HW_.out (by kernel_rfl)) (fun _ _ _ h => h) (Or.inl ⟨by rfl, ?_⟩) hHeld ?_ ?_
        rotate_left
        ·rintro w' ⟨s0, s1⟩
         go_simp
         with_reducible rfl
        rotate_left
        ·simp only [Act.put, List.setIfInBounds_toArray, List.set_cons_zero, List.set_cons_succ, i64_w, i32_w]
         rfl
        refine take_ (i := 11) (N := some 25) (v := ?_) (a' := ?_) #[true, true, true, true, true, true, true, true, true, true, true, true, false, false, false, false] rfl rfl (take_ofW HT_.out HW_.out (by kernel_rfl)) (fun _ _ _ h => h) (Or.inl ⟨by rfl, ?_⟩) hHeld ?_ ?_
        rotate_left
        ·rintro w' ⟨s0, s1⟩
         go_simp
         with_reducible rfl
        rotate_left
        ·simp only [Act.put, List.setIfInBounds_toArray, List.set_cons_zero, List.set_cons_succ, i64_w, i32_w]
         rfl
        refine pure_ (i := 12) (N := some 26) (v := ?_) (a' := ?_) #[true, true, true, true, true, true, true, true, true, true, true, true, true, false, false, false] rfl rfl (any_of HT_.out (by kernel_rfl)) (fun _ _ _ h => h) (Or.inl ⟨by rfl, ?_⟩) ?_ ?_
        rotate_left
        ·intro w'
         go_simp
         with_reducible rfl
        rotate_left
        ·simp only [Act.put, List.setIfInBounds_toArray, List.set_cons_zero, List.set_cons_succ, i64_w, i32_w]
         rfl
        refine last_ (i := 13) (N := none) #[true, true, true, true, true, true, true, true, true, true, true, true, true, true, false, false] rfl rfl (one_of HT_.out (by kernel_rfl)) (by decide) (fun K hK => ?_)
        refine skip_ (w1 := ?_) (by rfl) rfl ?_ ?_
        rotate_left
        ·go_simp
         rfl
        refine hK.out _ _ ?_
        clear hK K
        refine pure_ (i := 14) (N := some 27) (v := ?_) (a' := ?_) #[true, true, true, true, true, true, true, true, true, true, true, true, true, true, true, false] rfl rfl (any_of HT_.out (by kernel_rfl)) (fun _ _ _ h => h) (Or.inl ⟨by rfl, ?_⟩) ?_ ?_
        rotate_left
        ·intro w'
         go_simp
         with_reducible rfl
        rotate_left
        ·simp only [Act.put, List.setIfInBounds_toArray, List.set_cons_zero, List.set_cons_succ, i64_w, i32_w]
         rfl
        refine last_ (i := 15) (N := none) #[true, true, true, true, true, true, true, true, true, true, true, true, true, true, true, true] rfl rfl (one_of HT_.out (by kernel_rfl)) (by decide) (fun K hK => ?_)
        refine skip_ (w1 := ?_) (by rfl) rfl ?_ ?_
        rotate_left
        ·go_simp
         rfl
        refine hK.out _ _ ?_
        clear hK K
        refine done_ (done_of HT_.out (by kernel_rfl)) ?_
        try go_wp2
        (try simp only [← hl0_1])
        go_roundg k1
        case measure => have := HK1.out; omega
        case rel => exact ⟨(y104), (wrap64 (x2_1 + 1)), (wrap64 (x3_1 - 1)), (by first | rfl | (simp; done) | (simp [*]; done)), (by first | rfl | (simp; done) | (simp [*]; done)), H', ⟨by have := HK1.out; omega⟩, ⟨by (try simp only [hl0_1]); (with_reducible repeat (first | apply Kd.R_alloc | apply Kd.R_drewN | apply Kd.R_drew)); exact HQ12.out⟩, ⟨by repeat (first | (with_reducible first | exact HK.out | apply Kept.alloc | apply Kept.drewN | apply Kept.drew | refine Kept.setCell ?_ HMgo8.out _ | refine Kept.setCell ?_ HMgo8.out _) | exact HK.out)⟩, ⟨bel HB⟩⟩
       ·rw [if_neg c7] at H
        exact absurd H (by simp)
      ·rw [if_neg c6] at H
       exact absurd H (by simp)
     ·rw [if_neg c5] at H
      exact absurd H (by simp)
    ·rw [if_neg c4] at H
     exact absurd H (by simp)
   ·rw [if_neg c3] at H
    have c3b0 : decide (x2_1 < x3_1) = false := decide_eq_false c3
    clear c3
    obtain rfl := Option.some.inj H
    go_wp2
    first | go_end0 | ((try simp only [Exit.inBlock, Exit.then]); refine bodyPost_ret (results_none rfl _ _ _) rfl ?_)
    exact ⟨by first | rfl | (simp [errW_none, errW_some] <;> rfl) | (simp [*, errW_none, errW_some] <;> rfl), (by first | exact (rch HO_0) | (simp only [hl0_1]; exact (rch HO_0))), by repeat (first | (with_reducible first | exact HB.out | apply below_alloc | apply pw_below_drewN | apply below_drew1) | exact HB.out), by repeat (first | (with_reducible first | exact HK.out | apply Kept.alloc | apply Kept.drewN | apply Kept.drew) | exact HK.out)⟩
mutual
def impl_tray_lines.j0 : Nat → Int → List (List Int) → Int → Int → Bool → Int → Int → List Int → Option ((List (List Int)))
 | 0, _, _, _, _, _, _, _, _ => none
 | k + 1, x1, x5, x6, x7, x21, x102000, x102001, x102002 => if x21 = true then (impl_tray_lines.j1 k x1 x5 x102000 x102001 x102000 x102001 x102002) else (impl_tray_lines.j1 k x1 x5 x6 x7 x102000 x102001 x102002)
def impl_tray_lines.j1 : Nat → Int → List (List Int) → Int → Int → Int → Int → List Int → Option ((List (List Int)))
 | 0, _, _, _, _, _, _, _ => none
 | k + 1, x1, x5, x6, x7, x102000, x102001, x102002 => impl_tray_lines.l0 k x1 x5 x7 x6 0 x102000 x102001 x102002
def impl_tray_lines.l0 : Nat → Int → List (List Int) → Int → Int → Int → Int → Int → List Int → Option ((List (List Int)))
 | 0, _, _, _, _, _, _, _, _ => none
 | k + 1, x1, x5, x7, x26, x27, x102000, x102001, x102002 => if x27 < x26 then (impl_tray_lines.l1 k x1 x5 x7 x27 (([] : List Int)) x26 x27 x7 0 x102000 x102001 x102002) else (some x5)
def impl_tray_lines.l1 : Nat → Int → List (List Int) → Int → Int → List Int → Int → Int → Int → Int → Int → Int → List Int → Option ((List (List Int)))
 | 0, _, _, _, _, _, _, _, _, _, _, _, _ => none
 | k + 1, x1, x5, x7, x8, x9, x26, x27, x31, x32, x102000, x102001, x102002 => if x32 < x31 then (if x1 = 117 then (impl_tray_lines.j4 k x1 x5 x7 x8 x9 x32 x26 x27 x31 x32 true x102000 x102001 x102002) else (impl_tray_lines.j4 k x1 x5 x7 x8 x9 x32 x26 x27 x31 x32 (x1 == 100) x102000 x102001 x102002)) else (if x1 = 114 then ((slices_Reverse_int_int.f k x9).bind fun t108 => (if x5.length < 5864062014805 then (impl_tray_lines.l0 k x1 (x5 ++ [t108]) x7 x26 (wrap64 (x27 + 1)) x102000 x102001 x102002) else (none))) else (if x1 = 100 then ((slices_Reverse_int_int.f k x9).bind fun t112 => (if x5.length < 5864062014805 then (impl_tray_lines.l0 k x1 (x5 ++ [t112]) x7 x26 (wrap64 (x27 + 1)) x102000 x102001 x102002) else (none))) else (if x5.length < 5864062014805 then (impl_tray_lines.l0 k x1 (x5 ++ [x9]) x7 x26 (wrap64 (x27 + 1)) x102000 x102001 x102002) else (none))))
def impl_tray_lines.j4 : Nat → Int → List (List Int) → Int → Int → List Int → Int → Int → Int → Int → Int → Bool → Int → Int → List Int → Option ((List (List Int)))
 | 0, _, _, _, _, _, _, _, _, _, _, _, _, _, _ => none
 | k + 1, x1, x5, x7, x8, x9, x10, x26, x27, x31, x32, x40, x102000, x102001, x102002 => if x40 = true then ((impl_tray_number.f x102000 x102001 x102002 x8 x10).bind fun t119 => (if x9.length < 17592186044416 then (impl_tray_lines.l1 k x1 x5 x7 x8 (x9 ++ [t119]) x26 x27 x31 (wrap64 (x32 + 1)) x102000 x102001 x102002) else (none))) else ((impl_tray_number.f x102000 x102001 x102002 x10 x8).bind fun t123 => (if x9.length < 17592186044416 then (impl_tray_lines.l1 k x1 x5 x7 x8 (x9 ++ [t123]) x26 x27 x31 (wrap64 (x32 + 1)) x102000 x102001 x102002) else (none)))
end
def impl_tray_lines.f (k : Nat) (a0_0 : Int) (a0_1 : Int) (l0_2 : List Int) (a1 : Int) : Option ((List (List Int))) := (some (([] : List (List Int)) : List (List Int))).bind fun y102 => (if a1 = 117 then (impl_tray_lines.j0 k a1 y102 a0_1 a0_0 true a0_0 a0_1 l0_2) else (impl_tray_lines.j0 k a1 y102 a0_1 a0_0 (a1 == 100) a0_0 a0_1 l0_2))
theorem impl_tray_lines.mono_l : ∀ k, (∀ y0 y1 y2 y3 y4 y5 y6 y7, LeO (impl_tray_lines.j0 k y0 y1 y2 y3 y4 y5 y6 y7) (impl_tray_lines.j0 (k + 1) y0 y1 y2 y3 y4 y5 y6 y7)) ∧ (∀ y0 y1 y2 y3 y4 y5 y6, LeO (impl_tray_lines.j1 k y0 y1 y2 y3 y4 y5 y6) (impl_tray_lines.j1 (k + 1) y0 y1 y2 y3 y4 y5 y6)) ∧ (∀ y0 y1 y2 y3 y4 y5 y6 y7, LeO (impl_tray_lines.l0 k y0 y1 y2 y3 y4 y5 y6 y7) (impl_tray_lines.l0 (k + 1) y0 y1 y2 y3 y4 y5 y6 y7)) ∧ (∀ y0 y1 y2 y3 y4 y5 y6 y7 y8 y9 y10 y11, LeO (impl_tray_lines.l1 k y0 y1 y2 y3 y4 y5 y6 y7 y8 y9 y10 y11) (impl_tray_lines.l1 (k + 1) y0 y1 y2 y3 y4 y5 y6 y7 y8 y9 y10 y11)) ∧ (∀ y0 y1 y2 y3 y4 y5 y6 y7 y8 y9 y10 y11 y12 y13, LeO (impl_tray_lines.j4 k y0 y1 y2 y3 y4 y5 y6 y7 y8 y9 y10 y11 y12 y13) (impl_tray_lines.j4 (k + 1) y0 y1 y2 y3 y4 y5 y6 y7 y8 y9 y10 y11 y12 y13))
 | 0 => ⟨fun _ _ _ _ _ _ _ _ r h => by simp [impl_tray_lines.j0] at h, fun _ _ _ _ _ _ _ r h => by simp [impl_tray_lines.j1] at h, fun _ _ _ _ _ _ _ _ r h => by simp [impl_tray_lines.l0] at h, fun _ _ _ _ _ _ _ _ _ _ _ _ r h => by simp [impl_tray_lines.l1] at h, fun _ _ _ _ _ _ _ _ _ _ _ _ _ _ r h => by simp [impl_tray_lines.j4] at h⟩
 | k + 1 => by
  obtain ⟨ih0, ih1, ih2, ih3, ih4⟩ := impl_tray_lines.mono_l k
  refine ⟨?_, ?_, ?_, ?_, ?_⟩
  ·intro y0 y1 y2 y3 y4 y5 y6 y7
   unfold impl_tray_lines.j0
   repeat' first
   | (with_reducible apply ih0)
   | (with_reducible apply ih1)
   | (with_reducible apply ih2)
   | (with_reducible apply ih3)
   | (with_reducible apply ih4)
   | (with_reducible exact slices_Reverse_int_int.mono _ _)
   | (with_reducible exact LeO.refl _)
   | (with_reducible exact LeO.none _)
   | (with_reducible refine LeO.ite ?_ ?_)
   | (with_reducible refine LeO.bind ?_ (fun _ => ?_))
   | apply ih0
   | apply ih1
   | apply ih2
   | apply ih3
   | apply ih4
   | exact slices_Reverse_int_int.mono _ _
   | exact LeO.none _
   | refine LeO.ite ?_ ?_
   | refine LeO.bind ?_ (fun _ => ?_)
  ·intro y0 y1 y2 y3 y4 y5 y6
   unfold impl_tray_lines.j1
   repeat' first
   | (with_reducible apply ih0)
   | (with_reducible apply ih1)
   | (with_reducible apply ih2)
   | (with_reducible apply ih3)
   | (with_reducible apply ih4)
   | (with_reducible exact slices_Reverse_int_int.mono _ _)
   | (with_reducible exact LeO.refl _)
   | (with_reducible exact LeO.none _)
   | (with_reducible refine LeO.ite ?_ ?_)
   | (with_reducible refine LeO.bind ?_ (fun _ => ?_))
   | apply ih0
   | apply ih1
   | apply ih2
   | apply ih3
   | apply ih4
   | exact slices_Reverse_int_int.mono _ _
   | exact LeO.none _
   | refine LeO.ite ?_ ?_
   | refine LeO.bind ?_ (fun _ => ?_)
  ·intro y0 y1 y2 y3 y4 y5 y6 y7
   unfold impl_tray_lines.l0
   repeat' first
   | (with_reducible apply ih0)
   | (with_reducible apply ih1)
   | (with_reducible apply ih2)
   | (with_reducible apply ih3)
   | (with_reducible apply ih4)
   | (with_reducible exact slices_Reverse_int_int.mono _ _)
   | (with_reducible exact LeO.refl _)
   | (with_reducible exact LeO.none _)
   | (with_reducible refine LeO.ite ?_ ?_)
   | (with_reducible refine LeO.bind ?_ (fun _ => ?_))
   | apply ih0
   | apply ih1
   | apply ih2
   | apply ih3
   | apply ih4
   | exact slices_Reverse_int_int.mono _ _
   | exact LeO.none _
   | refine LeO.ite ?_ ?_
   | refine LeO.bind ?_ (fun _ => ?_)
  ·intro y0 y1 y2 y3 y4 y5 y6 y7 y8 y9 y10 y11
   unfold impl_tray_lines.l1
   repeat' first
   | (with_reducible apply ih0)
   | (with_reducible apply ih1)
   | (with_reducible apply ih2)
   | (with_reducible apply ih3)
   | (with_reducible apply ih4)
   | (with_reducible exact slices_Reverse_int_int.mono _ _)
   | (with_reducible exact LeO.refl _)
   | (with_reducible exact LeO.none _)
   | (with_reducible refine LeO.ite ?_ ?_)
   | (with_reducible refine LeO.bind ?_ (fun _ => ?_))
   | apply ih0
   | apply ih1
   | apply ih2
   | apply ih3
   | apply ih4
   | exact slices_Reverse_int_int.mono _ _
   | exact LeO.none _
   | refine LeO.ite ?_ ?_
   | refine LeO.bind ?_ (fun _ => ?_)
  ·intro y0 y1 y2 y3 y4 y5 y6 y7 y8 y9 y10 y11 y12 y13
   unfold impl_tray_lines.j4
   repeat' first
   | (with_reducible apply ih0)
   | (with_reducible apply ih1)
   | (with_reducible apply ih2)
   | (with_reducible apply ih3)
   | (with_reducible apply ih4)
   | (with_reducible exact slices_Reverse_int_int.mono _ _)
   | (with_reducible exact LeO.refl _)
   | (with_reducible exact LeO.none _)
   | (with_reducible refine LeO.ite ?_ ?_)
   | (with_reducible refine LeO.bind ?_ (fun _ => ?_))
   | apply ih0
   | apply ih1
   | apply ih2
   | apply ih3
   | apply ih4
   | exact slices_Reverse_int_int.mono _ _
   | exact LeO.none _
   | refine LeO.ite ?_ ?_
   | refine LeO.bind ?_ (fun _ => ?_)
theorem impl_tray_lines.mono : ∀ a0 a1 a2 a3 k, LeO (impl_tray_lines.f k a0 a1 a2 a3) (impl_tray_lines.f (k + 1) a0 a1 a2 a3) := by
 intro a0 a1 a2 a3 k
 obtain ⟨ih0, ih1, ih2, ih3, ih4⟩ := impl_tray_lines.mono_l k
 unfold impl_tray_lines.f
 repeat' first
   | (with_reducible apply ih0)
   | (with_reducible apply ih1)
   | (with_reducible apply ih2)
   | (with_reducible apply ih3)
   | (with_reducible apply ih4)
   | (with_reducible exact slices_Reverse_int_int.mono _ _)
   | (with_reducible exact LeO.refl _)
   | (with_reducible exact LeO.none _)
   | (with_reducible refine LeO.ite ?_ ?_)
   | (with_reducible refine LeO.bind ?_ (fun _ => ?_))
   | apply ih0
   | apply ih1
   | apply ih2
   | apply ih3
   | apply ih4
   | exact slices_Reverse_int_int.mono _ _
   | exact LeO.none _
   | refine LeO.ite ?_ ?_
   | refine LeO.bind ?_ (fun _ => ?_)
set_option maxHeartbeats 8000000 in
set_option maxRecDepth 100000 in
theorem impl_tray_lines.calls (k : Nat) (a0_0 : Int) (a0_1 : Int) (A0_2 : Option Addr) (c0_2 : Nat) (l0_2 : List Int) (a1 : Int) (r : List (List Int)) (w : World) (hr0_2 : Kd.C (Kd.int .u8) w A0_2 l0_2.length l0_2) (hc0_2 : l0_2.length ≤ c0_2) (h : impl_tray_lines.f k a0_0 a0_1 l0_2 a1 = some r) :
  Calls Tryd.prog 46 #[.agg #[.int .i64 a0_0, .int .i64 a0_1, .slice A0_2 l0_2.length c0_2], .int .u8 a1] w fun e w' => ∃ v0_ : Value, e = .returned (v0_) ∧ Kd.S (Kd.slice 3 (Kd.int .i64)) 46 w' w.heap.size (fun _ => True) v0_ r ∧ Below w.heap.size w w' := by
 have hu42 := Tryd.underlying42
 have HR0_2 := Aside0.mk hr0_2
 have HC0_2 := Aside0.mk hc0_2
 clear hr0_2 hc0_2
 have HB := Aside0.mk (Below.refl w.heap.size w)
 have H : ((some (([] : List (List Int)) : List (List Int))).bind fun y102 => (if a1 = 117 then (impl_tray_lines.j0 k a1 y102 a0_1 a0_0 true a0_0 a0_1 l0_2) else (impl_tray_lines.j0 k a1 y102 a0_1 a0_0 (a1 == 100) a0_0 a0_1 l0_2))) = some r := h
 clear h
 obtain ⟨y102, hy102⟩ : ∃ y_ : List (List Int), y_ = (([] : List (List Int))) := ⟨_, rfl⟩
 replace H : (if a1 = 117 then (impl_tray_lines.j0 k a1 y102 a0_1 a0_0 true a0_0 a0_1 l0_2) else (impl_tray_lines.j0 k a1 y102 a0_1 a0_0 (a1 == 100) a0_0 a0_1 l0_2)) = some r := rH hy102 H
 have Ny102 := Aside0.mk hy102
 clear hy102
 have HC3 := Aside0.mk H
 clear H
 go_enter Tryd.func46, Tryd.ntmps46
 go_upto_region 3 with (first | ((with_reducible refine gate_dst (N := 2) rfl ?_); refine boxE (N := 2) (cs := #[.int .i64 a0_0, .int .i64 a0_1, .slice A0_2 l0_2.length c0_2]) (t := 42) ?_; intro gb101 hg w4 hbox hb; have n0_ := Aside0.mk (below_step (bel HB) hb); have n1_ := Aside0.mk (hbox); have n2_ := Aside0.mk (gsz hg (bel HB)); have n3_ := Aside0.mk (gsz hg (bel HB)); clear HB; have HB := n0_; have BK101 := n1_; have GW101 := n2_; have GE101 := n3_; clear n0_ n1_ n2_ n3_; clear hb hbox hg) | ((with_reducible refine gate_dst (N := 11) rfl ?_); refine Kd.S_lit (Kd.slice 3 (Kd.int .i64)) _ 46 ?hg (N := 11) ?hd (xs := ([] : List (List Int))) (inner := []) (ok := fun _ => True) (okp := fun _ => True) ?hr ?hp (fun _ hk => hk) trivial (Below.refl _ _) (Nat.le_refl _) (by simp) ?_; (case hd => rfl); (case hg => rfl); (case hr => first | (go_simp; done) | (go_simp; rfl)); (case hp => exact (Reps.none _ _)); intro v103 w5 ho6 hb hg_ hnew_; clear hg_ hnew_; (first | rw [← Ny102.out] at ho6 | (simp only [Int.reduceToNat] at ho6; rw [← Ny102.out] at ho6)); have n0_ := Aside0.mk (Kd.S_lower ho6 (below_size (bel HB))); have n1_ := Aside0.mk (blk_below (g := gb101) (o := .cells #[.int .i64 a0_0, .int .i64 a0_1, .slice A0_2 l0_2.length c0_2] 42 (0, 0)) blc hb); have n2_ := Aside0.mk (below_step (bel HB) hb); clear BK101; clear HB; have HO104 := n0_; have BK101 := n1_; have HB := n2_; clear n0_ n1_ n2_; clear hb ho6; have hcz7_0 : w5.cell? ⟨gb101, 0, none⟩ = some (.int .i64 a0_0) := (blk_cell BK101.out 0).trans rfl; have hcz7_1 : w5.cell? ⟨gb101, 1, none⟩ = some (.int .i64 a0_1) := (blk_cell BK101.out 1).trans rfl; have hcz7_2 : w5.cell? ⟨gb101, 2, none⟩ = some (.slice A0_2 l0_2.length c0_2) := (blk_cell BK101.out 2).trans rfl; have hfz7_0 := blk_frozen BK101.out 0; have hfz7_1 := blk_frozen BK101.out 1; have hfz7_2 := blk_frozen BK101.out 2))
 repeat (go_quiet (first | ((with_reducible refine gate_dst (N := 2) rfl ?_); refine boxE (N := 2) (cs := #[.int .i64 a0_0, .int .i64 a0_1, .slice A0_2 l0_2.length c0_2]) (t := 42) ?_; intro gb101 hg w4 hbox hb; have n0_ := Aside0.mk (below_step (bel HB) hb); have n1_ := Aside0.mk (hbox); have n2_ := Aside0.mk (gsz hg (bel HB)); have n3_ := Aside0.mk (gsz hg (bel HB)); clear HB; have HB := n0_; have BK101 := n1_; have GW101 := n2_; have GE101 := n3_; clear n0_ n1_ n2_ n3_; clear hb hbox hg) | ((with_reducible refine gate_dst (N := 11) rfl ?_); refine Kd.S_lit (Kd.slice 3 (Kd.int .i64)) _ 46 ?hg (N := 11) ?hd (xs := ([] : List (List Int))) (inner := []) (ok := fun _ => True) (okp := fun _ => True) ?hr ?hp (fun _ hk => hk) trivial (Below.refl _ _) (Nat.le_refl _) (by simp) ?_; (case hd => rfl); (case hg => rfl); (case hr => first | (go_simp; done) | (go_simp; rfl)); (case hp => exact (Reps.none _ _)); intro v103 w5 ho6 hb hg_ hnew_; clear hg_ hnew_; (first | rw [← Ny102.out] at ho6 | (simp only [Int.reduceToNat] at ho6; rw [← Ny102.out] at ho6)); have n0_ := Aside0.mk (Kd.S_lower ho6 (below_size (bel HB))); have n1_ := Aside0.mk (blk_below (g := gb101) (o := .cells #[.int .i64 a0_0, .int .i64 a0_1, .slice A0_2 l0_2.length c0_2] 42 (0, 0)) blc hb); have n2_ := Aside0.mk (below_step (bel HB) hb); clear BK101; clear HB; have HO104 := n0_; have BK101 := n1_; have HB := n2_; clear n0_ n1_ n2_; clear hb ho6; have hcz7_0 : w5.cell? ⟨gb101, 0, none⟩ = some (.int .i64 a0_0) := (blk_cell BK101.out 0).trans rfl; have hcz7_1 : w5.cell? ⟨gb101, 1, none⟩ = some (.int .i64 a0_1) := (blk_cell BK101.out 1).trans rfl; have hcz7_2 : w5.cell? ⟨gb101, 2, none⟩ = some (.slice A0_2 l0_2.length c0_2) := (blk_cell BK101.out 2).trans rfl; have hfz7_0 := blk_frozen BK101.out 0; have hfz7_1 := blk_frozen BK101.out 1; have hfz7_2 := blk_frozen BK101.out 2)); go_upto_region 3 with (first | ((with_reducible refine gate_dst (N := 2) rfl ?_); refine boxE (N := 2) (cs := #[.int .i64 a0_0, .int .i64 a0_1, .slice A0_2 l0_2.length c0_2]) (t := 42) ?_; intro gb101 hg w4 hbox hb; have n0_ := Aside0.mk (below_step (bel HB) hb); have n1_ := Aside0.mk (hbox); have n2_ := Aside0.mk (gsz hg (bel HB)); have n3_ := Aside0.mk (gsz hg (bel HB)); clear HB; have HB := n0_; have BK101 := n1_; have GW101 := n2_; have GE101 := n3_; clear n0_ n1_ n2_ n3_; clear hb hbox hg) | ((with_reducible refine gate_dst (N := 11) rfl ?_); refine Kd.S_lit (Kd.slice 3 (Kd.int .i64)) _ 46 ?hg (N := 11) ?hd (xs := ([] : List (List Int))) (inner := []) (ok := fun _ => True) (okp := fun _ => True) ?hr ?hp (fun _ hk => hk) trivial (Below.refl _ _) (Nat.le_refl _) (by simp) ?_; (case hd => rfl); (case hg => rfl); (case hr => first | (go_simp; done) | (go_simp; rfl)); (case hp => exact (Reps.none _ _)); intro v103 w5 ho6 hb hg_ hnew_; clear hg_ hnew_; (first | rw [← Ny102.out] at ho6 | (simp only [Int.reduceToNat] at ho6; rw [← Ny102.out] at ho6)); have n0_ := Aside0.mk (Kd.S_lower ho6 (below_size (bel HB))); have n1_ := Aside0.mk (blk_below (g := gb101) (o := .cells #[.int .i64 a0_0, .int .i64 a0_1, .slice A0_2 l0_2.length c0_2] 42 (0, 0)) blc hb); have n2_ := Aside0.mk (below_step (bel HB) hb); clear BK101; clear HB; have HO104 := n0_; have BK101 := n1_; have HB := n2_; clear n0_ n1_ n2_; clear hb ho6; have hcz7_0 : w5.cell? ⟨gb101, 0, none⟩ = some (.int .i64 a0_0) := (blk_cell BK101.out 0).trans rfl; have hcz7_1 : w5.cell? ⟨gb101, 1, none⟩ = some (.int .i64 a0_1) := (blk_cell BK101.out 1).trans rfl; have hcz7_2 : w5.cell? ⟨gb101, 2, none⟩ = some (.slice A0_2 l0_2.length c0_2) := (blk_cell BK101.out 2).trans rfl; have hfz7_0 := blk_frozen BK101.out 0; have hfz7_1 := blk_frozen BK101.out 1; have hfz7_2 := blk_frozen BK101.out 2)))
 (try simp only [Act.put, List.setIfInBounds_toArray, List.set_cons_zero, List.set_cons_succ])
 go_cut [21] (fun v21 wc => ∃ (kq : Nat) (x21_2 : Bool), v21 = .bool x21_2 ∧ Aside0 (impl_tray_lines.j0 kq a1 y102 a0_1 a0_0 x21_2 a0_0 a0_1 l0_2 = some r) ∧ Aside0 (kq ≤ k) ∧ Aside0 (Kd.S (Kd.slice 3 (Kd.int .i64)) 46 wc w.heap.size (fun _ => True) v103 y102) ∧ Aside0 (wc.heap[gb101]? = some (.cells #[.int .i64 a0_0, .int .i64 a0_1, (.slice A0_2 l0_2.length c0_2)] 42 (0, 0))) ∧ Aside0 (Below w.heap.size w wc))
 case first =>
  have H := HC3.out
  clear HC3
  by_cases c8 : a1 = 117
  ·rw [if_pos c8] at H
   have c8b0 : (a1 == 117) = true := beq_iff_eq.mpr c8
   have c8b1 : (a1 != 117) = false := bne_eq_false_iff_eq.mpr c8
   clear c8
   (first | rw [c8b0] | (simp only [i64_w, i32_w]; rw [c8b0]) | skip)
   have H' := Aside0.mk H
   clear H
   go_wp2
   repeat (go_quiet (fail); try go_wp2)
   go_meet
   case rel => exact ⟨_, (true), (by first | rfl | (simp; done) | (simp [*]; done)), H', ⟨by first | omega | exact Nat.le_refl _⟩, ⟨by (with_reducible repeat (first | apply Kd.S_alloc | apply Kd.S_drewN | apply Kd.S_drew)); (first | exact HO104.out | exact R_any HO104.out)⟩, ⟨blc⟩, ⟨bel HB⟩⟩
  ·rw [if_neg c8] at H
   have c8b0 : (a1 == 117) = false := beq_eq_false_iff_ne.mpr c8
   have c8b1 : (a1 != 117) = true := bne_iff_ne.mpr c8
   (first | rw [c8b0] | (simp only [i64_w, i32_w]; rw [c8b0]) | skip)
   have H' := Aside0.mk H
   clear H
   go_wp2
   repeat (go_quiet (fail); try go_wp2)
   go_meet
   case rel => exact ⟨_, ((a1 == 100)), (by first | rfl | (simp; done) | (simp [*]; done)), H', ⟨by first | omega | exact Nat.le_refl _⟩, ⟨by (with_reducible repeat (first | apply Kd.S_alloc | apply Kd.S_drewN | apply Kd.S_drew)); (first | exact HO104.out | exact R_any HO104.out)⟩, ⟨blc⟩, ⟨bel HB⟩⟩
 case rest =>
  clear HC3
  try clear p2
  try clear c4
  try clear c8
  try clear c8b0
  try clear c8b0y
  try clear c8b1
  try clear hcz7_0
  try clear hcz7_1
  try clear hcz7_2
  try clear hfz7_0
  try clear hfz7_1
  try clear hfz7_2
  obtain ⟨kq, x21_2, rfl, HA, HJ2, HO_5, BK101, HB⟩ := hcut
  cases kq with
  | zero => exact absurd HA.out (by simp [impl_tray_lines.j0])
  | succ kj2 =>
   have H := HA.out
   clear HA
   simp only [impl_tray_lines.j0] at H
   have HC9 := Aside0.mk H
   clear H
   go_upto_if 21 with (fail)
   repeat (go_quiet (fail); go_upto_if 21 with (fail))
   go_cut [6, 7] (fun v6 v7 wc => ∃ (kq : Nat) (x6_8 : Int) (x7_8 : Int), v6 = .int .i64 x6_8 ∧ v7 = .int .i64 x7_8 ∧ Aside0 (impl_tray_lines.j1 kq a1 y102 x6_8 x7_8 a0_0 a0_1 l0_2 = some r) ∧ Aside0 (kq ≤ kj2) ∧ Aside0 (Kd.S (Kd.slice 3 (Kd.int .i64)) 46 wc w.heap.size (fun _ => True) v103 y102) ∧ Aside0 (wc.heap[gb101]? = some (.cells #[.int .i64 a0_0, .int .i64 a0_1, (.slice A0_2 l0_2.length c0_2)] 42 (0, 0))) ∧ Aside0 (Below w.heap.size w wc))
   case first =>
    have H := HC9.out
    clear HC9
    by_cases c10 : x21_2 = true
    ·subst c10
     have H1 : (impl_tray_lines.j1 kj2 a1 y102 a0_0 a0_1 a0_0 a0_1 l0_2) = some r := by rw [if_pos rfl] at H; exact H
     clear H
     have H := H1
     clear H1
     have H' := Aside0.mk H
     clear H
     have hcz11_0 : wc.cell? ⟨gb101, 0, none⟩ = some (.int .i64 a0_0) := (blk_cell BK101.out 0).trans rfl
     have hcz11_1 : wc.cell? ⟨gb101, 1, none⟩ = some (.int .i64 a0_1) := (blk_cell BK101.out 1).trans rfl
     have hcz11_2 : wc.cell? ⟨gb101, 2, none⟩ = some (.slice A0_2 l0_2.length c0_2) := (blk_cell BK101.out 2).trans rfl
     have hfz11_0 := blk_frozen BK101.out 0
     have hfz11_1 := blk_frozen BK101.out 1
     have hfz11_2 := blk_frozen BK101.out 2
     go_wp2
     repeat (go_quiet (fail); try go_wp2)
     go_meet
     case rel => exact ⟨_, (a0_0), (a0_1), (by first | rfl | (simp; done) | (simp [*]; done)), (by first | rfl | (simp; done) | (simp [*]; done)), H', ⟨by have := HJ2.out; first | omega | exact Nat.le_refl _⟩, ⟨by (with_reducible repeat (first | apply Kd.S_alloc | apply Kd.S_drewN | apply Kd.S_drew)); (first | exact HO_5.out | exact R_any HO_5.out)⟩, ⟨blc⟩, ⟨bel HB⟩⟩
    ·replace c10 := Bool.eq_false_iff.mpr c10
     subst c10
     have H1 : (impl_tray_lines.j1 kj2 a1 y102 a0_1 a0_0 a0_0 a0_1 l0_2) = some r := by rw [if_neg (show ¬ (false = true) by decide)] at H; exact H
     clear H
     have H := H1
     clear H1
     have H' := Aside0.mk H
     clear H
     go_wp2
     repeat (go_quiet (fail); try go_wp2)
     go_meet
     case rel => exact ⟨_, (a0_1), (a0_0), (by first | rfl | (simp; done) | (simp [*]; done)), (by first | rfl | (simp; done) | (simp [*]; done)), H', ⟨by have := HJ2.out; first | omega | exact Nat.le_refl _⟩, ⟨by (with_reducible repeat (first | apply Kd.S_alloc | apply Kd.S_drewN | apply Kd.S_drew)); (first | exact HO_5.out | exact R_any HO_5.out)⟩, ⟨blc⟩, ⟨bel HB⟩⟩
   case rest =>
    clear HC9
    try clear c1
    try clear p2
    try clear c4
    try clear c8
    try clear c8b0
    try clear c8b0y
    try clear c8b1
    try clear c10
    try clear hcz11_0
    try clear hcz11_1
    try clear hcz11_2
    try clear hcz7_0
    try clear hcz7_1
    try clear hcz7_2
    try clear hfz11_0
    try clear hfz11_1
    try clear hfz11_2
    try clear hfz7_0
    try clear hfz7_1
    try clear hfz7_2
    try clear p2
    obtain ⟨kq, x6_8, x7_8, rfl, rfl, HA, HJ8, HO_5, BK101, HB⟩ := hcut
    cases kq with
    | zero => exact absurd HA.out (by simp [impl_tray_lines.j1])
    | succ kj8 =>
     have H := HA.out
     clear HA
     simp only [impl_tray_lines.j1] at H
     have H' := Aside0.mk H
     clear H
     go_wp2
     repeat (go_quiet (fail); try go_wp2)
     go_loopg [5, 27] kj8 (fun kq v5 v27 w' => ∃ (x5_3 : List (List Int)) (x27_3 : Int), v27 = .int .i64 x27_3 ∧ Aside0 (impl_tray_lines.l0 kq a1 x5_3 x7_8 x6_8 x27_3 a0_0 a0_1 l0_2 = some r) ∧ Aside0 (kq ≤ kj8) ∧ Aside0 (Kd.S (Kd.slice 3 (Kd.int .i64)) 46 w' w.heap.size (fun _ => True) v5 x5_3) ∧ Aside0 (w'.heap[gb101]? = some (.cells #[.int .i64 a0_0, .int .i64 a0_1, (.slice A0_2 l0_2.length c0_2)] 42 (0, 0))) ∧ Aside0 (Below w.heap.size w w'))
     case atStart => exact ⟨(y102), (0), (by first | rfl | (simp; done) | (simp [*]; done)), H', ⟨Nat.le_refl _⟩, ⟨by (with_reducible repeat (first | apply Kd.S_alloc | apply Kd.S_drewN | apply Kd.S_drew)); (first | exact HO_5.out | exact R_any HO_5.out)⟩, ⟨blc⟩, ⟨bel HB⟩⟩
     case round =>
      clear H'
      try clear c1
      try clear p2
      try clear c4
      try clear c8
      try clear c8b0
      try clear c8b0y
      try clear c8b1
      try clear c10
      try clear hcz11_0
      try clear hcz11_1
      try clear hcz11_2
      try clear hcz7_0
      try clear hcz7_1
      try clear hcz7_2
      try clear hfz11_0
      try clear hfz11_1
      try clear hfz11_2
      try clear hfz7_0
      try clear hfz7_1
      try clear hfz7_2
      try clear p2
      obtain ⟨x5_3, x27_3, rfl, HA, HK3, HO_5, BK101, HB⟩ := hrel
      cases gk with
      | zero => exact absurd HA.out (by simp [impl_tray_lines.l0])
      | succ k3 =>
       have H := HA.out
       clear HA
       simp only [impl_tray_lines.l0] at H
       by_cases c12 : x27_3 < x6_8
       ·rw [if_pos c12] at H
        have c12b0 : decide (x27_3 < x6_8) = true := decide_eq_true c12
        clear c12
        obtain ⟨y105, hy105⟩ : ∃ y_ : List Int, y_ = (([] : List Int)) := ⟨_, rfl⟩
        replace H : (impl_tray_lines.l1 k3 a1 x5_3 x7_8 x27_3 y105 x6_8 x27_3 x7_8 0 a0_0 a0_1 l0_2) = some r := rH hy105 H
        have Ny105 := Aside0.mk hy105
        clear hy105
        have H' := Aside0.mk H
        clear H
        go_wp2_with (first | ((with_reducible refine gate_dst (N := 30) rfl ?_); refine R_litG (Kd.int .i64) _ 3 ?hg (N := 30) ?hd (xs := ([] : List Int)) (inner := []) (ok := fun _ => True) (okp := fun _ => True) ?hr ?hp (fun _ hk => hk) trivial (Below.refl _ _) (Nat.le_refl _) (by simp) ?_; (case hd => rfl); (case hg => first | rfl | decide | (simp [Region.wanted, yielded]; done) | (go_simp; done)); (case hr => first | (go_simp; done) | (go_simp; rfl)); (case hp => exact (Reps.none _ _)); intro v106 w13 ho14 hb hg_ hnew_; clear hg_ hnew_; (first | rw [← Ny105.out] at ho14 | (simp only [Int.reduceToNat] at ho14; rw [← Ny105.out] at ho14)); have n0_ := Aside0.mk (Kd.S_elder' (by (with_reducible repeat (first | apply Kd.S_alloc | apply Kd.S_drewN | apply Kd.S_drew)); (first | exact HO_5.out | exact R_any HO_5.out)) (Kd.R_base ho14) hb); have n1_ := Aside0.mk (Kd.R_lower ho14 (below_size (bel HB))); have n2_ := Aside0.mk (blk_below (g := gb101) (o := .cells #[.int .i64 a0_0, .int .i64 a0_1, .slice A0_2 l0_2.length c0_2] 42 (0, 0)) blc hb); have n3_ := Aside0.mk (below_step (bel HB) hb); clear HO_5; clear BK101; clear HB; have HO_5 := n0_; have HO107 := n1_; have BK101 := n2_; have HB := n3_; clear n0_ n1_ n2_ n3_; clear hb ho14))
        repeat (go_quiet (first | ((with_reducible refine gate_dst (N := 30) rfl ?_); refine R_litG (Kd.int .i64) _ 3 ?hg (N := 30) ?hd (xs := ([] : List Int)) (inner := []) (ok := fun _ => True) (okp := fun _ => True) ?hr ?hp (fun _ hk => hk) trivial (Below.refl _ _) (Nat.le_refl _) (by simp) ?_; (case hd => rfl); (case hg => first | rfl | decide | (simp [Region.wanted, yielded]; done) | (go_simp; done)); (case hr => first | (go_simp; done) | (go_simp; rfl)); (case hp => exact (Reps.none _ _)); intro v106 w13 ho14 hb hg_ hnew_; clear hg_ hnew_; (first | rw [← Ny105.out] at ho14 | (simp only [Int.reduceToNat] at ho14; rw [← Ny105.out] at ho14)); have n0_ := Aside0.mk (Kd.S_elder' (by (with_reducible repeat (first | apply Kd.S_alloc | apply Kd.S_drewN | apply Kd.S_drew)); (first | exact HO_5.out | exact R_any HO_5.out)) (Kd.R_base ho14) hb); have n1_ := Aside0.mk (Kd.R_lower ho14 (below_size (bel HB))); have n2_ := Aside0.mk (blk_below (g := gb101) (o := .cells #[.int .i64 a0_0, .int .i64 a0_1, .slice A0_2 l0_2.length c0_2] 42 (0, 0)) blc hb); have n3_ := Aside0.mk (below_step (bel HB) hb); clear HO_5; clear BK101; clear HB; have HO_5 := n0_; have HO107 := n1_; have BK101 := n2_; have HB := n3_; clear n0_ n1_ n2_ n3_; clear hb ho14)); try go_wp2_with (first | ((with_reducible refine gate_dst (N := 30) rfl ?_); refine R_litG (Kd.int .i64) _ 3 ?hg (N := 30) ?hd (xs := ([] : List Int)) (inner := []) (ok := fun _ => True) (okp := fun _ => True) ?hr ?hp (fun _ hk => hk) trivial (Below.refl _ _) (Nat.le_refl _) (by simp) ?_; (case hd => rfl); (case hg => first | rfl | decide | (simp [Region.wanted, yielded]; done) | (go_simp; done)); (case hr => first | (go_simp; done) | (go_simp; rfl)); (case hp => exact (Reps.none _ _)); intro v106 w13 ho14 hb hg_ hnew_; clear hg_ hnew_; (first | rw [← Ny105.out] at ho14 | (simp only [Int.reduceToNat] at ho14; rw [← Ny105.out] at ho14)); have n0_ := Aside0.mk (Kd.S_elder' (by (with_reducible repeat (first | apply Kd.S_alloc | apply Kd.S_drewN | apply Kd.S_drew)); (first | exact HO_5.out | exact R_any HO_5.out)) (Kd.R_base ho14) hb); have n1_ := Aside0.mk (Kd.R_lower ho14 (below_size (bel HB))); have n2_ := Aside0.mk (blk_below (g := gb101) (o := .cells #[.int .i64 a0_0, .int .i64 a0_1, .slice A0_2 l0_2.length c0_2] 42 (0, 0)) blc hb); have n3_ := Aside0.mk (below_step (bel HB) hb); clear HO_5; clear BK101; clear HB; have HO_5 := n0_; have HO107 := n1_; have BK101 := n2_; have HB := n3_; clear n0_ n1_ n2_ n3_; clear hb ho14)))
        go_loopg [9, 32] k3 (fun kq v9 v32 w' => ∃ (x9_4 : List Int) (x32_4 : Int), v32 = .int .i64 x32_4 ∧ Aside0 (impl_tray_lines.l1 kq a1 x5_3 x7_8 x27_3 x9_4 x6_8 x27_3 x7_8 x32_4 a0_0 a0_1 l0_2 = some r) ∧ Aside0 (kq ≤ k3) ∧ Aside0 (Kd.S (Kd.slice 3 (Kd.int .i64)) 46 w' w.heap.size (fun k_ => some k_ ≠ (v9 : Value).ownBlock) u5 x5_3) ∧ Aside0 (Kd.R (Kd.int .i64) 3 w' w.heap.size (fun _ => True) v9 x9_4) ∧ Aside0 (w'.heap[gb101]? = some (.cells #[.int .i64 a0_0, .int .i64 a0_1, (.slice A0_2 l0_2.length c0_2)] 42 (0, 0))) ∧ Aside0 (Below w.heap.size w w'))
        case atStart => exact ⟨(y105), (0), (by first | rfl | (simp; done) | (simp [*]; done)), H', ⟨Nat.le_refl _⟩, ⟨by (with_reducible repeat (first | apply Kd.S_alloc | apply Kd.S_drewN | apply Kd.S_drew)); exact Kd.S_mono HO_5.out (fun _ hk => hk.2)⟩, ⟨rch HO107⟩, ⟨blc⟩, ⟨bel HB⟩⟩
        case round =>
         clear H'
         try clear c1
         try clear p2
         try clear c4
         try clear c8
         try clear c8b0
         try clear c8b0y
         try clear c8b1
         try clear c10
         try clear c12
         try clear c12b0
         try clear c12b0y
         try clear hcz11_0
         try clear hcz11_1
         try clear hcz11_2
         try clear hcz7_0
         try clear hcz7_1
         try clear hcz7_2
         try clear hfz11_0
         try clear hfz11_1
         try clear hfz11_2
         try clear hfz7_0
         try clear hfz7_1
         try clear hfz7_2
         try clear p2
         obtain ⟨x9_4, x32_4, rfl, HA, HK4, HO_5, HO_9, BK101, HB⟩ := hrel
         cases gk with
         | zero => exact absurd HA.out (by simp [impl_tray_lines.l1])
         | succ k4 =>
          have H := HA.out
          clear HA
          simp only [impl_tray_lines.l1] at H
          by_cases c15 : x32_4 < x7_8
          ·rw [if_pos c15] at H
           have c15b0 : decide (x32_4 < x7_8) = true := decide_eq_true c15
           clear c15
           have HC16 := Aside0.mk H
           clear H
           go_upto_region 12 with (fail)
           repeat (go_quiet (fail); go_upto_region 12 with (fail))
           go_cut [40] (fun v40 wc => ∃ (kq : Nat) (x40_15 : Bool), v40 = .bool x40_15 ∧ Aside0 (impl_tray_lines.j4 kq a1 x5_3 x7_8 x27_3 x9_4 x32_4 x6_8 x27_3 x7_8 x32_4 x40_15 a0_0 a0_1 l0_2 = some r) ∧ Aside0 (kq ≤ k4) ∧ Aside0 (Kd.S (Kd.slice 3 (Kd.int .i64)) 46 wc w.heap.size (fun k_ => some k_ ≠ (u9 : Value).ownBlock) u5 x5_3) ∧ Aside0 (Kd.R (Kd.int .i64) 3 wc w.heap.size (fun _ => True) u9 x9_4) ∧ Aside0 (wc.heap[gb101]? = some (.cells #[.int .i64 a0_0, .int .i64 a0_1, (.slice A0_2 l0_2.length c0_2)] 42 (0, 0))) ∧ Aside0 (Below w.heap.size w wc))
           case first =>
            have H := HC16.out
            clear HC16
            by_cases c17 : a1 = 117
            ·rw [if_pos c17] at H
             have c17b0 : (a1 == 117) = true := beq_iff_eq.mpr c17
             have c17b1 : (a1 != 117) = false := bne_eq_false_iff_eq.mpr c17
             clear c17
             (first | rw [c17b0] | (simp only [i64_w, i32_w]; rw [c17b0]) | skip)
             have H' := Aside0.mk H
             clear H
             go_wp2
             repeat (go_quiet (fail); try go_wp2)
             go_meet
             case rel => exact ⟨_, (true), (by first | rfl | (simp; done) | (simp [*]; done)), H', ⟨by have := HJ2.out; have := HJ8.out; have := HK3.out; have := HK4.out; first | omega | exact Nat.le_refl _⟩, ⟨by (with_reducible repeat (first | apply Kd.S_alloc | apply Kd.S_drewN | apply Kd.S_drew)); (first | exact HO_5.out | exact R_any HO_5.out)⟩, ⟨rch HO_9⟩, ⟨blc⟩, ⟨bel HB⟩⟩
            ·rw [if_neg c17] at H
             have c17b0 : (a1 == 117) = false := beq_eq_false_iff_ne.mpr c17
             have c17b1 : (a1 != 117) = true := bne_iff_ne.mpr c17
             (first | rw [c17b0] | (simp only [i64_w, i32_w]; rw [c17b0]) | skip)
             have H' := Aside0.mk H
             clear H
             go_wp2
             repeat (go_quiet (fail); try go_wp2)
             go_meet
             case rel => exact ⟨_, ((a1 == 100)), (by first | rfl | (simp; done) | (simp [*]; done)), H', ⟨by have := HJ2.out; have := HJ8.out; have := HK3.out; have := HK4.out; first | omega | exact Nat.le_refl _⟩, ⟨by (with_reducible repeat (first | apply Kd.S_alloc | apply Kd.S_drewN | apply Kd.S_drew)); (first | exact HO_5.out | exact R_any HO_5.out)⟩, ⟨rch HO_9⟩, ⟨blc⟩, ⟨bel HB⟩⟩
           case rest =>
            clear HC16
            try clear c1
            try clear p2
            try clear c4
            try clear c8
            try clear c8b0
            try clear c8b0y
            try clear c8b1
            try clear c10
            try clear c12
            try clear c12b0
            try clear c12b0y
            try clear c15
            try clear c15b0
            try clear c15b0y
            try clear c17
            try clear c17b0
            try clear c17b0y
            try clear c17b1
            try clear hcz11_0
            try clear hcz11_1
            try clear hcz11_2
            try clear hcz7_0
            try clear hcz7_1
            try clear hcz7_2
            try clear hfz11_0
            try clear hfz11_1
            try clear hfz11_2
            try clear hfz7_0
            try clear hfz7_1
            try clear hfz7_2
            try clear p2
            obtain ⟨kq, x40_15, rfl, HA, HJ15, HO_5, HO_9, BK101, HB⟩ := hcut
            cases kq with
            | zero => exact absurd HA.out (by simp [impl_tray_lines.j4])
            | succ kj15 =>
             have H := HA.out
             clear HA
             simp only [impl_tray_lines.j4] at H
             by_cases c18 : x40_15 = true
             ·subst c18
              have H1 : ((impl_tray_number.f a0_0 a0_1 l0_2 x27_3 x32_4).bind fun t119 => (if x9_4.length < 17592186044416 then (impl_tray_lines.l1 kj15 a1 x5_3 x7_8 x27_3 (x9_4 ++ [t119]) x6_8 x27_3 x7_8 (wrap64 (x32_4 + 1)) a0_0 a0_1 l0_2) else (none))) = some r := by rw [if_pos rfl] at H; exact H
              clear H
              have H := H1
              clear H1
              replace H := Option.bind_eq_some_iff.mp H
              obtain ⟨t119, A190, H⟩ := H
              replace H : (if x9_4.length < 17592186044416 then (impl_tray_lines.l1 kj15 a1 x5_3 x7_8 x27_3 (x9_4 ++ [t119]) x6_8 x27_3 x7_8 (wrap64 (x32_4 + 1)) a0_0 a0_1 l0_2) else (none)) = some r := H
              have A19 := Aside0.mk A190
              clear A190
              by_cases c20 : x9_4.length < 17592186044416
              ·rw [if_pos c20] at H
               have LMc20 := Aside0.mk c20
               clear c20
               obtain ⟨y120, hy120⟩ : ∃ y_ : List Int, y_ = (x9_4 ++ [t119]) := ⟨_, rfl⟩
               replace H : (impl_tray_lines.l1 kj15 a1 x5_3 x7_8 x27_3 y120 x6_8 x27_3 x7_8 (wrap64 (x32_4 + 1)) a0_0 a0_1 l0_2) = some r := rH hy120 H
               have Ny120 := Aside0.mk hy120
               clear hy120
               have H' := Aside0.mk H
               clear H
               have hcz21_0 : wc.cell? ⟨gb101, 0, none⟩ = some (.int .i64 a0_0) := (blk_cell BK101.out 0).trans rfl
               have hcz21_1 : wc.cell? ⟨gb101, 1, none⟩ = some (.int .i64 a0_1) := (blk_cell BK101.out 1).trans rfl
               have hcz21_2 : wc.cell? ⟨gb101, 2, none⟩ = some (.slice A0_2 l0_2.length c0_2) := (blk_cell BK101.out 2).trans rfl
               have hfz21_0 := blk_frozen BK101.out 0
               have hfz21_1 := blk_frozen BK101.out 1
               have hfz21_2 := blk_frozen BK101.out 2
               go_wp2_with (first | (go_at_call 70; (with_reducible refine (impl_tray_number.calls a0_0 a0_1 _ _ l0_2 x27_3 x32_4 t119 _ ?side1 ?side2 A19.out).mono ?_); (case side1 => repeat (first | exact (Kd.C_below HR0_2.out HB.out) | (with_reducible refine Kd.C_alloc ?_ _) | (with_reducible refine Kd.C_drewN ?_ _) | (with_reducible refine Kd.C_drew ?_))); (case side2 => exact HC0_2.out); rintro e w22 ⟨rfl, hb⟩; have n0_ := Aside0.mk (Kd.S_below (by (with_reducible repeat (first | apply Kd.S_alloc | apply Kd.S_drewN | apply Kd.S_drew)); (first | exact HO_5.out | exact R_any HO_5.out)) hb); have n1_ := Aside0.mk (Kd.R_below (rch HO_9) hb); have n2_ := Aside0.mk (blk_below (g := gb101) (o := .cells #[.int .i64 a0_0, .int .i64 a0_1, .slice A0_2 l0_2.length c0_2] 42 (0, 0)) blc hb); have n3_ := Aside0.mk (below_step (bel HB) hb); clear HO_5; clear HO_9; clear BK101; clear HB; have HO_5 := n0_; have HO_9 := n1_; have BK101 := n2_; have HB := n3_; clear n0_ n1_ n2_ n3_; (try clear hb); (try clear hb2); (try clear hk); (try clear hi)) | ((with_reducible refine gate_builtin (b := .append) (xs := #[.tmp 41, .tmp 46]) rfl ?_); at_builtin; refine Kd.R_append (Kd.int .i64) (w0 := w) w.heap.size rfl (.tmp 41) (.tmp 46) 46 3 (.int .i64 0) 8 rfl Tryd.underlying46 info3 rfl (by decide) (by omega) u9 x9_4 t119 [.int .i64 t119] (fun _ => True) (fun _ => False) rfl rfl ?aP (fun _ hk => hk.elim) ?aF ?aO ?aB ?aS ?aL ?_; (case aP => exact rfl); (case aB => exact (bel HB)); (case aF => exact (fun _ _ => trivial)); (case aO => exact (rch HO_9)); (case aS => exact (below_size (bel HB))); (case aL => have := LMc20.out; omega); intro v121 w23 ho hb hg hat; rw [← Ny120.out] at ho; have n0_ := Aside0.mk (Kd.S_after (ok := (fun _ => True)) (by (with_reducible repeat (first | apply Kd.S_alloc | apply Kd.S_drewN | apply Kd.S_drew)); exact Kd.S_mono HO_5.out (fun _ hk => ⟨trivial, hk⟩)) hg hat); have n1_ := Aside0.mk (blk_grown (g := gb101) (o := .cells #[.int .i64 a0_0, .int .i64 a0_1, .slice A0_2 l0_2.length c0_2] 42 (0, 0)) blc hg (Kd.R_ne HO_9.out BK101.out (by decide))); have n2_ := Aside0.mk (hb); have n3_ := Aside0.mk (ho); clear HO_5; clear BK101; clear HB; clear HO_9; have HO_5 := n0_; have BK101 := n1_; have HB := n2_; have HO122 := n3_; clear n0_ n1_ n2_ n3_; clear ho hb hg hat))
               repeat (go_quiet (first | (go_at_call 70; (with_reducible refine (impl_tray_number.calls a0_0 a0_1 _ _ l0_2 x27_3 x32_4 t119 _ ?side1 ?side2 A19.out).mono ?_); (case side1 => repeat (first | exact (Kd.C_below HR0_2.out HB.out) | (with_reducible refine Kd.C_alloc ?_ _) | (with_reducible refine Kd.C_drewN ?_ _) | (with_reducible refine Kd.C_drew ?_))); (case side2 => exact HC0_2.out); rintro e w22 ⟨rfl, hb⟩; have n0_ := Aside0.mk (Kd.S_below (by (with_reducible repeat (first | apply Kd.S_alloc | apply Kd.S_drewN | apply Kd.S_drew)); (first | exact HO_5.out | exact R_any HO_5.out)) hb); have n1_ := Aside0.mk (Kd.R_below (rch HO_9) hb); have n2_ := Aside0.mk (blk_below (g := gb101) (o := .cells #[.int .i64 a0_0, .int .i64 a0_1, .slice A0_2 l0_2.length c0_2] 42 (0, 0)) blc hb); have n3_ := Aside0.mk (below_step (bel HB) hb); clear HO_5; clear HO_9; clear BK101; clear HB; have HO_5 := n0_; have HO_9 := n1_; have BK101 := n2_; have HB := n3_; clear n0_ n1_ n2_ n3_; (try clear hb); (try clear hb2); (try clear hk); (try clear hi)) | ((with_reducible refine gate_builtin (b := .append) (xs := #[.tmp 41, .tmp 46]) rfl ?_); at_builtin; refine Kd.R_append (Kd.int .i64) (w0 := w) w.heap.size rfl (.tmp 41) (.tmp 46) 46 3 (.int .i64 0) 8 rfl Tryd.underlying46 info3 rfl (by decide) (by omega) u9 x9_4 t119 [.int .i64 t119] (fun _ => True) (fun _ => False) rfl rfl ?aP (fun _ hk => hk.elim) ?aF ?aO ?aB ?aS ?aL ?_; (case aP => exact rfl); (case aB => exact (bel HB)); (case aF => exact (fun _ _ => trivial)); (case aO => exact (rch HO_9)); (case aS => exact (below_size (bel HB))); (case aL => have := LMc20.out; omega); intro v121 w23 ho hb hg hat; rw [← Ny120.out] at ho; have n0_ := Aside0.mk (Kd.S_after (ok := (fun _ => True)) (by (with_reducible repeat (first | apply Kd.S_alloc | apply Kd.S_drewN | apply Kd.S_drew)); exact Kd.S_mono HO_5.out (fun _ hk => ⟨trivial, hk⟩)) hg hat); have n1_ := Aside0.mk (blk_grown (g := gb101) (o := .cells #[.int .i64 a0_0, .int .i64 a0_1, .slice A0_2 l0_2.length c0_2] 42 (0, 0)) blc hg (Kd.R_ne HO_9.out BK101.out (by decide))); have n2_ := Aside0.mk (hb); have n3_ := Aside0.mk (ho); clear HO_5; clear BK101; clear HB; clear HO_9; have HO_5 := n0_; have BK101 := n1_; have HB := n2_; have HO122 := n3_; clear n0_ n1_ n2_ n3_; clear ho hb hg hat)); try go_wp2_with (first | (go_at_call 70; (with_reducible refine (impl_tray_number.calls a0_0 a0_1 _ _ l0_2 x27_3 x32_4 t119 _ ?side1 ?side2 A19.out).mono ?_); (case side1 => repeat (first | exact (Kd.C_below HR0_2.out HB.out) | (with_reducible refine Kd.C_alloc ?_ _) | (with_reducible refine Kd.C_drewN ?_ _) | (with_reducible refine Kd.C_drew ?_))); (case side2 => exact HC0_2.out); rintro e w22 ⟨rfl, hb⟩; have n0_ := Aside0.mk (Kd.S_below (by (with_reducible repeat (first | apply Kd.S_alloc | apply Kd.S_drewN | apply Kd.S_drew)); (first | exact HO_5.out | exact R_any HO_5.out)) hb); have n1_ := Aside0.mk (Kd.R_below (rch HO_9) hb); have n2_ := Aside0.mk (blk_below (g := gb101) (o := .cells #[.int .i64 a0_0, .int .i64 a0_1, .slice A0_2 l0_2.length c0_2] 42 (0, 0)) blc hb); have n3_ := Aside0.mk (below_step (bel HB) hb); clear HO_5; clear HO_9; clear BK101; clear HB; have HO_5 := n0_; have HO_9 := n1_; have BK101 := n2_; have HB := n3_; clear n0_ n1_ n2_ n3_; (try clear hb); (try clear hb2); (try clear hk); (try clear hi)) | ((with_reducible refine gate_builtin (b := .append) (xs := #[.tmp 41, .tmp 46]) rfl ?_); at_builtin; refine Kd.R_append (Kd.int .i64) (w0 := w) w.heap.size rfl (.tmp 41) (.tmp 46) 46 3 (.int .i64 0) 8 rfl Tryd.underlying46 info3 rfl (by decide) (by omega) u9 x9_4 t119 [.int .i64 t119] (fun _ => True) (fun _ => False) rfl rfl ?aP (fun _ hk => hk.elim) ?aF ?aO ?aB ?aS ?aL ?_; (case aP => exact rfl); (case aB => exact (bel HB)); (case aF => exact (fun _ _ => trivial)); (case aO => exact (rch HO_9)); (case aS => exact (below_size (bel HB))); (case aL => have := LMc20.out; omega); intro v121 w23 ho hb hg hat; rw [← Ny120.out] at ho; have n0_ := Aside0.mk (Kd.S_after (ok := (fun _ => True)) (by (with_reducible repeat (first | apply Kd.S_alloc | apply Kd.S_drewN | apply Kd.S_drew)); exact Kd.S_mono HO_5.out (fun _ hk => ⟨trivial, hk⟩)) hg hat); have n1_ := Aside0.mk (blk_grown (g := gb101) (o := .cells #[.int .i64 a0_0, .int .i64 a0_1, .slice A0_2 l0_2.length c0_2] 42 (0, 0)) blc hg (Kd.R_ne HO_9.out BK101.out (by decide))); have n2_ := Aside0.mk (hb); have n3_ := Aside0.mk (ho); clear HO_5; clear BK101; clear HB; clear HO_9; have HO_5 := n0_; have BK101 := n1_; have HB := n2_; have HO122 := n3_; clear n0_ n1_ n2_ n3_; clear ho hb hg hat)))
               go_roundg kj15
               case measure => have := HJ2.out; have := HJ8.out; have := HK3.out; have := HK4.out; have := HJ15.out; omega
               case rel => exact ⟨(y120), (wrap64 (x32_4 + 1)), (by first | rfl | (simp; done) | (simp [*]; done)), H', ⟨by have := HJ2.out; have := HJ8.out; have := HK3.out; have := HK4.out; have := HJ15.out; omega⟩, ⟨by (with_reducible repeat (first | apply Kd.S_alloc | apply Kd.S_drewN | apply Kd.S_drew)); exact Kd.S_mono HO_5.out (fun _ hk => hk.2)⟩, ⟨rch HO122⟩, ⟨blc⟩, ⟨bel HB⟩⟩
              ·rw [if_neg c20] at H
               exact absurd H (by simp)
             ·replace c18 := Bool.eq_false_iff.mpr c18
              subst c18
              have H1 : ((impl_tray_number.f a0_0 a0_1 l0_2 x32_4 x27_3).bind fun t123 => (if x9_4.length < 17592186044416 then (impl_tray_lines.l1 kj15 a1 x5_3 x7_8 x27_3 (x9_4 ++ [t123]) x6_8 x27_3 x7_8 (wrap64 (x32_4 + 1)) a0_0 a0_1 l0_2) else (none))) = some r := by rw [if_neg (show ¬ (false = true) by decide)] at H; exact H
              clear H
              have H := H1
              clear H1
              replace H := Option.bind_eq_some_iff.mp H
              obtain ⟨t123, A240, H⟩ := H
              replace H : (if x9_4.length < 17592186044416 then (impl_tray_lines.l1 kj15 a1 x5_3 x7_8 x27_3 (x9_4 ++ [t123]) x6_8 x27_3 x7_8 (wrap64 (x32_4 + 1)) a0_0 a0_1 l0_2) else (none)) = some r := H
              have A24 := Aside0.mk A240
              clear A240
              by_cases c25 : x9_4.length < 17592186044416
              ·rw [if_pos c25] at H
               have LMc25 := Aside0.mk c25
               clear c25
               obtain ⟨y124, hy124⟩ : ∃ y_ : List Int, y_ = (x9_4 ++ [t123]) := ⟨_, rfl⟩
               replace H : (impl_tray_lines.l1 kj15 a1 x5_3 x7_8 x27_3 y124 x6_8 x27_3 x7_8 (wrap64 (x32_4 + 1)) a0_0 a0_1 l0_2) = some r := rH hy124 H
               have Ny124 := Aside0.mk hy124
               clear hy124
               have H' := Aside0.mk H
               clear H
               have hcz26_0 : wc.cell? ⟨gb101, 0, none⟩ = some (.int .i64 a0_0) := (blk_cell BK101.out 0).trans rfl
               have hcz26_1 : wc.cell? ⟨gb101, 1, none⟩ = some (.int .i64 a0_1) := (blk_cell BK101.out 1).trans rfl
               have hcz26_2 : wc.cell? ⟨gb101, 2, none⟩ = some (.slice A0_2 l0_2.length c0_2) := (blk_cell BK101.out 2).trans rfl
               have hfz26_0 := blk_frozen BK101.out 0
               have hfz26_1 := blk_frozen BK101.out 1
               have hfz26_2 := blk_frozen BK101.out 2
               go_wp2_with (first | (go_at_call 70; (with_reducible refine (impl_tray_number.calls a0_0 a0_1 _ _ l0_2 x32_4 x27_3 t123 _ ?side1 ?side2 A24.out).mono ?_); (case side1 => repeat (first | exact (Kd.C_below HR0_2.out HB.out) | (with_reducible refine Kd.C_alloc ?_ _) | (with_reducible refine Kd.C_drewN ?_ _) | (with_reducible refine Kd.C_drew ?_))); (case side2 => exact HC0_2.out); rintro e w27 ⟨rfl, hb⟩; have n0_ := Aside0.mk (Kd.S_below (by (with_reducible repeat (first | apply Kd.S_alloc | apply Kd.S_drewN | apply Kd.S_drew)); (first | exact HO_5.out | exact R_any HO_5.out)) hb); have n1_ := Aside0.mk (Kd.R_below (rch HO_9) hb); have n2_ := Aside0.mk (blk_below (g := gb101) (o := .cells #[.int .i64 a0_0, .int .i64 a0_1, .slice A0_2 l0_2.length c0_2] 42 (0, 0)) blc hb); have n3_ := Aside0.mk (below_step (bel HB) hb); clear HO_5; clear HO_9; clear BK101; clear HB; have HO_5 := n0_; have HO_9 := n1_; have BK101 := n2_; have HB := n3_; clear n0_ n1_ n2_ n3_; (try clear hb); (try clear hb2); (try clear hk); (try clear hi)) | ((with_reducible refine gate_builtin (b := .append) (xs := #[.tmp 48, .tmp 53]) rfl ?_); at_builtin; refine Kd.R_append (Kd.int .i64) (w0 := w) w.heap.size rfl (.tmp 48) (.tmp 53) 46 3 (.int .i64 0) 8 rfl Tryd.underlying46 info3 rfl (by decide) (by omega) u9 x9_4 t123 [.int .i64 t123] (fun _ => True) (fun _ => False) rfl rfl ?aP (fun _ hk => hk.elim) ?aF ?aO ?aB ?aS ?aL ?_; (case aP => exact rfl); (case aB => exact (bel HB)); (case aF => exact (fun _ _ => trivial)); (case aO => exact (rch HO_9)); (case aS => exact (below_size (bel HB))); (case aL => have := LMc25.out; omega); intro v125 w28 ho hb hg hat; rw [← Ny124.out] at ho; have n0_ := Aside0.mk (Kd.S_after (ok := (fun _ => True)) (by (with_reducible repeat (first | apply Kd.S_alloc | apply Kd.S_drewN | apply Kd.S_drew)); exact Kd.S_mono HO_5.out (fun _ hk => ⟨trivial, hk⟩)) hg hat); have n1_ := Aside0.mk (blk_grown (g := gb101) (o := .cells #[.int .i64 a0_0, .int .i64 a0_1, .slice A0_2 l0_2.length c0_2] 42 (0, 0)) blc hg (Kd.R_ne HO_9.out BK101.out (by decide))); have n2_ := Aside0.mk (hb); have n3_ := Aside0.mk (ho); clear HO_5; clear BK101; clear HB; clear HO_9; have HO_5 := n0_; have BK101 := n1_; have HB := n2_; have HO126 := n3_; clear n0_ n1_ n2_ n3_; clear ho hb hg hat))
               repeat (go_quiet (first | (go_at_call 70; (with_reducible refine (impl_tray_number.calls a0_0 a0_1 _ _ l0_2 x32_4 x27_3 t123 _ ?side1 ?side2 A24.out).mono ?_); (case side1 => repeat (first | exact (Kd.C_below HR0_2.out HB.out) | (with_reducible refine Kd.C_alloc ?_ _) | (with_reducible refine Kd.C_drewN ?_ _) | (with_reducible refine Kd.C_drew ?_))); (case side2 => exact HC0_2.out); rintro e w27 ⟨rfl, hb⟩; have n0_ := Aside0.mk (Kd.S_below (by (with_reducible repeat (first | apply Kd.S_alloc | apply Kd.S_drewN | apply Kd.S_drew)); (first | exact HO_5.out | exact R_any HO_5.out)) hb); have n1_ := Aside0.mk (Kd.R_below (rch HO_9) hb); have n2_ := Aside0.mk (blk_below (g := gb101) (o := .cells #[.int .i64 a0_0, .int .i64 a0_1, .slice A0_2 l0_2.length c0_2] 42 (0, 0)) blc hb); have n3_ := Aside0.mk (below_step (bel HB) hb); clear HO_5; clear HO_9; clear BK101; clear HB; have HO_5 := n0_; have HO_9 := n1_; have BK101 := n2_; have HB := n3_; clear n0_ n1_ n2_ n3_; (try clear hb); (try clear hb2); (try clear hk); (try clear hi)) | ((with_reducible refine gate_builtin (b := .append) (xs := #[.tmp 48, .tmp 53]) rfl ?_); at_builtin; refine Kd.R_append (Kd.int .i64) (w0 := w) w.heap.size rfl (.tmp 48) (.tmp 53) 46 3 (.int .i64 0) 8 rfl Tryd.underlying46 info3 rfl (by decide) (by omega) u9 x9_4 t123 [.int .i64 t123] (fun _ => True) (fun _ => False) rfl rfl ?aP (fun _ hk => hk.elim) ?aF ?aO ?aB ?aS ?aL ?_; (case aP => exact rfl); (case aB => exact (bel HB)); (case aF => exact (fun _ _ => trivial)); (case aO => exact (rch HO_9)); (case aS => exact (below_size (bel HB))); (case aL => have := LMc25.out; omega); intro v125 w28 ho hb hg hat; rw [← Ny124.out] at ho; have n0_ := Aside0.mk (Kd.S_after (ok := (fun _ => True)) (by (with_reducible repeat (first | apply Kd.S_alloc | apply Kd.S_drewN | apply Kd.S_drew)); exact Kd.S_mono HO_5.out (fun _ hk => ⟨trivial, hk⟩)) hg hat); have n1_ := Aside0.mk (blk_grown (g := gb101) (o := .cells #[.int .i64 a0_0, .int .i64 a0_1, .slice A0_2 l0_2.length c0_2] 42 (0, 0)) blc hg (Kd.R_ne HO_9.out BK101.out (by decide))); have n2_ := Aside0.mk (hb); have n3_ := Aside0.mk (ho); clear HO_5; clear BK101; clear HB; clear HO_9; have HO_5 := n0_; have BK101 := n1_; have HB := n2_; have HO126 := n3_; clear n0_ n1_ n2_ n3_; clear ho hb hg hat)); try go_wp2_with (first | (go_at_call 70; (with_reducible refine (impl_tray_number.calls a0_0 a0_1 _ _ l0_2 x32_4 x27_3 t123 _ ?side1 ?side2 A24.out).mono ?_); (case side1 => repeat (first | exact (Kd.C_below HR0_2.out HB.out) | (with_reducible refine Kd.C_alloc ?_ _) | (with_reducible refine Kd.C_drewN ?_ _) | (with_reducible refine Kd.C_drew ?_))); (case side2 => exact HC0_2.out); rintro e w27 ⟨rfl, hb⟩; have n0_ := Aside0.mk (Kd.S_below (by (with_reducible repeat (first | apply Kd.S_alloc | apply Kd.S_drewN | apply Kd.S_drew)); (first | exact HO_5.out | exact R_any HO_5.out)) hb); have n1_ := Aside0.mk (Kd.R_below (rch HO_9) hb); have n2_ := Aside0.mk (blk_below (g := gb101) (o := .cells #[.int .i64 a0_0, .int .i64 a0_1, .slice A0_2 l0_2.length c0_2] 42 (0, 0)) blc hb); have n3_ := Aside0.mk (below_step (bel HB) hb); clear HO_5; clear HO_9; clear BK101; clear HB; have HO_5 := n0_; have HO_9 := n1_; have BK101 := n2_; have HB := n3_; clear n0_ n1_ n2_ n3_; (try clear hb); (try clear hb2); (try clear hk); (try clear hi)) | ((with_reducible refine gate_builtin (b := .append) (xs := #[.tmp 48, .tmp 53]) rfl ?_); at_builtin; refine Kd.R_append (Kd.int .i64) (w0 := w) w.heap.size rfl (.tmp 48) (.tmp 53) 46 3 (.int .i64 0) 8 rfl Tryd.underlying46 info3 rfl (by decide) (by omega) u9 x9_4 t123 [.int .i64 t123] (fun _ => True) (fun _ => False) rfl rfl ?aP (fun _ hk => hk.elim) ?aF ?aO ?aB ?aS ?aL ?_; (case aP => exact rfl); (case aB => exact (bel HB)); (case aF => exact (fun _ _ => trivial)); (case aO => exact (rch HO_9)); (case aS => exact (below_size (bel HB))); (case aL => have := LMc25.out; omega); intro v125 w28 ho hb hg hat; rw [← Ny124.out] at ho; have n0_ := Aside0.mk (Kd.S_after (ok := (fun _ => True)) (by (with_reducible repeat (first | apply Kd.S_alloc | apply Kd.S_drewN | apply Kd.S_drew)); exact Kd.S_mono HO_5.out (fun _ hk => ⟨trivial, hk⟩)) hg hat); have n1_ := Aside0.mk (blk_grown (g := gb101) (o := .cells #[.int .i64 a0_0, .int .i64 a0_1, .slice A0_2 l0_2.length c0_2] 42 (0, 0)) blc hg (Kd.R_ne HO_9.out BK101.out (by decide))); have n2_ := Aside0.mk (hb); have n3_ := Aside0.mk (ho); clear HO_5; clear BK101; clear HB; clear HO_9; have HO_5 := n0_; have BK101 := n1_; have HB := n2_; have HO126 := n3_; clear n0_ n1_ n2_ n3_; clear ho hb hg hat)))
               go_roundg kj15
               case measure => have := HJ2.out; have := HJ8.out; have := HK3.out; have := HK4.out; have := HJ15.out; omega
               case rel => exact ⟨(y124), (wrap64 (x32_4 + 1)), (by first | rfl | (simp; done) | (simp [*]; done)), H', ⟨by have := HJ2.out; have := HJ8.out; have := HK3.out; have := HK4.out; have := HJ15.out; omega⟩, ⟨by (with_reducible repeat (first | apply Kd.S_alloc | apply Kd.S_drewN | apply Kd.S_drew)); exact Kd.S_mono HO_5.out (fun _ hk => hk.2)⟩, ⟨rch HO126⟩, ⟨blc⟩, ⟨bel HB⟩⟩
              ·rw [if_neg c25] at H
               exact absurd H (by simp)
          ·rw [if_neg c15] at H
           have c15b0 : decide (x32_4 < x7_8) = false := decide_eq_false c15
           clear c15
           by_cases c29 : a1 = 114
           ·rw [if_pos c29] at H
            have c29b0 : (a1 == 114) = true := beq_iff_eq.mpr c29
            have c29b1 : (a1 != 114) = false := bne_eq_false_iff_eq.mpr c29
            clear c29
            replace H := Option.bind_eq_some_iff.mp H
            obtain ⟨t108, A300, H⟩ := H
            replace H : (if x5_3.length < 5864062014805 then (impl_tray_lines.l0 k4 a1 (x5_3 ++ [t108]) x7_8 x6_8 (wrap64 (x27_3 + 1)) a0_0 a0_1 l0_2) else (none)) = some r := H
            have A30 := Aside0.mk A300
            clear A300
            by_cases c31 : x5_3.length < 5864062014805
            ·rw [if_pos c31] at H
             have LMc31 := Aside0.mk c31
             clear c31
             obtain ⟨y109, hy109⟩ : ∃ y_ : List (List Int), y_ = (x5_3 ++ [t108]) := ⟨_, rfl⟩
             replace H : (impl_tray_lines.l0 k4 a1 y109 x7_8 x6_8 (wrap64 (x27_3 + 1)) a0_0 a0_1 l0_2) = some r := rH hy109 H
             have Ny109 := Aside0.mk hy109
             clear hy109
             have H' := Aside0.mk H
             clear H
             obtain ⟨Ao32, co32, eo32⟩ := Kd.R_slice HO_9.out
             subst eo32
             go_wp2_with (first | (go_at_call 71; (with_reducible refine (slices_Reverse_int_int.calls k4 (fun k_ => some k_ = (.slice Ao32 x9_4.length co32 : Value).ownBlock) (.slice Ao32 x9_4.length co32) x9_4 t108 w _ ?side1 ?side2 A30.out).mono ?_); (case side1 => repeat (first | (with_reducible first | exact HB.out | apply below_alloc | apply pw_below_drewN | apply below_drew1 | refine below_set ?_ GE101.out) | exact HB.out)); (case side2 => exact Kd.R_tight rfl HO_9.out); rintro e w33 ⟨rfl, hy0, hb, hkp⟩; have n0_ := Aside0.mk (Kd.S_mono (ok' := fun k_ => some k_ ≠ (.slice Ao32 x9_4.length co32 : Value).ownBlock) (Kd.S_keptB (HO_5.out) hkp (fun k_ hk_ hs_ => (hk_) hs_)) (fun k_ hk_ => hk_.1)); have n1_ := Aside0.mk (Kd.R_reok rfl hy0 (fun k_ e_ => HO_9.out.1 k_ e_)); have n2_ := Aside0.mk (blk_kept blc hkp (fun hs_ => (fun e_ => (Kd.R_ne HO_9.out BK101.out (by decide)) e_) hs_)); have n3_ := Aside0.mk (hb); clear HO_5; clear HO_9; clear BK101; clear HB; have HO_5 := n0_; have HO_9 := n1_; have BK101 := n2_; have HB := n3_; clear n0_ n1_ n2_ n3_; (try clear hb); (try clear hkp); (try clear hy0)) | ((with_reducible refine gate_builtin (b := .append) (xs := #[.tmp 64, .tmp 66]) rfl ?_); at_builtin; refine Kd.S_append (Kd.slice 3 (Kd.int .i64)) (w0 := w) w.heap.size rfl (.tmp 64) (.tmp 66) 22 46 (.slice none 0 0) 24 rfl Tryd.underlying22 info46 rfl (by decide) (by omega) u5 x5_3 t108 [.slice Ao32 x9_4.length co32] (fun _ => True) (fun k_ => some k_ = (.slice Ao32 x9_4.length co32 : Value).ownBlock) rfl rfl ?aP (fun k_ hk_ => ((Kd.R_mono (ok' := fun k_ => ((fun _ => True)) k_ ∧ some k_ ≠ (u5 : Value).ownBlock) (Kd.R_apart' (HO_9.out) (Kd.S_typed HO_5.out) (by decide)) (fun k_ hk => ⟨trivial, hk.2⟩))).1 k_ hk_.symm) ?aF ?aO ?aB ?aS ?aL ?_; (case aP => exact Kd.M_row (Kd.R_mono (Kd.R_tight rfl (Kd.R_mono (ok' := fun k_ => ((fun _ => True)) k_ ∧ some k_ ≠ (u5 : Value).ownBlock) (Kd.R_apart' (HO_9.out) (Kd.S_typed HO_5.out) (by decide)) (fun k_ hk => ⟨trivial, hk.2⟩))) (fun _ h_ => h_))); (case aB => exact (bel HB)); (case aF => exact (fun _ _ => trivial)); (case aO => exact (by (with_reducible repeat (first | apply Kd.S_alloc | apply Kd.S_drewN | apply Kd.S_drew)); exact Kd.S_mono HO_5.out (fun k_ hk => ⟨trivial, fun e_ => hk e_⟩))); (case aS => exact (below_size (bel HB))); (case aL => have := LMc31.out; omega); intro v110 w34 ho hb hg hat; rw [← Ny109.out] at ho; have n0_ := Aside0.mk (blk_grown (g := gb101) (o := .cells #[.int .i64 a0_0, .int .i64 a0_1, .slice A0_2 l0_2.length c0_2] 42 (0, 0)) blc hg (Kd.S_ne HO_5.out BK101.out (by decide))); have n1_ := Aside0.mk (hb); have n2_ := Aside0.mk (ho); clear BK101; clear HB; clear HO_5; clear HO_9; have BK101 := n0_; have HB := n1_; have HO111 := n2_; clear n0_ n1_ n2_; clear ho hb hg hat))
             repeat (go_quiet (first | (go_at_call 71; (with_reducible refine (slices_Reverse_int_int.calls k4 (fun k_ => some k_ = (.slice Ao32 x9_4.length co32 : Value).ownBlock) (.slice Ao32 x9_4.length co32) x9_4 t108 w _ ?side1 ?side2 A30.out).mono ?_); (case side1 => repeat (first | (with_reducible first | exact HB.out | apply below_alloc | apply pw_below_drewN | apply below_drew1 | refine below_set ?_ GE101.out) | exact HB.out)); (case side2 => exact Kd.R_tight rfl HO_9.out); rintro e w33 ⟨rfl, hy0, hb, hkp⟩; have n0_ := Aside0.mk (Kd.S_mono (ok' := fun k_ => some k_ ≠ (.slice Ao32 x9_4.length co32 : Value).ownBlock) (Kd.S_keptB (HO_5.out) hkp (fun k_ hk_ hs_ => (hk_) hs_)) (fun k_ hk_ => hk_.1)); have n1_ := Aside0.mk (Kd.R_reok rfl hy0 (fun k_ e_ => HO_9.out.1 k_ e_)); have n2_ := Aside0.mk (blk_kept blc hkp (fun hs_ => (fun e_ => (Kd.R_ne HO_9.out BK101.out (by decide)) e_) hs_)); have n3_ := Aside0.mk (hb); clear HO_5; clear HO_9; clear BK101; clear HB; have HO_5 := n0_; have HO_9 := n1_; have BK101 := n2_; have HB := n3_; clear n0_ n1_ n2_ n3_; (try clear hb); (try clear hkp); (try clear hy0)) | ((with_reducible refine gate_builtin (b := .append) (xs := #[.tmp 64, .tmp 66]) rfl ?_); at_builtin; refine Kd.S_append (Kd.slice 3 (Kd.int .i64)) (w0 := w) w.heap.size rfl (.tmp 64) (.tmp 66) 22 46 (.slice none 0 0) 24 rfl Tryd.underlying22 info46 rfl (by decide) (by omega) u5 x5_3 t108 [.slice Ao32 x9_4.length co32] (fun _ => True) (fun k_ => some k_ = (.slice Ao32 x9_4.length co32 : Value).ownBlock) rfl rfl ?aP (fun k_ hk_ => ((Kd.R_mono (ok' := fun k_ => ((fun _ => True)) k_ ∧ some k_ ≠ (u5 : Value).ownBlock) (Kd.R_apart' (HO_9.out) (Kd.S_typed HO_5.out) (by decide)) (fun k_ hk => ⟨trivial, hk.2⟩))).1 k_ hk_.symm) ?aF ?aO ?aB ?aS ?aL ?_; (case aP => exact Kd.M_row (Kd.R_mono (Kd.R_tight rfl (Kd.R_mono (ok' := fun k_ => ((fun _ => True)) k_ ∧ some k_ ≠ (u5 : Value).ownBlock) (Kd.R_apart' (HO_9.out) (Kd.S_typed HO_5.out) (by decide)) (fun k_ hk => ⟨trivial, hk.2⟩))) (fun _ h_ => h_))); (case aB => exact (bel HB)); (case aF => exact (fun _ _ => trivial)); (case aO => exact (by (with_reducible repeat (first | apply Kd.S_alloc | apply Kd.S_drewN | apply Kd.S_drew)); exact Kd.S_mono HO_5.out (fun k_ hk => ⟨trivial, fun e_ => hk e_⟩))); (case aS => exact (below_size (bel HB))); (case aL => have := LMc31.out; omega); intro v110 w34 ho hb hg hat; rw [← Ny109.out] at ho; have n0_ := Aside0.mk (blk_grown (g := gb101) (o := .cells #[.int .i64 a0_0, .int .i64 a0_1, .slice A0_2 l0_2.length c0_2] 42 (0, 0)) blc hg (Kd.S_ne HO_5.out BK101.out (by decide))); have n1_ := Aside0.mk (hb); have n2_ := Aside0.mk (ho); clear BK101; clear HB; clear HO_5; clear HO_9; have BK101 := n0_; have HB := n1_; have HO111 := n2_; clear n0_ n1_ n2_; clear ho hb hg hat)); try go_wp2_with (first | (go_at_call 71; (with_reducible refine (slices_Reverse_int_int.calls k4 (fun k_ => some k_ = (.slice Ao32 x9_4.length co32 : Value).ownBlock) (.slice Ao32 x9_4.length co32) x9_4 t108 w _ ?side1 ?side2 A30.out).mono ?_); (case side1 => repeat (first | (with_reducible first | exact HB.out | apply below_alloc | apply pw_below_drewN | apply below_drew1 | refine below_set ?_ GE101.out) | exact HB.out)); (case side2 => exact Kd.R_tight rfl HO_9.out); rintro e w33 ⟨rfl, hy0, hb, hkp⟩; have n0_ := Aside0.mk (Kd.S_mono (ok' := fun k_ => some k_ ≠ (.slice Ao32 x9_4.length co32 : Value).ownBlock) (Kd.S_keptB (HO_5.out) hkp (fun k_ hk_ hs_ => (hk_) hs_)) (fun k_ hk_ => hk_.1)); have n1_ := Aside0.mk (Kd.R_reok rfl hy0 (fun k_ e_ => HO_9.out.1 k_ e_)); have n2_ := Aside0.mk (blk_kept blc hkp (fun hs_ => (fun e_ => (Kd.R_ne HO_9.out BK101.out (by decide)) e_) hs_)); have n3_ := Aside0.mk (hb); clear HO_5; clear HO_9; clear BK101; clear HB; have HO_5 := n0_; have HO_9 := n1_; have BK101 := n2_; have HB := n3_; clear n0_ n1_ n2_ n3_; (try clear hb); (try clear hkp); (try clear hy0)) | ((with_reducible refine gate_builtin (b := .append) (xs := #[.tmp 64, .tmp 66]) rfl ?_); at_builtin; refine Kd.S_append (Kd.slice 3 (Kd.int .i64)) (w0 := w) w.heap.size rfl (.tmp 64) (.tmp 66) 22 46 (.slice none 0 0) 24 rfl Tryd.underlying22 info46 rfl (by decide) (by omega) u5 x5_3 t108 [.slice Ao32 x9_4.length co32] (fun _ => True) (fun k_ => some k_ = (.slice Ao32 x9_4.length co32 : Value).ownBlock) rfl rfl ?aP (fun k_ hk_ => ((Kd.R_mono (ok' := fun k_ => ((fun _ => True)) k_ ∧ some k_ ≠ (u5 : Value).ownBlock) (Kd.R_apart' (HO_9.out) (Kd.S_typed HO_5.out) (by decide)) (fun k_ hk => ⟨trivial, hk.2⟩))).1 k_ hk_.symm) ?aF ?aO ?aB ?aS ?aL ?_; (case aP => exact Kd.M_row (Kd.R_mono (Kd.R_tight rfl (Kd.R_mono (ok' := fun k_ => ((fun _ => True)) k_ ∧ some k_ ≠ (u5 : Value).ownBlock) (Kd.R_apart' (HO_9.out) (Kd.S_typed HO_5.out) (by decide)) (fun k_ hk => ⟨trivial, hk.2⟩))) (fun _ h_ => h_))); (case aB => exact (bel HB)); (case aF => exact (fun _ _ => trivial)); (case aO => exact (by (with_reducible repeat (first | apply Kd.S_alloc | apply Kd.S_drewN | apply Kd.S_drew)); exact Kd.S_mono HO_5.out (fun k_ hk => ⟨trivial, fun e_ => hk e_⟩))); (case aS => exact (below_size (bel HB))); (case aL => have := LMc31.out; omega); intro v110 w34 ho hb hg hat; rw [← Ny109.out] at ho; have n0_ := Aside0.mk (blk_grown (g := gb101) (o := .cells #[.int .i64 a0_0, .int .i64 a0_1, .slice A0_2 l0_2.length c0_2] 42 (0, 0)) blc hg (Kd.S_ne HO_5.out BK101.out (by decide))); have n1_ := Aside0.mk (hb); have n2_ := Aside0.mk (ho); clear BK101; clear HB; clear HO_5; clear HO_9; have BK101 := n0_; have HB := n1_; have HO111 := n2_; clear n0_ n1_ n2_; clear ho hb hg hat)))
             go_roundg k4
             case measure => have := HJ2.out; have := HJ8.out; have := HK3.out; have := HK4.out; omega
             case rel => exact ⟨(y109), (wrap64 (x27_3 + 1)), (by first | rfl | (simp; done) | (simp [*]; done)), H', ⟨by have := HJ2.out; have := HJ8.out; have := HK3.out; have := HK4.out; omega⟩, ⟨by (with_reducible repeat (first | apply Kd.S_alloc | apply Kd.S_drewN | apply Kd.S_drew)); (first | exact HO111.out | exact R_any HO111.out)⟩, ⟨blc⟩, ⟨bel HB⟩⟩
            ·rw [if_neg c31] at H
             exact absurd H (by simp)
           ·rw [if_neg c29] at H
            have c29b0 : (a1 == 114) = false := beq_eq_false_iff_ne.mpr c29
            have c29b1 : (a1 != 114) = true := bne_iff_ne.mpr c29
            by_cases c35 : a1 = 100
            ·rw [if_pos c35] at H
             have c35b0 : (a1 == 100) = true := beq_iff_eq.mpr c35
             have c35b1 : (a1 != 100) = false := bne_eq_false_iff_eq.mpr c35
             clear c35
             replace H := Option.bind_eq_some_iff.mp H
             obtain ⟨t112, A360, H⟩ := H
             replace H : (if x5_3.length < 5864062014805 then (impl_tray_lines.l0 k4 a1 (x5_3 ++ [t112]) x7_8 x6_8 (wrap64 (x27_3 + 1)) a0_0 a0_1 l0_2) else (none)) = some r := H
             have A36 := Aside0.mk A360
             clear A360
             by_cases c37 : x5_3.length < 5864062014805
             ·rw [if_pos c37] at H
              have LMc37 := Aside0.mk c37
              clear c37
              obtain ⟨y113, hy113⟩ : ∃ y_ : List (List Int), y_ = (x5_3 ++ [t112]) := ⟨_, rfl⟩
              replace H : (impl_tray_lines.l0 k4 a1 y113 x7_8 x6_8 (wrap64 (x27_3 + 1)) a0_0 a0_1 l0_2) = some r := rH hy113 H
              have Ny113 := Aside0.mk hy113
              clear hy113
              have H' := Aside0.mk H
              clear H
              obtain ⟨Ao38, co38, eo38⟩ := Kd.R_slice HO_9.out
              subst eo38
              go_wp2_with (first | (go_at_call 71; (with_reducible refine (slices_Reverse_int_int.calls k4 (fun k_ => some k_ = (.slice Ao38 x9_4.length co38 : Value).ownBlock) (.slice Ao38 x9_4.length co38) x9_4 t112 w _ ?side1 ?side2 A36.out).mono ?_); (case side1 => repeat (first | (with_reducible first | exact HB.out | apply below_alloc | apply pw_below_drewN | apply below_drew1 | refine below_set ?_ GE101.out) | exact HB.out)); (case side2 => exact Kd.R_tight rfl HO_9.out); rintro e w39 ⟨rfl, hy0, hb, hkp⟩; have n0_ := Aside0.mk (Kd.S_mono (ok' := fun k_ => some k_ ≠ (.slice Ao38 x9_4.length co38 : Value).ownBlock) (Kd.S_keptB (HO_5.out) hkp (fun k_ hk_ hs_ => (hk_) hs_)) (fun k_ hk_ => hk_.1)); have n1_ := Aside0.mk (Kd.R_reok rfl hy0 (fun k_ e_ => HO_9.out.1 k_ e_)); have n2_ := Aside0.mk (blk_kept blc hkp (fun hs_ => (fun e_ => (Kd.R_ne HO_9.out BK101.out (by decide)) e_) hs_)); have n3_ := Aside0.mk (hb); clear HO_5; clear HO_9; clear BK101; clear HB; have HO_5 := n0_; have HO_9 := n1_; have BK101 := n2_; have HB := n3_; clear n0_ n1_ n2_ n3_; (try clear hb); (try clear hkp); (try clear hy0)) | ((with_reducible refine gate_builtin (b := .append) (xs := #[.tmp 64, .tmp 66]) rfl ?_); at_builtin; refine Kd.S_append (Kd.slice 3 (Kd.int .i64)) (w0 := w) w.heap.size rfl (.tmp 64) (.tmp 66) 22 46 (.slice none 0 0) 24 rfl Tryd.underlying22 info46 rfl (by decide) (by omega) u5 x5_3 t112 [.slice Ao38 x9_4.length co38] (fun _ => True) (fun k_ => some k_ = (.slice Ao38 x9_4.length co38 : Value).ownBlock) rfl rfl ?aP (fun k_ hk_ => ((Kd.R_mono (ok' := fun k_ => ((fun _ => True)) k_ ∧ some k_ ≠ (u5 : Value).ownBlock) (Kd.R_apart' (HO_9.out) (Kd.S_typed HO_5.out) (by decide)) (fun k_ hk => ⟨trivial, hk.2⟩))).1 k_ hk_.symm) ?aF ?aO ?aB ?aS ?aL ?_; (case aP => exact Kd.M_row (Kd.R_mono (Kd.R_tight rfl (Kd.R_mono (ok' := fun k_ => ((fun _ => True)) k_ ∧ some k_ ≠ (u5 : Value).ownBlock) (Kd.R_apart' (HO_9.out) (Kd.S_typed HO_5.out) (by decide)) (fun k_ hk => ⟨trivial, hk.2⟩))) (fun _ h_ => h_))); (case aB => exact (bel HB)); (case aF => exact (fun _ _ => trivial)); (case aO => exact (by (with_reducible repeat (first | apply Kd.S_alloc | apply Kd.S_drewN | apply Kd.S_drew)); exact Kd.S_mono HO_5.out (fun k_ hk => ⟨trivial, fun e_ => hk e_⟩))); (case aS => exact (below_size (bel HB))); (case aL => have := LMc37.out; omega); intro v114 w40 ho hb hg hat; rw [← Ny113.out] at ho; have n0_ := Aside0.mk (blk_grown (g := gb101) (o := .cells #[.int .i64 a0_0, .int .i64 a0_1, .slice A0_2 l0_2.length c0_2] 42 (0, 0)) blc hg (Kd.S_ne HO_5.out BK101.out (by decide))); have n1_ := Aside0.mk (hb); have n2_ := Aside0.mk (ho); clear BK101; clear HB; clear HO_5; clear HO_9; have BK101 := n0_; have HB := n1_; have HO115 := n2_; clear n0_ n1_ n2_; clear ho hb hg hat))
              repeat (go_quiet (first | (go_at_call 71; (with_reducible refine (slices_Reverse_int_int.calls k4 (fun k_ => some k_ = (.slice Ao38 x9_4.length co38 : Value).ownBlock) (.slice Ao38 x9_4.length co38) x9_4 t112 w _ ?side1 ?side2 A36.out).mono ?_); (case side1 => repeat (first | (with_reducible first | exact HB.out | apply below_alloc | apply pw_below_drewN | apply below_drew1 | refine below_set ?_ GE101.out) | exact HB.out)); (case side2 => exact Kd.R_tight rfl HO_9.out); rintro e w39 ⟨rfl, hy0, hb, hkp⟩; have n0_ := Aside0.mk (Kd.S_mono (ok' := fun k_ => some k_ ≠ (.slice Ao38 x9_4.length co38 : Value).ownBlock) (Kd.S_keptB (HO_5.out) hkp (fun k_ hk_ hs_ => (hk_) hs_)) (fun k_ hk_ => hk_.1)); have n1_ := Aside0.mk (Kd.R_reok rfl hy0 (fun k_ e_ => HO_9.out.1 k_ e_)); have n2_ := Aside0.mk (blk_kept blc hkp (fun hs_ => (fun e_ => (Kd.R_ne HO_9.out BK101.out (by decide)) e_) hs_)); have n3_ := Aside0.mk (hb); clear HO_5; clear HO_9; clear BK101; clear HB; have HO_5 := n0_; have HO_9 := n1_; have BK101 := n2_; have HB := n3_; clear n0_ n1_ n2_ n3_; (try clear hb); (try clear hkp); (try clear hy0)) | ((with_reducible refine gate_builtin (b := .append) (xs := #[.tmp 64, .tmp 66]) rfl ?_); at_builtin; refine Kd.S_append (Kd.slice 3 (Kd.int .i64)) (w0 := w) w.heap.size rfl (.tmp 64) (.tmp 66) 22 46 (.slice none 0 0) 24 rfl Tryd.underlying22 info46 rfl (by decide) (by omega) u5 x5_3 t112 [.slice Ao38 x9_4.length co38] (fun _ => True) (fun k_ => some k_ = (.slice Ao38 x9_4.length co38 : Value).ownBlock) rfl rfl ?aP (fun k_ hk_ => ((Kd.R_mono (ok' := fun k_ => ((fun _ => True)) k_ ∧ some k_ ≠ (u5 : Value).ownBlock) (Kd.R_apart' (HO_9.out) (Kd.S_typed HO_5.out) (by decide)) (fun k_ hk => ⟨trivial, hk.2⟩))).1 k_ hk_.symm) ?aF ?aO ?aB ?aS ?aL ?_; (case aP => exact Kd.M_row (Kd.R_mono (Kd.R_tight rfl (Kd.R_mono (ok' := fun k_ => ((fun _ => True)) k_ ∧ some k_ ≠ (u5 : Value).ownBlock) (Kd.R_apart' (HO_9.out) (Kd.S_typed HO_5.out) (by decide)) (fun k_ hk => ⟨trivial, hk.2⟩))) (fun _ h_ => h_))); (case aB => exact (bel HB)); (case aF => exact (fun _ _ => trivial)); (case aO => exact (by (with_reducible repeat (first | apply Kd.S_alloc | apply Kd.S_drewN | apply Kd.S_drew)); exact Kd.S_mono HO_5.out (fun k_ hk => ⟨trivial, fun e_ => hk e_⟩))); (case aS => exact (below_size (bel HB))); (case aL => have := LMc37.out; omega); intro v114 w40 ho hb hg hat; rw [← Ny113.out] at ho; have n0_ := Aside0.mk (blk_grown (g := gb101) (o := .cells #[.int .i64 a0_0, .int .i64 a0_1, .slice A0_2 l0_2.length c0_2] 42 (0, 0)) blc hg (Kd.S_ne HO_5.out BK101.out (by decide))); have n1_ := Aside0.mk (hb); have n2_ := Aside0.mk (ho); clear BK101; clear HB; clear HO_5; clear HO_9; have BK101 := n0_; have HB := n1_; have HO115 := n2_; clear n0_ n1_ n2_; clear ho hb hg hat)); try go_wp2_with (first | (go_at_call 71; (with_reducible refine (slices_Reverse_int_int.calls k4 (fun k_ => some k_ = (.slice Ao38 x9_4.length co38 : Value).ownBlock) (.slice Ao38 x9_4.length co38) x9_4 t112 w _ ?side1 ?side2 A36.out).mono ?_); (case side1 => repeat (first | (with_reducible first | exact HB.out | apply below_alloc | apply pw_below_drewN | apply below_drew1 | refine below_set ?_ GE101.out) | exact HB.out)); (case side2 => exact Kd.R_tight rfl HO_9.out); rintro e w39 ⟨rfl, hy0, hb, hkp⟩; have n0_ := Aside0.mk (Kd.S_mono (ok' := fun k_ => some k_ ≠ (.slice Ao38 x9_4.length co38 : Value).ownBlock) (Kd.S_keptB (HO_5.out) hkp (fun k_ hk_ hs_ => (hk_) hs_)) (fun k_ hk_ => hk_.1)); have n1_ := Aside0.mk (Kd.R_reok rfl hy0 (fun k_ e_ => HO_9.out.1 k_ e_)); have n2_ := Aside0.mk (blk_kept blc hkp (fun hs_ => (fun e_ => (Kd.R_ne HO_9.out BK101.out (by decide)) e_) hs_)); have n3_ := Aside0.mk (hb); clear HO_5; clear HO_9; clear BK101; clear HB; have HO_5 := n0_; have HO_9 := n1_; have BK101 := n2_; have HB := n3_; clear n0_ n1_ n2_ n3_; (try clear hb); (try clear hkp); (try clear hy0)) | ((with_reducible refine gate_builtin (b := .append) (xs := #[.tmp 64, .tmp 66]) rfl ?_); at_builtin; refine Kd.S_append (Kd.slice 3 (Kd.int .i64)) (w0 := w) w.heap.size rfl (.tmp 64) (.tmp 66) 22 46 (.slice none 0 0) 24 rfl Tryd.underlying22 info46 rfl (by decide) (by omega) u5 x5_3 t112 [.slice Ao38 x9_4.length co38] (fun _ => True) (fun k_ => some k_ = (.slice Ao38 x9_4.length co38 : Value).ownBlock) rfl rfl ?aP (fun k_ hk_ => ((Kd.R_mono (ok' := fun k_ => ((fun _ => True)) k_ ∧ some k_ ≠ (u5 : Value).ownBlock) (Kd.R_apart' (HO_9.out) (Kd.S_typed HO_5.out) (by decide)) (fun k_ hk => ⟨trivial, hk.2⟩))).1 k_ hk_.symm) ?aF ?aO ?aB ?aS ?aL ?_; (case aP => exact Kd.M_row (Kd.R_mono (Kd.R_tight rfl (Kd.R_mono (ok' := fun k_ => ((fun _ => True)) k_ ∧ some k_ ≠ (u5 : Value).ownBlock) (Kd.R_apart' (HO_9.out) (Kd.S_typed HO_5.out) (by decide)) (fun k_ hk => ⟨trivial, hk.2⟩))) (fun _ h_ => h_))); (case aB => exact (bel HB)); (case aF => exact (fun _ _ => trivial)); (case aO => exact (by (with_reducible repeat (first | apply Kd.S_alloc | apply Kd.S_drewN | apply Kd.S_drew)); exact Kd.S_mono HO_5.out (fun k_ hk => ⟨trivial, fun e_ => hk e_⟩))); (case aS => exact (below_size (bel HB))); (case aL => have := LMc37.out; omega); intro v114 w40 ho hb hg hat; rw [← Ny113.out] at ho; have n0_ := Aside0.mk (blk_grown (g := gb101) (o := .cells #[.int .i64 a0_0, .int .i64 a0_1, .slice A0_2 l0_2.length c0_2] 42 (0, 0)) blc hg (Kd.S_ne HO_5.out BK101.out (by decide))); have n1_ := Aside0.mk (hb); have n2_ := Aside0.mk (ho); clear BK101; clear HB; clear HO_5; clear HO_9; have BK101 := n0_; have HB := n1_; have HO115 := n2_; clear n0_ n1_ n2_; clear ho hb hg hat)))
              go_roundg k4
              case measure => have := HJ2.out; have := HJ8.out; have := HK3.out; have := HK4.out; omega
              case rel => exact ⟨(y113), (wrap64 (x27_3 + 1)), (by first | rfl | (simp; done) | (simp [*]; done)), H', ⟨by have := HJ2.out; have := HJ8.out; have := HK3.out; have := HK4.out; omega⟩, ⟨by (with_reducible repeat (first | apply Kd.S_alloc | apply Kd.S_drewN | apply Kd.S_drew)); (first | exact HO115.out | exact R_any HO115.out)⟩, ⟨blc⟩, ⟨bel HB⟩⟩
             ·rw [if_neg c37] at H
              exact absurd H (by simp)
            ·rw [if_neg c35] at H
             have c35b0 : (a1 == 100) = false := beq_eq_false_iff_ne.mpr c35
             have c35b1 : (a1 != 100) = true := bne_iff_ne.mpr c35
             by_cases c41 : x5_3.length < 5864062014805
             ·rw [if_pos c41] at H
              have LMc41 := Aside0.mk c41
              clear c41
              obtain ⟨y116, hy116⟩ : ∃ y_ : List (List Int), y_ = (x5_3 ++ [x9_4]) := ⟨_, rfl⟩
              replace H : (impl_tray_lines.l0 k4 a1 y116 x7_8 x6_8 (wrap64 (x27_3 + 1)) a0_0 a0_1 l0_2) = some r := rH hy116 H
              have Ny116 := Aside0.mk hy116
              clear hy116
              have H' := Aside0.mk H
              clear H
              obtain ⟨Ao43, co43, eo43⟩ := Kd.R_slice HO_9.out
              subst eo43
              go_wp2_with (first | ((with_reducible refine gate_builtin (b := .append) (xs := #[.tmp 64, .tmp 66]) rfl ?_); at_builtin; refine Kd.S_append (Kd.slice 3 (Kd.int .i64)) (w0 := w) w.heap.size rfl (.tmp 64) (.tmp 66) 22 46 (.slice none 0 0) 24 rfl Tryd.underlying22 info46 rfl (by decide) (by omega) u5 x5_3 x9_4 [.slice Ao43 x9_4.length co43] (fun _ => True) (fun k_ => some k_ = (.slice Ao43 x9_4.length co43 : Value).ownBlock) rfl rfl ?aP (fun k_ hk_ => ((Kd.R_mono (ok' := fun k_ => ((fun _ => True)) k_ ∧ some k_ ≠ (u5 : Value).ownBlock) (Kd.R_apart' (HO_9.out) (Kd.S_typed HO_5.out) (by decide)) (fun k_ hk => ⟨trivial, hk.2⟩))).1 k_ hk_.symm) ?aF ?aO ?aB ?aS ?aL ?_; (case aP => exact Kd.M_row (Kd.R_mono (Kd.R_tight rfl (Kd.R_mono (ok' := fun k_ => ((fun _ => True)) k_ ∧ some k_ ≠ (u5 : Value).ownBlock) (Kd.R_apart' (HO_9.out) (Kd.S_typed HO_5.out) (by decide)) (fun k_ hk => ⟨trivial, hk.2⟩))) (fun _ h_ => h_))); (case aB => exact (bel HB)); (case aF => exact (fun _ _ => trivial)); (case aO => exact (by (with_reducible repeat (first | apply Kd.S_alloc | apply Kd.S_drewN | apply Kd.S_drew)); exact Kd.S_mono HO_5.out (fun k_ hk => ⟨trivial, fun e_ => hk e_⟩))); (case aS => exact (below_size (bel HB))); (case aL => have := LMc41.out; omega); intro v117 w42 ho hb hg hat; rw [← Ny116.out] at ho; have n0_ := Aside0.mk (blk_grown (g := gb101) (o := .cells #[.int .i64 a0_0, .int .i64 a0_1, .slice A0_2 l0_2.length c0_2] 42 (0, 0)) blc hg (Kd.S_ne HO_5.out BK101.out (by decide))); have n1_ := Aside0.mk (hb); have n2_ := Aside0.mk (ho); clear BK101; clear HB; clear HO_5; clear HO_9; have BK101 := n0_; have HB := n1_; have HO118 := n2_; clear n0_ n1_ n2_; clear ho hb hg hat))
              repeat (go_quiet (first | ((with_reducible refine gate_builtin (b := .append) (xs := #[.tmp 64, .tmp 66]) rfl ?_); at_builtin; refine Kd.S_append (Kd.slice 3 (Kd.int .i64)) (w0 := w) w.heap.size rfl (.tmp 64) (.tmp 66) 22 46 (.slice none 0 0) 24 rfl Tryd.underlying22 info46 rfl (by decide) (by omega) u5 x5_3 x9_4 [.slice Ao43 x9_4.length co43] (fun _ => True) (fun k_ => some k_ = (.slice Ao43 x9_4.length co43 : Value).ownBlock) rfl rfl ?aP (fun k_ hk_ => ((Kd.R_mono (ok' := fun k_ => ((fun _ => True)) k_ ∧ some k_ ≠ (u5 : Value).ownBlock) (Kd.R_apart' (HO_9.out) (Kd.S_typed HO_5.out) (by decide)) (fun k_ hk => ⟨trivial, hk.2⟩))).1 k_ hk_.symm) ?aF ?aO ?aB ?aS ?aL ?_; (case aP => exact Kd.M_row (Kd.R_mono (Kd.R_tight rfl (Kd.R_mono (ok' := fun k_ => ((fun _ => True)) k_ ∧ some k_ ≠ (u5 : Value).ownBlock) (Kd.R_apart' (HO_9.out) (Kd.S_typed HO_5.out) (by decide)) (fun k_ hk => ⟨trivial, hk.2⟩))) (fun _ h_ => h_))); (case aB => exact (bel HB)); (case aF => exact (fun _ _ => trivial)); (case aO => exact (by (with_reducible repeat (first | apply Kd.S_alloc | apply Kd.S_drewN | apply Kd.S_drew)); exact Kd.S_mono HO_5.out (fun k_ hk => ⟨trivial, fun e_ => hk e_⟩))); (case aS => exact (below_size (bel HB))); (case aL => have := LMc41.out; omega); intro v117 w42 ho hb hg hat; rw [← Ny116.out] at ho; have n0_ := Aside0.mk (blk_grown (g := gb101) (o := .cells #[.int .i64 a0_0, .int .i64 a0_1, .slice A0_2 l0_2.length c0_2] 42 (0, 0)) blc hg (Kd.S_ne HO_5.out BK101.out (by decide))); have n1_ := Aside0.mk (hb); have n2_ := Aside0.mk (ho); clear BK101; clear HB; clear HO_5; clear HO_9; have BK101 := n0_; have HB := n1_; have HO118 := n2_; clear n0_ n1_ n2_; clear ho hb hg hat)); try go_wp2_with (first | ((with_reducible refine gate_builtin (b := .append) (xs := #[.tmp 64, .tmp 66]) rfl ?_); at_builtin; refine Kd.S_append (Kd.slice 3 (Kd.int .i64)) (w0 := w) w.heap.size rfl (.tmp 64) (.tmp 66) 22 46 (.slice none 0 0) 24 rfl Tryd.underlying22 info46 rfl (by decide) (by omega) u5 x5_3 x9_4 [.slice Ao43 x9_4.length co43] (fun _ => True) (fun k_ => some k_ = (.slice Ao43 x9_4.length co43 : Value).ownBlock) rfl rfl ?aP (fun k_ hk_ => ((Kd.R_mono (ok' := fun k_ => ((fun _ => True)) k_ ∧ some k_ ≠ (u5 : Value).ownBlock) (Kd.R_apart' (HO_9.out) (Kd.S_typed HO_5.out) (by decide)) (fun k_ hk => ⟨trivial, hk.2⟩))).1 k_ hk_.symm) ?aF ?aO ?aB ?aS ?aL ?_; (case aP => exact Kd.M_row (Kd.R_mono (Kd.R_tight rfl (Kd.R_mono (ok' := fun k_ => ((fun _ => True)) k_ ∧ some k_ ≠ (u5 : Value).ownBlock) (Kd.R_apart' (HO_9.out) (Kd.S_typed HO_5.out) (by decide)) (fun k_ hk => ⟨trivial, hk.2⟩))) (fun _ h_ => h_))); (case aB => exact (bel HB)); (case aF => exact (fun _ _ => trivial)); (case aO => exact (by (with_reducible repeat (first | apply Kd.S_alloc | apply Kd.S_drewN | apply Kd.S_drew)); exact Kd.S_mono HO_5.out (fun k_ hk => ⟨trivial, fun e_ => hk e_⟩))); (case aS => exact (below_size (bel HB))); (case aL => have := LMc41.out; omega); intro v117 w42 ho hb hg hat; rw [← Ny116.out] at ho; have n0_ := Aside0.mk (blk_grown (g := gb101) (o := .cells #[.int .i64 a0_0, .int .i64 a0_1, .slice A0_2 l0_2.length c0_2] 42 (0, 0)) blc hg (Kd.S_ne HO_5.out BK101.out (by decide))); have n1_ := Aside0.mk (hb); have n2_ := Aside0.mk (ho); clear BK101; clear HB; clear HO_5; clear HO_9; have BK101 := n0_; have HB := n1_; have HO118 := n2_; clear n0_ n1_ n2_; clear ho hb hg hat)))
              go_roundg k4
              case measure => have := HJ2.out; have := HJ8.out; have := HK3.out; have := HK4.out; omega
              case rel => exact ⟨(y116), (wrap64 (x27_3 + 1)), (by first | rfl | (simp; done) | (simp [*]; done)), H', ⟨by have := HJ2.out; have := HJ8.out; have := HK3.out; have := HK4.out; omega⟩, ⟨by (with_reducible repeat (first | apply Kd.S_alloc | apply Kd.S_drewN | apply Kd.S_drew)); (first | exact HO118.out | exact R_any HO118.out)⟩, ⟨blc⟩, ⟨bel HB⟩⟩
             ·rw [if_neg c41] at H
              exact absurd H (by simp)
       ·rw [if_neg c12] at H
        have c12b0 : decide (x27_3 < x6_8) = false := decide_eq_false c12
        clear c12
        obtain rfl := Option.some.inj H
        go_wp2
        repeat (go_quiet (fail); try go_wp2)
        go_ret
        exact ⟨_, by first | rfl | (simp [errW_none, errW_some] <;> rfl) | (simp [*, errW_none, errW_some] <;> rfl), by (with_reducible repeat (first | apply Kd.S_alloc | apply Kd.S_drewN | apply Kd.S_drew)); (first | exact HO_5.out | exact R_any HO_5.out), bel HB⟩
end Go.Proofs.YtcpeldgnabfdmaaDoor.Q
end
