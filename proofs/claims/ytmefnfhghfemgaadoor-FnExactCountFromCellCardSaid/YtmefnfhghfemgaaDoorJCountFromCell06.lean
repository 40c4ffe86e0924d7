/- Texts of this claim, joined. -/
import Derived.Test.YtmefnfhghfemgaaDoorJCountFromCell01
import Derived.Test.YtmefnfhghfemgaaDoorJCountFromCell02
import Derived.Test.YtmefnfhghfemgaaDoorJCountFromCell05
import Derived.Test.YtmefnfhghfemgaaDoorJCountFromCell03
import Derived.RangeFuncBox
import Derived.WalkKit
import Derived.Laws.AppendOwn
import Derived.Shelf.SlicesE.Clone
import Derived.RangeFuncLeaves
import Derived.RangeFuncNested
import Derived.RangeFuncBound
import Derived.RangeFuncCalls
import Derived.Shelf.Abstract
import Derived.OwnWalkIn
import Derived.TacticsInMore
import Derived.LoopNIn
import Derived.LoopIn
import Derived.Maps.AppendAt
import Derived.Laws.BytesArg
import Derived.Test.YtmefnfhghfemgaaDoorJCountFromCell04
import Derived.Maps.OwnOps
import Derived.Maps.OwnSet
import Derived.Maps.Views
import Derived.Maps.RangeWalk
set_option linter.unusedVariables false
set_option linter.unusedSimpArgs false
set_option linter.unusedSectionVars false
section
namespace Go.Proofs.YtmefnfhghfemgaaDoor.Q
open Go.RowKit Go.Proofs.YtmefnfhghfemgaaDoorW.PrintWords Go.Proofs.YtmefnfhghfemgaaDoorW.PrintLast Go.Proofs.YtmefnfhghfemgaaDoorW.PrintMore
attribute [local go_sem] max2_int min2_int max_two min_two max_three min_three max_four min_four
set_option linter.unusedVariables false
set_option linter.unusedSimpArgs false
def spec_buNext.l0 : Nat → List Int → Int → Int → Int → Int → List Int → Option (Bool)
 | 0, _, _, _, _, _, _ => none
 | k + 1, x9, x10, x11, x102000, x102001, x102002 => if x11 < x10 then (if 0 ≤ x11 then (if x11 < (x9.length : Int) then (if 0 ≤ (rd x9 x11) then (if (rd x9 x11) < (x102002.length : Int) then ((spec_tyBall.f (rd x102002 (rd x9 x11))).bind fun t107 => (if t107 = true then (some true) else (spec_buNext.l0 k x9 x10 (wrap64 (x11 + 1)) x102000 x102001 x102002))) else (none)) else (none)) else (none)) else (none)) else (some false)
def spec_buNext.f (k : Nat) (a0_0 : Int) (a0_1 : Int) (l0_2 : List Int) (a1 : Int) : Option (Bool) := (spec_tyNear.f k a0_0 a0_1 l0_2 a1).bind fun t102 => (spec_buNext.l0 k t102 (t102.length : Int) 0 a0_0 a0_1 l0_2)
set_option maxHeartbeats 8000000 in
set_option maxRecDepth 100000 in
theorem spec_buNext.calls (k : Nat) (a0_0 : Int) (a0_1 : Int) (A0_2 : Option Addr) (c0_2 : Nat) (l0_2 : List Int) (a1 : Int) (r : Bool) (w : World) (hr0_2 : Kd.C (Kd.int .u8) w A0_2 l0_2.length l0_2) (hc0_2 : l0_2.length ≤ c0_2) (h : spec_buNext.f k a0_0 a0_1 l0_2 a1 = some r) :
  Calls Tryd.prog 110 #[.agg #[.int .i64 a0_0, .int .i64 a0_1, .slice A0_2 l0_2.length c0_2], .int .i64 a1] w fun e w' => e = .returned (.bool r) ∧ Below w.heap.size w w' := by
 have hu40 := Tryd.underlying40
 have HR0_2 := Aside0.mk hr0_2
 have HC0_2 := Aside0.mk hc0_2
 clear hr0_2 hc0_2
 have HB := Aside0.mk (Below.refl w.heap.size w)
 have H : ((spec_tyNear.f k a0_0 a0_1 l0_2 a1).bind fun t102 => (spec_buNext.l0 k t102 (t102.length : Int) 0 a0_0 a0_1 l0_2)) = some r := h
 clear h
 replace H := Option.bind_eq_some_iff.mp H
 obtain ⟨t102, A30, H⟩ := H
 replace H : (spec_buNext.l0 k t102 (t102.length : Int) 0 a0_0 a0_1 l0_2) = some r := H
 have A3 := Aside0.mk A30
 clear A30
 have H' := Aside0.mk H
 clear H
 go_enter Tryd.func110, Tryd.ntmps110
 go_wp2_with (first | ((with_reducible refine gate_dst (N := 2) rfl ?_); refine boxE (N := 2) (cs := #[.int .i64 a0_0, .int .i64 a0_1, .slice A0_2 l0_2.length c0_2]) (t := 40) ?_; intro gb101 hg w4 hbox hb; have n0_ := Aside0.mk (below_step (bel HB) hb); have n1_ := Aside0.mk (hbox); have n2_ := Aside0.mk (gsz hg (bel HB)); have n3_ := Aside0.mk (gsz hg (bel HB)); clear HB; have HB := n0_; have BK101 := n1_; have GW101 := n2_; have GE101 := n3_; clear n0_ n1_ n2_ n3_; clear hb hbox hg; have hcz5_0 : w4.cell? ⟨gb101, 0, none⟩ = some (.int .i64 a0_0) := (blk_cell BK101.out 0).trans rfl; have hcz5_1 : w4.cell? ⟨gb101, 1, none⟩ = some (.int .i64 a0_1) := (blk_cell BK101.out 1).trans rfl; have hcz5_2 : w4.cell? ⟨gb101, 2, none⟩ = some (.slice A0_2 l0_2.length c0_2) := (blk_cell BK101.out 2).trans rfl; have hfz5_0 := blk_frozen BK101.out 0; have hfz5_1 := blk_frozen BK101.out 1; have hfz5_2 := blk_frozen BK101.out 2) | ((with_reducible refine gate_callee (f := 84) rfl ?_); refine gcall (some 9) Tryd.func84 #[.agg #[.int .i64 a0_0, .int .i64 a0_1, .slice A0_2 l0_2.length c0_2], .int .i64 a1] rfl ?_; (with_reducible refine (spec_tyNear.calls k a0_0 a0_1 _ _ l0_2 a1 t102 _ ?side1 ?side2 A3.out).mono ?_); (case side1 => repeat (first | exact (Kd.C_below HR0_2.out HB.out) | (with_reducible refine Kd.C_alloc ?_ _) | (with_reducible refine Kd.C_drewN ?_ _) | (with_reducible refine Kd.C_drew ?_))); (case side2 => exact HC0_2.out); rintro e w6 ⟨v103, rfl, ho0, hb⟩; refine ⟨_, rfl, ?_⟩; have n0_ := Aside0.mk (Kd.R_lower ho0 (below_size (bel HB))); have n1_ := Aside0.mk (blk_below (g := gb101) (o := .cells #[.int .i64 a0_0, .int .i64 a0_1, .slice A0_2 l0_2.length c0_2] 40 (0, 0)) blc hb); have n2_ := Aside0.mk (below_step (bel HB) hb); clear BK101; clear HB; have HO104 := n0_; have BK101 := n1_; have HB := n2_; clear n0_ n1_ n2_; (try clear hb); (try clear hb2); (try clear hk); (try clear hi); (try clear ho0); obtain ⟨Ao7, co7, eo7⟩ := Kd.R_slice HO104.out; subst eo7))
 go_loopg [11] k (fun kq v11 w' => ∃ (x11_1 : Int), v11 = .int .i64 x11_1 ∧ Aside0 (spec_buNext.l0 kq t102 (t102.length : Int) x11_1 a0_0 a0_1 l0_2 = some r) ∧ Aside0 (kq ≤ k) ∧ Aside0 (Kd.R (Kd.int .i64) 3 w' w.heap.size (fun _ => True) (.slice Ao7 t102.length co7) t102) ∧ Aside0 (w'.heap[gb101]? = some (.cells #[.int .i64 a0_0, .int .i64 a0_1, (.slice A0_2 l0_2.length c0_2)] 40 (0, 0))) ∧ Aside0 (Below w.heap.size w w'))
 case atStart => exact ⟨(0), (by first | rfl | (simp; done) | (simp [*]; done)), H', ⟨Nat.le_refl _⟩, ⟨rch HO104⟩, ⟨blc⟩, ⟨bel HB⟩⟩
 case round =>
  clear H'
  try clear c1
  try clear p2
  try clear hcz5_0
  try clear hcz5_1
  try clear hcz5_2
  try clear hfz5_0
  try clear hfz5_1
  try clear hfz5_2
  obtain ⟨x11_1, rfl, HA, HK1, HO_9, BK101, HB⟩ := hrel
  cases gk with
  | zero => exact absurd HA.out (by simp [spec_buNext.l0])
  | succ k1 =>
   have H := HA.out
   clear HA
   simp only [spec_buNext.l0] at H
   by_cases c8 : x11_1 < (t102.length : Int)
   ·rw [if_pos c8] at H
    have c8b0 : decide (x11_1 < (t102.length : Int)) = true := decide_eq_true c8
    clear c8
    by_cases c9 : 0 ≤ x11_1
    ·rw [if_pos c9] at H
     have c9b0 : decide (0 ≤ x11_1) = true := decide_eq_true c9
     clear c9
     by_cases c10 : x11_1 < (t102.length : Int)
     ·rw [if_pos c10] at H
      have c10b0 : decide (x11_1 < (t102.length : Int)) = true := decide_eq_true c10
      clear c10
      by_cases c11 : 0 ≤ (rd t102 x11_1)
      ·rw [if_pos c11] at H
       have c11b0 : decide (0 ≤ (rd t102 x11_1)) = true := decide_eq_true c11
       clear c11
       by_cases c12 : (rd t102 x11_1) < (l0_2.length : Int)
       ·rw [if_pos c12] at H
        have c12b0 : decide ((rd t102 x11_1) < (l0_2.length : Int)) = true := decide_eq_true c12
        clear c12
        replace H := Option.bind_eq_some_iff.mp H
        obtain ⟨t107, A130, H⟩ := H
        replace H : (if t107 = true then (some true) else (spec_buNext.l0 k1 t102 (t102.length : Int) (wrap64 (x11_1 + 1)) a0_0 a0_1 l0_2)) = some r := H
        have A13 := Aside0.mk A130
        clear A130
        by_cases c14 : t107 = true
        ·subst c14
         have H1 : (some true) = some r := by rw [if_pos rfl] at H; exact H
         clear H
         have H := H1
         clear H1
         obtain rfl := Option.some.inj H
         have p105 : 0 ≤ (x11_1 : Int) := of_decide_eq_true (by first | (with_reducible assumption) | assumption)
         have q105 : x11_1 < (t102.length : Int) := of_decide_eq_true (by first | (with_reducible assumption) | assumption)
         obtain ⟨ad105, e105, hx105_0⟩ := Kd.at_int (Kd.R_reads' HO_9.out).2.2 x11_1 p105 q105
         cases e105
         replace p105 := eq_true p105
         replace q105 := eq_true q105
         have hcz15_0 : wr.cell? ⟨gb101, 0, none⟩ = some (.int .i64 a0_0) := (blk_cell BK101.out 0).trans rfl
         have hcz15_1 : wr.cell? ⟨gb101, 1, none⟩ = some (.int .i64 a0_1) := (blk_cell BK101.out 1).trans rfl
         have hcz15_2 : wr.cell? ⟨gb101, 2, none⟩ = some (.slice A0_2 l0_2.length c0_2) := (blk_cell BK101.out 2).trans rfl
         have hfz15_0 := blk_frozen BK101.out 0
         have hfz15_1 := blk_frozen BK101.out 1
         have hfz15_2 := blk_frozen BK101.out 2
         have p106 : 0 ≤ ((rd t102 x11_1) : Int) := of_decide_eq_true (by first | (with_reducible assumption) | assumption)
         have q106 : (rd t102 x11_1) < (l0_2.length : Int) := of_decide_eq_true (by first | (with_reducible assumption) | assumption)
         obtain ⟨ad106, e106, hx106_0⟩ := Kd.at_int HR0_2.out (rd t102 x11_1) p106 q106
         cases e106
         (try replace hx106_0 := (HB.out.cell (World.block_lt_of_cell? w _ hx106_0)).trans hx106_0)
         replace p106 := eq_true p106
         replace q106 := eq_true q106
         go_wp2_with (first | ((with_reducible refine gate_callee (f := 70) rfl ?_); refine gcall (some 20) Tryd.func70 #[.int .u8 (rd l0_2 (rd t102 x11_1))] rfl ?_; (with_reducible refine (spec_tyBall.calls (rd l0_2 (rd t102 x11_1)) true _ A13.out).mono ?_); rintro e w' ⟨rfl, ⟨nd, rfl⟩⟩; refine ⟨_, rfl, ?_⟩))
         go_ret
         exact ⟨by first | rfl | (simp [errW_none, errW_some] <;> rfl) | (simp [*, errW_none, errW_some] <;> rfl), bel HB⟩
        ·replace c14 := Bool.eq_false_iff.mpr c14
         subst c14
         have H1 : (spec_buNext.l0 k1 t102 (t102.length : Int) (wrap64 (x11_1 + 1)) a0_0 a0_1 l0_2) = some r := by rw [if_neg (show ¬ (false = true) by decide)] at H; exact H
         clear H
         have H := H1
         clear H1
         have H' := Aside0.mk H
         clear H
         have p105 : 0 ≤ (x11_1 : Int) := of_decide_eq_true (by first | (with_reducible assumption) | assumption)
         have q105 : x11_1 < (t102.length : Int) := of_decide_eq_true (by first | (with_reducible assumption) | assumption)
         obtain ⟨ad105, e105, hx105_0⟩ := Kd.at_int (Kd.R_reads' HO_9.out).2.2 x11_1 p105 q105
         cases e105
         replace p105 := eq_true p105
         replace q105 := eq_true q105
         have hcz16_0 : wr.cell? ⟨gb101, 0, none⟩ = some (.int .i64 a0_0) := (blk_cell BK101.out 0).trans rfl
         have hcz16_1 : wr.cell? ⟨gb101, 1, none⟩ = some (.int .i64 a0_1) := (blk_cell BK101.out 1).trans rfl
         have hcz16_2 : wr.cell? ⟨gb101, 2, none⟩ = some (.slice A0_2 l0_2.length c0_2) := (blk_cell BK101.out 2).trans rfl
         have hfz16_0 := blk_frozen BK101.out 0
         have hfz16_1 := blk_frozen BK101.out 1
         have hfz16_2 := blk_frozen BK101.out 2
         have p106 : 0 ≤ ((rd t102 x11_1) : Int) := of_decide_eq_true (by first | (with_reducible assumption) | assumption)
         have q106 : (rd t102 x11_1) < (l0_2.length : Int) := of_decide_eq_true (by first | (with_reducible assumption) | assumption)
         obtain ⟨ad106, e106, hx106_0⟩ := Kd.at_int HR0_2.out (rd t102 x11_1) p106 q106
         cases e106
         (try replace hx106_0 := (HB.out.cell (World.block_lt_of_cell? w _ hx106_0)).trans hx106_0)
         replace p106 := eq_true p106
         replace q106 := eq_true q106
         go_wp2_with (first | ((with_reducible refine gate_callee (f := 70) rfl ?_); refine gcall (some 20) Tryd.func70 #[.int .u8 (rd l0_2 (rd t102 x11_1))] rfl ?_; (with_reducible refine (spec_tyBall.calls (rd l0_2 (rd t102 x11_1)) false _ A13.out).mono ?_); rintro e w' ⟨rfl, ⟨nd, rfl⟩⟩; refine ⟨_, rfl, ?_⟩))
         go_roundg k1
         case measure => have := HK1.out; omega
         case rel => exact ⟨(wrap64 (x11_1 + 1)), (by first | rfl | (simp; done) | (simp [*]; done)), H', ⟨by have := HK1.out; omega⟩, ⟨rch HO_9⟩, ⟨blc⟩, ⟨bel HB⟩⟩
       ·rw [if_neg c12] at H
        exact absurd H (by simp)
      ·rw [if_neg c11] at H
       exact absurd H (by simp)
     ·rw [if_neg c10] at H
      exact absurd H (by simp)
    ·rw [if_neg c9] at H
     exact absurd H (by simp)
   ·rw [if_neg c8] at H
    have c8b0 : decide (x11_1 < (t102.length : Int)) = false := decide_eq_false c8
    clear c8
    obtain rfl := Option.some.inj H
    go_wp2
    go_ret
    exact ⟨by first | rfl | (simp [errW_none, errW_some] <;> rfl) | (simp [*, errW_none, errW_some] <;> rfl), bel HB⟩
def spec_buCan.f (k : Nat) (a0_0 : Int) (a0_1 : Int) (l0_2 : List Int) (a1 : Int) (a2 : Int) : Option (Bool) := (spec_buFree.f k a0_0 a0_1 l0_2 a1 a2).bind fun t102 => (if t102 = true then ((spec_buNext.f k a0_0 a0_1 l0_2 a1).bind fun t103 => (some t103)) else (some false))
set_option maxHeartbeats 8000000 in
set_option maxRecDepth 100000 in
theorem spec_buCan.calls (k : Nat) (a0_0 : Int) (a0_1 : Int) (A0_2 : Option Addr) (c0_2 : Nat) (l0_2 : List Int) (a1 : Int) (a2 : Int) (r : Bool) (w : World) (hr0_2 : Kd.C (Kd.int .u8) w A0_2 l0_2.length l0_2) (hc0_2 : l0_2.length ≤ c0_2) (h : spec_buCan.f k a0_0 a0_1 l0_2 a1 a2 = some r) :
  Calls Tryd.prog 71 #[.agg #[.int .i64 a0_0, .int .i64 a0_1, .slice A0_2 l0_2.length c0_2], .int .i64 a1, .int .i64 a2] w fun e w' => e = .returned (.bool r) ∧ Below w.heap.size w w' := by
 have hu40 := Tryd.underlying40
 have HR0_2 := Aside0.mk hr0_2
 have HC0_2 := Aside0.mk hc0_2
 clear hr0_2 hc0_2
 have HB := Aside0.mk (Below.refl w.heap.size w)
 have H : ((spec_buFree.f k a0_0 a0_1 l0_2 a1 a2).bind fun t102 => (if t102 = true then ((spec_buNext.f k a0_0 a0_1 l0_2 a1).bind fun t103 => (some t103)) else (some false))) = some r := h
 clear h
 replace H := Option.bind_eq_some_iff.mp H
 obtain ⟨t102, A40, H⟩ := H
 replace H : (if t102 = true then ((spec_buNext.f k a0_0 a0_1 l0_2 a1).bind fun t103 => (some t103)) else (some false)) = some r := H
 have A4 := Aside0.mk A40
 clear A40
 by_cases c5 : t102 = true
 ·subst c5
  have H1 : ((spec_buNext.f k a0_0 a0_1 l0_2 a1).bind fun t103 => (some t103)) = some r := by rw [if_pos rfl] at H; exact H
  clear H
  have H := H1
  clear H1
  replace H := Option.bind_eq_some_iff.mp H
  obtain ⟨t103, A60, H⟩ := H
  replace H : (some t103) = some r := H
  have A6 := Aside0.mk A60
  clear A60
  obtain rfl := Option.some.inj H
  go_enter Tryd.func71, Tryd.ntmps71
  go_wp2_with (first | ((with_reducible refine gate_dst (N := 3) rfl ?_); refine boxE (N := 3) (cs := #[.int .i64 a0_0, .int .i64 a0_1, .slice A0_2 l0_2.length c0_2]) (t := 40) ?_; intro gb101 hg w7 hbox hb; have n0_ := Aside0.mk (below_step (bel HB) hb); have n1_ := Aside0.mk (hbox); have n2_ := Aside0.mk (gsz hg (bel HB)); have n3_ := Aside0.mk (gsz hg (bel HB)); clear HB; have HB := n0_; have BK101 := n1_; have GW101 := n2_; have GE101 := n3_; clear n0_ n1_ n2_ n3_; clear hb hbox hg; have hcz8_0 : w7.cell? ⟨gb101, 0, none⟩ = some (.int .i64 a0_0) := (blk_cell BK101.out 0).trans rfl; have hcz8_1 : w7.cell? ⟨gb101, 1, none⟩ = some (.int .i64 a0_1) := (blk_cell BK101.out 1).trans rfl; have hcz8_2 : w7.cell? ⟨gb101, 2, none⟩ = some (.slice A0_2 l0_2.length c0_2) := (blk_cell BK101.out 2).trans rfl; have hfz8_0 := blk_frozen BK101.out 0; have hfz8_1 := blk_frozen BK101.out 1; have hfz8_2 := blk_frozen BK101.out 2) | ((with_reducible refine gate_callee (f := 109) rfl ?_); refine gcall (some 10) Tryd.func109 #[.agg #[.int .i64 a0_0, .int .i64 a0_1, .slice A0_2 l0_2.length c0_2], .int .i64 a1, .int .i64 a2] rfl ?_; (with_reducible refine (spec_buFree.calls k a0_0 a0_1 _ _ l0_2 a1 a2 true _ ?side1 ?side2 A4.out).mono ?_); (case side1 => repeat (first | exact (Kd.C_below HR0_2.out HB.out) | (with_reducible refine Kd.C_alloc ?_ _) | (with_reducible refine Kd.C_drewN ?_ _) | (with_reducible refine Kd.C_drew ?_))); (case side2 => exact HC0_2.out); rintro e w9 ⟨rfl, hb⟩; refine ⟨_, rfl, ?_⟩; have n0_ := Aside0.mk (blk_below (g := gb101) (o := .cells #[.int .i64 a0_0, .int .i64 a0_1, .slice A0_2 l0_2.length c0_2] 40 (0, 0)) blc hb); have n1_ := Aside0.mk (below_step (bel HB) hb); clear BK101; clear HB; have BK101 := n0_; have HB := n1_; clear n0_ n1_; (try clear hb); (try clear hb2); (try clear hk); (try clear hi); have hcz10_0 : w9.cell? ⟨gb101, 0, none⟩ = some (.int .i64 a0_0) := (blk_cell BK101.out 0).trans rfl; have hcz10_1 : w9.cell? ⟨gb101, 1, none⟩ = some (.int .i64 a0_1) := (blk_cell BK101.out 1).trans rfl; have hcz10_2 : w9.cell? ⟨gb101, 2, none⟩ = some (.slice A0_2 l0_2.length c0_2) := (blk_cell BK101.out 2).trans rfl; have hfz10_0 := blk_frozen BK101.out 0; have hfz10_1 := blk_frozen BK101.out 1; have hfz10_2 := blk_frozen BK101.out 2) | (go_at_call 110; (with_reducible refine (spec_buNext.calls k a0_0 a0_1 _ _ l0_2 a1 t103 _ ?side1 ?side2 A6.out).mono ?_); (case side1 => repeat (first | exact (Kd.C_below HR0_2.out HB.out) | (with_reducible refine Kd.C_alloc ?_ _) | (with_reducible refine Kd.C_drewN ?_ _) | (with_reducible refine Kd.C_drew ?_))); (case side2 => exact HC0_2.out); rintro e w11 ⟨rfl, hb⟩; have n0_ := Aside0.mk (blk_below (g := gb101) (o := .cells #[.int .i64 a0_0, .int .i64 a0_1, .slice A0_2 l0_2.length c0_2] 40 (0, 0)) blc hb); have n1_ := Aside0.mk (below_step (bel HB) hb); clear BK101; clear HB; have BK101 := n0_; have HB := n1_; clear n0_ n1_; (try clear hb); (try clear hb2); (try clear hk); (try clear hi)))
  go_ret
  exact ⟨by first | rfl | (simp [errW_none, errW_some] <;> rfl) | (simp [*, errW_none, errW_some] <;> rfl), bel HB⟩
 ·replace c5 := Bool.eq_false_iff.mpr c5
  subst c5
  have H1 : (some false) = some r := by rw [if_neg (show ¬ (false = true) by decide)] at H; exact H
  clear H
  have H := H1
  clear H1
  obtain rfl := Option.some.inj H
  go_enter Tryd.func71, Tryd.ntmps71
  go_wp2_with (first | ((with_reducible refine gate_dst (N := 3) rfl ?_); refine boxE (N := 3) (cs := #[.int .i64 a0_0, .int .i64 a0_1, .slice A0_2 l0_2.length c0_2]) (t := 40) ?_; intro gb101 hg w12 hbox hb; have n0_ := Aside0.mk (below_step (bel HB) hb); have n1_ := Aside0.mk (hbox); have n2_ := Aside0.mk (gsz hg (bel HB)); have n3_ := Aside0.mk (gsz hg (bel HB)); clear HB; have HB := n0_; have BK101 := n1_; have GW101 := n2_; have GE101 := n3_; clear n0_ n1_ n2_ n3_; clear hb hbox hg; have hcz13_0 : w12.cell? ⟨gb101, 0, none⟩ = some (.int .i64 a0_0) := (blk_cell BK101.out 0).trans rfl; have hcz13_1 : w12.cell? ⟨gb101, 1, none⟩ = some (.int .i64 a0_1) := (blk_cell BK101.out 1).trans rfl; have hcz13_2 : w12.cell? ⟨gb101, 2, none⟩ = some (.slice A0_2 l0_2.length c0_2) := (blk_cell BK101.out 2).trans rfl; have hfz13_0 := blk_frozen BK101.out 0; have hfz13_1 := blk_frozen BK101.out 1; have hfz13_2 := blk_frozen BK101.out 2) | ((with_reducible refine gate_callee (f := 109) rfl ?_); refine gcall (some 10) Tryd.func109 #[.agg #[.int .i64 a0_0, .int .i64 a0_1, .slice A0_2 l0_2.length c0_2], .int .i64 a1, .int .i64 a2] rfl ?_; (with_reducible refine (spec_buFree.calls k a0_0 a0_1 _ _ l0_2 a1 a2 false _ ?side1 ?side2 A4.out).mono ?_); (case side1 => repeat (first | exact (Kd.C_below HR0_2.out HB.out) | (with_reducible refine Kd.C_alloc ?_ _) | (with_reducible refine Kd.C_drewN ?_ _) | (with_reducible refine Kd.C_drew ?_))); (case side2 => exact HC0_2.out); rintro e w14 ⟨rfl, hb⟩; refine ⟨_, rfl, ?_⟩; have n0_ := Aside0.mk (blk_below (g := gb101) (o := .cells #[.int .i64 a0_0, .int .i64 a0_1, .slice A0_2 l0_2.length c0_2] 40 (0, 0)) blc hb); have n1_ := Aside0.mk (below_step (bel HB) hb); clear BK101; clear HB; have BK101 := n0_; have HB := n1_; clear n0_ n1_; (try clear hb); (try clear hb2); (try clear hk); (try clear hi)))
  go_ret
  exact ⟨by first | rfl | (simp [errW_none, errW_some] <;> rfl) | (simp [*, errW_none, errW_some] <;> rfl), bel HB⟩
def spec_buWay.l0 : Nat → Int → Int → Int → Int → List Int → Option (Int)
 | 0, _, _, _, _, _ => none
 | k + 1, x1, x5, x102000, x102001, x102002 => if x5 < 4 then ((spec_buCan.f k x102000 x102001 x102002 x1 x5).bind fun t102 => (if t102 = true then (some x5) else (spec_buWay.l0 k x1 (wrap64 (x5 + 1)) x102000 x102001 x102002))) else (some (-1))
def spec_buWay.f (k : Nat) (a0_0 : Int) (a0_1 : Int) (l0_2 : List Int) (a1 : Int) : Option (Int) := spec_buWay.l0 k a1 0 a0_0 a0_1 l0_2
set_option maxHeartbeats 8000000 in
set_option maxRecDepth 100000 in
theorem spec_buWay.calls (k : Nat) (a0_0 : Int) (a0_1 : Int) (A0_2 : Option Addr) (c0_2 : Nat) (l0_2 : List Int) (a1 : Int) (r : Int) (w : World) (hr0_2 : Kd.C (Kd.int .u8) w A0_2 l0_2.length l0_2) (hc0_2 : l0_2.length ≤ c0_2) (h : spec_buWay.f k a0_0 a0_1 l0_2 a1 = some r) :
  Calls Tryd.prog 38 #[.agg #[.int .i64 a0_0, .int .i64 a0_1, .slice A0_2 l0_2.length c0_2], .int .i64 a1] w fun e w' => e = .returned (.int .i64 r) ∧ Below w.heap.size w w' := by
 have hu40 := Tryd.underlying40
 have HR0_2 := Aside0.mk hr0_2
 have HC0_2 := Aside0.mk hc0_2
 clear hr0_2 hc0_2
 have HB := Aside0.mk (Below.refl w.heap.size w)
 have H : (spec_buWay.l0 k a1 0 a0_0 a0_1 l0_2) = some r := h
 clear h
 have H' := Aside0.mk H
 clear H
 go_enter Tryd.func38, Tryd.ntmps38
 go_wp2_with (first | ((with_reducible refine gate_dst (N := 2) rfl ?_); refine boxE (N := 2) (cs := #[.int .i64 a0_0, .int .i64 a0_1, .slice A0_2 l0_2.length c0_2]) (t := 40) ?_; intro gb101 hg w3 hbox hb; have n0_ := Aside0.mk (below_step (bel HB) hb); have n1_ := Aside0.mk (hbox); have n2_ := Aside0.mk (gsz hg (bel HB)); have n3_ := Aside0.mk (gsz hg (bel HB)); clear HB; have HB := n0_; have BK101 := n1_; have GW101 := n2_; have GE101 := n3_; clear n0_ n1_ n2_ n3_; clear hb hbox hg))
 go_loopg [5] k (fun kq v5 w' => ∃ (x5_1 : Int), v5 = .int .i64 x5_1 ∧ Aside0 (spec_buWay.l0 kq a1 x5_1 a0_0 a0_1 l0_2 = some r) ∧ Aside0 (kq ≤ k) ∧ Aside0 (w'.heap[gb101]? = some (.cells #[.int .i64 a0_0, .int .i64 a0_1, (.slice A0_2 l0_2.length c0_2)] 40 (0, 0))) ∧ Aside0 (Below w.heap.size w w'))
 case atStart => exact ⟨(0), (by first | rfl | (simp; done) | (simp [*]; done)), H', ⟨Nat.le_refl _⟩, ⟨blc⟩, ⟨bel HB⟩⟩
 case round =>
  clear H'
  try clear p2
  try clear c3
  obtain ⟨x5_1, rfl, HA, HK1, BK101, HB⟩ := hrel
  cases gk with
  | zero => exact absurd HA.out (by simp [spec_buWay.l0])
  | succ k1 =>
   have H := HA.out
   clear HA
   simp only [spec_buWay.l0] at H
   by_cases c4 : x5_1 < 4
   ·rw [if_pos c4] at H
    have c4b0 : decide (x5_1 < 4) = true := decide_eq_true c4
    clear c4
    replace H := Option.bind_eq_some_iff.mp H
    obtain ⟨t102, A50, H⟩ := H
    replace H : (if t102 = true then (some x5_1) else (spec_buWay.l0 k1 a1 (wrap64 (x5_1 + 1)) a0_0 a0_1 l0_2)) = some r := H
    have A5 := Aside0.mk A50
    clear A50
    by_cases c6 : t102 = true
    ·subst c6
     have H1 : (some x5_1) = some r := by rw [if_pos rfl] at H; exact H
     clear H
     have H := H1
     clear H1
     obtain rfl := Option.some.inj H
     have hcz7_0 : wr.cell? ⟨gb101, 0, none⟩ = some (.int .i64 a0_0) := (blk_cell BK101.out 0).trans rfl
     have hcz7_1 : wr.cell? ⟨gb101, 1, none⟩ = some (.int .i64 a0_1) := (blk_cell BK101.out 1).trans rfl
     have hcz7_2 : wr.cell? ⟨gb101, 2, none⟩ = some (.slice A0_2 l0_2.length c0_2) := (blk_cell BK101.out 2).trans rfl
     have hfz7_0 := blk_frozen BK101.out 0
     have hfz7_1 := blk_frozen BK101.out 1
     have hfz7_2 := blk_frozen BK101.out 2
     go_wp2_with (first | ((with_reducible refine gate_callee (f := 71) rfl ?_); refine gcall (some 13) Tryd.func71 #[.agg #[.int .i64 a0_0, .int .i64 a0_1, .slice A0_2 l0_2.length c0_2], .int .i64 a1, .int .i64 x5_1] rfl ?_; (with_reducible refine (spec_buCan.calls k1 a0_0 a0_1 _ _ l0_2 a1 x5_1 true _ ?side1 ?side2 A5.out).mono ?_); (case side1 => repeat (first | exact (Kd.C_below HR0_2.out HB.out) | (with_reducible refine Kd.C_alloc ?_ _) | (with_reducible refine Kd.C_drewN ?_ _) | (with_reducible refine Kd.C_drew ?_))); (case side2 => exact HC0_2.out); rintro e w8 ⟨rfl, hb⟩; refine ⟨_, rfl, ?_⟩; have n0_ := Aside0.mk (blk_below (g := gb101) (o := .cells #[.int .i64 a0_0, .int .i64 a0_1, .slice A0_2 l0_2.length c0_2] 40 (0, 0)) blc hb); have n1_ := Aside0.mk (below_step (bel HB) hb); clear BK101; clear HB; have BK101 := n0_; have HB := n1_; clear n0_ n1_; (try clear hb); (try clear hb2); (try clear hk); (try clear hi)))
     go_ret
     exact ⟨by first | rfl | (simp [errW_none, errW_some] <;> rfl) | (simp [*, errW_none, errW_some] <;> rfl), bel HB⟩
    ·replace c6 := Bool.eq_false_iff.mpr c6
     subst c6
     have H1 : (spec_buWay.l0 k1 a1 (wrap64 (x5_1 + 1)) a0_0 a0_1 l0_2) = some r := by rw [if_neg (show ¬ (false = true) by decide)] at H; exact H
     clear H
     have H := H1
     clear H1
     have H' := Aside0.mk H
     clear H
     have hcz9_0 : wr.cell? ⟨gb101, 0, none⟩ = some (.int .i64 a0_0) := (blk_cell BK101.out 0).trans rfl
     have hcz9_1 : wr.cell? ⟨gb101, 1, none⟩ = some (.int .i64 a0_1) := (blk_cell BK101.out 1).trans rfl
     have hcz9_2 : wr.cell? ⟨gb101, 2, none⟩ = some (.slice A0_2 l0_2.length c0_2) := (blk_cell BK101.out 2).trans rfl
     have hfz9_0 := blk_frozen BK101.out 0
     have hfz9_1 := blk_frozen BK101.out 1
     have hfz9_2 := blk_frozen BK101.out 2
     go_wp2_with (first | ((with_reducible refine gate_callee (f := 71) rfl ?_); refine gcall (some 13) Tryd.func71 #[.agg #[.int .i64 a0_0, .int .i64 a0_1, .slice A0_2 l0_2.length c0_2], .int .i64 a1, .int .i64 x5_1] rfl ?_; (with_reducible refine (spec_buCan.calls k1 a0_0 a0_1 _ _ l0_2 a1 x5_1 false _ ?side1 ?side2 A5.out).mono ?_); (case side1 => repeat (first | exact (Kd.C_below HR0_2.out HB.out) | (with_reducible refine Kd.C_alloc ?_ _) | (with_reducible refine Kd.C_drewN ?_ _) | (with_reducible refine Kd.C_drew ?_))); (case side2 => exact HC0_2.out); rintro e w10 ⟨rfl, hb⟩; refine ⟨_, rfl, ?_⟩; have n0_ := Aside0.mk (blk_below (g := gb101) (o := .cells #[.int .i64 a0_0, .int .i64 a0_1, .slice A0_2 l0_2.length c0_2] 40 (0, 0)) blc hb); have n1_ := Aside0.mk (below_step (bel HB) hb); clear BK101; clear HB; have BK101 := n0_; have HB := n1_; clear n0_ n1_; (try clear hb); (try clear hb2); (try clear hk); (try clear hi)))
     go_roundg k1
     case measure => have := HK1.out; omega
     case rel => exact ⟨(wrap64 (x5_1 + 1)), (by first | rfl | (simp; done) | (simp [*]; done)), H', ⟨by have := HK1.out; omega⟩, ⟨blc⟩, ⟨bel HB⟩⟩
   ·rw [if_neg c4] at H
    have c4b0 : decide (x5_1 < 4) = false := decide_eq_false c4
    clear c4
    obtain rfl := Option.some.inj H
    go_wp2
    go_ret
    exact ⟨by first | rfl | (simp [errW_none, errW_some] <;> rfl) | (simp [*, errW_none, errW_some] <;> rfl), bel HB⟩
end Go.Proofs.YtmefnfhghfemgaaDoor.Q
end
section
namespace Go.Proofs.YtmefnfhghfemgaaDoor.Q
open Go.RowKit Go.Proofs.YtmefnfhghfemgaaDoorW.PrintWords Go.Proofs.YtmefnfhghfemgaaDoorW.PrintLast Go.Proofs.YtmefnfhghfemgaaDoorW.PrintMore
def ballB (l : List Int) (j : Int) : Bool := decide (rd l j = 111 ∨ (97 ≤ rd l j ∧ rd l j ≤ 102))
def inB (l nb : List Int) : Bool := decide (nb.length ≤ 1000000) && nb.all fun j => decide (0 ≤ j ∧ j < (l.length : Int))
def impl_tray_added.f (k : Nat) (w h : Int) (l : List Int) (a : Int) : Option ByteArray :=
 if 0 ≤ a ∧ a < (l.length : Int) then (if rd l a = 46 then ((impl_tray_beside.f k w h l a).bind fun nb => (if inB l nb = true then (if nb.any (ballB l) = true then impl_tray_freeWays.f k w h l a else some ⟨#[]⟩) else none)) else some ⟨#[]⟩) else none
theorem impl_tray_added.mono : ∀ w h l a k, LeO (impl_tray_added.f k w h l a) (impl_tray_added.f (k + 1) w h l a) := by
 intro w h l a k
 unfold impl_tray_added.f
 refine LeO.ite (LeO.ite (LeO.bind (impl_tray_beside.mono _ _ _ _ _) fun nb => LeO.ite (LeO.ite (impl_tray_freeWays.mono _ _ _ _ _) (LeO.refl _)) (LeO.refl _)) (LeO.refl _)) (LeO.refl _)
theorem isBall_val (l : List Int) (j : Int) : impl_isBall.f (rd l j) = some (ballB l j) := by
 unfold impl_isBall.f impl_isName.f ballB
 by_cases h1 : rd l j = 111
 ·rw [if_pos h1, decide_eq_true (Or.inl h1)]
 ·rw [if_neg h1]
  by_cases h2 : rd l j ≥ 97
  ·rw [if_pos h2, Option.bind_some]
   congr 1
   exact decide_eq_decide.2 (by omega)
  ·rw [if_neg h2, Option.bind_some, decide_eq_false (by omega)]
set_option maxHeartbeats 4000000 in
set_option maxRecDepth 100000 in
theorem added_pred (g : Nat) (a b : Int) (A : Option Addr) (c : Nat) (l zs : List Int) (w : World) (hz : ∀ j ∈ zs, 0 ≤ j ∧ j < (l.length : Int)) (hx : Bx w g a b A c l) :
  PredI 107 #[.pointer (some ⟨g, 0, none⟩)] (ballB l) zs w := by
 intro W hb x hxz
 obtain ⟨h0, h1⟩ := hz x hxz
 have hB := hx.below hb
 obtain ⟨k0, k1, k2, klt, kr⟩ := hB
 obtain ⟨ad, e1, hcell⟩ := Kd.at_int kr x h0 h1
 cases e1
 have hc := fun W => impl_isBall.calls (rd l x) _ W (isBall_val l x)
 have p1 : (0 ≤ x) = True := eq_true h0
 have p2 : (x < (l.length : Int)) = True := eq_true h1
 generalize ballB l x = bb at hc ⊢
 clear hz hx hb hxz h0 h1 kr klt k0 k1
 show Calls Tryd.prog 107 #[.int .i64 x, .pointer (some ⟨g, 0, none⟩)] W _
 have hu := Tryd.underlying46
 go_enter Tryd.func107, Tryd.ntmps107
 go_wp2_with fail
 refine (hc _).mono ?_
 rintro e w' ⟨rfl, ⟨nd, rfl⟩⟩
 go_wp2
 go_ret
 exact ⟨rfl, pw_below_drewN (Below.refl _ _) _⟩
set_option maxHeartbeats 8000000 in
set_option maxRecDepth 100000 in
theorem impl_tray_added.calls (k : Nat) (a0_0 a0_1 : Int) (A0_2 : Option Addr) (c0_2 : Nat) (l0_2 : List Int) (a1 : Int) (r : ByteArray) (w : World) (hr0_2 : Kd.C (Kd.int .u8) w A0_2 l0_2.length l0_2) (hc0_2 : l0_2.length ≤ c0_2) (h : impl_tray_added.f k a0_0 a0_1 l0_2 a1 = some r) :
  Calls Tryd.prog 69 #[.agg #[.int .i64 a0_0, .int .i64 a0_1, .slice A0_2 l0_2.length c0_2], .int .i64 a1] w fun e w' => e = .returned (.string r) ∧ Below w.heap.size w w' := by
 unfold impl_tray_added.f at h
 split at h
 case isFalse => cases h
 rename_i hin
 have hu := Tryd.underlying46
 have HIN := Aside0.mk hin
 have HR := Aside0.mk hr0_2
 have HC := Aside0.mk hc0_2
 obtain ⟨ad, e1, _⟩ := Kd.at_int hr0_2 a1 hin.1 hin.2
 cases e1
 have p1 : (0 ≤ a1) = True := eq_true hin.1
 have p2 : (a1 < (l0_2.length : Int)) = True := eq_true hin.2
 clear hr0_2 hin hc0_2
 by_cases h46 : rd l0_2 a1 = 46
 ·rw [if_pos h46] at h
  obtain ⟨nb, hnb, h2⟩ := Option.bind_eq_some_iff.1 h
  split at h2
  case isFalse => cases h2
  rename_i hinb
  have H2 := Aside0.mk h2
  have HN := Aside0.mk hnb
  have HI := Aside0.mk hinb
  have H46 := Aside0.mk h46
  clear h h2 hnb hinb h46
  go_enter Tryd.func69, Tryd.ntmps69
  go_wp2_with ((with_reducible refine gate_dst (N := 2) rfl ?_); refine box_event ?hg (N := 2) ?hd (cs := #[.int .i64 a0_0, .int .i64 a0_1, .slice (some ad) l0_2.length c0_2]) (t := 46) ?hr ?_; (case hd => rfl); (case hg => rfl); (case hr => first | (go_simp; done) | (go_simp; rfl)); intro gb hg w3 hbox hb; (have HB3 := Aside0.mk hb); (have HX := Aside0.mk (Bx.mk ((blk_cell hbox 0).trans rfl) ((blk_cell hbox 1).trans rfl) ((blk_cell hbox 2).trans rfl) (blk_lt hbox) (Kd.C_below HR.out hb))); (obtain ⟨z0, z1, z2, _, _⟩ := HX.out); (obtain ⟨ad2, e2, hcell⟩ := Kd.at_int HX.out.reads a1 HIN.out.1 HIN.out.2); (cases e2); (rw [H46.out] at hcell); clear hbox hb hg)
  obtain ⟨z0, z1, z2, _, _⟩ := HX.out
  refine (impl_tray_beside.calls k a0_0 a0_1 _ c0_2 l0_2 a1 nb _ HX.out.reads HC.out HN.out).mono ?_
  rintro e w5 ⟨v, rfl, hR, hb5⟩
  obtain ⟨A, c, rfl, hlc, hC⟩ := Kd.R_reads hR
  have HX5 := Aside0.mk (HX.out.below hb5)
  have HB5 := Aside0.mk (below_then HB3.out HB3.out.size hb5)
  clear hcell z0 z1 z2 HX HB3 hR
  obtain ⟨z0, z1, z2, _, _⟩ := HX5.out
  have hI := HI.out
  simp only [inB, Bool.and_eq_true, decide_eq_true_eq, List.all_eq_true] at hI
  have hcl := contI 107 #[.pointer (some ⟨gb, 0, none⟩)] (enters_of Tryd.func107 (by kernel_rfl) rfl) (ballB l0_2) A c nb w5 hC hI.1 (added_pred gb a0_0 a0_1 (some ad) c0_2 l0_2 nb w5 hI.2 HX5.out)
  have HCL := Aside0.mk hcl
  clear hI hcl hC hlc
  go_wp2_with fail
  refine HCL.out.mono ?_
  rintro e w6 ⟨rfl, hb6⟩
  have HX6 := Aside0.mk (HX5.out.below hb6)
  have HB6 := Aside0.mk (below_then HB5.out HB5.out.size hb6)
  clear z0 z1 z2 HX5 HB5 HCL hb5 hb6
  obtain ⟨z0, z1, z2, _, _⟩ := HX6.out
  have h2 := H2.out
  generalize nb.any (ballB l0_2) = bb at h2 ⊢
  cases bb with
  | false =>
   rw [if_neg Bool.false_ne_true] at h2
   obtain rfl := Option.some.inj h2
   go_wp2
   go_ret
   exact ⟨rfl, HB6.out⟩
  | true =>
   rw [if_pos rfl] at h2
   have H3 := Aside0.mk h2
   clear h2 H2
   go_wp2_with fail
   refine (impl_tray_freeWays.calls k a0_0 a0_1 _ c0_2 l0_2 a1 r _ HX6.out.reads HC.out H3.out).mono ?_
   rintro e w7 ⟨rfl, hb7⟩
   go_wp2
   go_ret
   exact ⟨rfl, below_then HB6.out HB6.out.size hb7⟩
 ·rw [if_neg h46] at h
  obtain rfl := Option.some.inj h
  have hne : (rd l0_2 a1 != 46) = true := bne_iff_ne.2 h46
  clear h
  go_enter Tryd.func69, Tryd.ntmps69
  go_wp2_with ((with_reducible refine gate_dst (N := 2) rfl ?_); refine box_event ?hg (N := 2) ?hd (cs := #[.int .i64 a0_0, .int .i64 a0_1, .slice (some ad) l0_2.length c0_2]) (t := 46) ?hr ?_; (case hd => rfl); (case hg => rfl); (case hr => first | (go_simp; done) | (go_simp; rfl)); intro gb hg w3 hbox hb; (have HB3 := Aside0.mk hb); (have HX := Aside0.mk (Bx.mk ((blk_cell hbox 0).trans rfl) ((blk_cell hbox 1).trans rfl) ((blk_cell hbox 2).trans rfl) (blk_lt hbox) (Kd.C_below HR.out hb))); (obtain ⟨z0, z1, z2, _, _⟩ := HX.out); (obtain ⟨ad2, e2, hcell⟩ := Kd.at_int HX.out.reads a1 HIN.out.1 HIN.out.2); (cases e2);  clear hbox hb hg)
  go_ret
  exact ⟨rfl, HB3.out⟩
end Go.Proofs.YtmefnfhghfemgaaDoor.Q
end
section
namespace Go.Proofs.YtmefnfhghfemgaaDoor.Q
set_option linter.unusedSectionVars false
open Go.RowKit Go.Proofs.YtmefnfhghfemgaaDoorW.PrintWords Go.Proofs.YtmefnfhghfemgaaDoorW.PrintLast Go.Proofs.YtmefnfhghfemgaaDoorW.PrintMore
def nextB (w h : Nat) (cs : List Int) (a : Int) : Bool := (nbs w h a.toNat).any (ballB cs)
def canB (w h : Nat) (cs : List Int) (a : Int) (d : Nat) : Bool := freeAt w h cs a d && nextB w h cs a
theorem freeAt_dot {w h : Nat} {cs : List Int} {a : Int} {d : Nat} (ha : 0 ≤ a) (hf : freeAt w h cs a d = true) : rd cs a = 46 := by
 unfold freeAt fr at hf
 rw [if_neg (by omega)] at hf
 by_cases h : rd cs a = 46
 ·exact h
 ·rw [if_neg h] at hf
  cases hf
section
variable {w h : Nat} {cs : List Int} (hw : w ≤ 7) (hh : h ≤ 7) (hs : w * h ≤ 36) (hn : cs.length = w * h)
include hw hh hs hn
theorem next_l0 (L : List Int) (hL : ∀ v ∈ L, 0 ≤ v ∧ v < ((w * h : Nat) : Int)) (hl : L.length ≤ 4) : ∀ (m t : Nat), t + m = L.length → Ev (fun k => spec_buNext.l0 k L L.length t w h cs) ((L.drop t).any (ballB cs))
 | 0, t, ht => by
  rw [List.drop_eq_nil_of_le (by omega)]
  refine Ev.step (Ev.const (o := some false) rfl) fun k => ?_
  rw [spec_buNext.l0, if_neg (by omega)]
 | m + 1, t, ht => by
  have ih := next_l0 L hL hl m (t + 1) (by omega)
  have hlt : t < L.length := by omega
  have hwt : wrap64 ((t : Int) + 1) = ((t + 1 : Nat) : Int) := by rw [w64 (by omega) (by omega)]; omega
  have hrd := rd_nat L t hlt
  have hv := hL _ (List.getElem_mem hlt)
  rw [List.drop_eq_getElem_cons hlt, List.any_cons]
  generalize L[t] = v at hrd hv ⊢
  have c1 : v < (cs.length : Int) := by omega
  have hgo : ∀ k, spec_buNext.l0 (k + 1) L L.length t w h cs = if ballB cs v = true then some true else spec_buNext.l0 k L L.length ((t + 1 : Nat) : Int) w h cs := by
   intro k
   rw [spec_buNext.l0, if_pos (by omega), if_pos (by omega), if_pos (by omega), hrd, if_pos hv.1, if_pos c1, tyBall_eq, Option.bind_some, hwt]
   rfl
  cases hb : ballB cs v with
  | true =>
   refine Ev.step (Ev.const (o := some true) rfl) fun k => ?_
   rw [hgo, if_pos hb]
  | false =>
   rw [Bool.false_or]
   refine Ev.step ih fun k => ?_
   rw [hgo, hb, if_neg Bool.false_ne_true]
theorem buNext_ev (a : Int) (ha : inCells cs a) : Ev (fun k => spec_buNext.f k w h cs a) (nextB w h cs a) := by
 unfold inCells at ha
 obtain ⟨j, rfl⟩ : ∃ j : Nat, a = j := ⟨a.toNat, by omega⟩
 have hj : j < w * h := by omega
 have h1 := near_ev hw hh hs hj cs
 have h2 := next_l0 hw hh hs hn (nbs w h j) (fun v hv => by have := nbs_at hw hh hs hj hv; exact ⟨this.1, this.2.1⟩) (nbs_len hw hh hs hj) _ 0 (Nat.zero_add _)
 rw [List.drop_zero] at h2
 exact Ev.bind (f := fun k t102 => spec_buNext.l0 k t102 (t102.length : Int) 0 w h cs) h1 h2
theorem buCan_ev (ho : ∀ c ∈ cs, c ≠ 35) (d : Nat) (hd : d < 4) (a : Int) (ha : inCells cs a) : Ev (fun k => spec_buCan.f k w h cs a d) (canB w h cs a d) := by
 refine Ev.bind (f := fun k (t102 : Bool) => (if t102 = true then ((spec_buNext.f k w h cs a).bind fun t103 => (some t103)) else (some false))) (buFree_ev hw hh hs hn ho d hd a ha) ?_
 unfold canB
 cases freeAt w h cs a d with
 | true => exact Ev.congr (Ev.bind (f := fun _ (t103 : Bool) => some t103) (buNext_ev hw hh hs hn a ha) (Ev.const rfl)) fun k => if_pos rfl
 | false => exact Ev.congr (Ev.const (o := some false) rfl) fun k => if_neg Bool.false_ne_true
def addedR (w h : Nat) (cs : List Int) (a : Int) : List Int := if rd cs a = 46 ∧ nextB w h cs a = true then freeTo w h cs a 4 else []
theorem added_ev (a : Int) (ha : inCells cs a) : Ev (fun k => impl_tray_added.f k w h cs a) (strOfNums (addedR w h cs a)) := by
 have hin := ha
 unfold inCells at hin
 have hf : ∀ k, impl_tray_added.f k w h cs a = if rd cs a = 46 then ((impl_tray_beside.f k w h cs a).bind fun nb => (if inB cs nb = true then (if nb.any (ballB cs) = true then impl_tray_freeWays.f k w h cs a else some ⟨#[]⟩) else none)) else some ⟨#[]⟩ := fun k => if_pos hin
 unfold addedR
 by_cases h46 : rd cs a = 46
 ·obtain ⟨j, rfl⟩ : ∃ j : Nat, a = j := ⟨a.toNat, by omega⟩
  have hj : j < w * h := by omega
  have h1 := beside_ev hw hh hs hj cs
  have hb : inB cs (nbs w h j) = true := by
   unfold inB
   rw [Bool.and_eq_true]
   refine ⟨decide_eq_true (by have := nbs_len hw hh hs hj; omega), List.all_eq_true.2 fun v hv => decide_eq_true ?_⟩
   have := nbs_at hw hh hs hj hv
   omega
  have hnx : (nbs w h j).any (ballB cs) = nextB w h cs (j : Int) := rfl
  refine Ev.congr (Ev.bind (f := fun k (nb : List Int) => (if inB cs nb = true then (if nb.any (ballB cs) = true then impl_tray_freeWays.f k w h cs (j : Int) else some ⟨#[]⟩) else none)) h1 ?_) fun k => by rw [hf, if_pos h46]
  cases hq : nextB w h cs (j : Int) with
  | true =>
   rw [if_pos ⟨h46, rfl⟩]
   refine Ev.congr (freeWays_ev hw hh hs hn _ ha) fun k => ?_
   rw [if_pos hb, hnx, hq, if_pos rfl]
  | false =>
   rw [if_neg fun h => Bool.false_ne_true h.2]
   refine Ev.congr (Ev.const (o := some ⟨#[]⟩) rfl) fun k => ?_
   rw [if_pos hb, hnx, hq, if_neg Bool.false_ne_true]
 ·rw [if_neg fun h => h46 h.1]
  refine Ev.congr (Ev.const (o := some ⟨#[]⟩) rfl) fun k => ?_
  rw [hf, if_neg h46]
end
end Go.Proofs.YtmefnfhghfemgaaDoor.Q
end
section
namespace Go.Proofs.YtmefnfhghfemgaaDoor.Q
set_option linter.unusedSectionVars false
open Go.RowKit Go.Proofs.YtmefnfhghfemgaaDoorW.PrintWords Go.Proofs.YtmefnfhghfemgaaDoorW.PrintLast Go.Proofs.YtmefnfhghfemgaaDoorW.PrintMore
theorem w64s (n : Nat) (h : n ≤ 1000000) : wrap64 ((n : Int) + 1) = ((n + 1 : Nat) : Int) := by rw [w64 (by omega) (by omega)]; omega
theorem strOf_list (l : List Int) : (strOfNums l).data.toList = l.map fun n => UInt8.ofNat n.toNat := rfl
end Go.Proofs.YtmefnfhghfemgaaDoor.Q
end
section
namespace Go.Proofs.YtmefnfhghfemgaaDoor.Q
open Go.RowKit Go.Shelf Go.Proofs.YtmefnfhghfemgaaDoorW.PrintWords Go.Proofs.YtmefnfhghfemgaaDoorW.PrintLast Go.Proofs.YtmefnfhghfemgaaDoorW.PrintMore
theorem bytes_at {w : World} {A : Option Addr} {l : List Int} (h : Kd.C (Kd.int .u8) w A l.length l) (h0 : 1 ≤ l.length) : ∃ b off, A = some ⟨b, off, none⟩ ∧ b < w.heap.size ∧ ∀ j, j < l.length → w.cell? ⟨b, off + j, none⟩ = some (.int .u8 (l.getD j 0)) := by
 obtain ⟨ad, rfl, _⟩ := Kd.at_int h 0 (by omega) (by omega)
 have hx : ∀ j : Nat, j < l.length → w.cell? (ad.add j) = some (.int .u8 (l.getD j 0)) := fun j hj => by
  obtain ⟨ad2, e2, h2⟩ := Kd.at_int h (j : Int) (by omega) (by omega)
  cases e2
  rw [Int.toNat_natCast] at h2
  rw [h2]
  unfold rd
  rw [Int.toNat_natCast]
 have h00 := hx 0 (by omega)
 have hsp : ad.spot = none := by
  rcases hs : ad.spot with _ | z
  ·rfl
  ·rw [Addr.add, if_pos rfl] at h00
   unfold World.cell? at h00
   split at h00
   ·rw [hs] at h00
    simp at h00
   ·cases h00
 obtain ⟨bk, o, sp⟩ := ad
 obtain rfl : sp = none := hsp
 refine ⟨bk, o, rfl, ?_, fun j hj => ?_⟩
 ·have := World.block_lt_of_cell? _ _ h00
  rw [Addr.add, if_pos rfl] at this
  exact this
 ·have h2 := hx j hj
  rw [Addr.add] at h2
  split at h2
  ·rename_i hz
   subst hz
   exact h2
  ·exact h2
end Go.Proofs.YtmefnfhghfemgaaDoor.Q
end
section
namespace Go.Proofs.YtmefnfhghfemgaaDoor.Q
open Go.RowKit Go.Shelf Go.Proofs.YtmefnfhghfemgaaDoorW.PrintWords Go.Proofs.YtmefnfhghfemgaaDoorW.PrintLast Go.Proofs.YtmefnfhghfemgaaDoorW.PrintMore
def slices_Clone_u8.f (l0 : List Int) : Option (List Int) := if 1 ≤ l0.length ∧ l0.length ≤ 1000000 then some l0 else none
set_option maxHeartbeats 4000000 in
set_option maxRecDepth 100000 in
theorem slices_Clone_u8.calls (A0 : Option Addr) (c0 : Nat) (l0 : List Int) (r : List Int) (w : World) (hr0 : Kd.C (Kd.int .u8) w A0 l0.length l0) (hc0 : l0.length ≤ c0) (h : slices_Clone_u8.f l0 = some r) :
  Calls Tryd.prog 134 #[.slice A0 l0.length c0] w fun e w' => ∃ v0_ : Value, e = .returned (v0_) ∧ Kd.R (Kd.int .u8) 5 w' w.heap.size (fun _ => True) v0_ r ∧ Below w.heap.size w w' := by
 unfold slices_Clone_u8.f at h
 split at h
 case isFalse => cases h
 rename_i hn
 obtain rfl := Option.some.inj h
 obtain ⟨b, off, rfl, hb, hcell⟩ := bytes_at hr0 hn.1
 have q37 : ∀ (w : World) (a : Option Addr) (n c n' c' : Nat), (binOp .eql 38 (.slice a n c) (.slice none n' c')).run Tryd.prog w = .ok (.bool a.isNone) w := fun w a n c n' c' => Lib.run_eql_slice_nil w _ _ a n c n' c' Tryd.underlying38
 obtain ⟨i0, hi, hz0, hz1, hz2⟩ := info_parts info5
 have HC := Aside0.mk hcell
 clear hcell hr0 hc0 h
 go_enter Tryd.func134, Tryd.ntmps134
 go_wp2_with (at_builtin; refine wpList_append_own _ rfl _ _ 38 rfl w.heap.size 5 i0 (.int .u8 0) 1 1 Tryd.underlying38 hi hz0 hz1 hz2 rfl (by decide) _ _ _ rfl (World.ownsRow_made w #[] 0 (Nat.le_refl _) (Nat.zero_le _) (by simp)) ⟨b, off, none⟩ l0.length c0 (l0.map (Value.int .u8)) rfl ?qc1 ?qc2 ?qc3 ?qc4 ?qc5 ?qc6 ?_)
 case qc1 => simp
 case qc2 =>
  intro j u hj
  rw [Addr.add_lit]
  have hjl : j < l0.length := by
   have := (List.getElem?_eq_some_iff.1 hj).1
   simpa using this
  have h2 := HC.out j hjl
  rw [List.getElem?_map, List.getElem?_eq_getElem hjl] at hj
  obtain rfl := Option.some.inj hj
  rw [List.getD_eq_getElem?_getD, List.getElem?_eq_getElem hjl] at h2
  exact Lib.cell?_alloc_some _ h2
 case qc3 =>
  intro u hu
  obtain ⟨x, _, rfl⟩ := List.mem_map.1 hu
  rfl
 case qc4 => simp [maxLen]; omega
 case qc5 => omega
 case qc6 => simp
 intro v' w1 hown hgrow hnil
 go_wp2
 go_ret
 refine ⟨v', rfl, Kd.R_of_own (enc := Value.int .u8) (show w1.ownsRow w.heap.size 5 1 v' l0.length (l0.map (Value.int .u8)) by simpa using hown) (fun _ _ => trivial), ?_⟩
 exact ((Below.refl _ w).alloc (Nat.le_refl _) _).grown hgrow (by simp) (by intro k hk; simp [Value.ownBlock] at hk; omega)
end Go.Proofs.YtmefnfhghfemgaaDoor.Q
end
section
namespace Go.Proofs.YtmefnfhghfemgaaDoor.Q
open Go.RowKit Go.Proofs.YtmefnfhghfemgaaDoorW.PrintWords Go.Proofs.YtmefnfhghfemgaaDoorW.PrintLast Go.Proofs.YtmefnfhghfemgaaDoorW.PrintMore
attribute [local go_sem] max2_int min2_int max_two min_two max_three min_three max_four min_four
set_option linter.unusedVariables false
set_option linter.unusedSimpArgs false
def impl_tray_own.f (a0_0 : Int) (a0_1 : Int) (l0_2 : List Int) : Option (Int × Int × List Int) := (slices_Clone_u8.f l0_2).bind fun t103 => (some (a0_0, a0_1, t103))
def impl_tray_own.T1 : Bool × List (List Nat × List Nat) := (true, [([], []), ([0], [0]), ([], []), ([2], [2]), ([], []), ([4], [4]), ([5], [5]), ([1, 3, 6], [1, 3, 6]), ([7, 6, 0, 1, 2, 3, 4, 5, 6, 7], [7])])
def impl_tray_own.B1 : List Nat := [0, 1, 0, 4, 0, 16, 48, 127, 255]
theorem impl_tray_own.tab1 : rtab .any (opsOf Tryd.f106 1) = impl_tray_own.T1 := by kernel_rfl
theorem impl_tray_own.bits1 : waitsOk impl_tray_own.T1.2 impl_tray_own.B1 = true := by kernel_rfl
set_option maxHeartbeats 8000000 in
set_option maxRecDepth 100000 in
theorem impl_tray_own.calls (a0_0 : Int) (a0_1 : Int) (A0_2 : Option Addr) (c0_2 : Nat) (l0_2 : List Int) (r1 : Int) (r2 : Int) (r3 : List Int) (w : World) (hr0_2 : Kd.C (Kd.int .u8) w A0_2 l0_2.length l0_2) (hc0_2 : l0_2.length ≤ c0_2) (h : impl_tray_own.f a0_0 a0_1 l0_2 = some (r1, r2, r3)) :
  Calls Tryd.prog 106 #[.agg #[.int .i64 a0_0, .int .i64 a0_1, .slice A0_2 l0_2.length c0_2]] w fun e w' => ∃ v2_ : Value, e = .returned (.agg #[.int .i64 r1, .int .i64 r2, v2_]) ∧ Kd.R (Kd.int .u8) 5 w' w.heap.size (fun _ => True) v2_ r3 ∧ Below w.heap.size w w' := by
 have hu46 := Tryd.underlying46
 have HR0_2 := Aside0.mk hr0_2
 have HC0_2 := Aside0.mk hc0_2
 clear hr0_2 hc0_2
 have HB := Aside0.mk (Below.refl w.heap.size w)
 have H : ((slices_Clone_u8.f l0_2).bind fun t103 => (some (a0_0, a0_1, t103))) = some (r1, r2, r3) := h
 clear h
 replace H := Option.bind_eq_some_iff.mp H
 obtain ⟨t103, A20, H⟩ := H
 replace H : (some (a0_0, a0_1, t103)) = some (r1, r2, r3) := H
 have A2 := Aside0.mk A20
 clear A20
 simp only [Option.some.injEq, Prod.mk.injEq] at H
 obtain ⟨rfl, rfl, rfl⟩ := H
 go_enter Tryd.func106, Tryd.ntmps106
 try go_wp2_with (first | ((with_reducible refine gate_dst (N := 1) rfl ?_); refine boxE (N := 1) (cs := #[.int .i64 a0_0, .int .i64 a0_1, .slice A0_2 l0_2.length c0_2]) (t := 46) ?_; intro gb101 hg w3 hbox hb; have n0_ := Aside0.mk (below_step (bel HB) hb); have n1_ := Aside0.mk (hbox); have n2_ := Aside0.mk (gsz hg (bel HB)); have n3_ := Aside0.mk (gsz hg (bel HB)); clear HB; have HB := n0_; have BK101 := n1_; have GW101 := n2_; have GE101 := n3_; clear n0_ n1_ n2_ n3_; clear hb hbox hg) | ((with_reducible refine gate_dst (N := 2) rfl ?_); refine boxE (N := 2) (cs := #[.int .i64 0, .int .i64 0, .slice none 0 0]) (t := 46) ?_; intro gb102 hg w4 hbox hb; have n0_ := Aside0.mk (blk_below (g := gb101) (o := .cells #[.int .i64 a0_0, .int .i64 a0_1, .slice A0_2 l0_2.length c0_2] 46 (0, 0)) blc hb); have n1_ := Aside0.mk (below_step (bel HB) hb); have n2_ := Aside0.mk (hbox); have n3_ := Aside0.mk (gsz hg (bel HB)); have n4_ := Aside0.mk (gsz hg (bel HB)); have n5_ := Aside0.mk ((by rw [hg]; exact Nat.ne_of_lt (blk_lt (g := gb101) (o := .cells #[.int .i64 a0_0, .int .i64 a0_1, .slice A0_2 l0_2.length c0_2] 46 (0, 0)) blc) : gb101 ≠ gb102)); have n6_ := Aside0.mk ((by rw [hg]; exact Nat.ne_of_gt (blk_lt (g := gb101) (o := .cells #[.int .i64 a0_0, .int .i64 a0_1, .slice A0_2 l0_2.length c0_2] 46 (0, 0)) blc) : gb102 ≠ gb101)); clear BK101; clear HB; have BK101 := n0_; have HB := n1_; have BK102 := n2_; have GW102 := n3_; have GE102 := n4_; have NB101_102 := n5_; have NB102_101 := n6_; clear n0_ n1_ n2_ n3_ n4_ n5_ n6_; clear hb hbox hg))
 have n0_ := Aside0.mk (blk_drew BK101.out)
 have n1_ := Aside0.mk (blk_drew BK102.out)
 have n2_ := Aside0.mk (below_drew1 HB.out)
 clear BK101
 clear BK102
 clear HB
 have BK101 := n0_
 have BK102 := n1_
 have HB := n2_
 clear n0_ n1_ n2_
 refine start_ (n := 9) (S := fun w' => w'.cell? ⟨gb101, 0, none⟩ = some (.int .i64 a0_0) ∧ w'.cell? ⟨gb101, 1, none⟩ = some (.int .i64 a0_1) ∧ w'.cell? ⟨gb101, 2, none⟩ = some (.slice A0_2 l0_2.length c0_2)) (ds := []) #[false, false, false, false, false, false, false, false, false] (by kernel_rfl) rfl rfl ⟨(blk_cell BK101.out 0).trans rfl, (blk_cell BK101.out 1).trans rfl, (blk_cell BK101.out 2).trans rfl⟩ (fun hHeld => ?_); refine with_tabW impl_tray_own.tab1 impl_tray_own.bits1 (fun HT_ HW_ => ?_)
 generalize w4.drew = w5 at BK101 BK102 HB hHeld ⊢
 refine pure_ (i := 0) (N := some 3) (v := ?_) (a' := ?_) #[true, false, false, false, false, false, false, false, false] rfl rfl (any_of HT_.out (by kernel_rfl)) (fun _ _ _ h => h) (Or.inl ⟨by rfl, ?_⟩) ?_ ?_
 rotate_left
 ·intro w'
  go_simp
  with_reducible rfl
 rotate_left
 ·simp only [Act.put, List.setIfInBounds_toArray, List.set_cons_zero, List.set_cons_succ, i64_w, i32_w]
  rfl
 refine pure_ (i := 2) (N := some 5) (v := ?_) (a' := ?_) #[true, false, true, false, false, false, false, false, false] rfl rfl (any_of HT_.out (by kernel_rfl)) (fun _ _ _ h => h) (Or.inl ⟨by rfl, ?_⟩) ?_ ?_
 rotate_left
 ·intro w'
  go_simp
  with_reducible rfl
 rotate_left
 ·simp only [Act.put, List.setIfInBounds_toArray, List.set_cons_zero, List.set_cons_succ, i64_w, i32_w]
  rfl
 refine pure_ (i := 4) (N := some 7) (v := ?_) (a' := ?_) #[true, false, true, false, true, false, false, false, false] rfl rfl (any_of HT_.out (by kernel_rfl)) (fun _ _ _ h => h) (Or.inl ⟨by rfl, ?_⟩) ?_ ?_
 rotate_left
 ·intro w'
  go_simp
  with_reducible rfl
 rotate_left
 ·simp only [Act.put, List.setIfInBounds_toArray, List.set_cons_zero, List.set_cons_succ, i64_w, i32_w]
  rfl
 refine take_ (i := 1) (N := some 4) (v := ?_) (a' := ?_) #[true, true, true, false, true, false, false, false, false] rfl rfl (take_ofW HT_.out HW_.out (by kernel_rfl)) (fun _ _ _ h => h) (Or.inl ⟨by rfl, ?_⟩) hHeld ?_ ?_
 rotate_left
 ·rintro w' ⟨s0, s1, s2⟩
  go_simp
  with_reducible rfl
 rotate_left
 ·simp only [Act.put, List.setIfInBounds_toArray, List.set_cons_zero, List.set_cons_succ, i64_w, i32_w]
  rfl
 refine take_ (i := 3) (N := some 6) (v := ?_) (a' := ?_) #[true, true, true, true, true, false, false, false, false] rfl rfl (take_ofW HT_.out HW_.out (by kernel_rfl)) (fun _ _ _ h => h) (Or.inl ⟨by rfl, ?_⟩) hHeld ?_ ?_
 rotate_left
 ·rintro w' ⟨s0, s1, s2⟩
  go_simp
  with_reducible rfl
 rotate_left
 ·simp only [Act.put, List.setIfInBounds_toArray, List.set_cons_zero, List.set_cons_succ, i64_w, i32_w]
  rfl
 refine take_ (i := 5) (N := some 8) (v := ?_) (a' := ?_) #[true, true, true, true, true, true, false, false, false] rfl rfl (take_ofW HT_.out HW_.out (by kernel_rfl)) (fun _ _ _ h => h) (Or.inl ⟨by rfl, ?_⟩) hHeld ?_ ?_
 rotate_left
 ·rintro w' ⟨s0, s1, s2⟩
  go_simp
  with_reducible rfl
 rotate_left
 ·simp only [Act.put, List.setIfInBounds_toArray, List.set_cons_zero, List.set_cons_succ, i64_w, i32_w]
  rfl
 refine one_ (i := 6) (N := some 9) #[true, true, true, true, true, true, true, false, false] rfl rfl (one_of HT_.out (by kernel_rfl)) (by decide) (fun K hK => ?_)
 refine goes_ Tryd.func134 (by kernel_rfl) rfl #[.slice A0_2 l0_2.length c0_2] (by rfl) rfl rfl (by (try simp only [List.map_toArray, List.map_cons, List.map_nil]); first | done | rfl | (simp only [List.length_drop, List.length_take]; rfl)) ?_
 with_reducible refine (slices_Clone_u8.calls _ _ l0_2 t103 _ ?side1 ?side2 A2.out).mono ?_
 (case side1 => repeat (first | exact (Kd.C_below HR0_2.out HB.out) | (with_reducible refine Kd.C_alloc ?_ _) | (with_reducible refine Kd.C_drewN ?_ _) | (with_reducible refine Kd.C_drew ?_)))
 (case side2 => exact HC0_2.out)
 rintro e w6 ⟨v104, rfl, ho0, hb⟩
 refine ⟨_, rfl, ?_⟩
 have n0_ := Aside0.mk (Kd.R_lower ho0 (below_size (bel HB)))
 have n1_ := Aside0.mk (blk_below (g := gb101) (o := .cells #[.int .i64 a0_0, .int .i64 a0_1, .slice A0_2 l0_2.length c0_2] 46 (0, 0)) blc hb)
 have n2_ := Aside0.mk (blk_below (g := gb102) (o := .cells #[.int .i64 0, .int .i64 0, .slice none 0 0] 46 (0, 0)) blc hb)
 have n3_ := Aside0.mk (below_step (bel HB) hb)
 clear BK101
 clear BK102
 clear HB
 have HO105 := n0_
 have BK101 := n1_
 have BK102 := n2_
 have HB := n3_
 clear n0_ n1_ n2_ n3_
 (try clear hb)
 (try clear hb2)
 (try clear hk)
 (try clear hi)
 (try clear ho0)
 obtain ⟨Ao7, co7, eo7⟩ := Kd.R_slice HO105.out
 (first | subst eo7 | (injection eo7 with f1_ f2_ f3_; have f4_ := f1_.symm; have f5_ := f3_.symm; clear f1_ f2_ f3_; subst f4_; subst f5_))
 refine hK.out _ _ ⟨(blk_cell BK101.out 0).trans rfl, (blk_cell BK101.out 1).trans rfl, (blk_cell BK101.out 2).trans rfl⟩ (fun hHeld => ?_)
 clear hK K
 refine norm_ (a' := ?_) ?_ ?_
 rotate_left
 ·show Act.put _ (some 9) _ = _
  simp only [Act.put, List.setIfInBounds_toArray, List.set_cons_zero, List.set_cons_succ, i64_w, i32_w]
  rfl
 refine pure_ (i := 7) (N := some 10) (v := ?_) (a' := ?_) #[true, true, true, true, true, true, true, true, false] rfl rfl (any_of HT_.out (by kernel_rfl)) (fun _ _ _ h => h) (Or.inl ⟨by rfl, ?_⟩) ?_ ?_
 rotate_left
 ·intro w'
  go_simp
  with_reducible rfl
 rotate_left
 ·simp only [Act.put, List.setIfInBounds_toArray, List.set_cons_zero, List.set_cons_succ, i64_w, i32_w]
  rfl
 refine one_ (i := 8) (N := none) #[true, true, true, true, true, true, true, true, true] rfl rfl (one_of HT_.out (by kernel_rfl)) (by decide) (fun K hK => ?_)
 have hs8 : w6.cell? ⟨gb102, 0, none⟩ = some (.int .i64 0) := (blk_cell BK102.out 0).trans rfl
 have hfs8 := blk_frozen BK102.out 0
 have hns8_0 := NB101_102.out
 have hms8_0 := NB102_101.out
 have hs9 : w6.cell? ⟨gb102, 1, none⟩ = some (.int .i64 0) := (blk_cell BK102.out 1).trans rfl
 have hfs9 := blk_frozen BK102.out 1
 have hns9_0 := NB101_102.out
 have hms9_0 := NB102_101.out
 have hs10 : w6.cell? ⟨gb102, 2, none⟩ = some (.slice none 0 0) := (blk_cell BK102.out 2).trans rfl
 have hfs10 := blk_frozen BK102.out 2
 have hns10_0 := NB101_102.out
 have hms10_0 := NB102_101.out
 refine skip_ (w1 := ?_) (by rfl) rfl ?_ ?_
 rotate_left
 ·go_simp
  rfl
 refine hK.out _ _ ⟨((cell_far (p := ⟨gb102, _, none⟩) NB101_102.out _).trans (((cell_far (p := ⟨gb102, _, none⟩) NB101_102.out _).trans (((cell_far (p := ⟨gb102, _, none⟩) NB101_102.out _).trans (hHeld.1)))))), ((cell_far (p := ⟨gb102, _, none⟩) NB101_102.out _).trans (((cell_far (p := ⟨gb102, _, none⟩) NB101_102.out _).trans (((cell_far (p := ⟨gb102, _, none⟩) NB101_102.out _).trans (hHeld.2.1)))))), ((cell_far (p := ⟨gb102, _, none⟩) NB101_102.out _).trans (((cell_far (p := ⟨gb102, _, none⟩) NB101_102.out _).trans (((cell_far (p := ⟨gb102, _, none⟩) NB101_102.out _).trans (hHeld.2.2))))))⟩ (fun hHeld => ?_)
 clear hK K
 refine done_ (done_of HT_.out (by kernel_rfl)) ?_
 try go_wp2
 refine bodyPost_ret (results_cell_row rfl _ _ gb102 46 #[.int .i64 a0_0, .int .i64 a0_1, .slice Ao7 t103.length co7] (0, 0) _ rfl (by (with_reducible repeat (first | refine blk_drewN ?_ _ | refine blk_drew ?_ | refine blk_alloc ?_ _)); refine blk_put (cs := #[.int .i64 a0_0, .int .i64 a0_1, .slice none 0 0]) ?_ 2 _ rfl; (with_reducible repeat (first | refine blk_drewN ?_ _ | refine blk_drew ?_ | refine blk_alloc ?_ _)); refine blk_put (cs := #[.int .i64 a0_0, .int .i64 0, .slice none 0 0]) ?_ 1 _ rfl; (with_reducible repeat (first | refine blk_drewN ?_ _ | refine blk_drew ?_ | refine blk_alloc ?_ _)); refine blk_put (cs := #[.int .i64 0, .int .i64 0, .slice none 0 0]) ?_ 0 _ rfl; exact blc) Tryd.underlying46 rfl (by kernel_rfl)) rfl ?_
 exact ⟨_, by first | rfl | (simp [errW_none, errW_some] <;> rfl) | (simp [*, errW_none, errW_some] <;> rfl), by (with_reducible repeat (first | apply Kd.R_alloc | apply Kd.R_drewN | apply Kd.R_drew)); exact Kd.R_mono (Kd.R_far (p := ⟨gb102, 2, none⟩) (Kd.R_far (p := ⟨gb102, 1, none⟩) (Kd.R_far (p := ⟨gb102, 0, none⟩) (Kd.R_types HO105.out BK102.out (by decide)) (fun _ hk => hk.2) (.int .i64 a0_0)) (fun _ hk => hk.2) (.int .i64 a0_1)) (fun _ hk => hk.2) (.slice Ao7 t103.length co7)) (fun _ hk => trivial), bel HB⟩
end Go.Proofs.YtmefnfhghfemgaaDoor.Q
end
section
namespace Go.Proofs.YtmefnfhghfemgaaDoor.Q
set_option linter.unusedSectionVars false
open Go.RowKit Go.Proofs.YtmefnfhghfemgaaDoorW.PrintWords Go.Proofs.YtmefnfhghfemgaaDoorW.PrintLast Go.Proofs.YtmefnfhghfemgaaDoorW.PrintMore
def wayB (w h : Nat) (cs : List Int) (a : Int) : Bool := (List.range 4).any fun d => canB w h cs a d
theorem wayB_added {w h : Nat} {cs : List Int} {a : Int} (ha : 0 ≤ a) : wayB w h cs a = true ↔ addedR w h cs a ≠ [] := by
 unfold wayB
 rw [List.any_eq_true]
 constructor
 ·rintro ⟨d, hd, hc⟩
  unfold canB at hc
  rw [Bool.and_eq_true] at hc
  unfold addedR
  rw [if_pos ⟨freeAt_dot ha hc.1, hc.2⟩]
  unfold freeTo
  intro e
  have hm : d ∈ (List.range 4).filter fun d => freeAt w h cs a d := List.mem_filter.2 ⟨hd, hc.1⟩
  rw [List.map_eq_nil_iff.1 e] at hm
  simp at hm
 ·intro hne
  unfold addedR at hne
  by_cases hc : rd cs a = 46 ∧ nextB w h cs a = true
  ·rw [if_pos hc] at hne
   unfold freeTo at hne
   rcases e : (List.range 4).filter (fun d => freeAt w h cs a d) with _ | ⟨d, l⟩
   ·rw [e] at hne
    exact absurd rfl hne
   ·have hm : d ∈ (List.range 4).filter fun d => freeAt w h cs a d := by rw [e]; exact List.mem_cons_self
    have hm2 := List.mem_filter.1 hm
    refine ⟨d, hm2.1, ?_⟩
    unfold canB
    rw [hm2.2, hc.2]
    rfl
  ·rw [if_neg hc] at hne
   exact absurd rfl hne
theorem added_empty (l : List Int) : ((strOfNums l).toList = ([] : List UInt8)) ↔ l = [] := by
 rw [toList_data, strOf_list]
 exact List.map_eq_nil_iff
section
variable {w h : Nat} {cs : List Int} (hw : w ≤ 7) (hh : h ≤ 7) (hs : w * h ≤ 36) (hn : cs.length = w * h)
include hw hh hs hn
theorem buWay_l0 (ho : ∀ c ∈ cs, c ≠ 35) (a : Int) (ha : inCells cs a) : ∀ (m t : Nat), t + m = 4 → ∃ r : Int, Ev (fun k => spec_buWay.l0 k a t w h cs) r ∧ (0 ≤ r ↔ ∃ d : Nat, t ≤ d ∧ d < 4 ∧ canB w h cs a d = true)
 | 0, t, ht => by
  obtain rfl : t = 4 := by omega
  refine ⟨-1, Ev.step (Ev.const (o := some (-1)) rfl) fun k => ?_, ?_⟩
  ·rw [spec_buWay.l0, if_neg (by decide)]
  ·constructor
   ·intro h
    omega
   ·rintro ⟨d, h1, h2, _⟩
    omega
 | m + 1, t, ht => by
  obtain ⟨r, h1, h2⟩ := buWay_l0 ho a ha m (t + 1) (by omega)
  have hcan := buCan_ev hw hh hs hn ho t (by omega) a ha
  have hwt : wrap64 ((t : Int) + 1) = ((t + 1 : Nat) : Int) := w64s t (by omega)
  have hstep : ∀ r', Ev (fun k => if canB w h cs a t = true then some (t : Int) else spec_buWay.l0 k a ((t + 1 : Nat) : Int) w h cs) r' → Ev (fun k => spec_buWay.l0 k a t w h cs) r' := by
   intro r' hr
   refine Ev.step (Ev.bind (f := fun k (t102 : Bool) => (if t102 = true then some (t : Int) else spec_buWay.l0 k a ((t + 1 : Nat) : Int) w h cs)) hcan hr) fun k => ?_
   rw [spec_buWay.l0, if_pos (by omega), hwt]
  cases hc : canB w h cs a t with
  | true =>
   refine ⟨t, hstep _ (Ev.congr (Ev.const (o := some (t : Int)) rfl) fun k => by rw [hc, if_pos rfl]), ?_⟩
   exact ⟨fun _ => ⟨t, Nat.le_refl _, by omega, hc⟩, fun _ => Int.natCast_nonneg _⟩
  | false =>
   refine ⟨r, hstep _ (Ev.congr h1 fun k => by rw [hc, if_neg Bool.false_ne_true]), h2.trans ⟨?_, ?_⟩⟩
   ·rintro ⟨d, d1, d2, d3⟩
    exact ⟨d, by omega, d2, d3⟩
   ·rintro ⟨d, d1, d2, d3⟩
    refine ⟨d, ?_, d2, d3⟩
    rcases Nat.lt_or_ge t d with h5 | h5
    ·omega
    ·obtain rfl : d = t := by omega
     rw [hc] at d3
     cases d3
theorem buWay_ev (ho : ∀ c ∈ cs, c ≠ 35) (a : Int) (ha : inCells cs a) : ∃ r : Int, Ev (fun k => spec_buWay.f k w h cs a) r ∧ (0 ≤ r ↔ wayB w h cs a = true) := by
 obtain ⟨r, h1, h2⟩ := buWay_l0 hw hh hs hn ho a ha 4 0 (by omega)
 refine ⟨r, h1, h2.trans ?_⟩
 unfold wayB
 rw [List.any_eq_true]
 exact ⟨fun ⟨d, _, d2, d3⟩ => ⟨d, List.mem_range.2 d2, d3⟩, fun ⟨d, d2, d3⟩ => ⟨d, Nat.zero_le _, List.mem_range.1 d2, d3⟩⟩
end
theorem set_open {cs : List Int} (ho : ∀ c ∈ cs, c = 46 ∨ c = 111) (j : Nat) (v : Int) (hv : v = 46 ∨ v = 111) : ∀ c ∈ cs.set j v, c = 46 ∨ c = 111 := by
 intro c hc
 rcases List.mem_or_eq_of_mem_set hc with h | h
 ·exact ho c h
 ·rw [h]
  exact hv
def isB3 (w h : Nat) (cs : List Int) : Prop := (1 ≤ (ballsOf cs).length ∧ (ballsOf cs).length ≤ 10) ∧ (mins w h cs (w * h)).length = 1
section
variable {w h : Nat} {cs : List Int} (hw1 : 1 ≤ w) (hw : w ≤ 7) (hh1 : 1 ≤ h) (hh : h ≤ 7) (hs : w * h ≤ 36) (hn : cs.length = w * h)
include hw1 hw hh1 hh hs hn
open Classical in
theorem buIs3_ev : Ev (fun k => spec_buIs.f k w h cs) (decide (isB3 w h cs)) := by
 have h1 := buIs_ev hw hh hs hn
 by_cases hk : isB3 w h cs
 ·rw [decide_eq_true hk]
  rwa [decide_eq_true (show (1 ≤ (ballsOf cs).length ∧ (ballsOf cs).length ≤ 10) ∧ (mins w h cs (w * h)).length = 1 from hk)] at h1
 ·rw [decide_eq_false hk]
  rwa [decide_eq_false (show ¬ ((1 ≤ (ballsOf cs).length ∧ (ballsOf cs).length ≤ 10) ∧ (mins w h cs (w * h)).length = 1) from hk)] at h1
end
end Go.Proofs.YtmefnfhghfemgaaDoor.Q
end
section
namespace Go.Proofs.YtmefnfhghfemgaaDoor.Q
set_option linter.unusedSectionVars false
open Go.RowKit Go.Proofs.YtmefnfhghfemgaaDoorW.PrintWords Go.Proofs.YtmefnfhghfemgaaDoorW.PrintLast Go.Proofs.YtmefnfhghfemgaaDoorW.PrintMore
open Classical
theorem bI_set {c : List Int} {a v j : Int} (ha : 0 ≤ a) (hl : a < (c.length : Int)) (hj : 0 ≤ j) : bI (c.set a.toNat v) j = if j = a then isB v else bI c j := by
 unfold bI
 rw [rd_set c a j v ha hl hj]
 split <;> rfl
theorem len_one {l : List Nat} {a : Nat} (hn : l.Nodup) (ha : a ∈ l) (h : ∀ b ∈ l, b = a) : l.length = 1 := by
 match l, hn, ha, h with
 | [x], _, _, _ => rfl
 | x :: y :: r, hn, ha, h =>
  have h1 := h x (by simp)
  have h2 := h y (by simp)
  rw [List.nodup_cons] at hn
  exact absurd (show x ∈ y :: r by rw [h1, h2]; exact List.mem_cons_self) hn.1
section
variable {w h : Nat} {cs : List Int} (hw : w ≤ 7) (hh : h ≤ 7) (hs : w * h ≤ 36)
include hw hh hs
theorem min_below : ∀ (n : Nat) (j : Nat), j ≤ n → j < w * h → bI cs j = true → ∃ i : Nat, i ≤ j ∧ isMin w h cs i ∧ Rch w h cs i j
 | 0, j, hj, hl, hb => by
  obtain rfl : j = 0 := by omega
  exact ⟨0, Nat.le_refl _, ⟨hb, fun m hm => by omega⟩, Rch.refl _ (by omega) (by omega) hb⟩
 | n + 1, j, hj, hl, hb => by
  by_cases hm : ∃ m : Nat, m < j ∧ Rch w h cs m j
  ·obtain ⟨m, hm1, hm2⟩ := hm
   have hs1 := Rch.src hw hh hs hm2
   obtain ⟨i, h1, h2, h3⟩ := min_below n m (by omega) (by omega) hs1.2.2
   exact ⟨i, by omega, h2, Rch.trans hw hh hs h3 hm2⟩
  ·exact ⟨j, Nat.le_refl _, ⟨hb, fun m h1 h2 => hm ⟨m, h1, h2⟩⟩, Rch.refl _ (by omega) (by omega) hb⟩
theorem one_piece (hn : cs.length = w * h) : (mins w h cs (w * h)).length = 1 ↔ (∃ j : Nat, j < w * h ∧ bI cs j = true) ∧ ∀ i j : Nat, i < w * h → j < w * h → bI cs i = true → bI cs j = true → Rch w h cs i j := by
 constructor
 ·intro hl
  match hq : mins w h cs (w * h), hl with
  | [m], _ =>
   have hmem : ∀ i : Nat, i ∈ mins w h cs (w * h) ↔ i = m := fun i => by rw [hq, List.mem_singleton]
   have hm : m < w * h ∧ isMin w h cs m := by
    have h1 := (hmem m).2 rfl
    unfold mins at h1
    have h2 := List.mem_filter.1 h1
    exact ⟨List.mem_range.1 h2.1, of_decide_eq_true h2.2⟩
   have hall : ∀ j : Nat, j < w * h → bI cs j = true → Rch w h cs m j := by
    intro j hj hb
    obtain ⟨i, h1, h2, h3⟩ := min_below hw hh hs j j (Nat.le_refl _) hj hb
    have h4 : i ∈ mins w h cs (w * h) := by
     unfold mins
     exact List.mem_filter.2 ⟨List.mem_range.2 (by omega), decide_eq_true h2⟩
    rw [(hmem i).1 h4] at h3
    exact h3
   exact ⟨⟨m, hm.1, hm.2.1⟩, fun i j hi hj hbi hbj => Rch.trans hw hh hs (Rch.symm hw hh hs (hall i hi hbi)) (hall j hj hbj)⟩
 ·rintro ⟨⟨j, hj, hb⟩, hall⟩
  obtain ⟨i, h1, h2, h3⟩ := min_below hw hh hs j j (Nat.le_refl _) hj hb
  have hnd : (mins w h cs (w * h)).Nodup := by
   unfold mins
   exact List.Nodup.sublist List.filter_sublist List.nodup_range
  refine len_one (a := i) hnd ?_ fun b hbm => ?_
  ·unfold mins
   exact List.mem_filter.2 ⟨List.mem_range.2 (by omega), decide_eq_true h2⟩
  ·unfold mins at hbm
   have h5 := List.mem_filter.1 hbm
   have h6 := List.mem_range.1 h5.1
   have h7 : isMin w h cs b := of_decide_eq_true h5.2
   rcases Nat.lt_trichotomy b i with h8 | h8 | h8
   ·exact absurd (hall b i h6 (by omega) h7.1 h2.1) (h2.2 b h8)
   ·exact h8
   ·exact absurd (hall i b (by omega) h6 h2.1 h7.1) (h7.2 i h8)
theorem piece_put (hn : cs.length = w * h) (a : Int) (ha : inCells cs a) (hx : nextB w h cs a = true) (h1 : (mins w h cs (w * h)).length = 1) : (mins w h (cs.set a.toNat 111) (w * h)).length = 1 := by
 unfold inCells at ha
 have hn2 : (cs.set a.toNat 111).length = w * h := by rw [List.length_set]; exact hn
 have hset : ∀ j : Int, 0 ≤ j → bI (cs.set a.toNat 111) j = if j = a then true else bI cs j := fun j hj => bI_set ha.1 ha.2 hj
 obtain ⟨j, rfl⟩ : ∃ j : Nat, a = j := ⟨a.toNat, by omega⟩
 have hj : j < w * h := by omega
 rw [one_piece hw hh hs hn] at h1
 rw [one_piece hw hh hs hn2]
 obtain ⟨_, hall⟩ := h1
 have hbj : bI (cs.set (j : Int).toNat 111) (j : Int) = true := by rw [hset _ (by omega), if_pos rfl]
 refine ⟨⟨j, hj, hbj⟩, ?_⟩
 unfold nextB at hx
 rw [List.any_eq_true] at hx
 obtain ⟨b, hb1, hb2⟩ := hx
 have hb2 : bI cs b = true := hb2
 rw [Int.toNat_natCast] at hb1
 have hba := nbs_at hw hh hs hj hb1
 obtain ⟨b', rfl⟩ : ∃ b' : Nat, b = b' := ⟨b.toNat, by omega⟩
 have hmono : ∀ i : Int, bI cs i = true → 0 ≤ i → bI (cs.set (j : Int).toNat 111) i = true := fun i h2 h3 => by
  rw [hset i h3]
  split
  ·rfl
  ·exact h2
 have hmono2 : ∀ {x y : Int}, Rch w h cs x y → Rch w h (cs.set (j : Int).toNat 111) x y := by
  intro x y hr
  induction hr with
  | refl h0 h1 hb => exact Rch.refl _ h0 h1 (hmono _ hb h0)
  | step u v hu hv hb ih =>
   have hru := Rch.at hw hh hs hu
   have := nbs_at hw hh hs (i := u.toNat) (by omega) hv
   exact Rch.step _ u v ih hv (hmono _ hb this.1)
 have hbb : bI (cs.set (j : Int).toNat 111) (b' : Int) = true := hmono _ hb2 (by omega)
 have hjb : Rch w h (cs.set (j : Int).toNat 111) (j : Int) (b' : Int) := Rch.step _ _ _ (Rch.refl _ (by omega) (by omega) hbj) (by rw [Int.toNat_natCast]; exact hb1) hbb
 have hto : ∀ i : Nat, i < w * h → bI (cs.set (j : Int).toNat 111) (i : Int) = true → Rch w h (cs.set (j : Int).toNat 111) (i : Int) (b' : Int) := by
  intro i hi hbi
  rw [hset _ (by omega)] at hbi
  by_cases e : (i : Int) = (j : Int)
  ·rw [e]
   exact hjb
  ·rw [if_neg e] at hbi
   exact hmono2 (hall i b' hi (by omega) hbi hb2)
 intro x y hx hy hbx hby
 exact Rch.trans hw hh hs (hto x hx hbx) (Rch.symm hw hh hs (hto y hy hby))
theorem piece_one (hn : cs.length = w * h) (j : Nat) (hj : j < w * h) (hb : ∀ i : Nat, i < w * h → (bI cs i = true ↔ i = j)) : (mins w h cs (w * h)).length = 1 := by
 rw [one_piece hw hh hs hn]
 refine ⟨⟨j, hj, (hb j hj).2 rfl⟩, fun x y hx hy hbx hby => ?_⟩
 rw [(hb x hx).1 hbx, (hb y hy).1 hby]
 exact Rch.refl _ (by omega) (by omega) ((hb j hj).2 rfl)
end
end Go.Proofs.YtmefnfhghfemgaaDoor.Q
end
section
namespace Go.Proofs.YtmefnfhghfemgaaDoor.Q
namespace PO
def sumL (l : List Nat) (f : Nat → Nat) : Nat := (l.map f).sum
theorem sumL_nil (f : Nat → Nat) : sumL [] f = 0 := rfl
theorem sumL_cons (a : Nat) (l : List Nat) (f : Nat → Nat) : sumL (a :: l) f = f a + sumL l f := by simp [sumL]
theorem sumL_congr {l : List Nat} {f g : Nat → Nat} (h : ∀ a ∈ l, f a = g a) : sumL l f = sumL l g := by
 induction l with
 | nil => rfl
 | cons a l ih => rw [sumL_cons, sumL_cons, h a (by simp), ih fun b hb => h b (by simp [hb])]
theorem sumL_add (l : List Nat) (f g : Nat → Nat) : sumL l (fun a => f a + g a) = sumL l f + sumL l g := by
 induction l with
 | nil => rfl
 | cons a l ih => simp only [sumL_cons, ih]; omega
theorem sumL_zero (l : List Nat) : sumL l (fun _ => 0) = 0 := by
 induction l with
 | nil => rfl
 | cons a l ih => simp only [sumL_cons, ih]
theorem sumL_swap (l m : List Nat) (f : Nat → Nat → Nat) : sumL l (fun a => sumL m (f a)) = sumL m fun b => sumL l fun a => f a b := by
 induction l with
 | nil => simp only [sumL_nil, sumL_zero]
 | cons a l ih => simp only [sumL_cons, ih, sumL_add]
theorem sumL_mul' (l : List Nat) (f : Nat → Nat) (c : Nat) : sumL l (fun a => c * f a) = c * sumL l f := by
 induction l with
 | nil => simp [sumL_nil]
 | cons a l ih => simp only [sumL_cons, ih, Nat.mul_add]
theorem sumL_le {l : List Nat} {f g : Nat → Nat} (h : ∀ a ∈ l, f a ≤ g a) : sumL l f ≤ sumL l g := by
 induction l with
 | nil => exact Nat.le_refl _
 | cons a l ih =>
  rw [sumL_cons, sumL_cons]
  have := h a (by simp)
  have := ih fun b hb => h b (by simp [hb])
  omega
theorem put_bits {S i : Nat} (hb : S.testBit i = false) (j : Nat) : (S + 2 ^ i).testBit j = (S.testBit j || decide (i = j)) := by
 have h2 : S % 2 ^ (i + 1) < 2 ^ i := by
  rcases Nat.lt_or_ge (S % 2 ^ (i + 1)) (2 ^ i) with h | h
  ·exact h
  ·have h3 : S % 2 ^ (i + 1) < 2 ^ (i + 1) := Nat.mod_lt _ (Nat.two_pow_pos _)
   have h4 := Nat.testBit_of_two_pow_le_and_two_pow_add_one_gt h h3
   rw [Nat.testBit_mod_two_pow, hb] at h4
   simp at h4
 have hS : S = 2 ^ (i + 1) * (S / 2 ^ (i + 1)) + S % 2 ^ (i + 1) := (Nat.div_add_mod S (2 ^ (i + 1))).symm
 have hp : 2 ^ (i + 1) = 2 ^ i + 2 ^ i := by rw [Nat.pow_succ]; omega
 generalize S / 2 ^ (i + 1) = q at hS
 generalize S % 2 ^ (i + 1) = r at hS h2
 have e : S + 2 ^ i = 2 ^ (i + 1) * q + (2 ^ i + r) := by omega
 rw [e, Nat.testBit_two_pow_mul_add q (by omega) j]
 conv => rhs; rw [hS, Nat.testBit_two_pow_mul_add q (by omega) j]
 split
 ·rcases Nat.lt_trichotomy j i with h | h | h
  ·rw [Nat.testBit_two_pow_add_gt h]
   simp
   omega
  ·subst h
   rw [Nat.testBit_two_pow_add_eq, Nat.testBit_lt_two_pow h2]
   simp
  ·omega
 ·rename_i h
  have : decide (i = j) = false := decide_eq_false (by omega)
  rw [this, Bool.or_false]
theorem put_or {S i : Nat} (hb : S.testBit i = false) : S + 2 ^ i = S ||| 2 ^ i := Nat.eq_of_testBit_eq fun j => by rw [put_bits hb, Nat.testBit_or, Nat.testBit_two_pow]
theorem put_lt {n S i : Nat} (hS : S < 2 ^ n) (hi : i < n) (hb : S.testBit i = false) : S + 2 ^ i < 2 ^ n := by
 rw [put_or hb]
 exact Nat.or_lt_two_pow hS (Nat.pow_lt_pow_right (by decide) hi)
section
variable (n : Nat) (e : Nat → Nat → Bool)
def on (S i : Nat) : Nat := if S.testBit i = false ∧ e S i = true then 1 else 0
def back (T k : Nat) : Nat := if T.testBit k = true ∧ e (T - 2 ^ k) k = true then 1 else 0
def ways : Nat → Nat → Nat → Nat
 | 0, _, _ => 0
 | f + 1, S, T => (if S = T then 1 else 0) + sumL (List.range n) fun i => on e S i * ways f (S + 2 ^ i) T
theorem ways_same : ∀ (f g S T : Nat), S < 2 ^ n → 2 ^ n ≤ f + S → 2 ^ n ≤ g + S → ways n e f S T = ways n e g S T
 | 0, g, S, T, hS, hf, hg => by omega
 | f + 1, 0, S, T, hS, hf, hg => by omega
 | f + 1, g + 1, S, T, hS, hf, hg => by
  unfold ways
  refine congrArg _ (sumL_congr fun i hi => ?_)
  unfold on
  split
  ·rename_i h
   have hp := Nat.two_pow_pos i
   rw [ways_same f g (S + 2 ^ i) T (put_lt hS (List.mem_range.1 hi) h.1) (by omega) (by omega)]
  ·rw [Nat.zero_mul, Nat.zero_mul]
def Q (S T : Nat) : Nat := ways n e (2 ^ n) S T
theorem Q_step {S : Nat} (hS : S < 2 ^ n) (T : Nat) : Q n e S T = (if S = T then 1 else 0) + sumL (List.range n) fun i => on e S i * Q n e (S + 2 ^ i) T := by
 have h0 := Nat.two_pow_pos n
 obtain ⟨f, hf⟩ : ∃ f, 2 ^ n = f + 1 := ⟨2 ^ n - 1, by omega⟩
 have h1 : Q n e S T = ways n e (f + 1) S T := by unfold Q; rw [hf]
 rw [h1, ways]
 refine congrArg _ (sumL_congr fun i hi => ?_)
 unfold on
 split
 ·rename_i h
  have hp := Nat.two_pow_pos i
  rw [Q, ways_same n e f (2 ^ n) (S + 2 ^ i) T (put_lt hS (List.mem_range.1 hi) h.1) (by omega) (by omega)]
 ·rw [Nat.zero_mul, Nat.zero_mul]
theorem Q_down : ∀ (f S T : Nat), S < 2 ^ n → 2 ^ n ≤ f + S → T < S → Q n e S T = 0
 | 0, S, T, hS, hf, hT => by omega
 | f + 1, S, T, hS, hf, hT => by
  rw [Q_step n e hS, if_neg (by omega), Nat.zero_add]
  rw [sumL_congr (g := fun _ => 0), sumL_zero]
  intro i hi
  unfold on
  split
  ·rename_i h
   have hp := Nat.two_pow_pos i
   rw [Q_down f (S + 2 ^ i) T (put_lt hS (List.mem_range.1 hi) h.1) (by omega) (by omega)]
  ·rw [Nat.zero_mul]
theorem Q_self {S : Nat} (hS : S < 2 ^ n) : Q n e S S = 1 := by
 rw [Q_step n e hS, if_pos rfl, sumL_congr (g := fun _ => 0), sumL_zero]
 intro i hi
 unfold on
 split
 ·rename_i h
  have hp := Nat.two_pow_pos i
  rw [Q_down n e (2 ^ n) (S + 2 ^ i) S (put_lt hS (List.mem_range.1 hi) h.1) (by omega) (by omega)]
 ·rw [Nat.zero_mul]
theorem take_bit {T k : Nat} (h : T.testBit k = true) : ∃ S, T = S + 2 ^ k ∧ S.testBit k = false := by
 refine ⟨T ^^^ 2 ^ k, ?_, by rw [Nat.testBit_xor, h, Nat.testBit_two_pow_self]; rfl⟩
 have hb : (T ^^^ 2 ^ k).testBit k = false := by rw [Nat.testBit_xor, h, Nat.testBit_two_pow_self]; rfl
 refine Nat.eq_of_testBit_eq fun j => ?_
 rw [put_bits hb, Nat.testBit_xor, Nat.testBit_two_pow]
 by_cases e : k = j
 ·subst e
  rw [h]
  simp
 ·simp [e]
theorem Q_last : ∀ (f S T : Nat), S < 2 ^ n → T < 2 ^ n → 2 ^ n ≤ f + S → S ≠ T → Q n e S T = sumL (List.range n) fun k => back e T k * Q n e S (T - 2 ^ k)
 | 0, S, T, hS, hT, hf, hne => by omega
 | f + 1, S, T, hS, hT, hf, hne => by
  have h1 : Q n e S T = sumL (List.range n) fun i => on e S i * ((if S + 2 ^ i = T then 1 else 0) + sumL (List.range n) fun k => back e T k * Q n e (S + 2 ^ i) (T - 2 ^ k)) := by
   rw [Q_step n e hS, if_neg hne, Nat.zero_add]
   refine sumL_congr fun i hi => ?_
   unfold on
   split
   ·rename_i h
    have hp := Nat.two_pow_pos i
    have hl := put_lt hS (List.mem_range.1 hi) h.1
    by_cases ht : S + 2 ^ i = T
    ·rw [if_pos ht, ht, Q_self n e hT, sumL_congr (g := fun _ => 0), sumL_zero]
     intro k hk
     unfold back
     split
     ·rename_i h2
      obtain ⟨U, hU, _⟩ := take_bit h2.1
      have hp2 := Nat.two_pow_pos k
      rw [Q_down n e (2 ^ n) T (T - 2 ^ k) hT (by omega) (by omega)]
     ·rw [Nat.zero_mul]
    ·rw [if_neg ht, Nat.zero_add, Q_last f (S + 2 ^ i) T hl hT (by omega) ht]
   ·rw [Nat.zero_mul, Nat.zero_mul]
  have h2 : (sumL (List.range n) fun k => back e T k * Q n e S (T - 2 ^ k)) = sumL (List.range n) fun k => back e T k * (if S = T - 2 ^ k then 1 else 0) + back e T k * sumL (List.range n) fun i => on e S i * Q n e (S + 2 ^ i) (T - 2 ^ k) :=
   sumL_congr fun k hk => by rw [Q_step n e hS, Nat.mul_add]
  rw [h1, h2, sumL_add]
  have h3 : (sumL (List.range n) fun i => on e S i * ((if S + 2 ^ i = T then 1 else 0) + sumL (List.range n) fun k => back e T k * Q n e (S + 2 ^ i) (T - 2 ^ k))) = (sumL (List.range n) fun i => on e S i * (if S + 2 ^ i = T then 1 else 0)) + sumL (List.range n) fun i => on e S i * sumL (List.range n) fun k => back e T k * Q n e (S + 2 ^ i) (T - 2 ^ k) := by
   rw [← sumL_add]
   exact sumL_congr fun i hi => Nat.mul_add _ _ _
  rw [h3]
  congr 1
  ·refine sumL_congr fun i hi => ?_
   unfold on back
   by_cases hb : S.testBit i = false ∧ S + 2 ^ i = T
   ·obtain ⟨hb1, hb2⟩ := hb
    have ht : T.testBit i = true := by rw [← hb2, put_bits hb1]; simp
    have hs : T - 2 ^ i = S := by omega
    rw [if_pos hb2, if_pos hs.symm, hs]
    simp [hb1, ht]
   ·have hz : (if T.testBit i = true ∧ e (T - 2 ^ i) i = true then 1 else 0) * (if S = T - 2 ^ i then 1 else 0) = 0 := by
     by_cases ht : T.testBit i = true ∧ S = T - 2 ^ i
     ·obtain ⟨U, hU, hU2⟩ := take_bit ht.1
      have : S = U := by omega
      subst this
      exact absurd ⟨hU2, hU.symm⟩ hb
     ·by_cases h5 : T.testBit i = true
      ·rw [if_neg fun h => ht ⟨h5, h⟩, Nat.mul_zero]
      ·rw [if_neg fun h => h5 h.1, Nat.zero_mul]
    rw [hz]
    by_cases h6 : S.testBit i = false
    ·rw [if_neg fun h => hb ⟨h6, h⟩, Nat.mul_zero]
    ·rw [if_neg fun h => h6 h.1, Nat.zero_mul]
  ·have h4 : (sumL (List.range n) fun i => on e S i * sumL (List.range n) fun k => back e T k * Q n e (S + 2 ^ i) (T - 2 ^ k)) = sumL (List.range n) fun i => sumL (List.range n) fun k => on e S i * (back e T k * Q n e (S + 2 ^ i) (T - 2 ^ k)) :=
    sumL_congr fun i hi => (sumL_mul' _ _ _).symm
   rw [h4, sumL_swap]
   refine sumL_congr fun k hk => ?_
   rw [← sumL_mul']
   exact sumL_congr fun i hi => Nat.mul_left_comm _ _ _
end
theorem count_more {p q : Nat → Bool} {k : Nat} (hp : p k = false) (hq : q k = true) (ho : ∀ j, j ≠ k → q j = p j) : ∀ n, (List.range n).countP q = (List.range n).countP p + if k < n then 1 else 0
 | 0 => rfl
 | n + 1 => by
  have ih := count_more hp hq ho n
  rw [List.range_succ, List.countP_append, List.countP_append, ih, List.countP_singleton, List.countP_singleton]
  rcases Nat.lt_trichotomy k n with h | h | h
  ·have e1 : (if k < n then 1 else 0) = (1 : Nat) := if_pos h
   have e2 : (if k < n + 1 then 1 else 0) = (1 : Nat) := if_pos (by omega)
   rw [e1, e2, ho n (by omega)]
   omega
  ·subst h
   have e1 : (if k < k then 1 else 0) = (0 : Nat) := if_neg (Nat.lt_irrefl _)
   have e2 : (if k < k + 1 then 1 else 0) = (1 : Nat) := if_pos (by omega)
   rw [e1, e2, hp, hq]
   simp
  ·have e1 : (if k < n then 1 else 0) = (0 : Nat) := if_neg (by omega)
   have e2 : (if k < n + 1 then 1 else 0) = (0 : Nat) := if_neg (by omega)
   rw [e1, e2, ho n (by omega)]
   omega
def pc (n T : Nat) : Nat := (List.range n).countP fun i => T.testBit i
theorem pc_put {n S k : Nat} (hb : S.testBit k = false) (hk : k < n) : pc n (S + 2 ^ k) = pc n S + 1 := by
 unfold pc
 rw [count_more (p := fun i => S.testBit i) (q := fun i => (S + 2 ^ k).testBit i) (k := k) hb (by rw [put_bits hb]; simp) (fun j hj => by rw [put_bits hb]; simp [Ne.symm hj]) n, if_pos hk]
theorem pc_le (n T : Nat) : pc n T ≤ n := by
 have := List.countP_le_length (p := fun i => T.testBit i) (l := List.range n)
 rw [List.length_range] at this
 exact this
theorem sumL_const (l : List Nat) (c : Nat) : sumL l (fun _ => c) = l.length * c := by
 induction l with
 | nil => rw [sumL_nil, List.length_nil, Nat.zero_mul]
 | cons a l ih => rw [sumL_cons, ih, List.length_cons, Nat.succ_mul, Nat.add_comm]
theorem sumL_append (l m : List Nat) (f : Nat → Nat) : sumL (l ++ m) f = sumL l f + sumL m f := by simp [sumL]
theorem sumL_part (f : Nat → Nat) (m n : Nat) (h : m ≤ n) : sumL (List.range m) f ≤ sumL (List.range n) f := by
 obtain ⟨d, rfl⟩ : ∃ d, n = m + d := ⟨n - m, by omega⟩
 rw [List.range_add, sumL_append]
 omega
section
variable (n : Nat) (e : Nat → Nat → Bool)
theorem Q_bound (hn : n ≤ 10) : ∀ (m S T : Nat), pc n T ≤ m → S < 2 ^ n → T < 2 ^ n → Q n e S T ≤ 10 ^ m
 | m, S, T, hm, hS, hT => by
  by_cases hst : S = T
  ·subst hst
   rw [Q_self n e hS]
   exact Nat.one_le_pow _ _ (by decide)
  ·rw [Q_last n e (2 ^ n) S T hS hT (by omega) hst]
   match m with
   | 0 =>
    rw [sumL_congr (g := fun _ => 0), sumL_zero]
    ·exact Nat.zero_le _
    ·intro k hk
     unfold back
     split
     ·rename_i h
      obtain ⟨U, hU, hb⟩ := take_bit h.1
      rw [hU, pc_put hb (List.mem_range.1 hk)] at hm
      omega
     ·rw [Nat.zero_mul]
   | m + 1 =>
    have h1 : sumL (List.range n) (fun k => back e T k * Q n e S (T - 2 ^ k)) ≤ sumL (List.range n) fun _ => 10 ^ m := by
     refine sumL_le fun k hk => ?_
     unfold back
     split
     ·rename_i h
      obtain ⟨U, hU, hb⟩ := take_bit h.1
      have hp2 := Nat.two_pow_pos k
      have e1 : T - 2 ^ k = U := by omega
      rw [e1, Nat.one_mul]
      refine Q_bound hn m S U ?_ hS (by omega)
      rw [hU, pc_put hb (List.mem_range.1 hk)] at hm
      omega
     ·rw [Nat.zero_mul]
      exact Nat.zero_le _
    rw [sumL_const, List.length_range] at h1
    rw [Nat.pow_succ, Nat.mul_comm (10 ^ m)]
    exact Nat.le_trans h1 (Nat.mul_le_mul_right _ hn)
theorem Q_fits (hn : n ≤ 10) {S T : Nat} (hS : S < 2 ^ n) (hT : T < 2 ^ n) : Q n e S T ≤ 10000000000 :=
 Nat.le_trans (Q_bound n e hn (pc n T) S T (Nat.le_refl _) hS hT) (Nat.le_trans (Nat.pow_le_pow_right (by decide) (Nat.le_trans (pc_le n T) hn)) (by decide))
theorem Q_keeps {P : Nat → Prop} (hP : ∀ S i, S < 2 ^ n → i < n → S.testBit i = false → e S i = true → P S → P (S + 2 ^ i)) : ∀ (m S T : Nat), pc n T ≤ m → S < 2 ^ n → T < 2 ^ n → P S → Q n e S T ≠ 0 → P T
 | m, S, T, hm, hS, hT, h0, hq => by
  by_cases hst : S = T
  ·rw [← hst]
   exact h0
  ·rw [Q_last n e (2 ^ n) S T hS hT (by omega) hst] at hq
   have h1 : ∃ k, k < n ∧ back e T k * Q n e S (T - 2 ^ k) ≠ 0 := by
    apply Classical.byContradiction
    intro h2
    apply hq
    rw [sumL_congr (g := fun _ => 0), sumL_zero]
    intro k hk
    apply Classical.byContradiction
    intro h3
    exact h2 ⟨k, List.mem_range.1 hk, h3⟩
   obtain ⟨k, hk, h3⟩ := h1
   have h4 : T.testBit k = true ∧ e (T - 2 ^ k) k = true := by
    apply Classical.byContradiction
    intro h5
    unfold back at h3
    rw [if_neg h5, Nat.zero_mul] at h3
    exact h3 rfl
   obtain ⟨U, hU, hb⟩ := take_bit h4.1
   have hp2 := Nat.two_pow_pos k
   have e1 : T - 2 ^ k = U := by omega
   rw [e1] at h3 h4
   match m with
   | 0 =>
    rw [hU, pc_put hb hk] at hm
    omega
   | m + 1 =>
    have h6 := Q_keeps hP m S U (by rw [hU, pc_put hb hk] at hm; omega) hS (by omega) h0 fun h7 => h3 (by rw [h7, Nat.mul_zero])
    rw [hU]
    exact hP U k (by omega) hk hb h4.2 h6
end
theorem mu_put {α : Type} (f : Nat → Option α) (s : Nat) (v : α) (M : Nat) (hs : s < M) (hf : f s = none) : (List.range M).countP (fun x => (f x).isNone) = (List.range M).countP (fun x => (if x = s then some v else f x).isNone) + 1 := by
 rw [count_more (p := fun x => (if x = s then some v else f x).isNone) (q := fun x => (f x).isNone) (k := s) (by simp) (by simp [hf]) (fun j hj => by simp [hj]) M, if_pos hs]
end PO
open Go.RowKit Go.Proofs.YtmefnfhghfemgaaDoorW.PrintWords Go.Proofs.YtmefnfhghfemgaaDoorW.PrintLast Go.Proofs.YtmefnfhghfemgaaDoorW.PrintMore
def putC (z L : List Int) (S : Nat) : Nat → List Int
 | 0 => z
 | t + 1 => if S.testBit t = true then (putC z L S t).set (rd L (t : Int)).toNat 111 else putC z L S t
theorem putC_len (z L : List Int) (S : Nat) : ∀ t, (putC z L S t).length = z.length
 | 0 => rfl
 | t + 1 => by
  unfold putC
  split
  ·rw [List.length_set, putC_len z L S t]
  ·exact putC_len z L S t
end Go.Proofs.YtmefnfhghfemgaaDoor.Q
end
section
namespace Go.Proofs.YtmefnfhghfemgaaDoor.Q
set_option linter.unusedSectionVars false
open Go.RowKit Go.Proofs.YtmefnfhghfemgaaDoorW.PrintWords Go.Proofs.YtmefnfhghfemgaaDoorW.PrintLast Go.Proofs.YtmefnfhghfemgaaDoorW.PrintMore
open Classical
theorem ifc {α : Type} {p q : Prop} [Decidable p] [Decidable q] {x y : α} (h : p ↔ q) : (if p then x else y) = (if q then x else y) := by
 by_cases hp : p
 ·rw [if_pos hp, if_pos (h.1 hp)]
 ·rw [if_neg hp, if_neg fun hq => hp (h.2 hq)]
theorem rd_same {a b : List Int} (hl : a.length = b.length) (h : ∀ j : Nat, j < a.length → rd a (j : Int) = rd b (j : Int)) : a = b := by
 refine List.ext_getElem hl fun j h1 h2 => ?_
 have h3 := h j h1
 rwa [rd_nat a j h1, rd_nat b j h2] at h3
def nowC (N : Nat) (L : List Int) (S : Nat) : List Int := putC (List.replicate N 46) L S L.length
structure Cells (N : Nat) (L : List Int) : Prop where
 inN : ∀ i : Nat, i < L.length → 0 ≤ rd L (i : Int) ∧ rd L (i : Int) < (N : Int)
 inj : ∀ i j : Nat, i < L.length → j < L.length → rd L (i : Int) = rd L (j : Int) → i = j
section
variable {N : Nat} {L : List Int} (hL : Cells N L)
include hL
theorem putC_rd (S : Nat) (j : Nat) (hj : j < N) : ∀ t, t ≤ L.length → rd (putC (List.replicate N 46) L S t) (j : Int) = if ∃ i : Nat, i < t ∧ S.testBit i = true ∧ rd L (i : Int) = (j : Int) then 111 else 46
 | 0, _ => by
  rw [if_neg fun ⟨i, h, _⟩ => by omega]
  unfold putC rd
  rw [Int.toNat_natCast, List.getD_eq_getElem?_getD, List.getElem?_replicate, if_pos hj]
  rfl
 | t + 1, ht => by
  have ih := putC_rd S j hj t (by omega)
  have hr := hL.inN t (by omega)
  unfold putC
  by_cases hb : S.testBit t = true
  ·rw [if_pos hb, rd_set _ _ _ _ hr.1 (by rw [putC_len, List.length_replicate]; exact hr.2) (by omega)]
   by_cases e : (j : Int) = rd L (t : Int)
   ·rw [if_pos e, if_pos ⟨t, by omega, hb, e.symm⟩]
   ·rw [if_neg e, ih]
    refine ifc ⟨fun ⟨i, h1, h2, h3⟩ => ⟨i, by omega, h2, h3⟩, fun ⟨i, h1, h2, h3⟩ => ⟨i, ?_, h2, h3⟩⟩
    rcases Nat.lt_or_ge i t with h | h
    ·exact h
    ·obtain rfl : i = t := by omega
     exact absurd h3.symm e
  ·rw [if_neg hb, ih]
   refine ifc ⟨fun ⟨i, h1, h2, h3⟩ => ⟨i, by omega, h2, h3⟩, fun ⟨i, h1, h2, h3⟩ => ⟨i, ?_, h2, h3⟩⟩
   rcases Nat.lt_or_ge i t with h | h
   ·exact h
   ·obtain rfl : i = t := by omega
    exact absurd h2 hb
theorem nowC_len (S : Nat) : (nowC N L S).length = N := by
 unfold nowC
 rw [putC_len, List.length_replicate]
theorem nowC_rd (S : Nat) (j : Nat) (hj : j < N) : rd (nowC N L S) (j : Int) = if ∃ i : Nat, i < L.length ∧ S.testBit i = true ∧ rd L (i : Int) = (j : Int) then 111 else 46 := putC_rd hL S j hj L.length (Nat.le_refl _)
theorem nowC_ball (S : Nat) (j : Nat) (hj : j < N) : bI (nowC N L S) (j : Int) = true ↔ ∃ i : Nat, i < L.length ∧ S.testBit i = true ∧ rd L (i : Int) = (j : Int) := by
 unfold bI
 rw [nowC_rd hL S j hj]
 split
 ·rename_i h
  exact ⟨fun _ => h, fun _ => by decide⟩
 ·rename_i h
  exact ⟨fun h2 => absurd h2 (by decide), fun h2 => absurd h2 h⟩
theorem nowC_open (S : Nat) : ∀ c ∈ nowC N L S, c = 46 ∨ c = 111 := by
 intro c hc
 obtain ⟨j, hj, rfl⟩ := List.getElem_of_mem hc
 have h1 := nowC_len hL S
 have h2 := nowC_rd hL S j (by omega)
 rw [rd_nat _ j hj] at h2
 rw [h2]
 split
 ·exact Or.inr rfl
 ·exact Or.inl rfl
theorem nowC_in (S : Nat) (k : Nat) (hk : k < L.length) : inCells (nowC N L S) (rd L (k : Int)) := by
 unfold inCells
 rw [nowC_len hL]
 exact hL.inN k hk
theorem nowC_at (S : Nat) (k : Nat) (hk : k < L.length) : rd (nowC N L S) (rd L (k : Int)) = if S.testBit k = true then 111 else 46 := by
 obtain ⟨h0, h1⟩ := hL.inN k hk
 obtain ⟨j, hj⟩ : ∃ j : Nat, rd L (k : Int) = j := ⟨(rd L (k : Int)).toNat, by omega⟩
 rw [hj, nowC_rd hL S j (by omega)]
 refine ifc ⟨fun ⟨i, h2, h3, h4⟩ => ?_, fun h2 => ⟨k, hk, h2, hj⟩⟩
 rw [← hL.inj i k h2 hk (by rw [h4, hj])]
 exact h3
theorem nowC_put (S k : Nat) (hk : k < L.length) (hb : S.testBit k = false) : (nowC N L S).set (rd L (k : Int)).toNat 111 = nowC N L (S + 2 ^ k) := by
 obtain ⟨h0, h1⟩ := hL.inN k hk
 refine rd_same (by rw [List.length_set, nowC_len hL, nowC_len hL]) fun j hj => ?_
 rw [List.length_set, nowC_len hL] at hj
 rw [rd_set _ _ _ _ h0 (by rw [nowC_len hL]; exact h1) (by omega), nowC_rd hL _ j hj, nowC_rd hL _ j hj]
 by_cases e : (j : Int) = rd L (k : Int)
 ·rw [if_pos e, if_pos ⟨k, hk, by rw [PO.put_bits hb]; simp, e.symm⟩]
 ·rw [if_neg e]
  refine ifc ⟨fun ⟨i, h2, h3, h4⟩ => ⟨i, h2, by rw [PO.put_bits hb, h3]; rfl, h4⟩, fun ⟨i, h2, h3, h4⟩ => ⟨i, h2, ?_, h4⟩⟩
  rw [PO.put_bits hb] at h3
  by_cases e2 : k = i
  ·subst e2
   exact absurd h4.symm e
  ·simpa [e2] using h3
theorem nowC_take (S k : Nat) (hk : k < L.length) (hb : S.testBit k = false) : (nowC N L (S + 2 ^ k)).set (rd L (k : Int)).toNat 46 = nowC N L S := by
 obtain ⟨h0, h1⟩ := hL.inN k hk
 refine rd_same (by rw [List.length_set, nowC_len hL, nowC_len hL]) fun j hj => ?_
 rw [List.length_set, nowC_len hL] at hj
 rw [rd_set _ _ _ _ h0 (by rw [nowC_len hL]; exact h1) (by omega), nowC_rd hL _ j hj, nowC_rd hL _ j hj]
 by_cases e : (j : Int) = rd L (k : Int)
 ·rw [if_pos e, if_neg]
  rintro ⟨i, h2, h3, h4⟩
  obtain rfl := hL.inj i k h2 hk (by rw [h4, e])
  rw [hb] at h3
  cases h3
 ·rw [if_neg e]
  refine ifc ⟨fun ⟨i, h2, h3, h4⟩ => ⟨i, h2, ?_, h4⟩, fun ⟨i, h2, h3, h4⟩ => ⟨i, h2, by rw [PO.put_bits hb, h3]; rfl, h4⟩⟩
  rw [PO.put_bits hb] at h3
  by_cases e2 : k = i
  ·subst e2
   exact absurd h4.symm e
  ·simpa [e2] using h3
end
theorem some_bit {n S : Nat} (h0 : S ≠ 0) (hS : S < 2 ^ n) : ∃ i, i < n ∧ S.testBit i = true := by
 obtain ⟨i, hi⟩ := Nat.exists_testBit_of_ne_zero h0
 refine ⟨i, ?_, hi⟩
 rcases Nat.lt_or_ge i n with h | h
 ·exact h
 ·rw [Nat.testBit_lt_two_pow (Nat.lt_of_lt_of_le hS (Nat.pow_le_pow_right (by decide) h))] at hi
  cases hi
theorem ball_len (c d : List Int) (hl : c.length = d.length) (h : ∀ j : Nat, j < c.length → bI c (j : Int) = true → bI d (j : Int) = true) : (ballsOf c).length ≤ (ballsOf d).length := by
 unfold ballsOf ballsTo
 rw [List.length_map, List.length_map, ← List.countP_eq_length_filter, ← List.countP_eq_length_filter, ← hl]
 exact List.countP_mono_left fun j hj hb => h j (List.mem_range.1 hj) hb
theorem ball_some (c : List Int) (j : Nat) (hj : j < c.length) (hb : bI c (j : Int) = true) : 1 ≤ (ballsOf c).length := by
 unfold ballsOf ballsTo
 rw [List.length_map]
 exact List.length_pos_of_mem (List.mem_filter.2 ⟨List.mem_range.2 hj, hb⟩)
theorem cells_balls (cs : List Int) : Cells cs.length (ballsOf cs) := by
 have h1 : ∀ i (hi : i < (ballsOf cs).length), ∃ j : Nat, (ballsOf cs)[i] = (j : Int) ∧ j < cs.length := by
  intro i hi
  have hm := List.getElem_mem hi
  unfold ballsOf ballsTo at hm
  obtain ⟨j, hj, h2⟩ := List.mem_map.1 hm
  exact ⟨j, h2.symm, List.mem_range.1 (List.mem_filter.1 hj).1⟩
 refine ⟨fun i hi => ?_, fun i j hi hj h2 => ?_⟩
 ·obtain ⟨j, h2, h3⟩ := h1 i hi
  rw [rd_nat _ i hi, h2]
  omega
 ·rw [rd_nat _ i hi, rd_nat _ j hj] at h2
  have hnd : (ballsOf cs).Nodup := by
   unfold ballsOf ballsTo
   exact List.Pairwise.map _ (fun a b h3 e => h3 (by omega)) (List.Nodup.sublist List.filter_sublist List.nodup_range)
  exact (List.getElem_inj hnd).1 h2
def eS (w h : Nat) (N : Nat) (L : List Int) (S i : Nat) : Bool := decide (S = 0) || wayB w h (nowC N L S) (rd L (i : Int))
theorem wayB_next {w h : Nat} {cs : List Int} {a : Int} (hx : wayB w h cs a = true) : nextB w h cs a = true := by
 unfold wayB at hx
 rw [List.any_eq_true] at hx
 obtain ⟨d, _, hd⟩ := hx
 unfold canB at hd
 rw [Bool.and_eq_true] at hd
 exact hd.2
section
variable {w h : Nat} {cs : List Int} (hw : w ≤ 7) (hh : h ≤ 7) (hs : w * h ≤ 36) (hn : cs.length = w * h) (h10 : (ballsOf cs).length ≤ 10)
include hw hh hs hn h10
theorem hang_step (S i : Nat) (hS : S < 2 ^ (ballsOf cs).length) (hi : i < (ballsOf cs).length) (hb : S.testBit i = false) (he : eS w h (w * h) (ballsOf cs) S i = true) (hp : S ≠ 0 → (mins w h (nowC (w * h) (ballsOf cs) S) (w * h)).length = 1) : (mins w h (nowC (w * h) (ballsOf cs) (S + 2 ^ i)) (w * h)).length = 1 := by
 have hL : Cells (w * h) (ballsOf cs) := hn ▸ cells_balls cs
 by_cases h0 : S = 0
 ·subst h0
  obtain ⟨a, ha⟩ : ∃ a : Nat, rd (ballsOf cs) (i : Int) = a := ⟨(rd (ballsOf cs) (i : Int)).toNat, by have := hL.inN i hi; omega⟩
  have hr := hL.inN i hi
  refine piece_one hw hh hs (nowC_len hL _) a (by omega) fun j hj => ?_
  rw [nowC_ball hL _ j hj]
  constructor
  ·rintro ⟨k, h1, h2, h3⟩
   rw [PO.put_bits hb] at h2
   have h4 : i = k := by simpa using h2
   subst h4
   omega
  ·rintro rfl
   exact ⟨i, hi, by rw [PO.put_bits hb]; simp, ha⟩
 ·have hway : wayB w h (nowC (w * h) (ballsOf cs) S) (rd (ballsOf cs) (i : Int)) = true := by
   unfold eS at he
   rw [decide_eq_false h0, Bool.false_or] at he
   exact he
  rw [← nowC_put hL S i hi hb]
  exact piece_put hw hh hs (nowC_len hL _) _ (nowC_in hL S i hi) (wayB_next hway) (hp h0)
theorem isB3_now (S : Nat) (h0 : S ≠ 0) (hS : S < 2 ^ (ballsOf cs).length) : isB3 w h (nowC (w * h) (ballsOf cs) S) ↔ (mins w h (nowC (w * h) (ballsOf cs) S) (w * h)).length = 1 := by
 have hL : Cells (w * h) (ballsOf cs) := hn ▸ cells_balls cs
 unfold isB3
 refine ⟨fun h => h.2, fun h1 => ⟨⟨?_, ?_⟩, h1⟩⟩
 ·obtain ⟨i, hi, hb⟩ := some_bit h0 hS
  have hr := hL.inN i hi
  have h2 : bI (nowC (w * h) (ballsOf cs) S) (((rd (ballsOf cs) (i : Int)).toNat : Nat) : Int) = true := (nowC_ball hL S _ (by omega)).2 ⟨i, hi, hb, by omega⟩
  exact ball_some _ _ (by rw [nowC_len hL]; omega) h2
 ·refine Nat.le_trans (ball_len _ cs (by rw [nowC_len hL, hn]) fun j hj hb => ?_) h10
  rw [nowC_len hL] at hj
  obtain ⟨i, hi, _, h3⟩ := (nowC_ball hL S j hj).1 hb
  rw [rd_nat _ i hi] at h3
  have hm := List.getElem_mem hi
  rw [h3] at hm
  unfold ballsOf ballsTo at hm
  obtain ⟨j2, hj2, h4⟩ := List.mem_map.1 hm
  have h5 := (List.mem_filter.1 hj2).2
  rw [h4] at h5
  exact h5
end
end Go.Proofs.YtmefnfhghfemgaaDoor.Q
end
section
namespace Go.Proofs.YtmefnfhghfemgaaDoor.Q
open Go.RowKit Go.Proofs.YtmefnfhghfemgaaDoorW.PrintWords Go.Proofs.YtmefnfhghfemgaaDoorW.PrintLast Go.Proofs.YtmefnfhghfemgaaDoorW.PrintMore
def impl_tray_emptied.f (w h : Int) (cs : List Int) : Option (Int × Int × List Int) := if 0 < cs.length ∧ cs.length ≤ 1000 then some (w, h, emptyC cs) else none
def halfE (cs : List Int) (t : Nat) : List Int := emptyC (cs.take t) ++ cs.drop t
theorem own_val (w h : Int) (cs : List Int) (h0 : 0 < cs.length) (hl : cs.length ≤ 1000) : impl_tray_own.f w h cs = some (w, h, cs) := by
 unfold impl_tray_own.f slices_Clone_u8.f
 rw [if_pos ⟨h0, by omega⟩]
 rfl
theorem halfE_all (cs : List Int) : halfE cs cs.length = emptyC cs := by
 unfold halfE
 rw [List.take_length, List.drop_length, List.append_nil]
theorem halfE_at (cs : List Int) (t : Nat) (h : t < cs.length) : rdOf 0 (halfE cs t) (t : Int) = rd cs (t : Int) := by
 have hl : (emptyC (cs.take t)).length = t := by
  unfold emptyC
  simp
  omega
 unfold rdOf rd halfE
 rw [Int.toNat_natCast, List.getD_eq_getElem?_getD, List.getD_eq_getElem?_getD, List.getElem?_append_right (by omega), hl, Nat.sub_self, List.getElem?_drop, Nat.add_zero]
theorem halfE_succ (cs : List Int) (t : Nat) (h : t < cs.length) : halfE cs (t + 1) = if isB (rd cs (t : Int)) = true then (halfE cs t).set t 46 else halfE cs t := by
 have e1 : cs.take (t + 1) = cs.take t ++ [cs[t]] := List.take_succ_eq_append_getElem h
 have e2 : cs.drop t = cs[t] :: cs.drop (t + 1) := List.drop_eq_getElem_cons h
 have hl : (emptyC (cs.take t)).length = t := by
  unfold emptyC
  simp
  omega
 rw [rd_nat cs t h]
 unfold halfE
 rw [e1, e2]
 have e3 : emptyC (cs.take t ++ [cs[t]]) = emptyC (cs.take t) ++ [if isB cs[t] = true then 46 else cs[t]] := by
  unfold emptyC
  rw [List.map_append]
  rfl
 rw [e3, List.append_assoc]
 by_cases hb : isB cs[t] = true
 ·rw [if_pos hb, if_pos hb, List.set_append_right _ _ (by omega), hl, Nat.sub_self]
  rfl
 ·rw [if_neg hb, if_neg hb]
  rfl
structure EM (w W : World) (gr go gb : Nat) (a b : Int) (n c : Nat) (xs : List Int) : Prop where
 below : Below w.heap.size w W
 res : W.heap[gr]? = some (.cells #[.int .i64 0, .int .i64 0, .slice none 0 0] 46 (0, 0))
 out : W.heap[go]? = some (.cells #[.int .i64 a, .int .i64 b, .slice (some ⟨gb, 0, none⟩) n c] 46 (0, 0))
 row : Kd.R (Kd.int .u8) 5 W w.heap.size (fun _ => True) (.slice (some ⟨gb, 0, none⟩) n c) xs
 gr0 : w.heap.size ≤ gr
 go0 : w.heap.size ≤ go
 gb0 : w.heap.size ≤ gb
 ne : gr ≠ go
 len : xs.length = n
section
variable {w W W1 : World} {gr go gb n c : Nat} {a b : Int} {xs : List Int}
theorem EM.step (h : EM w W gr go gb a b n c xs) (hb : Below W.heap.size W W1) : EM w W1 gr go gb a b n c xs :=
 ⟨below_then h.below h.below.size hb, (hb.block _ (blk_lt h.res)).trans h.res, (hb.block _ (blk_lt h.out)).trans h.out, Kd.R_below h.row hb, h.gr0, h.go0, h.gb0, h.ne, h.len⟩
theorem EM.neb (h : EM w W gr go gb a b n c xs) : gr ≠ gb ∧ go ≠ gb :=
 ⟨fun e => Kd.R_ne h.row h.res (by decide) (by rw [e]; rfl), fun e => Kd.R_ne h.row h.out (by decide) (by rw [e]; rfl)⟩
theorem EM.set (h : EM w W gr go gb a b n c xs) (i x : Int) : EM w (W.setCell ⟨gb, i.toNat, none⟩ (.int .u8 x)) gr go gb a b n c (xs.set i.toNat x) := by
 obtain ⟨n1, n2⟩ := h.neb
 exact ⟨below_set h.below h.gb0, blk_far h.res n1 _, blk_far h.out n2 _, (Kd.R_putg h.row i x).1, h.gr0, h.go0, h.gb0, h.ne, by rw [List.length_set]; exact h.len⟩
end
set_option maxHeartbeats 16000000 in
set_option maxRecDepth 100000 in
theorem impl_tray_emptied.calls (a0_0 a0_1 : Int) (A0_2 : Option Addr) (c0_2 : Nat) (l0_2 : List Int) (r1 r2 : Int) (r3 : List Int) (w : World) (hr0_2 : Kd.C (Kd.int .u8) w A0_2 l0_2.length l0_2) (hc0_2 : l0_2.length ≤ c0_2) (h : impl_tray_emptied.f a0_0 a0_1 l0_2 = some (r1, r2, r3)) :
  Calls Tryd.prog 68 #[.agg #[.int .i64 a0_0, .int .i64 a0_1, .slice A0_2 l0_2.length c0_2]] w fun e w' => ∃ v2_ : Value, e = .returned (.agg #[.int .i64 r1, .int .i64 r2, v2_]) ∧ Kd.R (Kd.int .u8) 5 w' w.heap.size (fun _ => True) v2_ r3 ∧ Below w.heap.size w w' := by
 unfold impl_tray_emptied.f at h
 split at h
 case isFalse => cases h
 rename_i hl
 simp only [Option.some.injEq, Prod.mk.injEq] at h
 obtain ⟨rfl, rfl, rfl⟩ := h
 have hu := Tryd.underlying46
 have HR := Aside0.mk hr0_2
 have HC := Aside0.mk hc0_2
 have HL := Aside0.mk hl
 have HV := Aside0.mk (own_val a0_0 a0_1 l0_2 hl.1 hl.2)
 clear hr0_2 hc0_2 hl
 go_enter Tryd.func68, Tryd.ntmps68
 go_wp2_with (first
  | ((with_reducible refine gate_dst (N := 1) rfl ?_); refine box_event ?hg (N := 1) ?hd (cs := #[.int .i64 a0_0, .int .i64 a0_1, .slice A0_2 l0_2.length c0_2]) (t := 46) ?hr ?_; (case hd => rfl); (case hg => rfl); (case hr => first | (go_simp; done) | (go_simp; rfl)); intro gt hg w1 hbox hb; (have HB1 := Aside0.mk hb); (have HT := Aside0.mk hbox); clear hbox hb hg)
  | ((with_reducible refine gate_dst (N := 2) rfl ?_); refine box_event ?hg (N := 2) ?hd (cs := #[.int .i64 0, .int .i64 0, .slice none 0 0]) (t := 46) ?hr ?_; (case hd => rfl); (case hg => rfl); (case hr => first | (go_simp; done) | (go_simp; rfl)); intro gr hg w2 hbox hb; (have HG2 := Aside0.mk (show w.heap.size ≤ gr by rw [hg]; exact HB1.out.size)); (have HB2 := Aside0.mk (below_then HB1.out HB1.out.size hb)); (have HT2 := Aside0.mk ((hb.block gt (blk_lt HT.out)).trans HT.out)); (have HRS := Aside0.mk hbox); (have z0 := (blk_cell HT2.out 0).trans rfl); (have z1 := (blk_cell HT2.out 1).trans rfl); (have z2 := (blk_cell HT2.out 2).trans rfl); clear hbox hb hg HT HB1))
 refine (impl_tray_own.calls a0_0 a0_1 _ c0_2 l0_2 a0_0 a0_1 l0_2 _ (Kd.C_below HR.out HB2.out) HC.out HV.out).mono ?_
 rintro e w3 ⟨v2, rfl, ho, hb3⟩
 obtain ⟨gb, c, rfl, hgb, hlb, cl, hcl⟩ := Kd.R_form ho HL.out.1
 have HB3 := Aside0.mk (below_then HB2.out HB2.out.size hb3)
 have HRS3 := Aside0.mk ((hb3.block gr (blk_lt HRS.out)).trans HRS.out)
 have HO3 := Aside0.mk (Kd.R_lower ho HB2.out.size)
 have HGB := Aside0.mk (Nat.le_trans HB2.out.size hgb)
 clear z0 z1 z2 HT2 HRS HB2 ho hb3 hgb hlb hcl
 go_wp2_with (first
  | ((with_reducible refine gate_dst (N := 3) rfl ?_); refine box_event ?hg (N := 3) ?hd (cs := #[.int .i64 0, .int .i64 0, .slice none 0 0]) (t := 46) ?hr ?_; (case hd => rfl); (case hg => rfl); (case hr => first | (go_simp; done) | (go_simp; rfl)); intro go hg w4 hbox hb; (have HGO := Aside0.mk (show w.heap.size ≤ go by rw [hg]; exact HB3.out.size)); (have HNE := Aside0.mk (show gr ≠ go by rw [hg]; exact Nat.ne_of_lt (blk_lt HRS3.out))); (have HB4 := Aside0.mk (below_then HB3.out HB3.out.size hb)); (have HRS4 := Aside0.mk ((hb.block gr (blk_lt HRS3.out)).trans HRS3.out)); (have HO4 := Aside0.mk (Kd.R_below HO3.out hb)); (have HU := Aside0.mk hbox); (have y0 := (blk_cell HU.out 0).trans rfl); (have y1 := (blk_cell HU.out 1).trans rfl); (have y2 := (blk_cell HU.out 2).trans rfl); (have f0 := blk_frozen HU.out 0); (have f1 := blk_frozen HU.out 1); (have f2 := blk_frozen HU.out 2); clear hbox hb hg HB3 HRS3 HO3)
  | ((with_reducible refine gate_store (t := 46) (p := 3) rfl ?_); refine store_event (t := 46) (p := 3) (v := ?vo) (w1 := (((w4.setCell ⟨go, 0, none⟩ (.int .i64 a0_0)).setCell ⟨go, 1, none⟩ (.int .i64 a0_1)).setCell ⟨go, 2, none⟩ (.slice (some ⟨gb, 0, none⟩) l0_2.length c))) ?hg ?ho ?hn ?hr ?_; (case ho => rfl); (case hg => rfl); (case hn => rfl); (case hr => first | (go_simp; done) | (go_simp; rfl)); intro w5 hw; (have HE := Aside0.mk (show EM w w5 gr go gb a0_0 a0_1 l0_2.length c l0_2 from by rw [hw]; exact ⟨below_set (below_set (below_set HB4.out HGO.out) HGO.out) HGO.out, blk_far (blk_far (blk_far HRS4.out HNE.out _) HNE.out _) HNE.out _, (by refine blk_put (cs := #[.int .i64 a0_0, .int .i64 a0_1, .slice none 0 0]) ?_ 2 _ rfl; refine blk_put (cs := #[.int .i64 a0_0, .int .i64 0, .slice none 0 0]) ?_ 1 _ rfl; refine blk_put (cs := #[.int .i64 0, .int .i64 0, .slice none 0 0]) ?_ 0 _ rfl; exact HU.out), Kd.R_mono (Kd.R_far (p := ⟨go, 2, none⟩) (Kd.R_far (p := ⟨go, 1, none⟩) (Kd.R_far (p := ⟨go, 0, none⟩) (Kd.R_types HO4.out HU.out (by decide)) (fun _ hk => hk.2) (.int .i64 a0_0)) (fun _ hk => hk.2) (.int .i64 a0_1)) (fun _ hk => hk.2) (.slice (some ⟨gb, 0, none⟩) l0_2.length c)) (fun _ _ => trivial), HG2.out, HGO.out, HGB.out, HNE.out, rfl⟩)); clear hw HU HO4 HRS4 HB4 y0 y1 y2 f0 f1 f2; (have y0 := (blk_cell HE.out.out 0).trans rfl); (have y1 := (blk_cell HE.out.out 1).trans rfl); (have y2 := (blk_cell HE.out.out 2).trans rfl)))
 have HE0 := Aside0.mk (show EM w w5 gr go gb a0_0 a0_1 l0_2.length c (halfE l0_2 0) from HE.out)
 have HL2 := Aside0.mk HL.out.2
 clear HE y0 y1 y2
 go_loopg [11] l0_2.length (fun gg v11 wr => ∃ t : Nat, v11 = .int .i64 t ∧ Aside0 (t ≤ l0_2.length ∧ l0_2.length - t ≤ gg) ∧ Aside0 (EM w wr gr go gb a0_0 a0_1 l0_2.length c (halfE l0_2 t)))
 case atStart => exact ⟨0, rfl, ⟨Nat.zero_le _, by omega⟩, HE0⟩
 case round =>
  clear HE0
  obtain ⟨t, rfl, HA, HE⟩ := hrel
  have y0 := (blk_cell HE.out.out 0).trans rfl
  have y1 := (blk_cell HE.out.out 1).trans rfl
  have y2 := (blk_cell HE.out.out 2).trans rfl
  have hwt : wrap64 ((t : Int) + 1) = ((t + 1 : Nat) : Int) := by
   have := HA.out
   have := HL2.out
   unfold wrap64
   omega
  by_cases hlt : t < l0_2.length
  ·have c1 : decide ((t : Int) < (l0_2.length : Int)) = true := decide_eq_true (by omega)
   have p1 : (0 ≤ (t : Int)) = True := eq_true (by omega)
   have p2 : ((t : Int) < (l0_2.length : Int)) = True := eq_true (by omega)
   obtain ⟨x0, x1⟩ := Kd.R_celln 0 HE.out.row (t : Int) (by omega) (by omega)
   rw [halfE_at l0_2 t hlt] at x0
   rw [Int.toNat_natCast] at x0 x1
   have hsucc := halfE_succ l0_2 t hlt
   generalize rd l0_2 (t : Int) = v at x0 hsucc
   have HS := Aside0.mk hsucc
   clear hsucc
   cases hb : isB v with
   | true =>
    have hv := isBall_eq v
    rw [hb] at hv
    have HV2 := Aside0.mk hv
    clear hv
    go_wp2_with (go_at_call 66; refine (impl_isBall.calls v true _ HV2.out).mono ?_; rintro e w6 ⟨rfl, ⟨nd, rfl⟩⟩; (have HE6 := Aside0.mk (HE.out.step (pw_below_drewN (Below.refl _ _) nd))); clear y0 y1 y2 x0 x1; (have y0 := (blk_cell HE6.out.out 0).trans rfl); (have y1 := (blk_cell HE6.out.out 1).trans rfl); (have y2 := (blk_cell HE6.out.out 2).trans rfl); (obtain ⟨x0, x1⟩ := Kd.R_celln 0 HE6.out.row (t : Int) (by omega) (by omega)); rw [Int.toNat_natCast] at x0 x1)
    go_roundg (l0_2.length - (t + 1))
    case measure => have := HA.out; omega
    case rel =>
     refine ⟨t + 1, by first | rfl | rw [hwt], ⟨by have := HA.out; omega, Nat.le_refl _⟩, ?_⟩
     have h8 := HE6.out.set (t : Int) 46
     rw [Int.toNat_natCast] at h8
     rw [HS.out, if_pos hb]
     exact ⟨h8⟩
   | false =>
    have hv := isBall_eq v
    rw [hb] at hv
    have HV2 := Aside0.mk hv
    clear hv
    go_wp2_with (go_at_call 66; refine (impl_isBall.calls v false _ HV2.out).mono ?_; rintro e w6 ⟨rfl, ⟨nd, rfl⟩⟩; (have HE6 := Aside0.mk (HE.out.step (pw_below_drewN (Below.refl _ _) nd))); clear y0 y1 y2 x0 x1; (have y0 := (blk_cell HE6.out.out 0).trans rfl); (have y1 := (blk_cell HE6.out.out 1).trans rfl); (have y2 := (blk_cell HE6.out.out 2).trans rfl); (obtain ⟨x0, x1⟩ := Kd.R_celln 0 HE6.out.row (t : Int) (by omega) (by omega)); rw [Int.toNat_natCast] at x0 x1)
    go_roundg (l0_2.length - (t + 1))
    case measure => have := HA.out; omega
    case rel =>
     refine ⟨t + 1, by first | rfl | rw [hwt], ⟨by have := HA.out; omega, Nat.le_refl _⟩, ?_⟩
     rw [HS.out, if_neg (by rw [hb]; decide)]
     exact HE6
  ·have hAt := HA.out.1
   obtain rfl : t = l0_2.length := by omega
   have c1 : decide ((l0_2.length : Int) < (l0_2.length : Int)) = false := decide_eq_false (by omega)
   clear hAt HA hlt hwt
   rw [halfE_all] at HE
   have r0 := (blk_cell HE.out.res 0).trans rfl
   have r1 := (blk_cell HE.out.res 1).trans rfl
   have r2 := (blk_cell HE.out.res 2).trans rfl
   have g0 := blk_frozen HE.out.res 0
   have g1 := blk_frozen HE.out.res 1
   have g2 := blk_frozen HE.out.res 2
   go_wp2_with fail
   refine bodyPost_ret (results_cell_row rfl _ _ gr 46 #[.int .i64 a0_0, .int .i64 a0_1, .slice (some ⟨gb, 0, none⟩) l0_2.length c] (0, 0) _ rfl (by refine blk_put (cs := #[.int .i64 a0_0, .int .i64 a0_1, .slice none 0 0]) ?_ 2 _ rfl; refine blk_put (cs := #[.int .i64 a0_0, .int .i64 0, .slice none 0 0]) ?_ 1 _ rfl; refine blk_put (cs := #[.int .i64 0, .int .i64 0, .slice none 0 0]) ?_ 0 _ rfl; exact HE.out.res) Tryd.underlying46 rfl (by kernel_rfl)) rfl ?_
   exact ⟨_, rfl, Kd.R_mono (Kd.R_far (p := ⟨gr, 2, none⟩) (Kd.R_far (p := ⟨gr, 1, none⟩) (Kd.R_far (p := ⟨gr, 0, none⟩) (Kd.R_types HE.out.row HE.out.res (by decide)) (fun _ hk => hk.2) (.int .i64 a0_0)) (fun _ hk => hk.2) (.int .i64 a0_1)) (fun _ hk => hk.2) (.slice (some ⟨gb, 0, none⟩) l0_2.length c)) (fun _ _ => trivial), below_set (below_set (below_set HE.out.below HE.out.gr0) HE.out.gr0) HE.out.gr0⟩
end Go.Proofs.YtmefnfhghfemgaaDoor.Q
end
section
namespace Go.Proofs.YtmefnfhghfemgaaDoor.Q
set_option linter.unusedSectionVars false
open Go.RowKit Go.Proofs.YtmefnfhghfemgaaDoorW.PrintWords Go.Proofs.YtmefnfhghfemgaaDoorW.PrintLast Go.Proofs.YtmefnfhghfemgaaDoorW.PrintMore
noncomputable def PE : Value → Option (DataW Unit × List MemPlace) := plainElem Tryd.prog 3
theorem keyI : Maps.Keyed Tryd.prog 3 := Maps.int_keyed Tryd.underlying3
def lk (x : Int) : Lit := .int .i64 x
theorem lk_key (x : Int) : WideAt.IsKeyLit (lk x) := by simp [WideAt.IsKeyLit, lk]
theorem lk_ne {x y : Int} (h : x ≠ y) : lk x ≠ lk y := fun e => h (by injection e)
structure Holds (D : DataW Unit) (f : Int → Option Int) : Prop where
 map : Maps.IsMap D
 at' : ∀ (x : Int) (z : DataW Unit), D.atKey (lk x) z = match f x with | some c => .lit (lk c) | none => z
 has' : ∀ x : Int, Maps.has D (lk x) = (f x).isSome
theorem Holds.made : Holds (.map []) fun _ => none := ⟨Maps.isMap_empty, fun _ _ => rfl, fun _ => rfl⟩
def upd (f : Int → Option Int) (k v : Int) : Int → Option Int := fun x => if x = k then some v else f x
theorem Holds.put {D : DataW Unit} {f : Int → Option Int} (h : Holds D f) (k v : Int) : Holds (D.put (lk k) (.lit (lk v))) (upd f k v) := by
 refine ⟨h.map.put _ _, fun x z => ?_, fun x => ?_⟩
 ·unfold upd
  by_cases e : x = k
  ·rw [if_pos e, e, Maps.atKey_put_same h.map (lk_key k)]
  ·rw [if_neg e, Maps.atKey_put_other (lk_ne e), h.at']
 ·unfold upd
  by_cases e : x = k
  ·rw [if_pos e, e, Maps.has_put_same h.map (lk_key k)]
   rfl
  ·rw [if_neg e, Maps.has_put_other (lk_ne e), h.has']
def MP (w : World) (b n : Nat) (f : Int → Option Int) : Prop := ∃ D : DataW Unit, w.ownsMap Tryd.prog 3 PE b n D ∧ Holds D f
theorem MP.made (w : World) : MP (w.alloc (.map #[] 0)) w.heap.size 0 fun _ => none := ⟨_, World.ownsMap_made w _ _ _, Holds.made⟩
theorem MP.lt {w : World} {b n : Nat} {f : Int → Option Int} (h : MP w b n f) : b < w.heap.size := by
 obtain ⟨D, h1, _⟩ := h
 exact h1.lt
theorem MP.kept {w w' : World} {b n : Nat} {f : Int → Option Int} {row : Option Nat} (h : MP w b n f) (hg : w.grownBy w' row) (hne : some b ≠ row) : MP w' b n f := by
 obtain ⟨D, h1, h2⟩ := h
 exact ⟨D, h1.kept hg hne, h2⟩
theorem MP.below {w w' : World} {b n : Nat} {f : Int → Option Int} (h : MP w b n f) (hb : Below w.heap.size w w') : MP w' b n f := h.kept (grown_of_below hb none) (by simp)
theorem MP.set {w : World} {b n g : Nat} {f : Int → Option Int} (h : MP w b n f) (hne : b ≠ g) (i : Nat) (v : Value) : MP (w.setCell ⟨g, i, none⟩ v) b n f := by
 obtain ⟨D, ⟨es, clock, hb, r⟩, h2⟩ := h
 refine ⟨D, ⟨es, clock, ?_, r⟩, h2⟩
 rw [← hb]
 exact Below.heap_setCell w ⟨g, i, none⟩ v b hne
def NC (w : World) (r : Nat) : Prop := ∀ (c : Array Value) (q : Nat) (z : Nat × Nat), w.heap[r]? ≠ some (.cells c q z)
theorem blk_turn {w w1 : World} {g r q : Nat} {c : Array Value} {z : Nat × Nat} (h : w.heap[g]? = some (.cells c q z)) (hg : w.grownBy w1 (some r)) (hn : NC w r) : w1.heap[g]? = some (.cells c q z) := by
 refine blk_grown h hg ?_
 rintro e
 cases e
 exact hn _ _ _ h
theorem MP.nc {w : World} {b n : Nat} {f : Int → Option Int} (h : MP w b n f) : NC w b := by
 obtain ⟨D, ⟨es, clock, hb, _⟩, _⟩ := h
 intro c q z e
 rw [hb] at e
 cases e
theorem pe_int {c : Int} (hw : (Lit.int .i64 c).wf = true) : PE (.int .i64 c) = some (.lit (lk c), []) := plainElem_int Tryd.underlying3 hw
end Go.Proofs.YtmefnfhghfemgaaDoor.Q
end
section
namespace Go.Proofs.YtmefnfhghfemgaaDoor.Q
set_option linter.unusedSectionVars false
open Go.RowKit Go.Proofs.YtmefnfhghfemgaaDoorW.PrintWords Go.Proofs.YtmefnfhghfemgaaDoorW.PrintLast Go.Proofs.YtmefnfhghfemgaaDoorW.PrintMore
def fits64 (x : Int) : Prop := -9223372036854775808 ≤ x ∧ x ≤ 9223372036854775807
theorem lk_wf64 {x : Int} (h : fits64 x) : (Lit.int .i64 x).wf = true := by
 unfold Lit.wf
 rw [Bool.and_eq_true]
 exact ⟨decide_eq_true (Int.le_trans (by decide) h.1), decide_eq_true (Int.le_trans h.2 (by decide))⟩
theorem zeroIw (w : World) : (zeroValue 3).run Tryd.prog w = .ok (.int .i64 0) w := by kernel_rfl
def litIw : DataW Unit → Int
 | .lit (.int _ c) => c
 | _ => 0
theorem wpList_putW {P : Program} {ops : Array Oper} {rest : List Oper} {o : Oper} {a : Act} {Q : Exit → Act → World → Prop} (hP : P = Tryd.prog) (w : World) (hg : o.guard = none) (m x v : Operand) (t : TypeId) (hop : o.op = .mapUpdate t m x v) (ht : Tryd.prog.underlying t = some (.map 3 3))
  (b n : Nat) (f : Int → Option Int) (h : MP w b n f) (hn : n < 1000000) (kx c : Int) (hm : a.eval m = .map (some b)) (hx : a.eval x = .int .i64 kx) (hv : a.eval v = .int .i64 c) (hk : fits64 kx) (hc : fits64 c)
  (hK : ∀ w', MP w' b (n + 1) (upd f kx c) → w.grownBy w' (some b) → wpList P ops Q rest (a.put o.dst undef) w') : wpList P ops Q (o :: rest) a w := by
 subst hP
 obtain ⟨D, hown, hh⟩ := h
 exact wpList_mapUpdate_own w hg m x v t hop 3 3 keyI ht PE b n D hm hown (by unfold maxLen; omega) _ _ (lk kx) hx hv (Maps.keyOf_int_mk Tryd.underlying3 (lk_wf64 hk)) (.lit (lk c)) [] (pe_int (lk_wf64 hc)) fun w' h1 h2 => hK w' ⟨_, h1, hh.put kx c⟩ h2
theorem wpList_lookW {P : Program} {ops : Array Oper} {rest : List Oper} {o : Oper} {a : Act} {Q : Exit → Act → World → Prop} (hP : P = Tryd.prog) (w : World) (hg : o.guard = none) (m x : Operand) (t : TypeId) (hop : o.op = .lookup t m x true) (ht : Tryd.prog.underlying t = some (.map 3 3))
  (b n : Nat) (f : Int → Option Int) (h : MP w b n f) (kx : Int) (hm : a.eval m = .map (some b)) (hx : a.eval x = .int .i64 kx) (hk : fits64 kx)
  (hK : wpList P ops Q rest (a.put o.dst (.tuple #[.int .i64 ((f kx).getD 0), .bool (f kx).isSome])) w) : wpList P ops Q (o :: rest) a w := by
 subst hP
 obtain ⟨D, hown, hh⟩ := h
 refine wpList_lookup_own_ok_int w hg m x t hop 3 3 .i64 keyI ht Tryd.underlying3 (zeroIw w) b n D hm hown _ (lk kx) hx (Maps.keyOf_int_mk Tryd.underlying3 (lk_wf64 hk)) fun c hat _ => ?_
 have hc : c = (f kx).getD 0 := by
  rw [hh.at'] at hat
  cases e : f kx with
  | none =>
   rw [e] at hat
   exact (congrArg litIw hat).symm
  | some c' =>
   rw [e] at hat
   exact (congrArg litIw hat).symm
 have hhas : Maps.has D (lk kx) = (f kx).isSome := hh.has' kx
 rw [hc]
 rw [show Maps.has D (lk kx) = (f kx).isSome from hhas]
 exact hK
theorem wpList_hit {P : Program} {ops : Array Oper} {rest : List Oper} {o : Oper} {a : Act} {Q : Exit → Act → World → Prop} (hP : P = Tryd.prog) (w : World) (hg : o.guard = none) (m x : Operand) (t : TypeId) (hop : o.op = .lookup t m x true) (ht : Tryd.prog.underlying t = some (.map 3 3))
  (b n : Nat) (f : Int → Option Int) (h : MP w b n f) (kx : Int) (hm : a.eval m = .map (some b)) (hx : a.eval x = .int .i64 kx) (hk : fits64 kx) (v : Int) (hf : f kx = some v)
  (hK : wpList P ops Q rest (a.put o.dst (.tuple #[.int .i64 v, .bool true])) w) : wpList P ops Q (o :: rest) a w :=
 wpList_lookW hP w hg m x t hop ht b n f h kx hm hx hk (by rw [hf]; exact hK)
theorem wpList_miss {P : Program} {ops : Array Oper} {rest : List Oper} {o : Oper} {a : Act} {Q : Exit → Act → World → Prop} (hP : P = Tryd.prog) (w : World) (hg : o.guard = none) (m x : Operand) (t : TypeId) (hop : o.op = .lookup t m x true) (ht : Tryd.prog.underlying t = some (.map 3 3))
  (b n : Nat) (f : Int → Option Int) (h : MP w b n f) (kx : Int) (hm : a.eval m = .map (some b)) (hx : a.eval x = .int .i64 kx) (hk : fits64 kx) (hf : f kx = none)
  (hK : wpList P ops Q rest (a.put o.dst (.tuple #[.int .i64 0, .bool false])) w) : wpList P ops Q (o :: rest) a w :=
 wpList_lookW hP w hg m x t hop ht b n f h kx hm hx hk (by rw [hf]; exact hK)
end Go.Proofs.YtmefnfhghfemgaaDoor.Q
end
section
namespace Go.Proofs.YtmefnfhghfemgaaDoor.Q
set_option linter.unusedSectionVars false
set_option linter.unusedSimpArgs false
set_option linter.unusedVariables false
open Go.RowKit Go.Proofs.YtmefnfhghfemgaaDoorW.PrintWords Go.Proofs.YtmefnfhghfemgaaDoorW.PrintLast Go.Proofs.YtmefnfhghfemgaaDoorW.PrintMore
def sumO (ad : Int → Option Bool) (rec : Nat → Option Int) (L : List Int) (S : Nat) : Nat → Nat → Int → Option Int
 | 0, _, a => some a
 | m + 1, i, a => if S.testBit i = true then sumO ad rec L S m (i + 1) a else if S = 0 then (rec (S + 2 ^ i)).bind fun c => sumO ad rec L S m (i + 1) (wrap64 (a + c)) else (ad (rd L (i : Int))).bind fun b => if b = true then (rec (S + 2 ^ i)).bind fun c => sumO ad rec L S m (i + 1) (wrap64 (a + c)) else sumO ad rec L S m (i + 1) a
def addO (k : Nat) (w h : Int) (c : List Int) (a : Int) : Option Bool := (impl_tray_added.f k w h c a).bind fun s => some (!decide (s.toList = ([] : List UInt8)))
def ordF : Nat → Int → Int → List Int → List Int → Nat → Option Int
 | 0, _, _, _, _, _ => none
 | k + 1, w, h, l, L, S => if S < 2 ^ L.length ∧ (0 < l.length ∧ l.length ≤ 1000) ∧ L.length ≤ 10 ∧ inB l L = true then (if S = 2 ^ L.length - 1 then some 1 else sumO (addO k w h (putC (emptyC l) L S L.length)) (ordF k w h l L) L S L.length 0 0) else none
theorem sumO_mono {ad ad' : Int → Option Bool} {rec rec' : Nat → Option Int} (ha : ∀ a, LeO (ad a) (ad' a)) (hr : ∀ S, LeO (rec S) (rec' S)) (L : List Int) (S : Nat) : ∀ (m i : Nat) (a : Int), LeO (sumO ad rec L S m i a) (sumO ad' rec' L S m i a)
 | 0, _, _ => LeO.refl _
 | m + 1, i, a => by
  unfold sumO
  exact LeO.ite (sumO_mono ha hr L S m _ _) (LeO.ite (LeO.bind (hr _) fun c => sumO_mono ha hr L S m _ _) (LeO.bind (ha _) fun b => LeO.ite (LeO.bind (hr _) fun c => sumO_mono ha hr L S m _ _) (sumO_mono ha hr L S m _ _)))
theorem ordF_mono : ∀ (k : Nat) (w h : Int) (l L : List Int) (S : Nat), LeO (ordF k w h l L S) (ordF (k + 1) w h l L S)
 | 0, _, _, _, _, _ => LeO.none _
 | k + 1, w, h, l, L, S => by
  unfold ordF
  exact LeO.ite (LeO.ite (LeO.refl _) (sumO_mono (fun a => LeO.bind (impl_tray_added.mono _ _ _ _ _) fun _ => LeO.refl _) (ordF_mono k w h l L) L S _ _ _)) (LeO.refl _)
theorem ordF_same {k k' : Nat} {w h : Int} {l L : List Int} {S : Nat} {r r' : Int} (h1 : ordF k w h l L S = some r) (h2 : ordF k' w h l L S = some r') : r = r' := by
 have e1 := at_rounds (g := fun k => ordF k w h l L S) (fun k => ordF_mono k w h l L S) (Nat.le_max_left k k') h1
 have e2 := at_rounds (g := fun k => ordF k w h l L S) (fun k => ordF_mono k w h l L S) (Nat.le_max_right k k') h2
 exact Option.some.inj (e1.symm.trans e2)
theorem wrap_fits (n : Int) : fits64 (wrap64 n) := by unfold fits64 wrap64; omega
theorem sumO_fits {ad : Int → Option Bool} {rec : Nat → Option Int} {L : List Int} {S : Nat} : ∀ (m i : Nat) (a r : Int), fits64 a → sumO ad rec L S m i a = some r → fits64 r
 | 0, _, a, r, ha, h => by
  rw [← Option.some.inj h]
  exact ha
 | m + 1, i, a, r, ha, h => by
  unfold sumO at h
  split at h
  ·exact sumO_fits m _ _ _ ha h
  split at h
  ·obtain ⟨c, _, h⟩ := Option.bind_eq_some_iff.1 h
   exact sumO_fits m _ _ _ (wrap_fits _) h
  ·obtain ⟨b, _, h⟩ := Option.bind_eq_some_iff.1 h
   split at h
   ·obtain ⟨c, _, h⟩ := Option.bind_eq_some_iff.1 h
    exact sumO_fits m _ _ _ (wrap_fits _) h
   ·exact sumO_fits m _ _ _ ha h
def TR (w h : Int) (l L : List Int) (f : Int → Option Int) : Prop := ∀ x c, f x = some c → ∃ k S : Nat, x = (S : Int) ∧ ordF k w h l L S = some c
def mu (f : Int → Option Int) : Nat := (List.range 1024).countP fun x : Nat => (f (x : Int)).isNone
theorem mu_upd (f : Int → Option Int) (S : Nat) (v : Int) (hS : S < 1024) (hf : f (S : Int) = none) : mu f = mu (upd f S v) + 1 := by
 have h := PO.mu_put (fun x : Nat => f (x : Int)) S v 1024 hS hf
 have e2 : (fun x : Nat => (upd f S v (x : Int)).isNone) = fun x : Nat => (if x = S then some v else f (x : Int)).isNone := by
  funext x
  unfold upd
  by_cases e : x = S
  ·rw [if_pos e, if_pos (by omega)]
  ·rw [if_neg e, if_neg (by omega)]
 unfold mu
 rw [e2]
 exact h
theorem mu_none : mu (fun _ => none) ≤ 1024 := by
 have := List.countP_le_length (p := fun x : Nat => ((fun _ : Int => (none : Option Int)) (x : Int)).isNone) (l := List.range 1024)
 rw [List.length_range] at this
 exact this
structure OR (W : World) (go gl gk gc b : Nat) (tw th : Int) (A : Option Addr) (c : Nat) (l : List Int) (AL : Option Addr) (cL : Nat) (L : List Int) : Prop where
 own : W.heap[go]? = some (.cells #[.int .i64 tw, .int .i64 th, .slice A l.length c] 46 (0, 0))
 lst : W.heap[gl]? = some (.cells #[.slice AL L.length cL] 31 (0, 0))
 kno : W.heap[gk]? = some (.cells #[.map (some b)] 86 (0, 0))
 cnt : W.heap[gc]? = some (.cells #[.func (.func 67) #[] #[.pointer (some ⟨gl, 0, none⟩), .pointer (some ⟨gk, 0, none⟩), .pointer (some ⟨go, 0, none⟩), .pointer (some ⟨gc, 0, none⟩)]] 52 (0, 0))
 cells : Kd.V (Kd.int .u8) 5 W 0 (fun k => k ≠ b) (.slice A l.length c) l
 list : Kd.V (Kd.int .i64) 3 W 0 (fun k => k ≠ b) (.slice AL L.length cL) L
section
variable {W W1 : World} {go gl gk gc b : Nat} {tw th : Int} {A AL : Option Addr} {c cL : Nat} {l L : List Int}
theorem OR.turn (h : OR W go gl gk gc b tw th A c l AL cL L) (hn : NC W b) (hg : W.grownBy W1 (some b)) : OR W1 go gl gk gc b tw th A c l AL cL L :=
 ⟨blk_turn h.own hg hn, blk_turn h.lst hg hn, blk_turn h.kno hg hn, blk_turn h.cnt hg hn, Kd.V_grown h.cells hg (fun k hk e => hk (Option.some.inj e)), Kd.V_grown h.list hg (fun k hk e => hk (Option.some.inj e))⟩
theorem OR.below (h : OR W go gl gk gc b tw th A c l AL cL L) (hb : Below W.heap.size W W1) : OR W1 go gl gk gc b tw th A c l AL cL L :=
 ⟨blk_below h.own hb, blk_below h.lst hb, blk_below h.kno hb, blk_below h.cnt hb, Kd.V_below h.cells hb, Kd.V_below h.list hb⟩
end
structure NW (w W : World) (go gb : Nat) (a b : Int) (n c : Nat) (xs : List Int) (mb : Nat) : Prop where
 grown : w.grownBy W (some mb)
 out : W.heap[go]? = some (.cells #[.int .i64 a, .int .i64 b, .slice (some ⟨gb, 0, none⟩) n c] 46 (0, 0))
 row : Kd.R (Kd.int .u8) 5 W w.heap.size (fun _ => True) (.slice (some ⟨gb, 0, none⟩) n c) xs
 go0 : w.heap.size ≤ go
 gb0 : w.heap.size ≤ gb
 mb0 : mb < w.heap.size
 len : xs.length = n
section
variable {w W W1 : World} {go gb n c mb : Nat} {a b : Int} {xs : List Int}
theorem NW.turn (h : NW w W go gb a b n c xs mb) (hg : W.grownBy W1 (some mb)) : NW w W1 go gb a b n c xs mb := by
 have h1 := h.go0
 have h2 := h.mb0
 exact ⟨h.grown.trans hg, blk_grown h.out hg (by simp; omega), Kd.R_mono (Kd.R_grown (Kd.R_bound h.row) hg (fun k hk e => by have h3 := hk.2.1; have h4 := Option.some.inj e; omega)) (fun _ _ => trivial), h.go0, h.gb0, h.mb0, h.len⟩
theorem NW.step (h : NW w W go gb a b n c xs mb) (hb : Below W.heap.size W W1) : NW w W1 go gb a b n c xs mb := h.turn (grown_of_below hb _)
theorem NW.neb (h : NW w W go gb a b n c xs mb) : go ≠ gb := fun e => Kd.R_ne h.row h.out (by decide) (by rw [e]; rfl)
theorem NW.set (h : NW w W go gb a b n c xs mb) (i x : Int) : NW w (W.setCell ⟨gb, i.toNat, none⟩ (.int .u8 x)) go gb a b n c (xs.set i.toNat x) mb := by
 obtain ⟨h1, h2⟩ := Kd.R_putg h.row i x
 exact ⟨h.grown.andThen h2 (fun j e => Or.inl (by rw [← Option.some.inj e]; exact h.gb0)), blk_far h.out h.neb _, h1, h.go0, h.gb0, h.mb0, by rw [List.length_set]; exact h.len⟩
end
end Go.Proofs.YtmefnfhghfemgaaDoor.Q
end
section
namespace Go.Proofs.YtmefnfhghfemgaaDoor.Q
set_option linter.unusedSectionVars false
open Go.RowKit Go.Proofs.YtmefnfhghfemgaaDoorW.PrintWords Go.Proofs.YtmefnfhghfemgaaDoorW.PrintLast Go.Proofs.YtmefnfhghfemgaaDoorW.PrintMore
open Classical
theorem emptyC_open {cs : List Int} (ho : ∀ c ∈ cs, c = 46 ∨ c = 111) : emptyC cs = List.replicate cs.length 46 := by
 refine rd_same (by unfold emptyC; simp) fun j hj => ?_
 unfold emptyC at hj ⊢
 rw [List.length_map] at hj
 rw [rd_nat _ j (by rw [List.length_map]; exact hj), rd_nat _ j (by rw [List.length_replicate]; exact hj), List.getElem_map, List.getElem_replicate]
 rcases ho _ (List.getElem_mem hj) with h | h <;> rw [h] <;> decide
def cntQ (w h : Nat) (cs : List Int) (S : Nat) : Nat := PO.Q (ballsOf cs).length (eS w h (w * h) (ballsOf cs)) S (2 ^ (ballsOf cs).length - 1)
section
variable {w h : Nat} {cs : List Int} (hw : w ≤ 7) (hh : h ≤ 7) (hs : w * h ≤ 36) (hn : cs.length = w * h) (h10 : (ballsOf cs).length ≤ 10)
include hw hh hs hn h10
theorem full_lt : 2 ^ (ballsOf cs).length - 1 < 2 ^ (ballsOf cs).length := by
 have := Nat.two_pow_pos (ballsOf cs).length
 omega
theorem addO_ev (S i : Nat) (hi : i < (ballsOf cs).length) : Ev (fun k => addO k w h (nowC (w * h) (ballsOf cs) S) (rd (ballsOf cs) (i : Int))) (wayB w h (nowC (w * h) (ballsOf cs) S) (rd (ballsOf cs) (i : Int))) := by
 have hL : Cells (w * h) (ballsOf cs) := hn ▸ cells_balls cs
 have hin := nowC_in hL S i hi
 have h0 := hin
 unfold inCells at h0
 refine Ev.bind (f := fun _ (s : ByteArray) => some (!decide (s.toList = ([] : List UInt8)))) (added_ev hw hh hs (nowC_len hL S) _ hin) (Ev.const ?_)
 congr 1
 cases hx : wayB w h (nowC (w * h) (ballsOf cs) S) (rd (ballsOf cs) (i : Int)) with
 | true => rw [decide_eq_false fun e => (wayB_added h0.1).1 hx ((added_empty _).1 e)]; rfl
 | false =>
  rw [decide_eq_true ((added_empty _).2 (Classical.byContradiction fun q => by
   have := (wayB_added h0.1).2 q
   rw [hx] at this
   cases this))]
  rfl
theorem sumO_ev (S : Nat) (hS : S < 2 ^ (ballsOf cs).length) (hf : S ≠ 2 ^ (ballsOf cs).length - 1)
  (hrec : ∀ i, i < (ballsOf cs).length → S.testBit i = false → Ev (fun k => ordF k w h cs (ballsOf cs) (S + 2 ^ i)) ((cntQ w h cs (S + 2 ^ i) : Nat) : Int)) :
  ∀ (m i : Nat), i + m = (ballsOf cs).length → Ev (fun k => sumO (addO k w h (nowC (w * h) (ballsOf cs) S)) (ordF k w h cs (ballsOf cs)) (ballsOf cs) S m i ((PO.sumL (List.range i) (fun j => PO.on (eS w h (w * h) (ballsOf cs)) S j * cntQ w h cs (S + 2 ^ j)) : Nat) : Int)) ((cntQ w h cs S : Nat) : Int)
 | 0, i, hi => by
  obtain rfl : i = (ballsOf cs).length := by omega
  refine Ev.congr (Ev.const (o := some ((cntQ w h cs S : Nat) : Int)) rfl) fun k => ?_
  unfold sumO
  congr 2
  unfold cntQ
  rw [PO.Q_step _ _ hS, if_neg hf, Nat.zero_add]
 | m + 1, i, hi => by
  have ih := sumO_ev S hS hf hrec m (i + 1) (by omega)
  have hg : PO.sumL (List.range (i + 1)) (fun j => PO.on (eS w h (w * h) (ballsOf cs)) S j * cntQ w h cs (S + 2 ^ j)) ≤ 10000000000 := by
   refine Nat.le_trans (PO.sumL_part _ (i + 1) (ballsOf cs).length (by omega)) ?_
   have h1 := PO.Q_fits (ballsOf cs).length (eS w h (w * h) (ballsOf cs)) h10 hS (full_lt hw hh hs hn h10)
   rw [PO.Q_step _ _ hS, if_neg hf, Nat.zero_add] at h1
   exact h1
  have hstep : PO.sumL (List.range (i + 1)) (fun j => PO.on (eS w h (w * h) (ballsOf cs)) S j * cntQ w h cs (S + 2 ^ j)) = PO.sumL (List.range i) (fun j => PO.on (eS w h (w * h) (ballsOf cs)) S j * cntQ w h cs (S + 2 ^ j)) + PO.on (eS w h (w * h) (ballsOf cs)) S i * cntQ w h cs (S + 2 ^ i) := by
   rw [List.range_succ, PO.sumL_append, PO.sumL_cons, PO.sumL_nil, Nat.add_zero]
  rw [hstep] at ih hg
  generalize PO.sumL (List.range i) (fun j => PO.on (eS w h (w * h) (ballsOf cs)) S j * cntQ w h cs (S + 2 ^ j)) = acc at ih hg ⊢
  have hadd := addO_ev hw hh hs hn h10 S i (by omega)
  by_cases hb : S.testBit i = true
  ·have e0 : PO.on (eS w h (w * h) (ballsOf cs)) S i = 0 := by
    unfold PO.on
    rw [if_neg fun h => by rw [hb] at h; cases h.1]
   rw [e0, Nat.zero_mul, show acc + 0 = acc from rfl] at ih
   refine Ev.congr ih fun k => ?_
   rw [sumO, if_pos hb]
  ·have hb2 : S.testBit i = false := by simpa using hb
   have hr := hrec i (by omega) hb2
   have hwr : ∀ c : Nat, acc + 1 * c ≤ 10000000000 → wrap64 ((acc : Int) + (c : Int)) = ((acc + 1 * c : Nat) : Int) := fun c hc => by
    unfold wrap64
    omega
   by_cases h0 : S = 0
   ·have e1 : PO.on (eS w h (w * h) (ballsOf cs)) S i = 1 := by
     unfold PO.on eS
     rw [if_pos ⟨hb2, by rw [decide_eq_true h0]; rfl⟩]
    rw [e1] at ih hg
    refine Ev.congr (Ev.bind (f := fun k (c : Int) => sumO (addO k w h (nowC (w * h) (ballsOf cs) S)) (ordF k w h cs (ballsOf cs)) (ballsOf cs) S m (i + 1) (wrap64 ((acc : Int) + c))) hr (Ev.congr ih fun k => ?_)) fun k => ?_
    ·rw [hwr _ hg]
    ·rw [sumO, if_neg hb, if_pos h0]
   ·cases hx : wayB w h (nowC (w * h) (ballsOf cs) S) (rd (ballsOf cs) (i : Int)) with
    | true =>
     rw [hx] at hadd
     have e1 : PO.on (eS w h (w * h) (ballsOf cs)) S i = 1 := by
      unfold PO.on eS
      rw [if_pos ⟨hb2, by rw [hx, Bool.or_true]⟩]
     rw [e1] at ih hg
     refine Ev.congr (Ev.bind (f := fun k (b : Bool) => if b = true then (ordF k w h cs (ballsOf cs) (S + 2 ^ i)).bind fun c => sumO (addO k w h (nowC (w * h) (ballsOf cs) S)) (ordF k w h cs (ballsOf cs)) (ballsOf cs) S m (i + 1) (wrap64 ((acc : Int) + c)) else sumO (addO k w h (nowC (w * h) (ballsOf cs) S)) (ordF k w h cs (ballsOf cs)) (ballsOf cs) S m (i + 1) (acc : Int)) hadd ?_) fun k => ?_
     ·refine Ev.congr (Ev.bind (f := fun k (c : Int) => sumO (addO k w h (nowC (w * h) (ballsOf cs) S)) (ordF k w h cs (ballsOf cs)) (ballsOf cs) S m (i + 1) (wrap64 ((acc : Int) + c))) hr (Ev.congr ih fun k => ?_)) fun k => if_pos rfl
      rw [hwr _ hg]
     ·rw [sumO, if_neg hb, if_neg h0]
    | false =>
     rw [hx] at hadd
     have e1 : PO.on (eS w h (w * h) (ballsOf cs)) S i = 0 := by
      unfold PO.on eS
      rw [if_neg fun h => by rw [decide_eq_false h0, hx] at h; cases h.2]
     rw [e1, Nat.zero_mul, show acc + 0 = acc from rfl] at ih
     refine Ev.congr (Ev.bind (f := fun k (b : Bool) => if b = true then (ordF k w h cs (ballsOf cs) (S + 2 ^ i)).bind fun c => sumO (addO k w h (nowC (w * h) (ballsOf cs) S)) (ordF k w h cs (ballsOf cs)) (ballsOf cs) S m (i + 1) (wrap64 ((acc : Int) + c)) else sumO (addO k w h (nowC (w * h) (ballsOf cs) S)) (ordF k w h cs (ballsOf cs)) (ballsOf cs) S m (i + 1) (acc : Int)) hadd (Ev.congr ih fun k => if_neg Bool.false_ne_true)) fun k => ?_
     rw [sumO, if_neg hb, if_neg h0]
theorem inB_balls : inB cs (ballsOf cs) = true := by
 have hL : Cells (w * h) (ballsOf cs) := hn ▸ cells_balls cs
 unfold inB
 rw [Bool.and_eq_true]
 refine ⟨decide_eq_true (by omega), List.all_eq_true.2 fun v hv => decide_eq_true ?_⟩
 obtain ⟨i, hi, rfl⟩ := List.getElem_of_mem hv
 have := hL.inN i hi
 rw [rd_nat _ i hi] at this
 rw [hn]
 exact this
theorem ordF_ev (ho : ∀ c ∈ cs, c = 46 ∨ c = 111) (h1 : 1 ≤ cs.length) : ∀ (m S : Nat), 2 ^ (ballsOf cs).length ≤ m + S → S < 2 ^ (ballsOf cs).length → Ev (fun k => ordF k w h cs (ballsOf cs) S) ((cntQ w h cs S : Nat) : Int)
 | 0, S, hm, hS => by omega
 | m + 1, S, hm, hS => by
  have hguard : S < 2 ^ (ballsOf cs).length ∧ (0 < cs.length ∧ cs.length ≤ 1000) ∧ (ballsOf cs).length ≤ 10 ∧ inB cs (ballsOf cs) = true := ⟨hS, ⟨by omega, by omega⟩, h10, inB_balls hw hh hs hn h10⟩
  by_cases hf : S = 2 ^ (ballsOf cs).length - 1
  ·refine Ev.step (Ev.const (o := some ((cntQ w h cs S : Nat) : Int)) rfl) fun k => ?_
   rw [ordF, if_pos hguard, if_pos hf]
   unfold cntQ
   rw [← hf, PO.Q_self _ _ hS]
   rfl
  ·have h2 := sumO_ev hw hh hs hn h10 S hS hf (fun i hi hb => ordF_ev ho h1 m (S + 2 ^ i) (by have := Nat.two_pow_pos i; omega) (PO.put_lt hS hi hb)) (ballsOf cs).length 0 (by omega)
   refine Ev.step h2 fun k => ?_
   rw [ordF, if_pos hguard, if_neg hf, emptyC_open ho, hn]
   rfl
end
end Go.Proofs.YtmefnfhghfemgaaDoor.Q
end
section
namespace Go.Proofs.YtmefnfhghfemgaaDoor.Q
open Go.RowKit Go.Proofs.YtmefnfhghfemgaaDoorW.PrintWords Go.Proofs.YtmefnfhghfemgaaDoorW.PrintLast Go.Proofs.YtmefnfhghfemgaaDoorW.PrintMore
attribute [local go_sem] max2_int min2_int max_two min_two max_three min_three max_four min_four
set_option linter.unusedVariables false
set_option linter.unusedSimpArgs false
def spec_tyCopy.f (a0_0 : Int) (a0_1 : Int) (l0_2 : List Int) : Option (Int × Int × List Int) := (some (([] : List Int) : List Int)).bind fun y103 => (if y103.length + l0_2.length < 140737488355328 then (some (a0_0, a0_1, (y103 ++ l0_2))) else (none))
def spec_tyCopy.T1 : Bool × List (List Nat × List Nat) := (true, [([], []), ([0], [0]), ([], []), ([2], [2]), ([], []), ([], []), ([5], [5]), ([4, 6], [4, 6]), ([1, 3, 7], [1, 3, 7]), ([8, 7, 0, 1, 2, 3, 4, 5, 6, 7, 8], [8])])
def spec_tyCopy.B1 : List Nat := [0, 1, 0, 4, 0, 0, 32, 112, 255, 511]
theorem spec_tyCopy.tab1 : rtab .any (opsOf Tryd.f111 1) = spec_tyCopy.T1 := by kernel_rfl
theorem spec_tyCopy.bits1 : waitsOk spec_tyCopy.T1.2 spec_tyCopy.B1 = true := by kernel_rfl
set_option maxHeartbeats 8000000 in
set_option maxRecDepth 100000 in
theorem spec_tyCopy.calls (a0_0 : Int) (a0_1 : Int) (A0_2 : Option Addr) (c0_2 : Nat) (l0_2 : List Int) (r1 : Int) (r2 : Int) (r3 : List Int) (w : World) (hr0_2 : Kd.C (Kd.int .u8) w A0_2 l0_2.length l0_2) (hc0_2 : l0_2.length ≤ c0_2) (h : spec_tyCopy.f a0_0 a0_1 l0_2 = some (r1, r2, r3)) :
  Calls Tryd.prog 111 #[.agg #[.int .i64 a0_0, .int .i64 a0_1, .slice A0_2 l0_2.length c0_2]] w fun e w' => ∃ v2_ : Value, e = .returned (.agg #[.int .i64 r1, .int .i64 r2, v2_]) ∧ Kd.R (Kd.int .u8) 5 w' w.heap.size (fun _ => True) v2_ r3 ∧ Below w.heap.size w w' := by
 have hu40 := Tryd.underlying40
 have HR0_2 := Aside0.mk hr0_2
 have HC0_2 := Aside0.mk hc0_2
 clear hr0_2 hc0_2
 have HB := Aside0.mk (Below.refl w.heap.size w)
 have H : ((some (([] : List Int) : List Int)).bind fun y103 => (if y103.length + l0_2.length < 140737488355328 then (some (a0_0, a0_1, (y103 ++ l0_2))) else (none))) = some (r1, r2, r3) := h
 clear h
 obtain ⟨y103, hy103⟩ : ∃ y_ : List Int, y_ = (([] : List Int)) := ⟨_, rfl⟩
 replace H : (if y103.length + l0_2.length < 140737488355328 then (some (a0_0, a0_1, (y103 ++ l0_2))) else (none)) = some (r1, r2, r3) := rH hy103 H
 have Ny103 := Aside0.mk hy103
 clear hy103
 by_cases c2 : y103.length + l0_2.length < 140737488355328
 ·rw [if_pos c2] at H
  have LMc2 := Aside0.mk c2
  clear c2
  obtain ⟨y106, hy106⟩ : ∃ y_ : List Int, y_ = (y103 ++ l0_2) := ⟨_, rfl⟩
  replace H : (some (a0_0, a0_1, y106)) = some (r1, r2, r3) := rH hy106 H
  have Ny106 := Aside0.mk hy106
  clear hy106
  simp only [Option.some.injEq, Prod.mk.injEq] at H
  obtain ⟨rfl, rfl, rfl⟩ := H
  go_enter Tryd.func111, Tryd.ntmps111
  try go_wp2_with (first | ((with_reducible refine gate_dst (N := 1) rfl ?_); refine boxE (N := 1) (cs := #[.int .i64 a0_0, .int .i64 a0_1, .slice A0_2 l0_2.length c0_2]) (t := 40) ?_; intro gb101 hg w3 hbox hb; have n0_ := Aside0.mk (below_step (bel HB) hb); have n1_ := Aside0.mk (hbox); have n2_ := Aside0.mk (gsz hg (bel HB)); have n3_ := Aside0.mk (gsz hg (bel HB)); clear HB; have HB := n0_; have BK101 := n1_; have GW101 := n2_; have GE101 := n3_; clear n0_ n1_ n2_ n3_; clear hb hbox hg) | ((with_reducible refine gate_dst (N := 2) rfl ?_); refine boxE (N := 2) (cs := #[.int .i64 0, .int .i64 0, .slice none 0 0]) (t := 40) ?_; intro gb102 hg w4 hbox hb; have n0_ := Aside0.mk (blk_below (g := gb101) (o := .cells #[.int .i64 a0_0, .int .i64 a0_1, .slice A0_2 l0_2.length c0_2] 40 (0, 0)) blc hb); have n1_ := Aside0.mk (below_step (bel HB) hb); have n2_ := Aside0.mk (hbox); have n3_ := Aside0.mk (gsz hg (bel HB)); have n4_ := Aside0.mk (gsz hg (bel HB)); have n5_ := Aside0.mk ((by rw [hg]; exact Nat.ne_of_lt (blk_lt (g := gb101) (o := .cells #[.int .i64 a0_0, .int .i64 a0_1, .slice A0_2 l0_2.length c0_2] 40 (0, 0)) blc) : gb101 ≠ gb102)); have n6_ := Aside0.mk ((by rw [hg]; exact Nat.ne_of_gt (blk_lt (g := gb101) (o := .cells #[.int .i64 a0_0, .int .i64 a0_1, .slice A0_2 l0_2.length c0_2] 40 (0, 0)) blc) : gb102 ≠ gb101)); clear BK101; clear HB; have BK101 := n0_; have HB := n1_; have BK102 := n2_; have GW102 := n3_; have GE102 := n4_; have NB101_102 := n5_; have NB102_101 := n6_; clear n0_ n1_ n2_ n3_ n4_ n5_ n6_; clear hb hbox hg))
  have n0_ := Aside0.mk (blk_drew BK101.out)
  have n1_ := Aside0.mk (blk_drew BK102.out)
  have n2_ := Aside0.mk (below_drew1 HB.out)
  clear BK101
  clear BK102
  clear HB
  have BK101 := n0_
  have BK102 := n1_
  have HB := n2_
  clear n0_ n1_ n2_
  refine start_ (n := 10) (S := fun w' => w'.cell? ⟨gb101, 0, none⟩ = some (.int .i64 a0_0) ∧ w'.cell? ⟨gb101, 1, none⟩ = some (.int .i64 a0_1) ∧ w'.cell? ⟨gb101, 2, none⟩ = some (.slice A0_2 l0_2.length c0_2)) (ds := []) #[false, false, false, false, false, false, false, false, false, false] (by kernel_rfl) rfl rfl ⟨(blk_cell BK101.out 0).trans rfl, (blk_cell BK101.out 1).trans rfl, (blk_cell BK101.out 2).trans rfl⟩ (fun hHeld => ?_); refine with_tabW spec_tyCopy.tab1 spec_tyCopy.bits1 (fun HT_ HW_ => ?_)
  generalize w4.drew = w5 at BK101 BK102 HB hHeld ⊢
  refine pure_ (i := 0) (N := some 3) (v := ?_) (a' := ?_) #[true, false, false, false, false, false, false, false, false, false] rfl rfl (any_of HT_.out (by kernel_rfl)) (fun _ _ _ h => h) (Or.inl ⟨by rfl, ?_⟩) ?_ ?_
  rotate_left
  ·intro w'
   go_simp
   with_reducible rfl
  rotate_left
  ·simp only [Act.put, List.setIfInBounds_toArray, List.set_cons_zero, List.set_cons_succ, i64_w, i32_w]
   rfl
  refine pure_ (i := 2) (N := some 5) (v := ?_) (a' := ?_) #[true, false, true, false, false, false, false, false, false, false] rfl rfl (any_of HT_.out (by kernel_rfl)) (fun _ _ _ h => h) (Or.inl ⟨by rfl, ?_⟩) ?_ ?_
  rotate_left
  ·intro w'
   go_simp
   with_reducible rfl
  rotate_left
  ·simp only [Act.put, List.setIfInBounds_toArray, List.set_cons_zero, List.set_cons_succ, i64_w, i32_w]
   rfl
  refine pure_ (i := 5) (N := some 8) (v := ?_) (a' := ?_) #[true, false, true, false, false, true, false, false, false, false] rfl rfl (any_of HT_.out (by kernel_rfl)) (fun _ _ _ h => h) (Or.inl ⟨by rfl, ?_⟩) ?_ ?_
  rotate_left
  ·intro w'
   go_simp
   with_reducible rfl
  rotate_left
  ·simp only [Act.put, List.setIfInBounds_toArray, List.set_cons_zero, List.set_cons_succ, i64_w, i32_w]
   rfl
  refine take_ (i := 1) (N := some 4) (v := ?_) (a' := ?_) #[true, true, true, false, false, true, false, false, false, false] rfl rfl (take_ofW HT_.out HW_.out (by kernel_rfl)) (fun _ _ _ h => h) (Or.inl ⟨by rfl, ?_⟩) hHeld ?_ ?_
  rotate_left
  ·rintro w' ⟨s0, s1, s2⟩
   go_simp
   with_reducible rfl
  rotate_left
  ·simp only [Act.put, List.setIfInBounds_toArray, List.set_cons_zero, List.set_cons_succ, i64_w, i32_w]
   rfl
  refine take_ (i := 3) (N := some 6) (v := ?_) (a' := ?_) #[true, true, true, true, false, true, false, false, false, false] rfl rfl (take_ofW HT_.out HW_.out (by kernel_rfl)) (fun _ _ _ h => h) (Or.inl ⟨by rfl, ?_⟩) hHeld ?_ ?_
  rotate_left
  ·rintro w' ⟨s0, s1, s2⟩
   go_simp
   with_reducible rfl
  rotate_left
  ·simp only [Act.put, List.setIfInBounds_toArray, List.set_cons_zero, List.set_cons_succ, i64_w, i32_w]
   rfl
  refine take_ (i := 6) (N := some 9) (v := ?_) (a' := ?_) #[true, true, true, true, false, true, true, false, false, false] rfl rfl (take_ofW HT_.out HW_.out (by kernel_rfl)) (fun _ _ _ h => h) (Or.inl ⟨by rfl, ?_⟩) hHeld ?_ ?_
  rotate_left
  ·rintro w' ⟨s0, s1, s2⟩
   go_simp
   with_reducible rfl
  rotate_left
  ·simp only [Act.put, List.setIfInBounds_toArray, List.set_cons_zero, List.set_cons_succ, i64_w, i32_w]
   rfl
  refine one_ (i := 4) (N := some 7) #[true, true, true, true, true, true, true, false, false, false] rfl rfl (one_of HT_.out (by kernel_rfl)) (by decide) (fun K hK => ?_)
  refine Kd.R_lit_step (Kd.int .u8) _ 5 ?hg (N := 7) ?hd (xs := ([] : List Int)) (inner := []) (ok := fun _ => True) (okp := fun _ => True) ?hr ?hp (fun _ hk => hk) trivial (Below.refl _ _) (Nat.le_refl _) (by simp) ?_; (case hd => rfl); (case hg => rfl); (case hr => first | (go_simp; done) | (go_simp; rfl)); (case hp => exact (Reps.none _ _))
  intro v104 w6 ho7 hb hg_ hnew_
  clear hg_ hnew_
  (first | rw [← Ny103.out] at ho7 | (simp only [Int.reduceToNat] at ho7; rw [← Ny103.out] at ho7))
  have n0_ := Aside0.mk (Kd.R_lower ho7 (below_size (bel HB)))
  have n1_ := Aside0.mk (blk_below (g := gb101) (o := .cells #[.int .i64 a0_0, .int .i64 a0_1, .slice A0_2 l0_2.length c0_2] 40 (0, 0)) blc hb)
  have n2_ := Aside0.mk (blk_below (g := gb102) (o := .cells #[.int .i64 0, .int .i64 0, .slice none 0 0] 40 (0, 0)) blc hb)
  have n3_ := Aside0.mk (below_step (bel HB) hb)
  clear BK101
  clear BK102
  clear HB
  have HO105 := n0_
  have BK101 := n1_
  have BK102 := n2_
  have HB := n3_
  clear n0_ n1_ n2_ n3_
  clear hb ho7
  refine hK.out _ _ ⟨(blk_cell BK101.out 0).trans rfl, (blk_cell BK101.out 1).trans rfl, (blk_cell BK101.out 2).trans rfl⟩ (fun hHeld => ?_)
  clear hK K
  refine norm_ (a' := ?_) ?_ ?_
  rotate_left
  ·show Act.put _ (some 7) _ = _
   simp only [Act.put, List.setIfInBounds_toArray, List.set_cons_zero, List.set_cons_succ, i64_w, i32_w]
   rfl
  refine one_ (i := 7) (N := some 10) #[true, true, true, true, true, true, true, true, false, false] rfl rfl (one_of HT_.out (by kernel_rfl)) (by decide) (fun K hK => ?_)
  refine Kd.R_append_rows_step (Kd.int .u8) (w0 := w) w.heap.size (by rfl) (.tmp 7) (.tmp 9) 38 5 (.int .u8 0) 1 rfl Tryd.underlying38 info5 rfl (by decide) (by omega) v104 y103 l0_2 _ _ _ (fun _ => True) (fun _ => False) rfl rfl ?aO ?aR (fun _ _ h => h) (fun _ h => h.elim) ?aF ?aB ?aS ?aL ?_
  (case aR => repeat (first | exact (Kd.C_below HR0_2.out HB.out) | (with_reducible refine Kd.C_alloc ?_ _) | (with_reducible refine Kd.C_drewN ?_ _) | (with_reducible refine Kd.C_drew ?_)))
  (case aB => exact (bel HB))
  (case aF => exact (fun _ _ => trivial))
  (case aO => exact (rch HO105))
  (case aS => exact (below_size (bel HB)))
  (case aL => have := LMc2.out; omega)
  intro v107 w8 ho hb hg hat
  rw [← Ny106.out] at ho
  have n0_ := Aside0.mk (blk_grown (g := gb101) (o := .cells #[.int .i64 a0_0, .int .i64 a0_1, .slice A0_2 l0_2.length c0_2] 40 (0, 0)) blc hg (Kd.R_ne HO105.out BK101.out (by decide)))
  have n1_ := Aside0.mk (blk_grown (g := gb102) (o := .cells #[.int .i64 0, .int .i64 0, .slice none 0 0] 40 (0, 0)) blc hg (Kd.R_ne HO105.out BK102.out (by decide)))
  have n2_ := Aside0.mk (hb)
  have n3_ := Aside0.mk (ho)
  clear BK101
  clear BK102
  clear HB
  clear HO105
  have BK101 := n0_
  have BK102 := n1_
  have HB := n2_
  have HO108 := n3_
  clear n0_ n1_ n2_ n3_
  clear ho hb hg hat
  obtain ⟨Ao9, co9, eo9⟩ := Kd.R_slice HO108.out
  (first | subst eo9 | (injection eo9 with f1_ f2_ f3_; have f4_ := f1_.symm; have f5_ := f3_.symm; clear f1_ f2_ f3_; subst f4_; subst f5_))
  refine hK.out _ _ ⟨(blk_cell BK101.out 0).trans rfl, (blk_cell BK101.out 1).trans rfl, (blk_cell BK101.out 2).trans rfl⟩ (fun hHeld => ?_)
  clear hK K
  refine norm_ (a' := ?_) ?_ ?_
  rotate_left
  ·show Act.put _ (some 10) _ = _
   simp only [Act.put, List.setIfInBounds_toArray, List.set_cons_zero, List.set_cons_succ, i64_w, i32_w]
   rfl
  refine pure_ (i := 8) (N := some 11) (v := ?_) (a' := ?_) #[true, true, true, true, true, true, true, true, true, false] rfl rfl (any_of HT_.out (by kernel_rfl)) (fun _ _ _ h => h) (Or.inl ⟨by rfl, ?_⟩) ?_ ?_
  rotate_left
  ·intro w'
   go_simp
   with_reducible rfl
  rotate_left
  ·simp only [Act.put, List.setIfInBounds_toArray, List.set_cons_zero, List.set_cons_succ, i64_w, i32_w]
   rfl
  refine one_ (i := 9) (N := none) #[true, true, true, true, true, true, true, true, true, true] rfl rfl (one_of HT_.out (by kernel_rfl)) (by decide) (fun K hK => ?_)
  have hs10 : w8.cell? ⟨gb102, 0, none⟩ = some (.int .i64 0) := (blk_cell BK102.out 0).trans rfl
  have hfs10 := blk_frozen BK102.out 0
  have hns10_0 := NB101_102.out
  have hms10_0 := NB102_101.out
  have hs11 : w8.cell? ⟨gb102, 1, none⟩ = some (.int .i64 0) := (blk_cell BK102.out 1).trans rfl
  have hfs11 := blk_frozen BK102.out 1
  have hns11_0 := NB101_102.out
  have hms11_0 := NB102_101.out
  have hs12 : w8.cell? ⟨gb102, 2, none⟩ = some (.slice none 0 0) := (blk_cell BK102.out 2).trans rfl
  have hfs12 := blk_frozen BK102.out 2
  have hns12_0 := NB101_102.out
  have hms12_0 := NB102_101.out
  refine skip_ (w1 := ?_) (by rfl) rfl ?_ ?_
  rotate_left
  ·go_simp
   rfl
  refine hK.out _ _ ⟨((cell_far (p := ⟨gb102, _, none⟩) NB101_102.out _).trans (((cell_far (p := ⟨gb102, _, none⟩) NB101_102.out _).trans (((cell_far (p := ⟨gb102, _, none⟩) NB101_102.out _).trans (hHeld.1)))))), ((cell_far (p := ⟨gb102, _, none⟩) NB101_102.out _).trans (((cell_far (p := ⟨gb102, _, none⟩) NB101_102.out _).trans (((cell_far (p := ⟨gb102, _, none⟩) NB101_102.out _).trans (hHeld.2.1)))))), ((cell_far (p := ⟨gb102, _, none⟩) NB101_102.out _).trans (((cell_far (p := ⟨gb102, _, none⟩) NB101_102.out _).trans (((cell_far (p := ⟨gb102, _, none⟩) NB101_102.out _).trans (hHeld.2.2))))))⟩ (fun hHeld => ?_)
  clear hK K
  refine done_ (done_of HT_.out (by kernel_rfl)) ?_
  try go_wp2
  refine bodyPost_ret (results_cell_row rfl _ _ gb102 40 #[.int .i64 a0_0, .int .i64 a0_1, .slice Ao9 y106.length co9] (0, 0) _ rfl (by (with_reducible repeat (first | refine blk_drewN ?_ _ | refine blk_drew ?_ | refine blk_alloc ?_ _)); refine blk_put (cs := #[.int .i64 a0_0, .int .i64 a0_1, .slice none 0 0]) ?_ 2 _ rfl; (with_reducible repeat (first | refine blk_drewN ?_ _ | refine blk_drew ?_ | refine blk_alloc ?_ _)); refine blk_put (cs := #[.int .i64 a0_0, .int .i64 0, .slice none 0 0]) ?_ 1 _ rfl; (with_reducible repeat (first | refine blk_drewN ?_ _ | refine blk_drew ?_ | refine blk_alloc ?_ _)); refine blk_put (cs := #[.int .i64 0, .int .i64 0, .slice none 0 0]) ?_ 0 _ rfl; exact blc) Tryd.underlying40 rfl (by kernel_rfl)) rfl ?_
  exact ⟨_, by first | rfl | (simp [errW_none, errW_some] <;> rfl) | (simp [*, errW_none, errW_some] <;> rfl), by (with_reducible repeat (first | apply Kd.R_alloc | apply Kd.R_drewN | apply Kd.R_drew)); exact Kd.R_mono (Kd.R_far (p := ⟨gb102, 2, none⟩) (Kd.R_far (p := ⟨gb102, 1, none⟩) (Kd.R_far (p := ⟨gb102, 0, none⟩) (Kd.R_types HO108.out BK102.out (by decide)) (fun _ hk => hk.2) (.int .i64 a0_0)) (fun _ hk => hk.2) (.int .i64 a0_1)) (fun _ hk => hk.2) (.slice Ao9 y106.length co9)) (fun _ hk => trivial), bel HB⟩
 ·rw [if_neg c2] at H
  exact absurd H (by simp)
end Go.Proofs.YtmefnfhghfemgaaDoor.Q
end
