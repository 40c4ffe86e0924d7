/- Texts of this claim, joined. -/
import Derived.Test.YtgipkpiddjjhcaaDoorJGreatestPiece01
import Derived.Test.YtgipkpiddjjhcaaDoorJGreatestPiece03
import Derived.Deep.LoopGhost
import Derived.Deep.Draws
import Derived.Test.YtgipkpiddjjhcaaDoorJGreatestPiece02
import Derived.RangeFuncBox
import Derived.Laws.MakeOwn
import Derived.RangeFuncLeaves
import Derived.RangeFuncNested
import Derived.RangeFuncBound
import Derived.RangeFuncCalls
import Derived.Shelf.Abstract
import Derived.WalkKit
import Derived.OwnWalkIn
import Derived.TacticsInMore
import Derived.LoopNIn
import Derived.LoopIn
import Derived.Maps.AppendAt
import Derived.Laws.BytesArg
import Derived.Laws.AppendOwn
import Derived.Shelf.SlicesE.Clone
set_option linter.unusedVariables false
set_option linter.unusedSimpArgs false
set_option linter.unusedSectionVars false
section
namespace Go.Proofs.YtgipkpiddjjhcaaDoor.Q
open Go.RowKit Go.Proofs.YtgipkpiddjjhcaaDoorW.PrintWords Go.Proofs.YtgipkpiddjjhcaaDoorW.PrintLast Go.Proofs.YtgipkpiddjjhcaaDoorW.PrintMore
attribute [local go_sem] max2_int min2_int max_two min_two max_three min_three max_four min_four
set_option linter.unusedVariables false
set_option linter.unusedSimpArgs false
mutual
def spec_skBlocked.l0 : Nat → List Int → Int → List Bool → Bool → Int → Int → List Int → Option (List Bool)
 | 0, _, _, _, _, _, _, _ => none
 | k + 1, x1, x3, x9, x10, x102000, x102001, x102002 => if x10 = true then (spec_skBlocked.l1 k x1 x3 x9 false x1 (x1.length : Int) 0 x102000 x102001 x102002) else (some x9)
def spec_skBlocked.l1 : Nat → List Int → Int → List Bool → Bool → List Int → Int → Int → Int → Int → List Int → Option (List Bool)
 | 0, _, _, _, _, _, _, _, _, _, _ => none
 | k + 1, x1, x3, x9, x10, x17, x18, x19, x102000, x102001, x102002 => if x19 < x18 then (if 0 ≤ x19 then (if x19 < (x17.length : Int) then (if (rd x17 x19) < 0 then (spec_skBlocked.j2 k x1 x3 x9 x10 x19 (rd x17 x19) x17 x18 x19 true x102000 x102001 x102002) else (if 0 ≤ (rd x17 x19) then (if (rd x17 x19) < (x9.length : Int) then (spec_skBlocked.j2 k x1 x3 x9 x10 x19 (rd x17 x19) x17 x18 x19 (rdOf false x9 (rd x17 x19)) x102000 x102001 x102002) else (none)) else (none))) else (none)) else (none)) else (spec_skBlocked.l0 k x1 x3 x9 x10 x102000 x102001 x102002)
def spec_skBlocked.j2 : Nat → List Int → Int → List Bool → Bool → Int → Int → List Int → Int → Int → Bool → Int → Int → List Int → Option (List Bool)
 | 0, _, _, _, _, _, _, _, _, _, _, _, _, _ => none
 | k + 1, x1, x3, x9, x10, x11, x12, x17, x18, x19, x31, x102000, x102001, x102002 => if x31 = true then (spec_skBlocked.l1 k x1 x3 x9 x10 x17 x18 (wrap64 (x19 + 1)) x102000 x102001 x102002) else ((spec_tiAhead.f x102000 x102001 x102002 x11 x3).bind fun t107 => (if t107 < 0 then (if 0 ≤ x12 then (if x12 < (x9.length : Int) then (spec_skBlocked.l1 k x1 x3 (x9.set (x12 : Int).toNat true) true x17 x18 (wrap64 (x19 + 1)) x102000 x102001 x102002) else (none)) else (none)) else (if 0 ≤ t107 then (if t107 < (x1.length : Int) then (if (rd x1 t107) ≥ 0 then (if (rd x1 t107) = x12 then (spec_skBlocked.l1 k x1 x3 x9 x10 x17 x18 (wrap64 (x19 + 1)) x102000 x102001 x102002) else (if 0 ≤ (rd x1 t107) then (if (rd x1 t107) < (x9.length : Int) then (if rdOf false x9 (rd x1 t107) = true then (if 0 ≤ x12 then (if x12 < (x9.length : Int) then (spec_skBlocked.l1 k x1 x3 (x9.set (x12 : Int).toNat true) true x17 x18 (wrap64 (x19 + 1)) x102000 x102001 x102002) else (none)) else (none)) else (spec_skBlocked.l1 k x1 x3 x9 x10 x17 x18 (wrap64 (x19 + 1)) x102000 x102001 x102002)) else (none)) else (none))) else (spec_skBlocked.l1 k x1 x3 x9 x10 x17 x18 (wrap64 (x19 + 1)) x102000 x102001 x102002)) else (none)) else (none))))
end
def spec_skBlocked.f (k : Nat) (a0_0 : Int) (a0_1 : Int) (l0_2 : List Int) (l1 : List Int) (a2 : Int) (a3 : Int) : Option (List Bool) := if 0 ≤ a2 then (if (a2 : Int).toNat ≤ 281474976710656 then (spec_skBlocked.l0 k l1 a3 (List.replicate (a2 : Int).toNat false) true a0_0 a0_1 l0_2) else (none)) else (none)
set_option maxHeartbeats 8000000 in
set_option maxRecDepth 100000 in
theorem spec_skBlocked.calls (k : Nat) (a0_0 : Int) (a0_1 : Int) (A0_2 : Option Addr) (c0_2 : Nat) (l0_2 : List Int) (A1 : Option Addr) (c1 : Nat) (l1 : List Int) (a2 : Int) (a3 : Int) (r : List Bool) (w : World) (hr0_2 : Kd.C (Kd.int .u8) w A0_2 l0_2.length l0_2) (hc0_2 : l0_2.length ≤ c0_2) (hr1 : Kd.C (Kd.int .i64) w A1 l1.length l1) (hc1 : l1.length ≤ c1) (h : spec_skBlocked.f k a0_0 a0_1 l0_2 l1 a2 a3 = some r) :
  Calls Tryd.prog 53 #[.agg #[.int .i64 a0_0, .int .i64 a0_1, .slice A0_2 l0_2.length c0_2], .slice A1 l1.length c1, .int .i64 a2, .int .i64 a3] w fun e w' => ∃ v0_ : Value, e = .returned (v0_) ∧ Kd.R Kd.bool 4 w' w.heap.size (fun _ => True) v0_ r ∧ Below w.heap.size w w' := by
 have hu36 := Tryd.underlying36
 have HR0_2 := Aside0.mk hr0_2
 have HC0_2 := Aside0.mk hc0_2
 clear hr0_2 hc0_2
 have HR1 := Aside0.mk hr1
 have HC1 := Aside0.mk hc1
 clear hr1 hc1
 have HB := Aside0.mk (Below.refl w.heap.size w)
 have H : (if 0 ≤ a2 then (if (a2 : Int).toNat ≤ 281474976710656 then (spec_skBlocked.l0 k l1 a3 (List.replicate (a2 : Int).toNat false) true a0_0 a0_1 l0_2) else (none)) else (none)) = some r := h
 clear h
 by_cases c5 : 0 ≤ a2
 ·rw [if_pos c5] at H
  have c5b0 := eq_true c5
  have c5b1 : decide (0 ≤ a2) = true := decide_eq_true c5
  clear c5
  by_cases c6 : (a2 : Int).toNat ≤ 281474976710656
  ·rw [if_pos c6] at H
   have c6b0 := eq_true c6
   have c6b1 : decide ((a2 : Int).toNat ≤ 281474976710656) = true := decide_eq_true c6
   clear c6
   obtain ⟨y102, hy102⟩ : ∃ y_ : List Bool, y_ = (List.replicate (a2 : Int).toNat false) := ⟨_, rfl⟩
   replace H : (spec_skBlocked.l0 k l1 a3 y102 true a0_0 a0_1 l0_2) = some r := rH hy102 H
   have Ny102 := Aside0.mk hy102
   clear hy102
   have H' := Aside0.mk H
   clear H
   go_enter Tryd.func53, Tryd.ntmps53
   go_wp2_with (first | ((with_reducible refine gate_dst (N := 4) rfl ?_); refine boxE (N := 4) (cs := #[.int .i64 a0_0, .int .i64 a0_1, .slice A0_2 l0_2.length c0_2]) (t := 36) ?_; intro gb101 hg w7 hbox hb; have n0_ := Aside0.mk (below_step (bel HB) hb); have n1_ := Aside0.mk (hbox); have n2_ := Aside0.mk (gsz hg (bel HB)); have n3_ := Aside0.mk (gsz hg (bel HB)); clear HB; have HB := n0_; have BK101 := n1_; have GW101 := n2_; have GE101 := n3_; clear n0_ n1_ n2_ n3_; clear hb hbox hg) | ((with_reducible refine gate_dst (N := 15) rfl ?_); refine Kd.R_make Kd.bool _ 4 rfl (N := 15) rfl 41 _ _ rfl a2 rfl rfl Tryd.underlying41 (.bool false) 1 info4 rfl (by decide) (by omega) false (ok := fun _ => True) (okp := fun _ => True) rfl (fun _ hk => hk) trivial (of_decide_eq_true (by first | (with_reducible assumption) | assumption)) (Nat.le_trans (Nat.mul_le_mul_right _ (of_decide_eq_true (by first | (with_reducible assumption) | assumption) : a2.toNat ≤ 281474976710656)) (by omega)) (Below.refl _ _) (Nat.le_refl _) ?_; intro v103 w8 ho9 hb hg_ hnew_; clear hg_ hnew_; (first | rw [← Ny102.out] at ho9 | (simp only [Int.reduceToNat] at ho9; rw [← Ny102.out] at ho9)); have n0_ := Aside0.mk (Kd.R_lower ho9 (below_size (bel HB))); have n1_ := Aside0.mk (blk_below (g := gb101) (o := .cells #[.int .i64 a0_0, .int .i64 a0_1, .slice A0_2 l0_2.length c0_2] 36 (0, 0)) blc hb); have n2_ := Aside0.mk (below_step (bel HB) hb); clear BK101; clear HB; have HO104 := n0_; have BK101 := n1_; have HB := n2_; clear n0_ n1_ n2_; clear hb ho9))
   go_loopg [10] k (fun kq v10 w' => ∃ (x9_1 : List Bool) (x10_1 : Bool), v10 = .bool x10_1 ∧ Aside0 (spec_skBlocked.l0 kq l1 a3 x9_1 x10_1 a0_0 a0_1 l0_2 = some r) ∧ Aside0 (kq ≤ k) ∧ Aside0 (Kd.R Kd.bool 4 w' w.heap.size (fun _ => True) v103 x9_1) ∧ Aside0 (w'.heap[gb101]? = some (.cells #[.int .i64 a0_0, .int .i64 a0_1, (.slice A0_2 l0_2.length c0_2)] 36 (0, 0))) ∧ Aside0 (Below w.heap.size w w'))
   case atStart => exact ⟨(y102), (true), (by first | rfl | (simp; done) | (simp [*]; done)), H', ⟨Nat.le_refl _⟩, ⟨rch HO104⟩, ⟨blc⟩, ⟨bel HB⟩⟩
   case round =>
    clear H'
    try clear c1
    try clear p2
    try clear c5
    try clear c5b0
    try clear c5b0y
    try clear c5b1
    try clear c6
    try clear c6b0
    try clear c6b0y
    try clear c6b1
    obtain ⟨x9_1, x10_1, rfl, HA, HK1, HO_9, BK101, HB⟩ := hrel
    cases gk with
    | zero => exact absurd HA.out (by simp [spec_skBlocked.l0])
    | succ k1 =>
     have H := HA.out
     clear HA
     simp only [spec_skBlocked.l0] at H
     by_cases c10 : x10_1 = true
     ·subst c10
      have H1 : (spec_skBlocked.l1 k1 l1 a3 x9_1 false l1 (l1.length : Int) 0 a0_0 a0_1 l0_2) = some r := by rw [if_pos rfl] at H; exact H
      clear H
      have H := H1
      clear H1
      have H' := Aside0.mk H
      clear H
      go_wp2
      go_loopg [10, 19] k1 (fun kq v10 v19 w' => ∃ (x9_2 : List Bool) (x10_2 : Bool) (x19_2 : Int), v10 = .bool x10_2 ∧ v19 = .int .i64 x19_2 ∧ Aside0 (spec_skBlocked.l1 kq l1 a3 x9_2 x10_2 l1 (l1.length : Int) x19_2 a0_0 a0_1 l0_2 = some r) ∧ Aside0 (kq ≤ k1) ∧ Aside0 (Kd.R Kd.bool 4 w' w.heap.size (fun _ => True) v103 x9_2) ∧ Aside0 (w'.heap[gb101]? = some (.cells #[.int .i64 a0_0, .int .i64 a0_1, (.slice A0_2 l0_2.length c0_2)] 36 (0, 0))) ∧ Aside0 (Below w.heap.size w w'))
      case atStart => exact ⟨(x9_1), (false), (0), (by first | rfl | (simp; done) | (simp [*]; done)), (by first | rfl | (simp; done) | (simp [*]; done)), H', ⟨Nat.le_refl _⟩, ⟨rch HO_9⟩, ⟨blc⟩, ⟨bel HB⟩⟩
      case round =>
       clear H'
       try clear c1
       try clear p2
       try clear c5
       try clear c5b0
       try clear c5b0y
       try clear c5b1
       try clear c6
       try clear c6b0
       try clear c6b0y
       try clear c6b1
       try clear c10
       try clear p2
       obtain ⟨x9_2, x10_2, x19_2, rfl, rfl, HA, HK2, HO_9, BK101, HB⟩ := hrel
       cases gk with
       | zero => exact absurd HA.out (by simp [spec_skBlocked.l1])
       | succ k2 =>
        have H := HA.out
        clear HA
        simp only [spec_skBlocked.l1] at H
        by_cases c11 : x19_2 < (l1.length : Int)
        ·rw [if_pos c11] at H
         have c11b0 : decide (x19_2 < (l1.length : Int)) = true := decide_eq_true c11
         clear c11
         by_cases c12 : 0 ≤ x19_2
         ·rw [if_pos c12] at H
          have c12b0 : decide (0 ≤ x19_2) = true := decide_eq_true c12
          clear c12
          by_cases c13 : x19_2 < (l1.length : Int)
          ·rw [if_pos c13] at H
           have c13b0 : decide (x19_2 < (l1.length : Int)) = true := decide_eq_true c13
           clear c13
           have HC14 := Aside0.mk H
           clear H
           have p105 : 0 ≤ (x19_2 : Int) := of_decide_eq_true (by first | (with_reducible assumption) | assumption)
           have q105 : x19_2 < (l1.length : Int) := of_decide_eq_true (by first | (with_reducible assumption) | assumption)
           obtain ⟨ad105, e105, hx105_0⟩ := Kd.at_int HR1.out x19_2 p105 q105
           cases e105
           (try replace hx105_0 := (HB.out.cell (World.block_lt_of_cell? w _ hx105_0)).trans hx105_0)
           replace p105 := eq_true p105
           replace q105 := eq_true q105
           go_upto_region 8 with (fail)
           go_cut [31] (fun v31 wc => ∃ (kq : Nat) (x31_13 : Bool), v31 = .bool x31_13 ∧ Aside0 (spec_skBlocked.j2 kq l1 a3 x9_2 x10_2 x19_2 (rd l1 x19_2) l1 (l1.length : Int) x19_2 x31_13 a0_0 a0_1 l0_2 = some r) ∧ Aside0 (kq ≤ k2) ∧ Aside0 (Kd.R Kd.bool 4 wc w.heap.size (fun _ => True) v103 x9_2) ∧ Aside0 (wc.heap[gb101]? = some (.cells #[.int .i64 a0_0, .int .i64 a0_1, (.slice A0_2 l0_2.length c0_2)] 36 (0, 0))) ∧ Aside0 (Below w.heap.size w wc))
           case first =>
            have H := HC14.out
            clear HC14
            by_cases c15 : (rd l1 x19_2) < 0
            ·rw [if_pos c15] at H
             have c15b0 : decide ((rd l1 x19_2) < 0) = true := decide_eq_true c15
             clear c15
             (first | rw [c15b0] | (simp only [i64_w, i32_w]; rw [c15b0]) | skip)
             have H' := Aside0.mk H
             clear H
             go_wp2
             go_meet
             case rel => exact ⟨_, (true), (by first | rfl | (simp; done) | (simp [*]; done)), H', ⟨by have := HK1.out; have := HK2.out; first | omega | exact Nat.le_refl _⟩, ⟨rch HO_9⟩, ⟨blc⟩, ⟨bel HB⟩⟩
            ·rw [if_neg c15] at H
             have c15b0 : decide ((rd l1 x19_2) < 0) = false := decide_eq_false c15
             clear c15
             (first | rw [c15b0] | (simp only [i64_w, i32_w]; rw [c15b0]) | skip)
             by_cases c16 : 0 ≤ (rd l1 x19_2)
             ·rw [if_pos c16] at H
              have c16b0 : decide (0 ≤ (rd l1 x19_2)) = true := decide_eq_true c16
              clear c16
              by_cases c17 : (rd l1 x19_2) < (x9_2.length : Int)
              ·rw [if_pos c17] at H
               have c17b0 : decide ((rd l1 x19_2) < (x9_2.length : Int)) = true := decide_eq_true c17
               clear c17
               have H' := Aside0.mk H
               clear H
               obtain ⟨Ao18, co18, eo18⟩ := Kd.R_slice HO_9.out
               subst eo18
               have p106 : 0 ≤ ((rd l1 x19_2) : Int) := of_decide_eq_true (by first | (with_reducible assumption) | assumption)
               have q106 : (rd l1 x19_2) < (x9_2.length : Int) := of_decide_eq_true (by first | (with_reducible assumption) | assumption)
               obtain ⟨ad106, e106, hx106_0⟩ := Kd.at_bool (Kd.R_reads' HO_9.out).2.2 (rd l1 x19_2) p106 q106
               cases e106
               replace p106 := eq_true p106
               replace q106 := eq_true q106
               go_wp2
               go_meet
               case rel => exact ⟨_, (rdOf false x9_2 (rd l1 x19_2)), (by first | rfl | (simp; done) | (simp [*]; done)), H', ⟨by have := HK1.out; have := HK2.out; first | omega | exact Nat.le_refl _⟩, ⟨rch HO_9⟩, ⟨blc⟩, ⟨bel HB⟩⟩
              ·rw [if_neg c17] at H
               exact absurd H (by simp)
             ·rw [if_neg c16] at H
              exact absurd H (by simp)
           case rest =>
            clear HC14
            try clear c1
            try clear p1
            try clear q1
            try clear hx1
            try clear p2
            try clear c5
            try clear c5b0
            try clear c5b0y
            try clear c5b1
            try clear c6
            try clear c6b0
            try clear c6b0y
            try clear c6b1
            try clear c10
            try clear p10
            try clear q10
            try clear hx10
            try clear c11
            try clear c11b0
            try clear c11b0y
            try clear c12
            try clear c12b0
            try clear c12b0y
            try clear c13
            try clear c13b0
            try clear c13b0y
            try clear c15
            try clear c15b0
            try clear c15b0y
            try clear c16
            try clear c16b0
            try clear c16b0y
            try clear c17
            try clear c17b0
            try clear c17b0y
            try clear hx105_0
            try clear hx106_0
            try clear p105
            try clear p106
            try clear p2
            try clear q105
            try clear q106
            obtain ⟨kq, x31_13, rfl, HA, HJ13, HO_9, BK101, HB⟩ := hcut
            cases kq with
            | zero => exact absurd HA.out (by simp [spec_skBlocked.j2])
            | succ kj13 =>
             have H := HA.out
             clear HA
             simp only [spec_skBlocked.j2] at H
             by_cases c19 : x31_13 = true
             ·subst c19
              have H1 : (spec_skBlocked.l1 kj13 l1 a3 x9_2 x10_2 l1 (l1.length : Int) (wrap64 (x19_2 + 1)) a0_0 a0_1 l0_2) = some r := by rw [if_pos rfl] at H; exact H
              clear H
              have H := H1
              clear H1
              have H' := Aside0.mk H
              clear H
              go_wp2
              go_roundg kj13
              case measure => have := HK1.out; have := HK2.out; have := HJ13.out; omega
              case rel => exact ⟨(x9_2), (x10_2), (wrap64 (x19_2 + 1)), (by first | rfl | (simp; done) | (simp [*]; done)), (by first | rfl | (simp; done) | (simp [*]; done)), H', ⟨by have := HK1.out; have := HK2.out; have := HJ13.out; omega⟩, ⟨rch HO_9⟩, ⟨blc⟩, ⟨bel HB⟩⟩
             ·replace c19 := Bool.eq_false_iff.mpr c19
              subst c19
              have H1 : ((spec_tiAhead.f a0_0 a0_1 l0_2 x19_2 a3).bind fun t107 => (if t107 < 0 then (if 0 ≤ (rd l1 x19_2) then (if (rd l1 x19_2) < (x9_2.length : Int) then (spec_skBlocked.l1 kj13 l1 a3 (x9_2.set ((rd l1 x19_2) : Int).toNat true) true l1 (l1.length : Int) (wrap64 (x19_2 + 1)) a0_0 a0_1 l0_2) else (none)) else (none)) else (if 0 ≤ t107 then (if t107 < (l1.length : Int) then (if (rd l1 t107) ≥ 0 then (if (rd l1 t107) = (rd l1 x19_2) then (spec_skBlocked.l1 kj13 l1 a3 x9_2 x10_2 l1 (l1.length : Int) (wrap64 (x19_2 + 1)) a0_0 a0_1 l0_2) else (if 0 ≤ (rd l1 t107) then (if (rd l1 t107) < (x9_2.length : Int) then (if rdOf false x9_2 (rd l1 t107) = true then (if 0 ≤ (rd l1 x19_2) then (if (rd l1 x19_2) < (x9_2.length : Int) then (spec_skBlocked.l1 kj13 l1 a3 (x9_2.set ((rd l1 x19_2) : Int).toNat true) true l1 (l1.length : Int) (wrap64 (x19_2 + 1)) a0_0 a0_1 l0_2) else (none)) else (none)) else (spec_skBlocked.l1 kj13 l1 a3 x9_2 x10_2 l1 (l1.length : Int) (wrap64 (x19_2 + 1)) a0_0 a0_1 l0_2)) else (none)) else (none))) else (spec_skBlocked.l1 kj13 l1 a3 x9_2 x10_2 l1 (l1.length : Int) (wrap64 (x19_2 + 1)) a0_0 a0_1 l0_2)) else (none)) else (none)))) = some r := by rw [if_neg (show ¬ (false = true) by decide)] at H; exact H
              clear H
              have H := H1
              clear H1
              replace H := Option.bind_eq_some_iff.mp H
              obtain ⟨t107, A200, H⟩ := H
              replace H : (if t107 < 0 then (if 0 ≤ (rd l1 x19_2) then (if (rd l1 x19_2) < (x9_2.length : Int) then (spec_skBlocked.l1 kj13 l1 a3 (x9_2.set ((rd l1 x19_2) : Int).toNat true) true l1 (l1.length : Int) (wrap64 (x19_2 + 1)) a0_0 a0_1 l0_2) else (none)) else (none)) else (if 0 ≤ t107 then (if t107 < (l1.length : Int) then (if (rd l1 t107) ≥ 0 then (if (rd l1 t107) = (rd l1 x19_2) then (spec_skBlocked.l1 kj13 l1 a3 x9_2 x10_2 l1 (l1.length : Int) (wrap64 (x19_2 + 1)) a0_0 a0_1 l0_2) else (if 0 ≤ (rd l1 t107) then (if (rd l1 t107) < (x9_2.length : Int) then (if rdOf false x9_2 (rd l1 t107) = true then (if 0 ≤ (rd l1 x19_2) then (if (rd l1 x19_2) < (x9_2.length : Int) then (spec_skBlocked.l1 kj13 l1 a3 (x9_2.set ((rd l1 x19_2) : Int).toNat true) true l1 (l1.length : Int) (wrap64 (x19_2 + 1)) a0_0 a0_1 l0_2) else (none)) else (none)) else (spec_skBlocked.l1 kj13 l1 a3 x9_2 x10_2 l1 (l1.length : Int) (wrap64 (x19_2 + 1)) a0_0 a0_1 l0_2)) else (none)) else (none))) else (spec_skBlocked.l1 kj13 l1 a3 x9_2 x10_2 l1 (l1.length : Int) (wrap64 (x19_2 + 1)) a0_0 a0_1 l0_2)) else (none)) else (none))) = some r := H
              have A20 := Aside0.mk A200
              clear A200
              by_cases c21 : t107 < 0
              ·rw [if_pos c21] at H
               have c21b0 : decide (t107 < 0) = true := decide_eq_true c21
               clear c21
               by_cases c22 : 0 ≤ (rd l1 x19_2)
               ·rw [if_pos c22] at H
                have c22b0 : decide (0 ≤ (rd l1 x19_2)) = true := decide_eq_true c22
                clear c22
                by_cases c23 : (rd l1 x19_2) < (x9_2.length : Int)
                ·rw [if_pos c23] at H
                 have c23b0 : decide ((rd l1 x19_2) < (x9_2.length : Int)) = true := decide_eq_true c23
                 clear c23
                 obtain ⟨y108, hy108⟩ : ∃ y_ : List Bool, y_ = (x9_2.set ((rd l1 x19_2) : Int).toNat true) := ⟨_, rfl⟩
                 replace H : (spec_skBlocked.l1 kj13 l1 a3 y108 true l1 (l1.length : Int) (wrap64 (x19_2 + 1)) a0_0 a0_1 l0_2) = some r := rH hy108 H
                 have Ny108 := Aside0.mk hy108
                 clear hy108
                 have H' := Aside0.mk H
                 clear H
                 have hcz25_0 : wc.cell? ⟨gb101, 0, none⟩ = some (.int .i64 a0_0) := (blk_cell BK101.out 0).trans rfl
                 have hcz25_1 : wc.cell? ⟨gb101, 1, none⟩ = some (.int .i64 a0_1) := (blk_cell BK101.out 1).trans rfl
                 have hcz25_2 : wc.cell? ⟨gb101, 2, none⟩ = some (.slice A0_2 l0_2.length c0_2) := (blk_cell BK101.out 2).trans rfl
                 have hfz25_0 := blk_frozen BK101.out 0
                 have hfz25_1 := blk_frozen BK101.out 1
                 have hfz25_2 := blk_frozen BK101.out 2
                 go_wp2_with (first | ((with_reducible refine gate_callee (f := 55) rfl ?_); refine gcall (some 35) Tryd.func55 #[.agg #[.int .i64 a0_0, .int .i64 a0_1, .slice A0_2 l0_2.length c0_2], .int .i64 x19_2, .int .i64 a3] rfl ?_; (with_reducible refine (spec_tiAhead.calls a0_0 a0_1 _ _ l0_2 x19_2 a3 t107 _ ?side1 ?side2 A20.out).mono ?_); (case side1 => repeat (first | exact (Kd.C_below HR0_2.out HB.out) | (with_reducible refine Kd.C_alloc ?_ _) | (with_reducible refine Kd.C_drewN ?_ _) | (with_reducible refine Kd.C_drew ?_))); (case side2 => exact HC0_2.out); rintro e w26 ⟨rfl, hb⟩; refine ⟨_, rfl, ?_⟩; have n0_ := Aside0.mk (Kd.R_below (rch HO_9) hb); have n1_ := Aside0.mk (blk_below (g := gb101) (o := .cells #[.int .i64 a0_0, .int .i64 a0_1, .slice A0_2 l0_2.length c0_2] 36 (0, 0)) blc hb); have n2_ := Aside0.mk (below_step (bel HB) hb); clear HO_9; clear BK101; clear HB; have HO_9 := n0_; have BK101 := n1_; have HB := n2_; clear n0_ n1_ n2_; (try clear hb); (try clear hb2); (try clear hk); (try clear hi); have p24 : 0 ≤ ((rd l1 x19_2) : Int) := of_decide_eq_true (by first | (with_reducible assumption) | assumption); have q24 : ((rd l1 x19_2) : Int) < ((x9_2.length : Int) : Int) := of_decide_eq_true (by first | (with_reducible assumption) | assumption); obtain ⟨go24, co24, eo24, gb24, gl24, cl24, HG24⟩ := Kd.R_form HO_9.out (by omega); (first | cases eo24 | (injection eo24 with ea_ en_ ec_; (first | subst ea_ | (injection ea_ with ea_; subst ea_)); subst ec_; clear en_)); have GB24 := Aside0.mk gb24; have GG24 := Aside0.mk HG24; clear gb24 gl24 HG24; obtain ⟨hx24_0, hf24_0⟩ := Kd.R_celln false HO_9.out ((rd l1 x19_2) : Int) p24 q24; replace p24 := eq_true p24; replace q24 := eq_true q24; obtain ⟨hy27_, hz27_⟩ := Kd.R_celln false HO_9.out ((rd l1 x19_2) : Int) (of_decide_eq_true (by first | (with_reducible assumption) | assumption)) (of_decide_eq_true (by first | (with_reducible assumption) | assumption)); have HP27 := Kd.R_putg HO_9.out ((rd l1 x19_2) : Int) true) | ((with_reducible refine gate_store (t := 4) (p := 64) rfl ?_); refine store_event (t := 4) (p := 64) (v := ?vo_w28) (w1 := (w26.setCell ⟨go24, ((rd l1 x19_2) : Int).toNat, none⟩ (.bool true))) ?hg ?ho ?hn ?hr ?_; (case ho => rfl); (case hg => rfl); (case hn => rfl); (case hr => first | (go_simp; done) | (go_simp; rfl)); intro w28 hw; have hg : w26.grownBy w28 (some go24) := (by rw [hw]; exact HP27.2); have hp_ : Kd.R Kd.bool 4 w28 w.heap.size (fun _ => True) (.slice (some ⟨go24, 0, none⟩) x9_2.length co24) y108 := (by rw [hw, Ny108.out]; (first | exact HP27.1 | exact R_any HP27.1)); clear HP27; have n0_ := Aside0.mk (hp_); have n1_ := Aside0.mk (blk_grown (g := gb101) (o := .cells #[.int .i64 a0_0, .int .i64 a0_1, .slice A0_2 l0_2.length c0_2] 36 (0, 0)) blc hg (Kd.R_ne HO_9.out BK101.out (by decide))); have n2_ := Aside0.mk ((by rw [hw]; exact below_set (HB.out) GB24.out : Below w.heap.size w w28)); clear HO_9; clear BK101; clear HB; have HO_9 := n0_; have BK101 := n1_; have HB := n2_; clear n0_ n1_ n2_; clear hg hw hp_))
                 go_roundg kj13
                 case measure => have := HK1.out; have := HK2.out; have := HJ13.out; omega
                 case rel => exact ⟨(y108), (true), (wrap64 (x19_2 + 1)), (by first | rfl | (simp; done) | (simp [*]; done)), (by first | rfl | (simp; done) | (simp [*]; done)), H', ⟨by have := HK1.out; have := HK2.out; have := HJ13.out; omega⟩, ⟨rch HO_9⟩, ⟨blc⟩, ⟨bel HB⟩⟩
                ·rw [if_neg c23] at H
                 exact absurd H (by simp)
               ·rw [if_neg c22] at H
                exact absurd H (by simp)
              ·rw [if_neg c21] at H
               have c21b0 : decide (t107 < 0) = false := decide_eq_false c21
               clear c21
               by_cases c29 : 0 ≤ t107
               ·rw [if_pos c29] at H
                have c29b0 : decide (0 ≤ t107) = true := decide_eq_true c29
                clear c29
                by_cases c30 : t107 < (l1.length : Int)
                ·rw [if_pos c30] at H
                 have c30b0 : decide (t107 < (l1.length : Int)) = true := decide_eq_true c30
                 clear c30
                 by_cases c31 : (rd l1 t107) ≥ 0
                 ·rw [if_pos c31] at H
                  have c31b0 : decide (0 ≤ (rd l1 t107)) = true := decide_eq_true c31
                  clear c31
                  by_cases c32 : (rd l1 t107) = (rd l1 x19_2)
                  ·rw [if_pos c32] at H
                   have c32b0 : ((rd l1 t107) == (rd l1 x19_2)) = true := beq_iff_eq.mpr c32
                   have c32b1 : ((rd l1 t107) != (rd l1 x19_2)) = false := bne_eq_false_iff_eq.mpr c32
                   clear c32
                   have H' := Aside0.mk H
                   clear H
                   have hcz33_0 : wc.cell? ⟨gb101, 0, none⟩ = some (.int .i64 a0_0) := (blk_cell BK101.out 0).trans rfl
                   have hcz33_1 : wc.cell? ⟨gb101, 1, none⟩ = some (.int .i64 a0_1) := (blk_cell BK101.out 1).trans rfl
                   have hcz33_2 : wc.cell? ⟨gb101, 2, none⟩ = some (.slice A0_2 l0_2.length c0_2) := (blk_cell BK101.out 2).trans rfl
                   have hfz33_0 := blk_frozen BK101.out 0
                   have hfz33_1 := blk_frozen BK101.out 1
                   have hfz33_2 := blk_frozen BK101.out 2
                   go_wp2_with (first | ((with_reducible refine gate_callee (f := 55) rfl ?_); refine gcall (some 35) Tryd.func55 #[.agg #[.int .i64 a0_0, .int .i64 a0_1, .slice A0_2 l0_2.length c0_2], .int .i64 x19_2, .int .i64 a3] rfl ?_; (with_reducible refine (spec_tiAhead.calls a0_0 a0_1 _ _ l0_2 x19_2 a3 t107 _ ?side1 ?side2 A20.out).mono ?_); (case side1 => repeat (first | exact (Kd.C_below HR0_2.out HB.out) | (with_reducible refine Kd.C_alloc ?_ _) | (with_reducible refine Kd.C_drewN ?_ _) | (with_reducible refine Kd.C_drew ?_))); (case side2 => exact HC0_2.out); rintro e w34 ⟨rfl, hb⟩; refine ⟨_, rfl, ?_⟩; have n0_ := Aside0.mk (Kd.R_below (rch HO_9) hb); have n1_ := Aside0.mk (blk_below (g := gb101) (o := .cells #[.int .i64 a0_0, .int .i64 a0_1, .slice A0_2 l0_2.length c0_2] 36 (0, 0)) blc hb); have n2_ := Aside0.mk (below_step (bel HB) hb); clear HO_9; clear BK101; clear HB; have HO_9 := n0_; have BK101 := n1_; have HB := n2_; clear n0_ n1_ n2_; (try clear hb); (try clear hb2); (try clear hk); (try clear hi); have p109 : 0 ≤ (t107 : Int) := of_decide_eq_true (by first | (with_reducible assumption) | assumption); have q109 : t107 < (l1.length : Int) := of_decide_eq_true (by first | (with_reducible assumption) | assumption); obtain ⟨ad109, e109, hx109_0⟩ := Kd.at_int HR1.out t107 p109 q109; obtain rfl : ad105 = ad109 := (by injection e109); replace hx109_0 := (HB.out.cell (World.block_lt_of_cell? w _ hx109_0)).trans hx109_0; replace p109 := eq_true p109; replace q109 := eq_true q109; have p110 : 0 ≤ (t107 : Int) := of_decide_eq_true (by first | (with_reducible assumption) | assumption); have q110 : t107 < (l1.length : Int) := of_decide_eq_true (by first | (with_reducible assumption) | assumption); obtain ⟨ad110, e110, hx110_0⟩ := Kd.at_int HR1.out t107 p110 q110; obtain rfl : ad105 = ad110 := (by injection e110); replace hx110_0 := (HB.out.cell (World.block_lt_of_cell? w _ hx110_0)).trans hx110_0; replace p110 := eq_true p110; replace q110 := eq_true q110))
                   go_roundg kj13
                   case measure => have := HK1.out; have := HK2.out; have := HJ13.out; omega
                   case rel => exact ⟨(x9_2), (x10_2), (wrap64 (x19_2 + 1)), (by first | rfl | (simp; done) | (simp [*]; done)), (by first | rfl | (simp; done) | (simp [*]; done)), H', ⟨by have := HK1.out; have := HK2.out; have := HJ13.out; omega⟩, ⟨rch HO_9⟩, ⟨blc⟩, ⟨bel HB⟩⟩
                  ·rw [if_neg c32] at H
                   have c32b0 : ((rd l1 t107) == (rd l1 x19_2)) = false := beq_eq_false_iff_ne.mpr c32
                   have c32b1 : ((rd l1 t107) != (rd l1 x19_2)) = true := bne_iff_ne.mpr c32
                   by_cases c35 : 0 ≤ (rd l1 t107)
                   ·rw [if_pos c35] at H
                    have c35b0 : decide (0 ≤ (rd l1 t107)) = true := decide_eq_true c35
                    clear c35
                    by_cases c36 : (rd l1 t107) < (x9_2.length : Int)
                    ·rw [if_pos c36] at H
                     have c36b0 : decide ((rd l1 t107) < (x9_2.length : Int)) = true := decide_eq_true c36
                     clear c36
                     obtain ⟨bq37, hbq37⟩ : ∃ b_ : Bool, b_ = (rdOf false x9_2 (rd l1 t107)) := ⟨_, rfl⟩
                     replace H : (if bq37 = true then (if 0 ≤ (rd l1 x19_2) then (if (rd l1 x19_2) < (x9_2.length : Int) then (spec_skBlocked.l1 kj13 l1 a3 (x9_2.set ((rd l1 x19_2) : Int).toNat true) true l1 (l1.length : Int) (wrap64 (x19_2 + 1)) a0_0 a0_1 l0_2) else (none)) else (none)) else (spec_skBlocked.l1 kj13 l1 a3 x9_2 x10_2 l1 (l1.length : Int) (wrap64 (x19_2 + 1)) a0_0 a0_1 l0_2)) = some r := by rw [← hbq37] at H; exact H
                     have Nbq37 := Aside0.mk hbq37
                     clear hbq37
                     by_cases c38 : bq37 = true
                     ·subst c38
                      have H1 : (if 0 ≤ (rd l1 x19_2) then (if (rd l1 x19_2) < (x9_2.length : Int) then (spec_skBlocked.l1 kj13 l1 a3 (x9_2.set ((rd l1 x19_2) : Int).toNat true) true l1 (l1.length : Int) (wrap64 (x19_2 + 1)) a0_0 a0_1 l0_2) else (none)) else (none)) = some r := by rw [if_pos rfl] at H; exact H
                      clear H
                      have H := H1
                      clear H1
                      by_cases c39 : 0 ≤ (rd l1 x19_2)
                      ·rw [if_pos c39] at H
                       have c39b0 : decide (0 ≤ (rd l1 x19_2)) = true := decide_eq_true c39
                       clear c39
                       by_cases c40 : (rd l1 x19_2) < (x9_2.length : Int)
                       ·rw [if_pos c40] at H
                        have c40b0 : decide ((rd l1 x19_2) < (x9_2.length : Int)) = true := decide_eq_true c40
                        clear c40
                        obtain ⟨y113, hy113⟩ : ∃ y_ : List Bool, y_ = (x9_2.set ((rd l1 x19_2) : Int).toNat true) := ⟨_, rfl⟩
                        replace H : (spec_skBlocked.l1 kj13 l1 a3 y113 true l1 (l1.length : Int) (wrap64 (x19_2 + 1)) a0_0 a0_1 l0_2) = some r := rH hy113 H
                        have Ny113 := Aside0.mk hy113
                        clear hy113
                        have H' := Aside0.mk H
                        clear H
                        have hcz42_0 : wc.cell? ⟨gb101, 0, none⟩ = some (.int .i64 a0_0) := (blk_cell BK101.out 0).trans rfl
                        have hcz42_1 : wc.cell? ⟨gb101, 1, none⟩ = some (.int .i64 a0_1) := (blk_cell BK101.out 1).trans rfl
                        have hcz42_2 : wc.cell? ⟨gb101, 2, none⟩ = some (.slice A0_2 l0_2.length c0_2) := (blk_cell BK101.out 2).trans rfl
                        have hfz42_0 := blk_frozen BK101.out 0
                        have hfz42_1 := blk_frozen BK101.out 1
                        have hfz42_2 := blk_frozen BK101.out 2
                        go_wp2_with (first | ((with_reducible refine gate_callee (f := 55) rfl ?_); refine gcall (some 35) Tryd.func55 #[.agg #[.int .i64 a0_0, .int .i64 a0_1, .slice A0_2 l0_2.length c0_2], .int .i64 x19_2, .int .i64 a3] rfl ?_; (with_reducible refine (spec_tiAhead.calls a0_0 a0_1 _ _ l0_2 x19_2 a3 t107 _ ?side1 ?side2 A20.out).mono ?_); (case side1 => repeat (first | exact (Kd.C_below HR0_2.out HB.out) | (with_reducible refine Kd.C_alloc ?_ _) | (with_reducible refine Kd.C_drewN ?_ _) | (with_reducible refine Kd.C_drew ?_))); (case side2 => exact HC0_2.out); rintro e w43 ⟨rfl, hb⟩; refine ⟨_, rfl, ?_⟩; have n0_ := Aside0.mk (Kd.R_below (rch HO_9) hb); have n1_ := Aside0.mk (blk_below (g := gb101) (o := .cells #[.int .i64 a0_0, .int .i64 a0_1, .slice A0_2 l0_2.length c0_2] 36 (0, 0)) blc hb); have n2_ := Aside0.mk (below_step (bel HB) hb); clear HO_9; clear BK101; clear HB; have HO_9 := n0_; have BK101 := n1_; have HB := n2_; clear n0_ n1_ n2_; (try clear hb); (try clear hb2); (try clear hk); (try clear hi); have p109 : 0 ≤ (t107 : Int) := of_decide_eq_true (by first | (with_reducible assumption) | assumption); have q109 : t107 < (l1.length : Int) := of_decide_eq_true (by first | (with_reducible assumption) | assumption); obtain ⟨ad109, e109, hx109_0⟩ := Kd.at_int HR1.out t107 p109 q109; obtain rfl : ad105 = ad109 := (by injection e109); replace hx109_0 := (HB.out.cell (World.block_lt_of_cell? w _ hx109_0)).trans hx109_0; replace p109 := eq_true p109; replace q109 := eq_true q109; have p110 : 0 ≤ (t107 : Int) := of_decide_eq_true (by first | (with_reducible assumption) | assumption); have q110 : t107 < (l1.length : Int) := of_decide_eq_true (by first | (with_reducible assumption) | assumption); obtain ⟨ad110, e110, hx110_0⟩ := Kd.at_int HR1.out t107 p110 q110; obtain rfl : ad105 = ad110 := (by injection e110); replace hx110_0 := (HB.out.cell (World.block_lt_of_cell? w _ hx110_0)).trans hx110_0; replace p110 := eq_true p110; replace q110 := eq_true q110; have p111 : 0 ≤ (t107 : Int) := of_decide_eq_true (by first | (with_reducible assumption) | assumption); have q111 : t107 < (l1.length : Int) := of_decide_eq_true (by first | (with_reducible assumption) | assumption); obtain ⟨ad111, e111, hx111_0⟩ := Kd.at_int HR1.out t107 p111 q111; obtain rfl : ad105 = ad111 := (by injection e111); replace hx111_0 := (HB.out.cell (World.block_lt_of_cell? w _ hx111_0)).trans hx111_0; replace p111 := eq_true p111; replace q111 := eq_true q111; obtain ⟨Ao44, co44, eo44⟩ := Kd.R_slice HO_9.out; subst eo44; have p112 : 0 ≤ ((rd l1 t107) : Int) := of_decide_eq_true (by first | (with_reducible assumption) | assumption); have q112 : (rd l1 t107) < (x9_2.length : Int) := of_decide_eq_true (by first | (with_reducible assumption) | assumption); obtain ⟨ad112, e112, hx112_0⟩ := Kd.at_bool (Kd.R_reads' HO_9.out).2.2 (rd l1 t107) p112 q112; (try rw [← Nbq37.out] at hx112_0); cases e112; replace p112 := eq_true p112; replace q112 := eq_true q112; have p41 : 0 ≤ ((rd l1 x19_2) : Int) := of_decide_eq_true (by first | (with_reducible assumption) | assumption); have q41 : ((rd l1 x19_2) : Int) < ((x9_2.length : Int) : Int) := of_decide_eq_true (by first | (with_reducible assumption) | assumption); obtain ⟨go41, co41, eo41, gb41, gl41, cl41, HG41⟩ := Kd.R_form HO_9.out (by omega); (first | cases eo41 | (injection eo41 with ea_ en_ ec_; (first | subst ea_ | (injection ea_ with ea_; subst ea_)); subst ec_; clear en_)); have GB41 := Aside0.mk gb41; have GG41 := Aside0.mk HG41; clear gb41 gl41 HG41; (first | simp only [add_plain] at hx112_0 | skip); obtain ⟨hx41_0, hf41_0⟩ := Kd.R_celln false HO_9.out ((rd l1 x19_2) : Int) p41 q41; replace p41 := eq_true p41; replace q41 := eq_true q41; obtain ⟨hy45_, hz45_⟩ := Kd.R_celln false HO_9.out ((rd l1 x19_2) : Int) (of_decide_eq_true (by first | (with_reducible assumption) | assumption)) (of_decide_eq_true (by first | (with_reducible assumption) | assumption)); have HP45 := Kd.R_putg HO_9.out ((rd l1 x19_2) : Int) true) | ((with_reducible refine gate_store (t := 4) (p := 64) rfl ?_); refine store_event (t := 4) (p := 64) (v := ?vo_w46) (w1 := (w43.setCell ⟨go41, ((rd l1 x19_2) : Int).toNat, none⟩ (.bool true))) ?hg ?ho ?hn ?hr ?_; (case ho => rfl); (case hg => rfl); (case hn => rfl); (case hr => first | (go_simp; done) | (go_simp; rfl)); intro w46 hw; have hg : w43.grownBy w46 (some go41) := (by rw [hw]; exact HP45.2); have hp_ : Kd.R Kd.bool 4 w46 w.heap.size (fun _ => True) (.slice (some ⟨go41, 0, none⟩) x9_2.length co44) y113 := (by rw [hw, Ny113.out]; (first | exact HP45.1 | exact R_any HP45.1)); clear HP45; have n0_ := Aside0.mk (hp_); have n1_ := Aside0.mk (blk_grown (g := gb101) (o := .cells #[.int .i64 a0_0, .int .i64 a0_1, .slice A0_2 l0_2.length c0_2] 36 (0, 0)) blc hg (Kd.R_ne HO_9.out BK101.out (by decide))); have n2_ := Aside0.mk ((by rw [hw]; exact below_set (HB.out) GB41.out : Below w.heap.size w w46)); clear HO_9; clear BK101; clear HB; have HO_9 := n0_; have BK101 := n1_; have HB := n2_; clear n0_ n1_ n2_; clear hg hw hp_))
                        go_roundg kj13
                        case measure => have := HK1.out; have := HK2.out; have := HJ13.out; omega
                        case rel => exact ⟨(y113), (true), (wrap64 (x19_2 + 1)), (by first | rfl | (simp; done) | (simp [*]; done)), (by first | rfl | (simp; done) | (simp [*]; done)), H', ⟨by have := HK1.out; have := HK2.out; have := HJ13.out; omega⟩, ⟨rch HO_9⟩, ⟨blc⟩, ⟨bel HB⟩⟩
                       ·rw [if_neg c40] at H
                        exact absurd H (by simp)
                      ·rw [if_neg c39] at H
                       exact absurd H (by simp)
                     ·replace c38 := Bool.eq_false_iff.mpr c38
                      subst c38
                      have H1 : (spec_skBlocked.l1 kj13 l1 a3 x9_2 x10_2 l1 (l1.length : Int) (wrap64 (x19_2 + 1)) a0_0 a0_1 l0_2) = some r := by rw [if_neg (show ¬ (false = true) by decide)] at H; exact H
                      clear H
                      have H := H1
                      clear H1
                      have H' := Aside0.mk H
                      clear H
                      have hcz47_0 : wc.cell? ⟨gb101, 0, none⟩ = some (.int .i64 a0_0) := (blk_cell BK101.out 0).trans rfl
                      have hcz47_1 : wc.cell? ⟨gb101, 1, none⟩ = some (.int .i64 a0_1) := (blk_cell BK101.out 1).trans rfl
                      have hcz47_2 : wc.cell? ⟨gb101, 2, none⟩ = some (.slice A0_2 l0_2.length c0_2) := (blk_cell BK101.out 2).trans rfl
                      have hfz47_0 := blk_frozen BK101.out 0
                      have hfz47_1 := blk_frozen BK101.out 1
                      have hfz47_2 := blk_frozen BK101.out 2
                      go_wp2_with (first | ((with_reducible refine gate_callee (f := 55) rfl ?_); refine gcall (some 35) Tryd.func55 #[.agg #[.int .i64 a0_0, .int .i64 a0_1, .slice A0_2 l0_2.length c0_2], .int .i64 x19_2, .int .i64 a3] rfl ?_; (with_reducible refine (spec_tiAhead.calls a0_0 a0_1 _ _ l0_2 x19_2 a3 t107 _ ?side1 ?side2 A20.out).mono ?_); (case side1 => repeat (first | exact (Kd.C_below HR0_2.out HB.out) | (with_reducible refine Kd.C_alloc ?_ _) | (with_reducible refine Kd.C_drewN ?_ _) | (with_reducible refine Kd.C_drew ?_))); (case side2 => exact HC0_2.out); rintro e w48 ⟨rfl, hb⟩; refine ⟨_, rfl, ?_⟩; have n0_ := Aside0.mk (Kd.R_below (rch HO_9) hb); have n1_ := Aside0.mk (blk_below (g := gb101) (o := .cells #[.int .i64 a0_0, .int .i64 a0_1, .slice A0_2 l0_2.length c0_2] 36 (0, 0)) blc hb); have n2_ := Aside0.mk (below_step (bel HB) hb); clear HO_9; clear BK101; clear HB; have HO_9 := n0_; have BK101 := n1_; have HB := n2_; clear n0_ n1_ n2_; (try clear hb); (try clear hb2); (try clear hk); (try clear hi); have p109 : 0 ≤ (t107 : Int) := of_decide_eq_true (by first | (with_reducible assumption) | assumption); have q109 : t107 < (l1.length : Int) := of_decide_eq_true (by first | (with_reducible assumption) | assumption); obtain ⟨ad109, e109, hx109_0⟩ := Kd.at_int HR1.out t107 p109 q109; obtain rfl : ad105 = ad109 := (by injection e109); replace hx109_0 := (HB.out.cell (World.block_lt_of_cell? w _ hx109_0)).trans hx109_0; replace p109 := eq_true p109; replace q109 := eq_true q109; have p110 : 0 ≤ (t107 : Int) := of_decide_eq_true (by first | (with_reducible assumption) | assumption); have q110 : t107 < (l1.length : Int) := of_decide_eq_true (by first | (with_reducible assumption) | assumption); obtain ⟨ad110, e110, hx110_0⟩ := Kd.at_int HR1.out t107 p110 q110; obtain rfl : ad105 = ad110 := (by injection e110); replace hx110_0 := (HB.out.cell (World.block_lt_of_cell? w _ hx110_0)).trans hx110_0; replace p110 := eq_true p110; replace q110 := eq_true q110; have p111 : 0 ≤ (t107 : Int) := of_decide_eq_true (by first | (with_reducible assumption) | assumption); have q111 : t107 < (l1.length : Int) := of_decide_eq_true (by first | (with_reducible assumption) | assumption); obtain ⟨ad111, e111, hx111_0⟩ := Kd.at_int HR1.out t107 p111 q111; obtain rfl : ad105 = ad111 := (by injection e111); replace hx111_0 := (HB.out.cell (World.block_lt_of_cell? w _ hx111_0)).trans hx111_0; replace p111 := eq_true p111; replace q111 := eq_true q111; obtain ⟨Ao49, co49, eo49⟩ := Kd.R_slice HO_9.out; subst eo49; have p112 : 0 ≤ ((rd l1 t107) : Int) := of_decide_eq_true (by first | (with_reducible assumption) | assumption); have q112 : (rd l1 t107) < (x9_2.length : Int) := of_decide_eq_true (by first | (with_reducible assumption) | assumption); obtain ⟨ad112, e112, hx112_0⟩ := Kd.at_bool (Kd.R_reads' HO_9.out).2.2 (rd l1 t107) p112 q112; (try rw [← Nbq37.out] at hx112_0); cases e112; replace p112 := eq_true p112; replace q112 := eq_true q112))
                      go_roundg kj13
                      case measure => have := HK1.out; have := HK2.out; have := HJ13.out; omega
                      case rel => exact ⟨(x9_2), (x10_2), (wrap64 (x19_2 + 1)), (by first | rfl | (simp; done) | (simp [*]; done)), (by first | rfl | (simp; done) | (simp [*]; done)), H', ⟨by have := HK1.out; have := HK2.out; have := HJ13.out; omega⟩, ⟨rch HO_9⟩, ⟨blc⟩, ⟨bel HB⟩⟩
                    ·rw [if_neg c36] at H
                     exact absurd H (by simp)
                   ·rw [if_neg c35] at H
                    exact absurd H (by simp)
                 ·rw [if_neg c31] at H
                  have c31b0 : decide (0 ≤ (rd l1 t107)) = false := decide_eq_false c31
                  clear c31
                  have H' := Aside0.mk H
                  clear H
                  have hcz50_0 : wc.cell? ⟨gb101, 0, none⟩ = some (.int .i64 a0_0) := (blk_cell BK101.out 0).trans rfl
                  have hcz50_1 : wc.cell? ⟨gb101, 1, none⟩ = some (.int .i64 a0_1) := (blk_cell BK101.out 1).trans rfl
                  have hcz50_2 : wc.cell? ⟨gb101, 2, none⟩ = some (.slice A0_2 l0_2.length c0_2) := (blk_cell BK101.out 2).trans rfl
                  have hfz50_0 := blk_frozen BK101.out 0
                  have hfz50_1 := blk_frozen BK101.out 1
                  have hfz50_2 := blk_frozen BK101.out 2
                  go_wp2_with (first | ((with_reducible refine gate_callee (f := 55) rfl ?_); refine gcall (some 35) Tryd.func55 #[.agg #[.int .i64 a0_0, .int .i64 a0_1, .slice A0_2 l0_2.length c0_2], .int .i64 x19_2, .int .i64 a3] rfl ?_; (with_reducible refine (spec_tiAhead.calls a0_0 a0_1 _ _ l0_2 x19_2 a3 t107 _ ?side1 ?side2 A20.out).mono ?_); (case side1 => repeat (first | exact (Kd.C_below HR0_2.out HB.out) | (with_reducible refine Kd.C_alloc ?_ _) | (with_reducible refine Kd.C_drewN ?_ _) | (with_reducible refine Kd.C_drew ?_))); (case side2 => exact HC0_2.out); rintro e w51 ⟨rfl, hb⟩; refine ⟨_, rfl, ?_⟩; have n0_ := Aside0.mk (Kd.R_below (rch HO_9) hb); have n1_ := Aside0.mk (blk_below (g := gb101) (o := .cells #[.int .i64 a0_0, .int .i64 a0_1, .slice A0_2 l0_2.length c0_2] 36 (0, 0)) blc hb); have n2_ := Aside0.mk (below_step (bel HB) hb); clear HO_9; clear BK101; clear HB; have HO_9 := n0_; have BK101 := n1_; have HB := n2_; clear n0_ n1_ n2_; (try clear hb); (try clear hb2); (try clear hk); (try clear hi); have p109 : 0 ≤ (t107 : Int) := of_decide_eq_true (by first | (with_reducible assumption) | assumption); have q109 : t107 < (l1.length : Int) := of_decide_eq_true (by first | (with_reducible assumption) | assumption); obtain ⟨ad109, e109, hx109_0⟩ := Kd.at_int HR1.out t107 p109 q109; obtain rfl : ad105 = ad109 := (by injection e109); replace hx109_0 := (HB.out.cell (World.block_lt_of_cell? w _ hx109_0)).trans hx109_0; replace p109 := eq_true p109; replace q109 := eq_true q109))
                  go_roundg kj13
                  case measure => have := HK1.out; have := HK2.out; have := HJ13.out; omega
                  case rel => exact ⟨(x9_2), (x10_2), (wrap64 (x19_2 + 1)), (by first | rfl | (simp; done) | (simp [*]; done)), (by first | rfl | (simp; done) | (simp [*]; done)), H', ⟨by have := HK1.out; have := HK2.out; have := HJ13.out; omega⟩, ⟨rch HO_9⟩, ⟨blc⟩, ⟨bel HB⟩⟩
                ·rw [if_neg c30] at H
                 exact absurd H (by simp)
               ·rw [if_neg c29] at H
                exact absurd H (by simp)
          ·rw [if_neg c13] at H
           exact absurd H (by simp)
         ·rw [if_neg c12] at H
          exact absurd H (by simp)
        ·rw [if_neg c11] at H
         have c11b0 : decide (x19_2 < (l1.length : Int)) = false := decide_eq_false c11
         clear c11
         have H' := Aside0.mk H
         clear H
         go_wp2
         go_roundg k2
         case measure => have := HK1.out; have := HK2.out; omega
         case rel => exact ⟨(x9_2), (x10_2), (by first | rfl | (simp; done) | (simp [*]; done)), H', ⟨by have := HK1.out; have := HK2.out; omega⟩, ⟨rch HO_9⟩, ⟨blc⟩, ⟨bel HB⟩⟩
     ·replace c10 := Bool.eq_false_iff.mpr c10
      subst c10
      have H1 : (some x9_1) = some r := by rw [if_neg (show ¬ (false = true) by decide)] at H; exact H
      clear H
      have H := H1
      clear H1
      obtain rfl := Option.some.inj H
      go_wp2
      go_ret
      exact ⟨_, by first | rfl | (simp [errW_none, errW_some] <;> rfl) | (simp [*, errW_none, errW_some] <;> rfl), rch HO_9, bel HB⟩
  ·rw [if_neg c6] at H
   exact absurd H (by simp)
 ·rw [if_neg c5] at H
  exact absurd H (by simp)
end Go.Proofs.YtgipkpiddjjhcaaDoor.Q
end
section
namespace Go.Proofs.YtgipkpiddjjhcaaDoor.Q
open Go.RowKit Go.Proofs.YtgipkpiddjjhcaaDoorW.PrintWords Go.Proofs.YtgipkpiddjjhcaaDoorW.PrintLast Go.Proofs.YtgipkpiddjjhcaaDoorW.PrintMore
theorem wrap64_small (n : Nat) (h : n < 1000000) : wrap64 ((n : Int) + 1) = ((n + 1 : Nat) : Int) := by unfold wrap64; omega
end Go.Proofs.YtgipkpiddjjhcaaDoor.Q
end
section
namespace Go.Proofs.YtgipkpiddjjhcaaDoor.Q
open Go.RowKit Go.Proofs.YtgipkpiddjjhcaaDoorW.PrintWords Go.Proofs.YtgipkpiddjjhcaaDoorW.PrintLast Go.Proofs.YtgipkpiddjjhcaaDoorW.PrintMore
attribute [local go_sem] max2_int min2_int max_two min_two max_three min_three max_four min_four
set_option linter.unusedVariables false
set_option linter.unusedSimpArgs false
def slices_Index_int_int.l0 : Nat → List Int → Int → Int → Int → Option (Int)
 | 0, _, _, _, _ => none
 | k + 1, x0, x1, x7, x8 => if x8 < x7 then (if 0 ≤ x8 then (if x8 < (x0.length : Int) then (if x1 = (rd x0 x8) then (some x8) else (slices_Index_int_int.l0 k x0 x1 x7 (wrap64 (x8 + 1)))) else (none)) else (none)) else (some (-1))
def slices_Index_int_int.f (k : Nat) (l0 : List Int) (a1 : Int) : Option (Int) := slices_Index_int_int.l0 k l0 a1 (l0.length : Int) 0
set_option maxHeartbeats 8000000 in
set_option maxRecDepth 100000 in
theorem slices_Index_int_int.calls (k : Nat) (A0 : Option Addr) (c0 : Nat) (l0 : List Int) (a1 : Int) (r : Int) (w : World) (hr0 : Kd.C (Kd.int .i64) w A0 l0.length l0) (hc0 : l0.length ≤ c0) (h : slices_Index_int_int.f k l0 a1 = some r) :
  Calls Tryd.prog 101 #[.slice A0 l0.length c0, .int .i64 a1] w fun e w' => e = .returned (.int .i64 r) ∧ Drawn0 w w' := by
 have HR0 := Aside0.mk hr0
 have HC0 := Aside0.mk hc0
 clear hr0 hc0
 have H : (slices_Index_int_int.l0 k l0 a1 (l0.length : Int) 0) = some r := h
 clear h
 have H' := Aside0.mk H
 clear H
 go_enter Tryd.func101, Tryd.ntmps101
 go_wp2
 go_loopg [8] k (fun kq v8 w' => ∃ (x8_1 : Int), v8 = .int .i64 x8_1 ∧ Aside0 (slices_Index_int_int.l0 kq l0 a1 (l0.length : Int) x8_1 = some r) ∧ Aside0 (kq ≤ k) ∧ Drawn0 w w')
 case atStart => exact ⟨(0), (by first | rfl | (simp; done) | (simp [*]; done)), H', ⟨Nat.le_refl _⟩, by repeat (first | exact Drawn0.refl _ | apply Drawn0.step)⟩
 case round =>
  clear H'
  try clear c1
  try clear p2
  obtain ⟨x8_1, rfl, HA, HK1, ⟨m1, rfl⟩⟩ := hrel
  cases gk with
  | zero => exact absurd HA.out (by simp [slices_Index_int_int.l0])
  | succ k1 =>
   have H := HA.out
   clear HA
   simp only [slices_Index_int_int.l0] at H
   by_cases c3 : x8_1 < (l0.length : Int)
   ·rw [if_pos c3] at H
    have c3b0 : decide (x8_1 < (l0.length : Int)) = true := decide_eq_true c3
    clear c3
    by_cases c4 : 0 ≤ x8_1
    ·rw [if_pos c4] at H
     have c4b0 : decide (0 ≤ x8_1) = true := decide_eq_true c4
     clear c4
     by_cases c5 : x8_1 < (l0.length : Int)
     ·rw [if_pos c5] at H
      have c5b0 : decide (x8_1 < (l0.length : Int)) = true := decide_eq_true c5
      clear c5
      by_cases c6 : a1 = (rd l0 x8_1)
      ·rw [if_pos c6] at H
       have c6b0 : (a1 == (rd l0 x8_1)) = true := beq_iff_eq.mpr c6
       have c6b1 : (a1 != (rd l0 x8_1)) = false := bne_eq_false_iff_eq.mpr c6
       clear c6
       obtain rfl := Option.some.inj H
       have p101 : 0 ≤ (x8_1 : Int) := of_decide_eq_true (by first | (with_reducible assumption) | assumption)
       have q101 : x8_1 < (l0.length : Int) := of_decide_eq_true (by first | (with_reducible assumption) | assumption)
       obtain ⟨ad101, e101, hx101_0⟩ := Kd.at_int HR0.out x8_1 p101 q101
       cases e101
       replace p101 := eq_true p101
       replace q101 := eq_true q101
       go_wp2
       go_ret
       exact ⟨by first | rfl | (simp; done) | (simp [*]; done), by repeat (first | exact Drawn0.refl _ | apply Drawn0.step)⟩
      ·rw [if_neg c6] at H
       have c6b0 : (a1 == (rd l0 x8_1)) = false := beq_eq_false_iff_ne.mpr c6
       have c6b1 : (a1 != (rd l0 x8_1)) = true := bne_iff_ne.mpr c6
       have H' := Aside0.mk H
       clear H
       have p101 : 0 ≤ (x8_1 : Int) := of_decide_eq_true (by first | (with_reducible assumption) | assumption)
       have q101 : x8_1 < (l0.length : Int) := of_decide_eq_true (by first | (with_reducible assumption) | assumption)
       obtain ⟨ad101, e101, hx101_0⟩ := Kd.at_int HR0.out x8_1 p101 q101
       cases e101
       replace p101 := eq_true p101
       replace q101 := eq_true q101
       go_wp2
       go_roundg k1
       case measure => have := HK1.out; omega
       case rel => exact ⟨(wrap64 (x8_1 + 1)), (by first | rfl | (simp; done) | (simp [*]; done)), H', ⟨by have := HK1.out; omega⟩, by repeat (first | exact Drawn0.refl _ | apply Drawn0.step)⟩
     ·rw [if_neg c5] at H
      exact absurd H (by simp)
    ·rw [if_neg c4] at H
     exact absurd H (by simp)
   ·rw [if_neg c3] at H
    have c3b0 : decide (x8_1 < (l0.length : Int)) = false := decide_eq_false c3
    clear c3
    obtain rfl := Option.some.inj H
    go_wp2
    go_ret
    exact ⟨by first | rfl | (simp; done) | (simp [*]; done), by repeat (first | exact Drawn0.refl _ | apply Drawn0.step)⟩
def slices_Contains_int_int.f (k : Nat) (l0 : List Int) (a1 : Int) : Option (Bool) := (slices_Index_int_int.f k l0 a1).bind fun t101 => (some (decide (t101 ≥ 0)))
set_option maxHeartbeats 8000000 in
set_option maxRecDepth 100000 in
theorem slices_Contains_int_int.calls (k : Nat) (A0 : Option Addr) (c0 : Nat) (l0 : List Int) (a1 : Int) (r : Bool) (w : World) (hr0 : Kd.C (Kd.int .i64) w A0 l0.length l0) (hc0 : l0.length ≤ c0) (h : slices_Contains_int_int.f k l0 a1 = some r) :
  Calls Tryd.prog 80 #[.slice A0 l0.length c0, .int .i64 a1] w fun e w' => e = .returned (.bool r) ∧ Drawn0 w w' := by
 have HR0 := Aside0.mk hr0
 have HC0 := Aside0.mk hc0
 clear hr0 hc0
 have H : ((slices_Index_int_int.f k l0 a1).bind fun t101 => (some (decide (t101 ≥ 0)))) = some r := h
 clear h
 replace H := Option.bind_eq_some_iff.mp H
 obtain ⟨t101, A30, H⟩ := H
 replace H : (some (decide (t101 ≥ 0))) = some r := H
 have A3 := Aside0.mk A30
 clear A30
 obtain rfl := Option.some.inj H
 go_enter Tryd.func80, Tryd.ntmps80
 go_wp2_with (first | ((with_reducible refine gate_callee (f := 101) rfl ?_); refine gcall (some 7) Tryd.func101 #[.slice A0 l0.length c0, .int .i64 a1] rfl ?_; (with_reducible refine (slices_Index_int_int.calls k _ _ l0 a1 t101 _ ?side1 ?side2 A3.out).mono ?_); (case side1 => repeat (first | exact HR0.out | (with_reducible refine Kd.C_alloc ?_ _) | (with_reducible refine Kd.C_drewN ?_ _) | (with_reducible refine Kd.C_drew ?_))); (case side2 => exact HC0.out); rintro e w' ⟨rfl, ⟨nd, rfl⟩⟩; refine ⟨_, rfl, ?_⟩))
 go_ret
 exact ⟨by first | rfl | (simp; done) | (simp [*]; done), by repeat (first | exact Drawn0.refl _ | apply Drawn0.step)⟩
end Go.Proofs.YtgipkpiddjjhcaaDoor.Q
end
section
namespace Go.Proofs.YtgipkpiddjjhcaaDoor.Q
set_option linter.unusedSectionVars false
open Go.RowKit Go.Proofs.YtgipkpiddjjhcaaDoorW.PrintWords Go.Proofs.YtgipkpiddjjhcaaDoorW.PrintLast Go.Proofs.YtgipkpiddjjhcaaDoorW.PrintMore
theorem index_ev (l : List Int) (x : Int) (hl : l.length ≤ 1000000) : ∀ (m i : Nat), i + m = l.length → ∃ r : Int, Ev (fun k => slices_Index_int_int.l0 k l x l.length i) r ∧ (0 ≤ r ↔ x ∈ l.drop i)
 | 0, i, hi => by
  refine ⟨-1, Ev.step (Ev.const (o := some (-1)) rfl) fun k => ?_, ?_⟩
  ·rw [slices_Index_int_int.l0, if_neg (by omega)]
  ·rw [List.drop_eq_nil_of_le (by omega)]
   simp
 | m + 1, i, hi => by
  obtain ⟨r, h1, h2⟩ := index_ev l x hl m (i + 1) (by omega)
  have hlt : i < l.length := by omega
  have hwi : wrap64 ((i : Int) + 1) = ((i + 1 : Nat) : Int) := by rw [w64 (by omega) (by omega)]; omega
  have hrd : rd l (i : Int) = l[i] := rd_nat l i hlt
  rw [List.drop_eq_getElem_cons hlt]
  by_cases he : x = l[i]
  ·refine ⟨i, Ev.step (Ev.const (o := some (i : Int)) rfl) fun k => ?_, ⟨fun _ => he ▸ List.mem_cons_self, fun _ => by omega⟩⟩
   rw [slices_Index_int_int.l0, if_pos (by omega), if_pos (by omega), if_pos (by omega), hrd, if_pos he]
  ·refine ⟨r, Ev.step h1 fun k => ?_, h2.trans ⟨fun h3 => List.mem_cons_of_mem _ h3, fun h3 => (List.mem_cons.1 h3).resolve_left he⟩⟩
   rw [slices_Index_int_int.l0, if_pos (by omega), if_pos (by omega), if_pos (by omega), hrd, if_neg he, hwi]
theorem contains_ev (l : List Int) (x : Int) (hl : l.length ≤ 1000000) : Ev (fun k => slices_Contains_int_int.f k l x) (decide (x ∈ l)) := by
 obtain ⟨r, h1, h2⟩ := index_ev l x hl l.length 0 (by omega)
 rw [List.drop_zero] at h2
 refine Ev.bind (f := fun _ t101 => (some (decide (t101 ≥ 0)))) h1 (Ev.const ?_)
 congr 1
 exact decide_eq_decide.2 h2
end Go.Proofs.YtgipkpiddjjhcaaDoor.Q
end
section
namespace Go.Proofs.YtgipkpiddjjhcaaDoor.Q
open Go.RowKit Go.Proofs.YtgipkpiddjjhcaaDoorW.PrintWords Go.Proofs.YtgipkpiddjjhcaaDoorW.PrintLast Go.Proofs.YtgipkpiddjjhcaaDoorW.PrintMore
theorem at_sl {w : World} {A : Option Addr} {n : Nat} {xs : List (List Int)} (h : Kd.C (Kd.slice 3 (Kd.int .i64)) w A n xs) (i : Nat) (h1 : i < n) :
  ∃ ad A0 c0, A = some ad ∧ w.cell? (ad.add i) = some (.slice A0 (xs.getD i []).length c0) ∧ (xs.getD i []).length ≤ c0 ∧ (Kd.int .i64).C w A0 (xs.getD i []).length (xs.getD i []) := by
 obtain ⟨ad, c, e, _, hK, hc0⟩ := Kd.C_get h ([] : List Int) (i : Int) (by omega) (by omega)
 rw [Int.toNat_natCast] at hK hc0
 have hc : ∀ j u, c[j]? = some u → w.cell? (ad.add (i * 1 + j)) = some u := hc0
 obtain ⟨A0, c0, rfl, l0, g0⟩ := hK
 exact ⟨ad, A0, c0, e, by have hq := hc 0 _ rfl; rwa [Nat.mul_one, Nat.add_zero] at hq, l0, g0⟩
def idxOf (v : Int) : List (List Int) → Int
 | [] => -1
 | p :: P => if v ∈ p then 0 else if idxOf v P < 0 then -1 else idxOf v P + 1
theorem idxOf_hit (v : Int) : ∀ (P : List (List Int)) (i : Nat), i < P.length → v ∈ P.getD i [] → (∀ j : Nat, j < i → v ∉ P.getD j []) → idxOf v P = i
 | [], i, hi, _, _ => by simp at hi
 | p :: P, 0, _, hv, _ => if_pos (by simpa using hv)
 | p :: P, i + 1, hi, hv, hno => by
  have ih := idxOf_hit v P i (by simpa using hi) (by simpa using hv) (fun j hj => by simpa using hno (j + 1) (by omega))
  unfold idxOf
  rw [if_neg (by simpa using hno 0 (by omega)), ih, if_neg (by omega)]
  omega
theorem idxOf_miss (v : Int) : ∀ (P : List (List Int)), (∀ j : Nat, j < P.length → v ∉ P.getD j []) → idxOf v P = -1
 | [], _ => rfl
 | p :: P, hno => by
  have ih := idxOf_miss v P (fun j hj => by simpa using hno (j + 1) (by simpa using hj))
  unfold idxOf
  rw [if_neg (by simpa using hno 0 (by simp)), ih, if_pos (by omega)]
set_option maxHeartbeats 4000000 in
set_option maxRecDepth 100000 in
theorem has_cell (g : Nat) (v : Int) (A : Option Addr) (c : Nat) (p : List Int) (W : World) (hl : p.length ≤ 1000000) (hc : p.length ≤ c) (hC : Kd.C (Kd.int .i64) W A p.length p) (hg : W.cell? ⟨g, 0, none⟩ = some (.int .i64 v)) :
  Calls Tryd.prog 79 #[.slice A p.length c, .pointer (some ⟨g, 0, none⟩)] W fun e W' => e = .returned (.bool (decide (v ∈ p))) ∧ Below W.heap.size W W' := by
 obtain ⟨k, hk⟩ := (contains_ev p v hl).out
 have HC := Aside0.mk hC
 have HL := Aside0.mk hc
 have HK := Aside0.mk hk
 generalize decide (v ∈ p) = b at HK ⊢
 clear hC hc hk
 go_enter Tryd.func79, Tryd.ntmps79
 go_wp2_with fail
 refine (slices_Contains_int_int.calls k A c p v b _ HC.out HL.out HK.out).mono ?_
 rintro e w' ⟨rfl, ⟨nd, rfl⟩⟩
 go_wp2
 go_ret
 exact ⟨rfl, pw_below_drewN (Below.refl _ _) _⟩
set_option maxHeartbeats 4000000 in
set_option maxRecDepth 100000 in
theorem idxP (g : Nat) (v : Int) (A0 : Option Addr) (c0 : Nat) (P : List (List Int)) (w : World) (hn : P.length ≤ 1000) (hp : ∀ p ∈ P, p.length ≤ 1000) (hr0 : Kd.C (Kd.slice 3 (Kd.int .i64)) w A0 P.length P) (hlt : g < w.heap.size) (hg : w.cell? ⟨g, 0, none⟩ = some (.int .i64 v)) :
  Calls Tryd.prog 78 #[.slice A0 P.length c0, .func (.func 79) #[] #[.pointer (some ⟨g, 0, none⟩)]] w fun e w' => e = .returned (.int .i64 (idxOf v P)) ∧ Below w.heap.size w w' := by
 have HR := Aside0.mk hr0
 have HG := Aside0.mk hg
 have HP := Aside0.mk hp
 have eg : ∀ args w, (callFunc 79 args).run Tryd.prog w = .ok (.enter 79 args) w := enters_of Tryd.func79 (by kernel_rfl) rfl
 clear hr0 hg hp
 go_enter Tryd.func78, Tryd.ntmps78
 go_wp2
 go_loopg [5, 8] P.length (fun gg _ s8 wr => ∃ kk : Nat, s8 = .int .i64 kk ∧ Aside0 (kk ≤ P.length ∧ P.length - kk ≤ gg ∧ ∀ j : Nat, j < kk → v ∉ P.getD j []) ∧ Aside0 (Below w.heap.size w wr))
 case atStart => exact ⟨0, rfl, ⟨Nat.zero_le _, by omega, fun j hj => absurd hj (Nat.not_lt_zero _)⟩, ⟨Below.refl _ _⟩⟩
 case round =>
  obtain ⟨kk, rfl, HA, HB⟩ := hrel
  by_cases hlk : kk < P.length
  ·have c1 : decide ((kk : Int) < (P.length : Int)) = true := decide_eq_true (by omega)
   have p1 : (0 ≤ (kk : Int)) = True := eq_true (by omega)
   have p2 : ((kk : Int) < (P.length : Int)) = True := eq_true (by omega)
   obtain ⟨ad, A1, c1', e1, hx, hl1, hC1⟩ := at_sl (Kd.C_below HR.out HB.out) kk hlk
   cases e1
   have hm : P.getD kk [] ∈ P := by
    rw [List.getD_eq_getElem?_getD, List.getElem?_eq_getElem hlk]
    exact List.getElem_mem hlk
   have hcall := has_cell g v A1 c1' (P.getD kk []) wr (Nat.le_trans (HP.out _ hm) (by decide)) hl1 hC1 ((HB.out.cell (p := ⟨g, 0, none⟩) hlt).trans HG.out)
   generalize hv : P.getD kk [] = pc at hx hcall hm
   have HV := Aside0.mk hv
   clear hv hm hl1 hC1
   cases hq : decide (v ∈ pc) with
   | true =>
    rw [hq] at hcall
    go_wp2_with fail
    refine hcall.mono ?_
    rintro e w' ⟨rfl, hb⟩
    clear hcall
    go_wp2
    go_ret
    refine ⟨?_, below_then HB.out HB.out.size hb⟩
    rw [idxOf_hit v P kk hlk (by rw [HV.out]; exact of_decide_eq_true hq) HA.out.2.2]
    rfl
   | false =>
    rw [hq] at hcall
    go_wp2_with fail
    refine hcall.mono ?_
    rintro e w' ⟨rfl, hb⟩
    clear hcall
    go_wp2
    go_roundg (P.length - (kk + 1))
    case measure => have := HA.out.2.1; omega
    case rel =>
     refine ⟨kk + 1, by first | rfl | rw [wrap64_small kk (by omega)] | simp, ⟨by omega, by omega, fun j hj => ?_⟩, ⟨below_then HB.out HB.out.size hb⟩⟩
     by_cases e : j = kk
     ·rw [e, HV.out]
      exact of_decide_eq_false hq
     ·exact HA.out.2.2 j (by omega)
  ·have hkk := HA.out.1
   obtain rfl : kk = P.length := by omega
   have c1 : decide ((P.length : Int) < (P.length : Int)) = false := decide_eq_false (by omega)
   go_wp2
   go_ret
   refine ⟨?_, HB.out⟩
   rw [idxOf_miss v P HA.out.2.2]
   rfl
set_option maxHeartbeats 4000000 in
set_option maxRecDepth 100000 in
theorem pieceAt_calls (gp : Nat) (v : Int) (A0 : Option Addr) (c0 : Nat) (P : List (List Int)) (w : World) (hn : P.length ≤ 1000) (hp : ∀ p ∈ P, p.length ≤ 1000) (hr0 : Kd.C (Kd.slice 3 (Kd.int .i64)) w A0 P.length P) (hlt : gp < w.heap.size) (hg : w.cell? ⟨gp, 0, none⟩ = some (.slice A0 P.length c0)) :
  Calls Tryd.prog 77 #[.int .i64 v, .pointer (some ⟨gp, 0, none⟩)] w fun e w' => e = .returned (.int .i64 (idxOf v P)) ∧ Below w.heap.size w w' := by
 have hb0 : Below w.heap.size w (w.alloc (.cells #[.int .i64 v] 3)) := below_alloc (Below.refl _ _) _
 have h1 := Boxed.new w 3 (.int .i64 v)
 have hcl := idxP w.heap.size v A0 c0 P (w.alloc (.cells #[.int .i64 v] 3)) hn hp (Kd.C_below hr0 hb0) h1.lt h1.cell
 have hg1 : (w.alloc (.cells #[.int .i64 v] 3)).cell? ⟨gp, 0, none⟩ = some (.slice A0 P.length c0) := (hb0.cell (p := ⟨gp, 0, none⟩) hlt).trans hg
 generalize idxOf v P = r at hcl ⊢
 have HCL := Aside0.mk hcl
 have HB := Aside0.mk hb0
 clear hr0 hn hp hcl hb0 h1 hg
 go_enter Tryd.func77, Tryd.ntmps77
 go_wp2_with fail
 refine HCL.out.mono ?_
 rintro e w' ⟨rfl, hb⟩
 clear HCL
 go_wp2
 go_ret
 exact ⟨rfl, below_then HB.out HB.out.size hb⟩
end Go.Proofs.YtgipkpiddjjhcaaDoor.Q
end
section
namespace Go.Proofs.YtgipkpiddjjhcaaDoor.Q
open Go.RowKit Go.Proofs.YtgipkpiddjjhcaaDoorW.PrintWords Go.Proofs.YtgipkpiddjjhcaaDoorW.PrintLast Go.Proofs.YtgipkpiddjjhcaaDoorW.PrintMore
def bstep (w h : Int) (cs : List Int) (dir : Int) (P : List (List Int)) (i : Nat) (out : List Bool) (x : Int) : Option (List Bool) :=
 (impl_tray_ahead.f 1 w h cs x dir).bind fun nx => if nx < 0 then some (out.set i true) else if nx < (cs.length : Int) then (if rd cs nx = 35 then some (out.set i true) else if idxOf nx P < 0 then some out else if idxOf nx P < (out.length : Int) then (if rdOf false out (idxOf nx P) = true then some (out.set i true) else some out) else none) else none
def bpc (w h : Int) (cs : List Int) (dir : Int) (P : List (List Int)) (i : Nat) : List Int → List Bool → Option (List Bool)
 | [], out => some out
 | x :: l, out => (bstep w h cs dir P i out x).bind (bpc w h cs dir P i l)
def bps (w h : Int) (cs : List Int) (dir : Int) (P : List (List Int)) : List (List Int) → Nat → List Bool → Option (List Bool)
 | [], _, out => some out
 | p :: L, i, out => (bpc w h cs dir P i p out).bind (bps w h cs dir P L (i + 1))
def brn (w h : Int) (cs : List Int) (dir : Int) (P : List (List Int)) : Nat → List Bool → Option (List Bool)
 | 0, out => some out
 | n + 1, out => (bps w h cs dir P P 0 out).bind (brn w h cs dir P n)
def smallP (P : List (List Int)) : Bool := decide (P.length ≤ 1000) && P.all fun p => decide (p.length ≤ 1000)
def impl_tray_blocked.f (w h : Int) (cs : List Int) (P : List (List Int)) (dir : Int) : Option (List Bool) := if smallP P = true then brn w h cs dir P (P.length + 1) (List.replicate P.length false) else none
theorem wpList_makeBool {P : Program} {w w0 : World} {ops : Array Oper} {rest : List Oper} {o : Oper} {a : Act} {Q : Exit → Act → World → Prop} {B : Nat} (hgd : o.guard = none) (t : TypeId) (x y : Operand)
  (ho : o.op = .makeSlice t x y) (e : TypeId) (n : Nat) (hx : a.eval x = .int .i64 n) (hy : a.eval y = .int .i64 n) (ht : P.underlying t = some (.slice e)) (hinfo : (P.info? e).map (fun i => (i.zero, i.size, i.bytes)) = some (some (.bool false), 1, 1))
  (hn : n ≤ 1000) (HB : Below B w0 w) (hB : B ≤ w.heap.size)
  (h : ∀ g w', Aside0 (w'.heap[g]? = some (.cells ((List.replicate n false).map Value.bool).toArray e (0, 0))) → B ≤ g → Aside0 (Below B w0 w') → wpList P ops Q rest (a.put o.dst (.slice (some ⟨g, 0, none⟩) n n)) w') : wpList P ops Q (o :: rest) a w := by
 obtain ⟨i, hi, h2⟩ := Option.map_eq_some_iff.1 hinfo
 simp only [Prod.mk.injEq] at h2
 refine wpList_plain hgd fun K hK => ?_
 have hrun := run_makeSlice (P := P) w t e i (.bool false) ht hi h2.1 .i64 .i64 n n (by omega) (by omega) (by rw [h2.2.1]; simp; omega) (by rw [h2.2.2]; omega) (by omega)
 unfold Oper.wp
 simp only [Int.toNat_natCast] at hrun
 simp [execOp, ho, hx, hy, hrun, Result.andThen]
 refine hK _ _ (h _ _ ⟨?_⟩ hB ⟨below_then HB hB (below_alloc (Below.refl _ _) _)⟩)
 rw [heap_alloc_new, h2.2.1]
 congr 2
 simp [madeCells]
 apply Array.ext
 ·simp
 ·intro j h1 h2
  simp [Value.cells, Nat.mod_one]
structure BS (W1 wr : World) (go n : Nat) (out : List Bool) : Prop where
 below : Below W1.heap.size W1 wr
 row : wr.heap[go]? = some (.cells (out.map Value.bool).toArray 4 (0, 0))
 len : out.length = n
 ge : W1.heap.size ≤ go
section
variable {W1 wr w2 : World} {go n : Nat} {out : List Bool}
theorem BS.step (h : BS W1 wr go n out) (hb : Below wr.heap.size wr w2) : BS W1 w2 go n out := ⟨below_then h.below h.below.size hb, (hb.block _ (blk_lt h.row)).trans h.row, h.len, h.ge⟩
theorem BS.set (h : BS W1 wr go n out) (i : Nat) (b : Bool) : BS W1 (wr.setCell ⟨go, i, none⟩ (.bool b)) go n (out.set i b) := by
 refine ⟨below_set h.below h.ge, ?_, by rw [List.length_set]; exact h.len, h.ge⟩
 rw [blk_set h.row i (.bool b)]
 congr 2
 apply Array.ext'
 simp [List.map_set]
theorem BS.cell (h : BS W1 wr go n out) (i : Nat) (hi : i < out.length) : wr.cell? ⟨go, i, none⟩ = some (.bool (rdOf false out (i : Int))) := by
 rw [blk_cell h.row i]
 unfold rdOf
 simp [List.getD_eq_getElem?_getD, hi]
theorem BS.R (h : BS W1 wr go n out) {base : Nat} (hb : base ≤ W1.heap.size) (hn : n ≤ 1000) : Kd.R Kd.bool 4 wr base (fun _ => True) (.slice (some ⟨go, 0, none⟩) n n) out := by
 have hl := h.len
 subst hl
 refine Kd.R_of_own (enc := Value.bool) (show wr.ownsRow base 4 1 _ out.length (out.map Value.bool) from ⟨by simp, .inr ⟨go, out.length, (out.map Value.bool).toArray, rfl, Nat.le_trans hb h.ge, h.row, Nat.le_refl _, by simp [maxLen]; omega, by simp, List.take_of_length_le (by simp)⟩⟩) (fun _ _ => trivial)
end
theorem drop_get {α : Type} (L : List α) (d : α) (i : Nat) (h : i < L.length) : L.drop i = L.getD i d :: L.drop (i + 1) := by
 rw [List.drop_eq_getElem_cons h, List.getD_eq_getElem?_getD, List.getElem?_eq_getElem h]
 rfl
set_option maxHeartbeats 16000000 in
set_option maxRecDepth 100000 in
theorem impl_tray_blocked.calls (a0_0 a0_1 : Int) (A0_2 : Option Addr) (c0_2 : Nat) (l0_2 : List Int) (A1 : Option Addr) (c1 : Nat) (l1 : List (List Int)) (a2 : Int) (r : List Bool) (w : World) (hr0_2 : Kd.C (Kd.int .u8) w A0_2 l0_2.length l0_2) (hc0_2 : l0_2.length ≤ c0_2)
  (hr1 : Kd.C (Kd.slice 3 (Kd.int .i64)) w A1 l1.length l1) (_hc1 : l1.length ≤ c1) (h : impl_tray_blocked.f a0_0 a0_1 l0_2 l1 a2 = some r) :
  Calls Tryd.prog 59 #[.agg #[.int .i64 a0_0, .int .i64 a0_1, .slice A0_2 l0_2.length c0_2], .slice A1 l1.length c1, .int .u8 a2] w fun e w' => ∃ v0_ : Value, e = .returned (v0_) ∧ Kd.R Kd.bool 4 w' w.heap.size (fun _ => True) v0_ r ∧ Below w.heap.size w w' := by
 unfold impl_tray_blocked.f at h
 split at h
 case isFalse => cases h
 rename_i hsm
 simp only [smallP, Bool.and_eq_true, decide_eq_true_eq, List.all_eq_true] at hsm
 obtain ⟨hn, hp⟩ := hsm
 have HF := Aside0.mk h
 have HP := Aside0.mk hp
 have HR := Aside0.mk hr0_2
 have HC := Aside0.mk hc0_2
 have HR1 := Aside0.mk hr1
 have hu := Tryd.underlying46
 have epa : ∀ args w, (callFunc 77 args).run Tryd.prog w = .ok (.enter 77 args) w := enters_of Tryd.func77 (by kernel_rfl) rfl
 clear h hp hr0_2 hc0_2 hr1
 go_enter Tryd.func59, Tryd.ntmps59
 go_wp2_with (first
  | ((with_reducible refine gate_dst (N := 3) rfl ?_); refine box_event ?hg (N := 3) ?hd (cs := #[.int .i64 a0_0, .int .i64 a0_1, .slice A0_2 l0_2.length c0_2]) (t := 46) ?hr ?_; (case hd => rfl); (case hg => rfl); (case hr => first | (go_simp; done) | (go_simp; rfl)); intro gt hg w3 hbox hb; (have HB3 := Aside0.mk hb); (have HT := Aside0.mk hbox); clear hbox hb hg)
  | ((with_reducible refine gate_dst (N := 4) rfl ?_); refine box_event ?hg (N := 4) ?hd (cs := #[.slice A1 l1.length c1]) (t := 48) ?hr ?_; (case hd => rfl); (case hg => rfl); (case hr => first | (go_simp; done) | (go_simp; rfl)); intro gp hg w4 hbox hb; (have HB4 := Aside0.mk (below_then HB3.out HB3.out.size hb)); (have HT4 := Aside0.mk ((hb.block gt (blk_lt HT.out)).trans HT.out)); (have HPB := Aside0.mk hbox); clear hbox hb hg HT HB3; (have q0 := (blk_cell HPB.out 0).trans rfl))
  | ((with_reducible refine gate_dst (N := 17) rfl ?_); apply wpList_makeBool (w0 := w4) (B := w4.heap.size) (n := l1.length); (case hgd => rfl); (case ho => rfl); (case hx => rfl); (case hy => rfl); (case ht => exact Tryd.underlying41); (case hinfo => exact info4); (case hn => exact hn); (case HB => exact Below.refl _ _); (case hB => exact Nat.le_refl _); intro go w5 HG hgo HBo; (have q5 := (HBo.out.cell (p := ⟨gp, 0, none⟩) (blk_lt HPB.out)).trans q0)))
 have HS := Aside0.mk (BS.mk HBo.out HG.out (by simp) hgo : BS w4 w5 go l1.length (List.replicate l1.length false))
 have HX := Aside0.mk (Bx.mk ((blk_cell HT4.out 0).trans rfl) ((blk_cell HT4.out 1).trans rfl) ((blk_cell HT4.out 2).trans rfl) (blk_lt HT4.out) (Kd.C_below HR.out HB4.out) : Bx w4 gt a0_0 a0_1 A0_2 c0_2 l0_2)
 have HQ := Aside0.mk q0
 have HPL := Aside0.mk (blk_lt HPB.out)
 have HR4 := Aside0.mk (Kd.C_below HR1.out HB4.out)
 clear HG HBo hgo q0 q5 HT4 HPB HR HR1
 go_loopg [22] (l1.length + 1) (fun gg v22 wr => ∃ (t : Nat) (out : List Bool), v22 = .int .i64 t ∧ Aside0 (t ≤ l1.length + 1 ∧ l1.length + 1 - t ≤ gg ∧ brn a0_0 a0_1 l0_2 a2 l1 (l1.length + 1 - t) out = some r) ∧ Aside0 (BS w4 wr go l1.length out))
 case atStart => exact ⟨0, _, rfl, ⟨Nat.zero_le _, Nat.le_refl _, HF.out⟩, HS⟩
 case round =>
  clear HS HF
  obtain ⟨t, out, rfl, HA, HS⟩ := hrel
  obtain ⟨ht, hgg, hbr⟩ := HA.out
  have q5 := (HS.out.below.cell (p := ⟨gp, 0, none⟩) HPL.out).trans HQ.out
  by_cases hlt : t < l1.length + 1
  ·have d1 : decide ((t : Int) < (l1.length : Int) + 1) = true := decide_eq_true (by omega)
   rw [show l1.length + 1 - t = (l1.length - t) + 1 by omega] at hbr
   obtain ⟨out2, hb2, hb3⟩ := Option.bind_eq_some_iff.1 (show (bps a0_0 a0_1 l0_2 a2 l1 l1 0 out).bind (brn a0_0 a0_1 l0_2 a2 l1 (l1.length - t)) = some r from hbr)
   have HB2 := Aside0.mk hb2
   have HB3 := Aside0.mk hb3
   clear hbr hb2 hb3
   have HGK := Aside0.mk (show l1.length + 1 - t ≤ gk ∧ t < l1.length + 1 from ⟨hgg, hlt⟩)
   clear hgg hlt ht HA
   go_wp2
   go_loopg [26] l1.length (fun gg v26 wr => ∃ (i : Nat) (o2 : List Bool), v26 = .int .i64 i ∧ Aside0 (i ≤ l1.length ∧ l1.length - i ≤ gg ∧ bps a0_0 a0_1 l0_2 a2 l1 (l1.drop i) i o2 = some out2) ∧ Aside0 (BS w4 wr go l1.length o2))
   case atStart => exact ⟨0, out, rfl, ⟨Nat.zero_le _, by omega, by rw [List.drop_zero]; exact HB2.out⟩, HS⟩
   case round =>
    clear HB2 HS q5 d1
    obtain ⟨i, o2, rfl, HA2, HS⟩ := hrel
    by_cases hli : i < l1.length
    ·have c2 : decide ((i : Int) < (l1.length : Int)) = true := decide_eq_true (by omega)
     have p1 : (0 ≤ (i : Int)) = True := eq_true (by omega)
     have p2 : ((i : Int) < (l1.length : Int)) = True := eq_true (by omega)
     have hbp := HA2.out.2.2
     rw [drop_get l1 [] i hli] at hbp
     obtain ⟨o3, hb4, hb5⟩ := Option.bind_eq_some_iff.1 (show (bpc a0_0 a0_1 l0_2 a2 l1 i (l1.getD i []) o2).bind (bps a0_0 a0_1 l0_2 a2 l1 (l1.drop (i + 1)) (i + 1)) = some out2 from hbp)
     have HB4 := Aside0.mk hb4
     have HB5 := Aside0.mk hb5
     obtain ⟨ad, Ap, cp, e1, hx4, hlp, hCp⟩ := at_sl HR4.out i hli
     cases e1
     have hx := (HS.out.below.cell (World.block_lt_of_cell? _ _ hx4)).trans hx4
     have hpm : (l1.getD i []).length ≤ 1000 := by
      refine HP.out _ ?_
      rw [List.getD_eq_getElem?_getD, List.getElem?_eq_getElem hli]
      exact List.getElem_mem hli
     generalize l1.getD i [] = pc at hx hCp HB4 hpm hx4 hlp hb4
     have HCp := Aside0.mk hCp
     have HGK2 := Aside0.mk (show l1.length - i ≤ gk ∧ i < l1.length from ⟨HA2.out.2.1, hli⟩)
     have HB4p := Aside0.mk hb4
     clear hbp hb4 hb5 hlp hCp HA2 hli hx4
     go_wp2
     go_loopg [33] pc.length (fun gg v33 wr => ∃ (u : Nat) (o4 : List Bool), v33 = .int .i64 u ∧ Aside0 (u ≤ pc.length ∧ pc.length - u ≤ gg ∧ bpc a0_0 a0_1 l0_2 a2 l1 i (pc.drop u) o4 = some o3) ∧ Aside0 (BS w4 wr go l1.length o4))
     case atStart => exact ⟨0, o2, rfl, ⟨Nat.zero_le _, by omega, by rw [List.drop_zero]; exact HB4p.out⟩, HS⟩
     case round =>
      clear HB4p HS hx c2 p1 p2
      obtain ⟨u, o4, rfl, HA3, HS⟩ := hrel
      by_cases hlu : u < pc.length
      ·have c3 : decide ((u : Int) < (pc.length : Int)) = true := decide_eq_true (by omega)
       have p3 : (0 ≤ (u : Int)) = True := eq_true (by omega)
       have p4 : ((u : Int) < (pc.length : Int)) = True := eq_true (by omega)
       have hbq := HA3.out.2.2
       rw [drop_get pc 0 u hlu] at hbq
       obtain ⟨o5, hb6, hb7⟩ := Option.bind_eq_some_iff.1 (show (bstep a0_0 a0_1 l0_2 a2 l1 i o4 (pc.getD u 0)).bind (bpc a0_0 a0_1 l0_2 a2 l1 i (pc.drop (u + 1))) = some o3 from hbq)
       obtain ⟨ad3, e3, hx3⟩ := Kd.at_int (Kd.C_below HCp.out HS.out.below) (u : Int) (by omega) (by omega)
       cases e3
       rw [Int.toNat_natCast] at hx3
       rw [show rd pc (u : Int) = pc.getD u 0 from by unfold rd; rw [Int.toNat_natCast]] at hx3
       generalize pc.getD u 0 = x at hx3 hb6
       have HGK3 := Aside0.mk (show pc.length - u ≤ gk ∧ u < pc.length from ⟨HA3.out.2.1, hlu⟩)
       have HB7 := Aside0.mk hb7
       have HB6 := Aside0.mk hb6
       clear hbq hb6 hb7 HA3 hlu
       obtain ⟨nx, hnx, hb8⟩ := Option.bind_eq_some_iff.1 (show (impl_tray_ahead.f 1 a0_0 a0_1 l0_2 x a2).bind (fun nx => if nx < 0 then some (o4.set i true) else if nx < (l0_2.length : Int) then (if rd l0_2 nx = 35 then some (o4.set i true) else if idxOf nx l1 < 0 then some o4 else if idxOf nx l1 < (o4.length : Int) then (if rdOf false o4 (idxOf nx l1) = true then some (o4.set i true) else some o4) else none) else none) = some o5 from HB6.out)
       have HNX := Aside0.mk hnx
       have H8 := Aside0.mk hb8
       have hXX := HX.out.below HS.out.below
       obtain ⟨z0, z1, z2, _, _⟩ := hXX
       clear hnx hb8 HB6
       go_wp2_with fail
       refine (impl_tray_ahead.calls 1 a0_0 a0_1 _ c0_2 l0_2 x a2 nx _ (Kd.C_below HX.out.reads HS.out.below) HC.out HNX.out).mono ?_
       rintro e w6 ⟨rfl, hb9⟩
       have HS6 := Aside0.mk (HS.out.step hb9)
       clear HS hx3 z0 z1 z2 hb9 HNX
       have hXX := HX.out.below HS6.out.below
       obtain ⟨z0, z1, z2, _, _⟩ := hXX
       have q5 := (HS6.out.below.cell (p := ⟨gp, 0, none⟩) HPL.out).trans HQ.out
       have hli2 : i < o4.length := by rw [HS6.out.len]; exact HGK2.out.2
       have hs5 := HS6.out.cell i hli2
       have hf5 := blk_frozen HS6.out.row i
       have hol := HS6.out.len
       have p1 : (0 ≤ (i : Int)) = True := eq_true (by omega)
       have p2 : ((i : Int) < (l1.length : Int)) = True := eq_true (by have := HGK2.out; omega)
       by_cases hneg : nx < 0
       ·have d4 : decide (nx < 0) = true := decide_eq_true hneg
        obtain rfl : o4.set i true = o5 := Option.some.inj ((if_pos hneg).symm.trans H8.out)
        clear H8
        go_wp2
        go_roundg (pc.length - (u + 1))
        case measure => have := HGK3.out; omega
        case rel => exact ⟨u + 1, _, by first | rfl | rw [wrap64_small u (by have := HGK3.out; omega)] | simp, ⟨by have := HGK3.out; omega, Nat.le_refl _, HB7.out⟩, ⟨HS6.out.set i true⟩⟩
       ·have d4 : decide (nx < 0) = false := decide_eq_false hneg
        have h9 := (if_neg hneg).symm.trans H8.out
        by_cases hlen : nx < (l0_2.length : Int)
        case neg => exact absurd ((if_neg hlen).symm.trans h9) (by simp)
        have h10 := (if_pos hlen).symm.trans h9
        have HN := Aside0.mk (show 0 ≤ nx ∧ nx < (l0_2.length : Int) from ⟨by omega, hlen⟩)
        have p5 : (0 ≤ nx) = True := eq_true HN.out.1
        have p6 : (nx < (l0_2.length : Int)) = True := eq_true hlen
        obtain ⟨ad5, e5, hx5⟩ := Kd.at_int (HX.out.below HS6.out.below).reads nx HN.out.1 hlen
        clear h9 H8 hneg hlen
        cases e5
        generalize rd l0_2 nx = b at h10 hx5
        by_cases hw : b = 35
        ·have d5 : (b == 35) = true := beq_iff_eq.2 hw
         obtain rfl : o4.set i true = o5 := Option.some.inj ((if_pos hw).symm.trans h10)
         clear h10 hw
         go_wp2
         go_roundg (pc.length - (u + 1))
         case measure => have := HGK3.out; omega
         case rel => exact ⟨u + 1, _, by first | rfl | rw [wrap64_small u (by have := HGK3.out; omega)] | simp, ⟨by have := HGK3.out; omega, Nat.le_refl _, HB7.out⟩, ⟨HS6.out.set i true⟩⟩
        ·have d5 : (b == 35) = false := beq_eq_false_iff_ne.2 hw
         have h11 := (if_neg hw).symm.trans h10
         have hcall := pieceAt_calls gp nx _ c1 l1 w6 hn HP.out (Kd.C_below HR4.out HS6.out.below) (Nat.lt_of_lt_of_le HPL.out HS6.out.below.size) q5
         clear h10 hw q5
         generalize idxOf nx l1 = y at h11 hcall
         have HCALL := Aside0.mk hcall
         clear hcall
         by_cases hy : y < 0
         ·have d6 : decide (0 ≤ y) = false := decide_eq_false (by omega)
          have d7 : decide (y ≥ 0) = false := decide_eq_false (by omega)
          obtain rfl : o4 = o5 := Option.some.inj ((if_pos hy).symm.trans h11)
          clear h11
          go_wp2_with (go_at_call 77; refine HCALL.out.mono ?_; rintro e w7 ⟨rfl, hb9⟩; have HS7 := Aside0.mk (HS6.out.step hb9); clear hx5 z0 z1 z2 hb9 hs5 hf5; have hs5 := HS7.out.cell i hli2; have hf5 := blk_frozen HS7.out.row i)
          go_roundg (pc.length - (u + 1))
          case measure => have := HGK3.out; omega
          case rel => exact ⟨u + 1, _, by first | rfl | rw [wrap64_small u (by have := HGK3.out; omega)] | simp, ⟨by have := HGK3.out; omega, Nat.le_refl _, HB7.out⟩, HS7⟩
         ·have d6 : decide (0 ≤ y) = true := decide_eq_true (by omega)
          have d7 : decide (y ≥ 0) = true := decide_eq_true (by omega)
          have h13 := (if_neg hy).symm.trans h11
          by_cases hyl : y < (o4.length : Int)
          case neg => exact absurd ((if_neg hyl).symm.trans h13) (by simp)
          have h14 := (if_pos hyl).symm.trans h13
          have p7 : (0 ≤ y) = True := eq_true (by omega)
          have p8 : (y < (l1.length : Int)) = True := eq_true (by rw [← hol]; exact hyl)
          obtain ⟨yn, rfl⟩ := Int.eq_ofNat_of_zero_le (show 0 ≤ y by omega)
          have hyn : yn < o4.length := by omega
          clear hyl h13 h11 hy
          cases hbb : rdOf false o4 (yn : Int) with
          | true =>
           rw [hbb] at h14
           obtain rfl : o4.set i true = o5 := Option.some.inj ((if_pos rfl).symm.trans h14)
           clear h14
           go_wp2_with (go_at_call 77; refine HCALL.out.mono ?_; rintro e w7 ⟨rfl, hb9⟩; have HS7 := Aside0.mk (HS6.out.step hb9); clear hx5 z0 z1 z2 hb9 hs5 hf5; have hs5 := HS7.out.cell i hli2; have hf5 := blk_frozen HS7.out.row i; have hs6 := HS7.out.cell yn hyn; rw [hbb] at hs6)
           go_roundg (pc.length - (u + 1))
           case measure => have := HGK3.out; omega
           case rel => exact ⟨u + 1, _, by first | rfl | rw [wrap64_small u (by have := HGK3.out; omega)] | simp, ⟨by have := HGK3.out; omega, Nat.le_refl _, HB7.out⟩, ⟨HS7.out.set i true⟩⟩
          | false =>
           rw [hbb] at h14
           obtain rfl : o4 = o5 := Option.some.inj ((if_neg (by simp)).symm.trans h14)
           clear h14
           go_wp2_with (go_at_call 77; refine HCALL.out.mono ?_; rintro e w7 ⟨rfl, hb9⟩; have HS7 := Aside0.mk (HS6.out.step hb9); clear hx5 z0 z1 z2 hb9 hs5 hf5; have hs5 := HS7.out.cell i hli2; have hf5 := blk_frozen HS7.out.row i; have hs6 := HS7.out.cell yn hyn; rw [hbb] at hs6)
           go_roundg (pc.length - (u + 1))
           case measure => have := HGK3.out; omega
           case rel => exact ⟨u + 1, _, by first | rfl | rw [wrap64_small u (by have := HGK3.out; omega)] | simp, ⟨by have := HGK3.out; omega, Nat.le_refl _, HB7.out⟩, HS7⟩
      ·have hiq := HA3.out
       obtain rfl : u = pc.length := by omega
       have c3 : decide ((pc.length : Int) < (pc.length : Int)) = false := decide_eq_false (by omega)
       have he := hiq.2.2
       rw [List.drop_length] at he
       obtain rfl : o4 = o3 := Option.some.inj he
       clear hiq he HA3
       go_wp2
       go_roundg (l1.length - (i + 1))
       case measure => have := HGK2.out; omega
       case rel => exact ⟨i + 1, o4, by first | rfl | rw [wrap64_small i (by have := HGK2.out; omega)] | simp, ⟨by have := HGK2.out; omega, Nat.le_refl _, HB5.out⟩, HS⟩
    ·have hiq := HA2.out
     obtain rfl : i = l1.length := by omega
     have c2 : decide ((l1.length : Int) < (l1.length : Int)) = false := decide_eq_false (by omega)
     have he := hiq.2.2
     rw [List.drop_length] at he
     obtain rfl : o2 = out2 := Option.some.inj he
     clear hiq he HA2
     go_wp2
     go_roundg (l1.length + 1 - (t + 1))
     case measure => have := HGK.out; omega
     case rel => exact ⟨t + 1, o2, by first | rfl | rw [wrap64_small t (by have := HGK.out; omega)] | simp, ⟨by have := HGK.out; omega, Nat.le_refl _, by rw [show l1.length + 1 - (t + 1) = l1.length - t by omega]; exact HB3.out⟩, HS⟩
  ·obtain rfl : t = l1.length + 1 := by omega
   have d1 : decide (((l1.length + 1 : Nat) : Int) < (l1.length : Int) + 1) = false := decide_eq_false (by omega)
   have he : some out = some r := by simpa [brn] using hbr
   obtain rfl := Option.some.inj he
   clear he hbr
   go_wp2
   go_ret
   exact ⟨_, rfl, HS.out.R HB4.out.size hn, below_then HB4.out HB4.out.size HS.out.below⟩
end Go.Proofs.YtgipkpiddjjhcaaDoor.Q
end
section
namespace Go.Proofs.YtgipkpiddjjhcaaDoor.Q
open Go.RowKit Go.Proofs.YtgipkpiddjjhcaaDoorW.PrintWords Go.Proofs.YtgipkpiddjjhcaaDoorW.PrintLast Go.Proofs.YtgipkpiddjjhcaaDoorW.PrintMore
set_option linter.unusedSectionVars false
open Classical
def aA (w h : Nat) (cs : List Int) (d : Nat) (i : Nat) : Int := if ah w h i d < 0 then -1 else if rd cs (ah w h i d) = 35 then -1 else ah w h i d
def lb (L : List Int) (i : Nat) : Int := rd L (i : Int)
def anyF (lab nx : Nat → Int) : List Bool → List Nat → Bool
 | _, [] => false
 | out, i :: l => fire lab nx out i || anyF lab nx (cellS lab nx out i) l
theorem anyF_no (lab nx : Nat → Int) : ∀ (l : List Nat) (out : List Bool), anyF lab nx out l = false → scan lab nx out l = out ∧ ∀ i ∈ l, fire lab nx out i = false
 | [], out, _ => ⟨rfl, fun i hi => by cases hi⟩
 | i :: l, out, h => by
  have h1 : fire lab nx out i = false ∧ anyF lab nx (cellS lab nx out i) l = false := by
   unfold anyF at h
   simpa using h
  have he : cellS lab nx out i = out := if_neg (by rw [h1.1]; decide)
  rw [he] at h1
  obtain ⟨h2, h3⟩ := anyF_no lab nx l out h1.2
  refine ⟨by show scan lab nx (cellS lab nx out i) l = out; rw [he]; exact h2, fun j hj => ?_⟩
  rcases List.mem_cons.1 hj with rfl | hj
  ·exact h1.1
  ·exact h3 j hj
theorem anyF_yes (lab nx : Nat → Int) : ∀ (l : List Nat) (out : List Bool), (∀ i ∈ l, lab i < (out.length : Int)) → anyF lab nx out l = true → out.count true < (scan lab nx out l).count true
 | [], out, _, h => by cases h
 | i :: l, out, hl, h => by
  have h1 := cellS_cnt (nx := nx) (hl i List.mem_cons_self)
  have hl2 : ∀ j ∈ l, lab j < ((cellS lab nx out i).length : Int) := fun j hj => by rw [cellS_len]; exact hl j (List.mem_cons_of_mem _ hj)
  have h2 := (scan_cnt (nx := nx) l (cellS lab nx out i) hl2).1
  show _ < (scan lab nx (cellS lab nx out i) l).count true
  cases hf : fire lab nx out i with
  | true =>
   rw [hf, if_pos rfl] at h1
   omega
  | false =>
   rw [hf, if_neg (by decide)] at h1
   unfold anyF at h
   rw [hf, Bool.false_or] at h
   have := anyF_yes lab nx l (cellS lab nx out i) hl2 h
   omega
theorem w64t (t : Nat) (h : t ≤ 36) : wrap64 ((t : Int) + 1) = ((t + 1 : Nat) : Int) := by rw [w64 (by omega) (by omega)]; omega
theorem scan_cons (lab nx : Nat → Int) (out : List Bool) (i : Nat) (l : List Nat) : scan lab nx out (i :: l) = scan lab nx (cellS lab nx out i) l := rfl
theorem anyF_cons (lab nx : Nat → Int) (out : List Bool) (i : Nat) (l : List Nat) : anyF lab nx out (i :: l) = (fire lab nx out i || anyF lab nx (cellS lab nx out i) l) := rfl
theorem stay_eq {lab nx : Nat → Int} {out : List Bool} {i : Nat} (hf : fire lab nx out i = false) : cellS lab nx out i = out := if_neg (by rw [hf]; decide)
theorem go_eq {lab nx : Nat → Int} {out : List Bool} {i : Nat} (hf : fire lab nx out i = true) : cellS lab nx out i = out.set (lab i).toNat true := if_pos hf
theorem set_same (out : List Bool) (p : Nat) (h : rdOf false out (p : Int) = true) : out.set p true = out := by
 refine List.ext_getElem (by simp) fun j h1 h2 => ?_
 rw [List.getElem_set]
 split
 ·rename_i he
  subst he
  unfold rdOf at h
  rw [Int.toNat_natCast, List.getD_eq_getElem?_getD, List.getElem?_eq_getElem h2] at h
  exact h.symm
 ·rfl
theorem mem_idxs (L : List Int) (c x : Int) (t : Nat) : x ∈ idxs L c t ↔ 0 ≤ x ∧ x < (t : Int) ∧ rd L x = c := by
 unfold idxs
 rw [List.mem_map]
 constructor
 ·rintro ⟨j, hj, rfl⟩
  have h1 := List.mem_filter.1 hj
  have h2 := List.mem_range.1 h1.1
  exact ⟨by omega, by omega, of_decide_eq_true h1.2⟩
 ·rintro ⟨h0, h1, h2⟩
  refine ⟨x.toNat, List.mem_filter.2 ⟨List.mem_range.2 (by omega), decide_eq_true ?_⟩, by omega⟩
  rw [Int.toNat_of_nonneg h0]
  exact h2
section
variable {w h : Nat} {cs : List Int} (hw : w ≤ 7) (hh : h ≤ 7) (hs : w * h ≤ 36) (hn : cs.length = w * h)
include hw hh hs hn
theorem aA_eq {i d : Nat} (hi : i < w * h) (hd : d < 4) : spec_tiAhead.f w h cs i d = some (aA w h cs d i) := tiAhead_eq hw hh hs hi hd cs hn
theorem aA_lt {i d : Nat} (hi : i < w * h) (hd : d < 4) : aA w h cs d i < ((w * h : Nat) : Int) := by
 have := ah_lt hw hh hs hi hd
 unfold aA
 split
 ·omega
 ·split
  ·omega
  ·exact this.2
theorem skb_l1 {d : Nat} (hd : d < 4) {L : List Int} {n : Nat} (hL : L.length = w * h) (hlab : ∀ i : Nat, i < w * h → lb L i < (n : Int)) : ∀ (m t : Nat) (out : List Bool) (ch : Bool), t + m = w * h → out.length = n →
  ∀ K, Ev (fun k => spec_skBlocked.l0 k L d (scan (lb L) (aA w h cs d) out (List.range' t m)) (ch || anyF (lb L) (aA w h cs d) out (List.range' t m)) w h cs) K → Ev (fun k => spec_skBlocked.l1 k L d out ch L L.length t w h cs) K
 | 0, t, out, ch, ht, ho, K, hK => by
  rw [List.range'_zero] at hK
  refine Ev.step hK fun k => ?_
  rw [spec_skBlocked.l1, if_neg (by omega)]
  show _ = spec_skBlocked.l0 k L d out (ch || false) w h cs
  rw [Bool.or_false]
 | m + 1, t, out, ch, ht, ho, K, hK => by
  have htl : t < w * h := by omega
  rw [List.range'_succ, scan_cons, anyF_cons, ← Bool.or_assoc] at hK
  have ih := skb_l1 hd hL hlab m (t + 1) (cellS (lb L) (aA w h cs d) out t) (ch || fire (lb L) (aA w h cs d) out t) (by omega) ((cellS_len _ _).trans ho) K hK
  clear hK
  have c0 : (0 : Int) ≤ (t : Int) := Int.natCast_nonneg t
  have c1 : (t : Int) < (L.length : Int) := by rw [hL]; exact Int.ofNat_lt.2 htl
  have hlt := hlab t htl
  have hwt := w64t t (Nat.le_trans (Nat.le_of_lt htl) hs)
  by_cases h1 : rd L (t : Int) < 0
  ·have hf : fire (lb L) (aA w h cs d) out t = false := by
    unfold fire lb
    rw [decide_eq_false (by omega)]
    rfl
   rw [stay_eq hf, hf, Bool.or_false] at ih
   refine Ev.step (g' := fun k => spec_skBlocked.j2 k L d out ch t (rd L t) L L.length t true w h cs) (Ev.step ih fun k => ?_) fun k => ?_
   ·rw [spec_skBlocked.j2, if_pos rfl, hwt]
   ·rw [spec_skBlocked.l1, if_pos c1, if_pos c0, if_pos c1, if_pos h1]
  ·have h2 : 0 ≤ rd L (t : Int) := by omega
   have h3 : rd L (t : Int) < (out.length : Int) := by rw [ho]; exact hlt
   refine Ev.step (g' := fun k => spec_skBlocked.j2 k L d out ch t (rd L t) L L.length t (rdOf false out (rd L t)) w h cs) (Ev.step ih fun k => ?_) fun k => ?_
   ·rw [spec_skBlocked.j2, aA_eq hw hh hs hn htl hd, Option.bind_some, hwt]
    clear hwt ih
    by_cases h4 : rdOf false out (rd L (t : Int)) = true
    ·have hf : fire (lb L) (aA w h cs d) out t = false := by
      unfold fire lb
      rw [h4]
      simp
     rw [if_pos h4, stay_eq hf, hf, Bool.or_false]
    ·rw [if_neg h4]
     have h4b : rdOf false out (rd L (t : Int)) = false := by simpa using h4
     have hfr : fire (lb L) (aA w h cs d) out t = (decide (aA w h cs d t < 0) || (decide (0 ≤ rd L ((aA w h cs d t).toNat : Int)) && rdOf false out (rd L ((aA w h cs d t).toNat : Int)))) := by
      unfold fire lb
      rw [h4b, decide_eq_true h2]
      rfl
     by_cases h5 : aA w h cs d t < 0
     ·have hf : fire (lb L) (aA w h cs d) out t = true := by rw [hfr, decide_eq_true h5]; rfl
      rw [if_pos h5, if_pos h2, if_pos h3, go_eq hf, hf, Bool.or_true]
      rfl
     ·have h6 := aA_lt hw hh hs hn htl hd
      have h7 : 0 ≤ aA w h cs d t := by omega
      have h8 : aA w h cs d t < (L.length : Int) := by omega
      rw [if_neg h5, if_pos h7, if_pos h8]
      rw [decide_eq_false h5, Bool.false_or, Int.toNat_of_nonneg h7] at hfr
      by_cases h9 : rd L (aA w h cs d t) ≥ 0
      ·have h9b : 0 ≤ rd L (aA w h cs d t) := h9
       have h10 : rd L (aA w h cs d t) < (out.length : Int) := by
        have := hlab (aA w h cs d t).toNat (by omega)
        unfold lb at this
        rw [Int.toNat_of_nonneg h7] at this
        rw [ho]
        exact this
       rw [decide_eq_true h9b, Bool.true_and] at hfr
       rw [if_pos h9]
       by_cases h11 : rd L (aA w h cs d t) = rd L (t : Int)
       ·have hf : fire (lb L) (aA w h cs d) out t = false := by rw [hfr, h11]; exact h4b
        rw [if_pos h11, stay_eq hf, hf, Bool.or_false]
       ·rw [if_neg h11, if_pos h9b, if_pos h10]
        by_cases h12 : rdOf false out (rd L (aA w h cs d t)) = true
        ·have hf : fire (lb L) (aA w h cs d) out t = true := by rw [hfr]; exact h12
         rw [if_pos h12, if_pos h2, if_pos h3, go_eq hf, hf, Bool.or_true]
         rfl
        ·have hf : fire (lb L) (aA w h cs d) out t = false := by rw [hfr]; simpa using h12
         rw [if_neg h12, stay_eq hf, hf, Bool.or_false]
      ·have hf : fire (lb L) (aA w h cs d) out t = false := by
        rw [hfr, decide_eq_false (by omega)]
        rfl
       rw [if_neg h9, stay_eq hf, hf, Bool.or_false]
   ·rw [spec_skBlocked.l1, if_pos c1, if_pos c0, if_pos c1, if_neg h1, if_pos h2, if_pos h3]
theorem skb_l0 {d : Nat} (hd : d < 4) {L : List Int} {n : Nat} (hL : L.length = w * h) (hlab : ∀ i : Nat, i < w * h → lb L i < (n : Int)) : ∀ (m : Nat) (out : List Bool), out.length = n → sound (w * h) (lb L) (aA w h cs d) out → n < out.count true + m →
  Ev (fun k => spec_skBlocked.l0 k L d out true w h cs) (blkL (w * h) n (lb L) (aA w h cs d))
 | 0, out, ho, hsn, hm => by
  have := List.count_le_length (a := true) (l := out)
  omega
 | m + 1, out, ho, hsn, hm => by
  have hall : ∀ i ∈ List.range' 0 (w * h), i < w * h ∧ lb L i < (out.length : Int) := fun i hi => by
   have := List.mem_range'_1.1 hi
   exact ⟨by omega, by rw [ho]; exact hlab i (by omega)⟩
  have h1 := skb_l1 hw hh hs hn hd hL hlab (w * h) 0 out false (by omega) ho (blkL (w * h) n (lb L) (aA w h cs d))
  rw [Bool.false_or] at h1
  refine Ev.step (h1 ?_) fun k => ?_
  ·cases hf : anyF (lb L) (aA w h cs d) out (List.range' 0 (w * h)) with
   | false =>
    obtain ⟨h2, h3⟩ := anyF_no _ _ _ _ hf
    rw [h2, closed_eq ho hsn fun i hi _ => h3 i (List.mem_range'_1.2 ⟨by omega, by omega⟩)]
    refine Ev.step (Ev.const rfl) fun k => ?_
    rw [spec_skBlocked.l0, if_neg (by decide)]
   | true =>
    have h2 := anyF_yes _ _ _ _ (fun i hi => (hall i hi).2) hf
    exact skb_l0 hd hL hlab m _ ((scan_len _ _).trans ho) (scan_sound _ _ hall hsn) (by omega)
  ·rw [spec_skBlocked.l0, if_pos rfl]
   rfl
theorem rdOf_rep (n : Nat) (x : Int) : rdOf false (List.replicate n false) x = false := by
 unfold rdOf
 rw [List.getD_eq_getElem?_getD, List.getElem?_replicate]
 split <;> rfl
theorem skBlocked_ev {d : Nat} (hd : d < 4) {L : List Int} {n : Nat} (hn36 : n ≤ 36) (hL : L.length = w * h) (hlab : ∀ i : Nat, i < w * h → lb L i < (n : Int)) :
  Ev (fun k => spec_skBlocked.f k w h cs L n d) (blkL (w * h) n (lb L) (aA w h cs d)) := by
 refine Ev.congr (skb_l0 hw hh hs hn hd hL hlab (n + 1) (List.replicate n false) (by simp) (fun p hp => ?_) (by omega)) fun k => ?_
 ·rw [rdOf_rep hw hh hs hn] at hp
  cases hp
 ·unfold spec_skBlocked.f
  rw [if_pos (by omega), Int.toNat_natCast, if_pos (Nat.le_trans hn36 (by decide))]
theorem bstep_eq {d : Nat} (hd : d < 4) {L : List Int} {n : Nat} {P : List (List Int)} (hP : ∀ v : Int, 0 ≤ v → v < ((w * h : Nat) : Int) → idxOf v P = if 0 ≤ rd L v then rd L v else -1) (hlab : ∀ i : Nat, i < w * h → lb L i < (n : Int))
  (out : List Bool) (ho : out.length = n) (i p : Nat) (hi : i < w * h) (hp : lb L i = p) : bstep w h cs (dirC d) P p out i = some (cellS (lb L) (aA w h cs d) out i) := by
 have hah := (ah_all ⟨w, by omega⟩ ⟨h, by omega⟩ ⟨i, by omega⟩ ⟨d, hd⟩ hi).1
 have hlt := ah_lt hw hh hs hi hd
 have hpn := hlab i hi
 simp only at hah
 unfold bstep
 rw [ahead_l, hah, Option.bind_some]
 have hfr : fire (lb L) (aA w h cs d) out i = (!rdOf false out (p : Int) && (decide (aA w h cs d i < 0) || (decide (0 ≤ lb L (aA w h cs d i).toNat) && rdOf false out (lb L (aA w h cs d i).toNat)))) := by
  unfold fire
  rw [hp, decide_eq_true (show (0 : Int) ≤ p by omega), Bool.true_and]
 have hset : ∀ b : Bool, (decide (aA w h cs d i < 0) || (decide (0 ≤ lb L (aA w h cs d i).toNat) && rdOf false out (lb L (aA w h cs d i).toNat))) = b → cellS (lb L) (aA w h cs d) out i = if b = true then out.set p true else out := by
  intro b hb
  rw [hb] at hfr
  cases b with
  | false => exact stay_eq (by rw [hfr, Bool.and_false])
  | true =>
   rw [if_pos rfl]
   cases hq : rdOf false out (p : Int) with
   | true =>
    rw [set_same out p hq]
    exact stay_eq (by rw [hfr, hq]; rfl)
   | false =>
    rw [go_eq (by rw [hfr, hq]; rfl), hp]
    rfl
 by_cases h1 : ah w h i d < 0
 ·have ha : aA w h cs d i = -1 := if_pos h1
  rw [if_pos h1, hset true (by rw [ha]; rfl)]
  rfl
 ·rw [if_neg h1, if_pos (show ah w h i d < (cs.length : Int) by omega)]
  by_cases h2 : rd cs (ah w h i d) = 35
  ·have ha : aA w h cs d i = -1 := (if_neg h1).trans (if_pos h2)
   rw [if_pos h2, hset true (by rw [ha]; rfl)]
   rfl
  ·have ha : aA w h cs d i = ah w h i d := (if_neg h1).trans (if_neg h2)
   have h0 : 0 ≤ ah w h i d := by omega
   have hlb : lb L (aA w h cs d i).toNat = rd L (ah w h i d) := by
    unfold lb
    rw [ha, Int.toNat_of_nonneg h0]
   have hln := hlab (ah w h i d).toNat (by omega)
   unfold lb at hln
   rw [Int.toNat_of_nonneg h0] at hln
   rw [if_neg h2, hP _ h0 hlt.2]
   have hb0 : decide (aA w h cs d i < 0) = false := by rw [ha]; exact decide_eq_false h1
   rw [hlb, hb0, Bool.false_or] at hset
   by_cases h3 : 0 ≤ rd L (ah w h i d)
   ·rw [if_pos h3, if_neg (by omega), if_pos (by omega), hset (rdOf false out (rd L (ah w h i d))) (by rw [decide_eq_true h3, Bool.true_and])]
    split <;> rfl
   ·rw [if_neg h3, if_pos (by omega), hset false (by rw [decide_eq_false h3, Bool.false_and])]
    rfl
theorem bpc_eq {d : Nat} (hd : d < 4) {L : List Int} {n : Nat} {P : List (List Int)} (hP : ∀ v : Int, 0 ≤ v → v < ((w * h : Nat) : Int) → idxOf v P = if 0 ≤ rd L v then rd L v else -1) (hlab : ∀ i : Nat, i < w * h → lb L i < (n : Int)) (p : Nat) :
  ∀ (l : List Int) (out : List Bool), out.length = n → (∀ x ∈ l, 0 ≤ x ∧ x < ((w * h : Nat) : Int) ∧ rd L x = p) → bpc w h cs (dirC d) P p l out = some (scan (lb L) (aA w h cs d) out (l.map Int.toNat))
 | [], out, _, _ => rfl
 | x :: l, out, ho, hl => by
  obtain ⟨h0, h1, h2⟩ := hl x List.mem_cons_self
  obtain ⟨i, rfl⟩ := Int.eq_ofNat_of_zero_le h0
  show (bstep w h cs (dirC d) P p out i).bind _ = _
  rw [bstep_eq hw hh hs hn hd hP hlab out ho i p (by omega) h2, Option.bind_some, bpc_eq hd hP hlab p l _ ((cellS_len _ _).trans ho) fun y hy => hl y (List.mem_cons_of_mem _ hy)]
  rfl
theorem bps_eq {d : Nat} (hd : d < 4) {L : List Int} {n : Nat} {P : List (List Int)} (hP : ∀ v : Int, 0 ≤ v → v < ((w * h : Nat) : Int) → idxOf v P = if 0 ≤ rd L v then rd L v else -1) (hlab : ∀ i : Nat, i < w * h → lb L i < (n : Int)) :
  ∀ (Q : List (List Int)) (p : Nat) (out : List Bool), out.length = n → (∀ (j : Nat) (q : List Int), Q[j]? = some q → ∀ x ∈ q, 0 ≤ x ∧ x < ((w * h : Nat) : Int) ∧ rd L x = ((p + j : Nat) : Int)) → bps w h cs (dirC d) P Q p out = some (scan (lb L) (aA w h cs d) out (Q.flatten.map Int.toNat))
 | [], p, out, _, _ => rfl
 | q :: Q, p, out, ho, hl => by
  show (bpc w h cs (dirC d) P p q out).bind (bps w h cs (dirC d) P Q (p + 1)) = _
  rw [bpc_eq hw hh hs hn hd hP hlab p q out ho (hl 0 q rfl), Option.bind_some, bps_eq hd hP hlab Q (p + 1) _ ((scan_len _ _).trans ho) fun j q' hq x hx => by rw [show p + 1 + j = p + (j + 1) by omega]; exact hl (j + 1) q' hq x hx]
  rw [List.flatten_cons, List.map_append]
  unfold scan
  rw [List.foldl_append]
theorem brn_eq {d : Nat} (hd : d < 4) {L : List Int} {n : Nat} {P : List (List Int)} (hP : ∀ v : Int, 0 ≤ v → v < ((w * h : Nat) : Int) → idxOf v P = if 0 ≤ rd L v then rd L v else -1) (hlab : ∀ i : Nat, i < w * h → lb L i < (n : Int))
  (hl : ∀ (j : Nat) (q : List Int), P[j]? = some q → ∀ x ∈ q, 0 ≤ x ∧ x < ((w * h : Nat) : Int) ∧ rd L x = ((0 + j : Nat) : Int)) : ∀ (m : Nat) (out : List Bool), out.length = n → brn w h cs (dirC d) P m out = some (runs (lab := lb L) (nx := aA w h cs d) (P.flatten.map Int.toNat) m out)
 | 0, out, _ => rfl
 | m + 1, out, ho => by
  show (bps w h cs (dirC d) P P 0 out).bind (brn w h cs (dirC d) P m) = _
  rw [bps_eq hw hh hs hn hd hP hlab P 0 out ho hl, Option.bind_some, brn_eq hd hP hlab hl m _ ((scan_len _ _).trans ho)]
  rfl
theorem lab_lt {L : List Int} (ho : OI w h cs L (w * h)) (i : Nat) (hi : i < w * h) : lb L i < ((mins w h cs (w * h)).length : Int) := by
 unfold lb
 by_cases h0 : 0 ≤ rd L (i : Int)
 ·obtain ⟨m, m1, m2, _, m4⟩ := ho.lab i (by omega) (by omega) h0
  have := mins_lt hw hh hs m2 m1
  omega
 ·omega
theorem parts_get {L : List Int} (ho : OI w h cs L (w * h)) (j : Nat) (hj : j < (mins w h cs (w * h)).length) : (parts w h cs (w * h))[j]? = some (idxs L (j : Int) L.length) := by
 rw [← OI.lists_eq hw hh hs ho (w * h) (Nat.le_refl _)]
 unfold lists
 rw [List.getElem?_map, List.getElem?_range hj]
 rfl
end
end Go.Proofs.YtgipkpiddjjhcaaDoor.Q
end
section
namespace Go.Proofs.YtgipkpiddjjhcaaDoor.Q
set_option linter.unusedSectionVars false
open Go.RowKit Go.Proofs.YtgipkpiddjjhcaaDoorW.PrintWords Go.Proofs.YtgipkpiddjjhcaaDoorW.PrintLast Go.Proofs.YtgipkpiddjjhcaaDoorW.PrintMore
def comes (f : Int → Option Int) (came : Int → Bool) (n : Nat) (j : Nat) : Option Nat := (List.range n).find? fun x : Nat => decide (f (x : Int) = some (j : Int)) && came (x : Int)
def laidCells (cs em : List Int) (f : Int → Option Int) (came : Int → Bool) : List Int := (List.range cs.length).map fun j : Nat => match comes f came cs.length j with | some x => rd cs (x : Int) | none => rd em (j : Int)
structure Fits (f : Int → Option Int) (n : Nat) : Prop where
 dom : ∀ x c, f x = some c → 0 ≤ x ∧ x < (n : Int) ∧ 0 ≤ c ∧ c < (n : Int)
 inj : ∀ x y c, f x = some c → f y = some c → x = y
theorem laid_none (cs em : List Int) (f : Int → Option Int) (hl : em.length = cs.length) : laidCells cs em f (fun _ => false) = em := by
 unfold laidCells comes
 refine List.ext_getElem (by simpa using hl.symm) fun j h1 h2 => ?_
 rw [List.getElem_map, List.getElem_range]
 rw [List.find?_eq_none.2 (fun x _ => by simp)]
 show rd em (j : Int) = _
 unfold rd
 rw [Int.toNat_natCast, List.getD_eq_getElem?_getD, List.getElem?_eq_getElem h2]
 rfl
theorem laid_len (cs em : List Int) (f : Int → Option Int) (came : Int → Bool) : (laidCells cs em f came).length = cs.length := by
 unfold laidCells
 rw [List.length_map, List.length_range]
theorem laid_step (cs em : List Int) (f : Int → Option Int) (came : Int → Bool) (hf : Fits f cs.length) (x c : Int) (hx : f x = some c) : laidCells cs em f (fun y => came y || decide (y = x)) = (laidCells cs em f came).set c.toNat (rd cs x) := by
 obtain ⟨h0, h1, h2, h3⟩ := hf.dom x c hx
 unfold laidCells
 refine List.ext_getElem (by simp) fun j h4 h5 => ?_
 rw [List.getElem_set, List.getElem_map, List.getElem_range]
 have hj : j < cs.length := by simpa using h4
 by_cases hc : c.toNat = j
 ·rw [if_pos hc]
  have hfd : comes f (fun y => came y || decide (y = x)) cs.length j = some x.toNat := by
   unfold comes
   have hsome : ∃ y, ((List.range cs.length).find? fun y : Nat => decide (f (y : Int) = some (j : Int)) && (came (y : Int) || decide ((y : Int) = x))) = some y := by
    rw [← Option.isSome_iff_exists, List.find?_isSome]
    refine ⟨x.toNat, List.mem_range.2 (by omega), ?_⟩
    rw [Int.toNat_of_nonneg h0, hx]
    have : c = (j : Int) := by omega
    simp [this]
   obtain ⟨y, hy⟩ := hsome
   have hp := List.find?_some hy
   simp only [Bool.and_eq_true, decide_eq_true_eq] at hp
   have hyx := hf.inj (y : Int) x c (by rw [hp.1]; congr 1; omega) hx
   rw [hy]
   congr 1
   omega
  rw [hfd]
  show rd cs (x.toNat : Int) = rd cs x
  rw [Int.toNat_of_nonneg h0]
 ·rw [if_neg hc, List.getElem_map, List.getElem_range]
  have he : comes f (fun y => came y || decide (y = x)) cs.length j = comes f came cs.length j := by
   unfold comes
   congr 1
   funext y
   by_cases hyx : (y : Int) = x
   ·have : ¬ f (y : Int) = some (j : Int) := by
     rw [hyx, hx]
     intro e
     have := Option.some.inj e
     omega
    rw [decide_eq_false this]
    rfl
   ·show (decide (f (y : Int) = some (j : Int)) && (came (y : Int) || decide ((y : Int) = x))) = _
    rw [decide_eq_false hyx, Bool.or_false]
  rw [he]
theorem laid_skip (cs em : List Int) (f : Int → Option Int) (came : Int → Bool) (x : Int) (hx : f x = none) : laidCells cs em f (fun y => came y || decide (y = x)) = laidCells cs em f came := by
 unfold laidCells
 congr 1
 funext j
 have he : comes f (fun y => came y || decide (y = x)) cs.length j = comes f came cs.length j := by
  unfold comes
  congr 1
  funext y
  show (decide (f (y : Int) = some (j : Int)) && (came (y : Int) || decide ((y : Int) = x))) = _
  by_cases hyx : (y : Int) = x
  ·rw [hyx, hx]
   rfl
  ·rw [decide_eq_false hyx, Bool.or_false]
 rw [he]
theorem find_congr {α : Type} {p q : α → Bool} : ∀ (l : List α), (∀ x ∈ l, p x = q x) → l.find? p = l.find? q
 | [], _ => rfl
 | a :: l, h => by
  rw [List.find?_cons, List.find?_cons, h a List.mem_cons_self, find_congr l fun x hx => h x (List.mem_cons_of_mem _ hx)]
theorem laid_congr (cs em : List Int) (f g : Int → Option Int) (ca cb : Int → Bool) (h : ∀ x : Nat, x < cs.length → f (x : Int) = g (x : Int) ∧ (f (x : Int) ≠ none → ca (x : Int) = cb (x : Int))) : laidCells cs em f ca = laidCells cs em g cb := by
 unfold laidCells
 congr 1
 funext j
 have he : comes f ca cs.length j = comes g cb cs.length j := by
  unfold comes
  refine find_congr _ fun x hx => ?_
  obtain ⟨h1, h2⟩ := h x (List.mem_range.1 hx)
  rw [← h1]
  by_cases h3 : f (x : Int) = some (j : Int)
  ·rw [h2 (by rw [h3]; simp)]
  ·rw [decide_eq_false h3]
   rfl
 rw [he]
theorem laid_at (cs em : List Int) (f : Int → Option Int) (hf : Fits f cs.length) (x c : Int) (hx : f x = some c) : rd (laidCells cs em f fun _ => true) c = rd cs x := by
 have h := laid_step cs em f (fun _ => true) hf x c hx
 obtain ⟨h0, h1, h2, h3⟩ := hf.dom x c hx
 have e : (fun y : Int => (fun _ : Int => true) y || decide (y = x)) = fun _ => true := by
  funext y
  rfl
 rw [e] at h
 rw [h]
 unfold rd
 rw [List.getD_eq_getElem?_getD, List.getElem?_set, if_pos rfl, laid_len, if_pos (by omega)]
 rfl
theorem laid_off (cs em : List Int) (f : Int → Option Int) (came : Int → Bool) (c : Nat) (hc : c < cs.length) (hx : ∀ x : Nat, x < cs.length → f (x : Int) ≠ some (c : Int)) : rd (laidCells cs em f came) (c : Int) = rd em (c : Int) := by
 have h1 : comes f came cs.length c = none := by
  unfold comes
  rw [List.find?_eq_none]
  intro x hx2
  rw [decide_eq_false (hx x (List.mem_range.1 hx2))]
  simp
 have h2 : (laidCells cs em f came)[c]? = some (rd em (c : Int)) := by
  unfold laidCells
  rw [List.getElem?_map, List.getElem?_range hc]
  show some (match comes f came cs.length c with | some x => rd cs (x : Int) | none => rd em (c : Int)) = _
  rw [h1]
 show (laidCells cs em f came).getD (Int.toNat (c : Int)) 0 = _
 rw [Int.toNat_natCast, List.getD_eq_getElem?_getD, h2]
 rfl
end Go.Proofs.YtgipkpiddjjhcaaDoor.Q
end
section
namespace Go.Proofs.YtgipkpiddjjhcaaDoor.Q
open Go.RowKit Go.Proofs.YtgipkpiddjjhcaaDoorW.PrintWords Go.Proofs.YtgipkpiddjjhcaaDoorW.PrintLast Go.Proofs.YtgipkpiddjjhcaaDoorW.PrintMore
set_option linter.unusedSectionVars false
open Classical
theorem ah_inv_all : ∀ (w h : Fin 8) (i : Fin 36) (d : Fin 4), i.val < w.val * h.val → 0 ≤ ah w.val h.val i.val d.val → ah w.val h.val (ah w.val h.val i.val d.val).toNat ((d.val + 2) % 4) = (i.val : Int) := by decide +kernel
noncomputable def yC (w h : Nat) (cs L : List Int) (d : Nat) (i : Nat) : Int := if Blk (w * h) (lb L) (aA w h cs d) (lb L i).toNat then (i : Int) else aA w h cs d i
noncomputable def mvF (w h : Nat) (cs L : List Int) (d : Nat) (x : Int) : Option Int := if 0 ≤ x ∧ x < ((w * h : Nat) : Int) ∧ 0 ≤ rd L x then some (yC w h cs L d x.toNat) else none
noncomputable def csN (w h : Nat) (cs L : List Int) (d : Nat) : List Int := laidCells cs (emptyC cs) (mvF w h cs L d) fun _ => true
noncomputable def laN (w h : Nat) (cs L : List Int) (d : Nat) : List Int := laidCells L (List.replicate (w * h) (-1)) (mvF w h cs L d) fun _ => true
structure SI (w h : Nat) (cs L : List Int) (n : Nat) : Prop where
 lc : cs.length = w * h
 ll : L.length = w * h
 lt : ∀ i : Nat, i < w * h → rd L (i : Int) < (n : Int)
 ball : ∀ i : Nat, i < w * h → (0 ≤ rd L (i : Int) ↔ bI cs (i : Int) = true)
 low : ∀ i : Nat, i < w * h → rd L (i : Int) < 0 → rd L (i : Int) = -1
 full : ∀ p : Nat, p < n → ∃ i : Nat, i < w * h ∧ rd L (i : Int) = p
section
variable {w h : Nat} {cs L : List Int} {n d : Nat} (hw : w ≤ 7) (hh : h ≤ 7) (hs : w * h ≤ 36) (hI : SI w h cs L n) (hd : d < 4)
include hw hh hs hI hd
theorem mv_some {i : Nat} (hi : i < w * h) (hl : 0 ≤ rd L (i : Int)) : mvF w h cs L d (i : Int) = some (yC w h cs L d i) := by
 unfold mvF
 rw [if_pos ⟨by omega, by omega, hl⟩, Int.toNat_natCast]
theorem mv_none {i : Nat} (hl : ¬ 0 ≤ rd L (i : Int)) : mvF w h cs L d (i : Int) = none := if_neg fun e => hl e.2.2
theorem free_at {i : Nat} (hi : i < w * h) (hl : 0 ≤ rd L (i : Int)) (hb : ¬ Blk (w * h) (lb L) (aA w h cs d) (lb L i).toNat) : 0 ≤ aA w h cs d i ∧ aA w h cs d i < ((w * h : Nat) : Int) ∧ aA w h cs d i = ah w h i d ∧ rd cs (aA w h cs d i) ≠ 35 := by
 have h1 := aA_lt hw hh hs hI.lc hi hd
 have h2 : 0 ≤ aA w h cs d i := by
  apply Classical.byContradiction
  intro h3
  exact hb (Blk.side i _ hi (by unfold lb; omega) (by omega))
 have h3 : ¬ ah w h i d < 0 := fun h4 => by
  have : aA w h cs d i = -1 := if_pos h4
  omega
 have h4 : ¬ rd cs (ah w h i d) = 35 := fun h5 => by
  have : aA w h cs d i = -1 := (if_neg h3).trans (if_pos h5)
  omega
 have h5 : aA w h cs d i = ah w h i d := (if_neg h3).trans (if_neg h4)
 exact ⟨h2, h1, h5, by rw [h5]; exact h4⟩
theorem y_at {i : Nat} (hi : i < w * h) (hl : 0 ≤ rd L (i : Int)) : 0 ≤ yC w h cs L d i ∧ yC w h cs L d i < ((w * h : Nat) : Int) ∧ rd cs (yC w h cs L d i) ≠ 35 := by
 unfold yC
 by_cases hb : Blk (w * h) (lb L) (aA w h cs d) (lb L i).toNat
 ·rw [if_pos hb]
  refine ⟨by omega, by omega, fun h1 => ?_⟩
  have h2 := (hI.ball i hi).1 hl
  unfold bI at h2
  rw [h1, isB_35] at h2
  cases h2
 ·rw [if_neg hb]
  obtain ⟨h1, h2, _, h4⟩ := free_at hw hh hs hI hd hi hl hb
  exact ⟨h1, h2, h4⟩
theorem y_inj {i j : Nat} (hi : i < w * h) (hj : j < w * h) (hli : 0 ≤ rd L (i : Int)) (hlj : 0 ≤ rd L (j : Int)) (he : yC w h cs L d i = yC w h cs L d j) : i = j := by
 unfold yC at he
 by_cases bi : Blk (w * h) (lb L) (aA w h cs d) (lb L i).toNat
 ·by_cases bj : Blk (w * h) (lb L) (aA w h cs d) (lb L j).toNat
  ·rw [if_pos bi, if_pos bj] at he
   omega
  ·rw [if_pos bi, if_neg bj] at he
   exact absurd (Blk.push j i _ _ hj (by unfold lb; omega) he.symm (by unfold lb; omega) bi) bj
 ·by_cases bj : Blk (w * h) (lb L) (aA w h cs d) (lb L j).toNat
  ·rw [if_neg bi, if_pos bj] at he
   exact absurd (Blk.push i j _ _ hi (by unfold lb; omega) he (by unfold lb; omega) bj) bi
  ·rw [if_neg bi, if_neg bj] at he
   obtain ⟨a0, a1, a2, _⟩ := free_at hw hh hs hI hd hi hli bi
   obtain ⟨b0, b1, b2, _⟩ := free_at hw hh hs hI hd hj hlj bj
   have e1 := ah_inv_all ⟨w, by omega⟩ ⟨h, by omega⟩ ⟨i, by omega⟩ ⟨d, hd⟩ hi (by rw [← a2]; exact a0)
   have e2 := ah_inv_all ⟨w, by omega⟩ ⟨h, by omega⟩ ⟨j, by omega⟩ ⟨d, hd⟩ hj (by rw [← b2]; exact b0)
   simp only at e1 e2
   rw [← a2, he, b2] at e1
   have := e1.symm.trans e2
   omega
theorem mv_fits : Fits (mvF w h cs L d) (w * h) := by
 have key : ∀ x c, mvF w h cs L d x = some c → ∃ i : Nat, x = i ∧ i < w * h ∧ 0 ≤ rd L (i : Int) ∧ c = yC w h cs L d i := by
  intro x c hx
  unfold mvF at hx
  split at hx
  ·rename_i h1
   refine ⟨x.toNat, by omega, by omega, by rw [Int.toNat_of_nonneg h1.1]; exact h1.2.2, (Option.some.inj hx).symm⟩
  ·cases hx
 refine ⟨fun x c hx => ?_, fun x y c hx hy => ?_⟩
 ·obtain ⟨i, rfl, hi, hl, rfl⟩ := key x c hx
  obtain ⟨h1, h2, _⟩ := y_at hw hh hs hI hd hi hl
  exact ⟨by omega, by omega, h1, h2⟩
 ·obtain ⟨i, rfl, hi, hl, rfl⟩ := key x c hx
  obtain ⟨j, rfl, hj, hlj, e⟩ := key y _ hy
  rw [y_inj hw hh hs hI hd hi hj hl hlj e]
theorem at_hit {i : Nat} (hi : i < w * h) (hl : 0 ≤ rd L (i : Int)) : rd (csN w h cs L d) (yC w h cs L d i) = rd cs (i : Int) ∧ rd (laN w h cs L d) (yC w h cs L d i) = rd L (i : Int) := by
 have hf := mv_fits hw hh hs hI hd
 have hm := mv_some hw hh hs hI hd hi hl
 exact ⟨laid_at cs (emptyC cs) _ (by rw [hI.lc]; exact hf) _ _ hm, laid_at L _ _ (by rw [hI.ll]; exact hf) _ _ hm⟩
theorem at_off {c : Nat} (hc : c < w * h) (hx : ∀ i : Nat, i < w * h → 0 ≤ rd L (i : Int) → yC w h cs L d i ≠ c) : rd (csN w h cs L d) (c : Int) = rd (emptyC cs) (c : Int) ∧ rd (laN w h cs L d) (c : Int) = -1 := by
 have hno : ∀ x : Nat, x < w * h → mvF w h cs L d (x : Int) ≠ some (c : Int) := by
  intro x hx2 e
  by_cases hl : 0 ≤ rd L (x : Int)
  ·rw [mv_some hw hh hs hI hd hx2 hl] at e
   exact hx x hx2 hl (Option.some.inj e)
  ·rw [mv_none hw hh hs hI hd hl] at e
   cases e
 refine ⟨laid_off cs _ _ _ c (by rw [hI.lc]; exact hc) (by rw [hI.lc]; exact hno), ?_⟩
 refine (laid_off L _ _ _ c (by rw [hI.ll]; exact hc) (by rw [hI.ll]; exact hno)).trans ?_
 rw [rd_nat _ c (by simpa using hc), List.getElem_replicate]
theorem hit_or (c : Nat) : (∃ i : Nat, i < w * h ∧ 0 ≤ rd L (i : Int) ∧ yC w h cs L d i = c) ∨ ∀ i : Nat, i < w * h → 0 ≤ rd L (i : Int) → yC w h cs L d i ≠ c := by
 by_cases h1 : ∃ i : Nat, i < w * h ∧ 0 ≤ rd L (i : Int) ∧ yC w h cs L d i = c
 ·exact Or.inl h1
 ·exact Or.inr fun i h2 h3 h4 => h1 ⟨i, h2, h3, h4⟩
theorem si_next : SI w h (csN w h cs L d) (laN w h cs L d) n := by
 have hlc : (csN w h cs L d).length = w * h := (laid_len _ _ _ _).trans hI.lc
 have hll : (laN w h cs L d).length = w * h := (laid_len _ _ _ _).trans hI.ll
 have hoff : ∀ c : Nat, c < w * h → isB (rd (emptyC cs) (c : Int)) = false := by
  intro c hc
  rw [emptyC_rd cs c (by rw [hI.lc]; exact hc)]
  split
  ·exact isB_46
  ·rename_i h1
   simpa using h1
 refine ⟨hlc, hll, fun c hc => ?_, fun c hc => ?_, fun c hc h0 => ?_, fun p hp => ?_⟩
 ·rcases hit_or hw hh hs hI hd c with ⟨i, hi, hl, e⟩ | hx
  ·rw [← e, (at_hit hw hh hs hI hd hi hl).2]
   exact hI.lt i hi
  ·rw [(at_off hw hh hs hI hd hc hx).2]
   omega
 ·rcases hit_or hw hh hs hI hd c with ⟨i, hi, hl, e⟩ | hx
  ·unfold bI
   rw [← e, (at_hit hw hh hs hI hd hi hl).1, (at_hit hw hh hs hI hd hi hl).2]
   exact hI.ball i hi
  ·unfold bI
   rw [(at_off hw hh hs hI hd hc hx).2, (at_off hw hh hs hI hd hc hx).1, hoff c hc]
   simp
 ·rcases hit_or hw hh hs hI hd c with ⟨i, hi, hl, e⟩ | hx
  ·rw [← e, (at_hit hw hh hs hI hd hi hl).2] at h0
   omega
  ·exact (at_off hw hh hs hI hd hc hx).2
 ·obtain ⟨i, hi, e⟩ := hI.full p hp
  have hl : 0 ≤ rd L (i : Int) := by omega
  obtain ⟨h1, h2, _⟩ := y_at hw hh hs hI hd hi hl
  refine ⟨(yC w h cs L d i).toNat, by omega, ?_⟩
  rw [Int.toNat_of_nonneg h1, (at_hit hw hh hs hI hd hi hl).2]
  exact e
theorem wall_next (c : Nat) (hc : c < w * h) : rd (csN w h cs L d) (c : Int) = 35 ↔ rd cs (c : Int) = 35 := by
 rcases hit_or hw hh hs hI hd c with ⟨i, hi, hl, e⟩ | hx
 ·have h1 := (y_at hw hh hs hI hd hi hl).2.2
  rw [e] at h1
  have h2 : rd (csN w h cs L d) (c : Int) = rd cs (i : Int) := by rw [← e]; exact (at_hit hw hh hs hI hd hi hl).1
  have h3 := (hI.ball i hi).1 hl
  unfold bI at h3
  rw [h2]
  constructor
  ·intro h4
   rw [h4, isB_35] at h3
   cases h3
  ·intro h4
   exact absurd h4 h1
 ·rw [(at_off hw hh hs hI hd hc hx).1, emptyC_rd cs c (by rw [hI.lc]; exact hc)]
  split
  ·rename_i h1
   constructor
   ·intro h2
    omega
   ·intro h2
    rw [h2, isB_35] at h1
    cases h1
  ·exact Iff.rfl
theorem aA_next (i : Nat) (hi : i < w * h) : aA w h (csN w h cs L d) d i = aA w h cs d i := by
 unfold aA
 by_cases h1 : ah w h i d < 0
 ·rw [if_pos h1, if_pos h1]
 ·rw [if_neg h1, if_neg h1]
  have h2 := ah_lt hw hh hs hi hd
  have h3 := wall_next hw hh hs hI hd (ah w h i d).toNat (by omega)
  rw [Int.toNat_of_nonneg (by omega)] at h3
  by_cases h4 : rd cs (ah w h i d) = 35
  ·rw [if_pos h4, if_pos (h3.2 h4)]
  ·rw [if_neg h4, if_neg fun e => h4 (h3.1 e)]
theorem blk_next {p : Nat} (hp : Blk (w * h) (lb L) (aA w h cs d) p) : Blk (w * h) (lb (laN w h cs L d)) (aA w h (csN w h cs L d) d) p := by
 have stay : ∀ i q : Nat, i < w * h → lb L i = q → Blk (w * h) (lb L) (aA w h cs d) q → lb (laN w h cs L d) i = q := by
  intro i q hi hq hb
  have hy : yC w h cs L d i = i := if_pos (by rw [hq, Int.toNat_natCast]; exact hb)
  have h1 := (at_hit hw hh hs hI hd hi (by unfold lb at hq; omega)).2
  rw [hy] at h1
  unfold lb at hq ⊢
  rw [h1]
  exact hq
 induction hp with
 | side i p hi h1 h2 => exact Blk.side i p hi (stay i p hi h1 (Blk.side i p hi h1 h2)) (by rw [aA_next hw hh hs hI hd i hi]; exact h2)
 | push i j p q hi h1 h2 h3 h4 ih =>
  have hj : j < w * h := by
   have := aA_lt hw hh hs hI.lc hi hd
   rw [h2] at this
   omega
  exact Blk.push i j p q hi (stay i p hi h1 (Blk.push i j p q hi h1 h2 h3 h4)) (by rw [aA_next hw hh hs hI hd i hi]; exact h2) (stay j q hj h3 h4) ih
end
def Room (w h : Nat) (cs L : List Int) (n d m : Nat) : Prop := ∀ p : Nat, p < n → ¬ Blk (w * h) (lb L) (aA w h cs d) p → ∃ i : Nat, i < w * h ∧ rd L (i : Int) = p ∧ left w h i d < m
section
variable {w h : Nat} {cs L : List Int} {n d : Nat} (hw : w ≤ 7) (hh : h ≤ 7) (hs : w * h ≤ 36) (hI : SI w h cs L n) (hd : d < 4)
include hw hh hs hI hd
theorem room_start : Room w h cs L n d 7 := by
 intro p hp _
 obtain ⟨i, hi, e⟩ := hI.full p hp
 have := left_le hw hh hs hi hd
 exact ⟨i, hi, e, by omega⟩
theorem room_next {m : Nat} (hr : Room w h cs L n d (m + 1)) : Room w h (csN w h cs L d) (laN w h cs L d) n d m := by
 intro p hp hb
 have hb0 : ¬ Blk (w * h) (lb L) (aA w h cs d) p := fun h1 => hb (blk_next hw hh hs hI hd h1)
 obtain ⟨i, hi, e, hl⟩ := hr p hp hb0
 have hli : 0 ≤ rd L (i : Int) := by omega
 have hb1 : ¬ Blk (w * h) (lb L) (aA w h cs d) (lb L i).toNat := by
  unfold lb
  rw [e, Int.toNat_natCast]
  exact hb0
 obtain ⟨a0, a1, a2, _⟩ := free_at hw hh hs hI hd hi hli hb1
 have hy : yC w h cs L d i = aA w h cs d i := if_neg hb1
 have h1 := (at_hit hw hh hs hI hd hi hli).2
 have h2 := left_lt hw hh hs hi hd (by rw [← a2]; exact a0)
 refine ⟨(aA w h cs d i).toNat, by omega, ?_, ?_⟩
 ·rw [Int.toNat_of_nonneg a0, ← hy, h1]
  exact e
 ·rw [← a2] at h2
  omega
theorem still_next (hb : ∀ p : Nat, p < n → Blk (w * h) (lb L) (aA w h cs d) p) : csN w h cs L d = cs ∧ laN w h cs L d = L := by
 have hlc : (csN w h cs L d).length = w * h := (laid_len _ _ _ _).trans hI.lc
 have hll : (laN w h cs L d).length = w * h := (laid_len _ _ _ _).trans hI.ll
 have hy : ∀ i : Nat, i < w * h → 0 ≤ rd L (i : Int) → yC w h cs L d i = i := by
  intro i hi hl
  refine if_pos (hb _ ?_)
  have := hI.lt i hi
  unfold lb
  omega
 have key : ∀ c : Nat, c < w * h → rd (csN w h cs L d) (c : Int) = rd cs (c : Int) ∧ rd (laN w h cs L d) (c : Int) = rd L (c : Int) := by
  intro c hc
  by_cases hl : 0 ≤ rd L (c : Int)
  ·have h1 := at_hit hw hh hs hI hd hc hl
   rw [hy c hc hl] at h1
   exact h1
  ·have h1 := at_off hw hh hs hI hd hc (fun i hi hli e => by
    rw [hy i hi hli] at e
    have : i = c := by omega
    subst this
    exact hl hli)
   refine ⟨?_, ?_⟩
   ·rw [h1.1, emptyC_rd cs c (by rw [hI.lc]; exact hc), if_neg]
    intro h2
    exact hl ((hI.ball c hc).2 h2)
   ·rw [h1.2]
    exact (hI.low c hc (by omega)).symm
 constructor
 ·refine List.ext_getElem (by rw [hlc, hI.lc]) fun c h1 h2 => ?_
  have := (key c (by omega)).1
  rwa [rd_nat _ c h1, rd_nat _ c h2] at this
 ·refine List.ext_getElem (by rw [hll, hI.ll]) fun c h1 h2 => ?_
  have := (key c (by omega)).2
  rwa [rd_nat _ c h1, rd_nat _ c h2] at this
end
end Go.Proofs.YtgipkpiddjjhcaaDoor.Q
end
section
namespace Go.Proofs.YtgipkpiddjjhcaaDoor.Q
open Go.RowKit Go.Shelf Go.Proofs.YtgipkpiddjjhcaaDoorW.PrintWords Go.Proofs.YtgipkpiddjjhcaaDoorW.PrintLast Go.Proofs.YtgipkpiddjjhcaaDoorW.PrintMore
attribute [local go_sem] Oper.semAt_some
theorem bytes_at {w : World} {A : Option Addr} {l : List Int} (h : Kd.C (Kd.int .u8) w A l.length l) (h0 : 1 ≤ l.length) : ∃ b off, A = some ⟨b, off, none⟩ ∧ b < w.heap.size ∧ ∀ j, j < l.length → w.cell? ⟨b, off + j, none⟩ = some (.int .u8 (l.getD j 0)) := by
 obtain ⟨ad, rfl, _⟩ := Kd.at_int h 0 (by omega) (by omega)
 have hx : ∀ j : Nat, j < l.length → w.cell? (ad.add j) = some (.int .u8 (l.getD j 0)) := fun j hj => by
  obtain ⟨ad2, e2, h2⟩ := Kd.at_int h (j : Int) (by omega) (by omega)
  cases e2
  rw [Int.toNat_natCast] at h2
  rw [h2]
  unfold rd
  rw [Int.toNat_natCast]
 have h00 := hx 0 (by omega)
 have hsp : ad.spot = none := by
  rcases hs : ad.spot with _ | z
  ·rfl
  ·rw [Addr.add, if_pos rfl] at h00
   unfold World.cell? at h00
   split at h00
   ·rw [hs] at h00
    simp at h00
   ·cases h00
 obtain ⟨bk, o, sp⟩ := ad
 obtain rfl : sp = none := hsp
 refine ⟨bk, o, rfl, ?_, fun j hj => ?_⟩
 ·have := World.block_lt_of_cell? _ _ h00
  rw [Addr.add, if_pos rfl] at this
  exact this
 ·have h2 := hx j hj
  rw [Addr.add] at h2
  split at h2
  ·rename_i hz
   subst hz
   exact h2
  ·exact h2
end Go.Proofs.YtgipkpiddjjhcaaDoor.Q
end
section
namespace Go.Proofs.YtgipkpiddjjhcaaDoor.Q
open Go.RowKit Go.Shelf Go.Proofs.YtgipkpiddjjhcaaDoorW.PrintWords Go.Proofs.YtgipkpiddjjhcaaDoorW.PrintLast Go.Proofs.YtgipkpiddjjhcaaDoorW.PrintMore
def slices_Clone_u8.f (l0 : List Int) : Option (List Int) := if 1 ≤ l0.length ∧ l0.length ≤ 1000000 then some l0 else none
set_option maxHeartbeats 4000000 in
set_option maxRecDepth 100000 in
theorem slices_Clone_u8.calls (A0 : Option Addr) (c0 : Nat) (l0 : List Int) (r : List Int) (w : World) (hr0 : Kd.C (Kd.int .u8) w A0 l0.length l0) (hc0 : l0.length ≤ c0) (h : slices_Clone_u8.f l0 = some r) :
  Calls Tryd.prog 112 #[.slice A0 l0.length c0] w fun e w' => ∃ v0_ : Value, e = .returned (v0_) ∧ Kd.R (Kd.int .u8) 5 w' w.heap.size (fun _ => True) v0_ r ∧ Below w.heap.size w w' := by
 unfold slices_Clone_u8.f at h
 split at h
 case isFalse => cases h
 rename_i hn
 obtain rfl := Option.some.inj h
 obtain ⟨b, off, rfl, hb, hcell⟩ := bytes_at hr0 hn.1
 have q37 : ∀ (w : World) (a : Option Addr) (n c n' c' : Nat), (binOp .eql 34 (.slice a n c) (.slice none n' c')).run Tryd.prog w = .ok (.bool a.isNone) w := fun w a n c n' c' => Lib.run_eql_slice_nil w _ _ a n c n' c' Tryd.underlying34
 obtain ⟨i0, hi, hz0, hz1, hz2⟩ := info_parts info5
 have HC := Aside0.mk hcell
 clear hcell hr0 hc0 h
 go_enter Tryd.func112, Tryd.ntmps112
 go_wp2_with (at_builtin; refine wpList_append_own _ rfl _ _ 34 rfl w.heap.size 5 i0 (.int .u8 0) 1 1 Tryd.underlying34 hi hz0 hz1 hz2 rfl (by decide) _ _ _ rfl (World.ownsRow_made w #[] 0 (Nat.le_refl _) (Nat.zero_le _) (by simp)) ⟨b, off, none⟩ l0.length c0 (l0.map (Value.int .u8)) rfl ?qc1 ?qc2 ?qc3 ?qc4 ?qc5 ?qc6 ?_)
 case qc1 => simp
 case qc2 =>
  intro j u hj
  rw [Addr.add_lit]
  have hjl : j < l0.length := by
   have := (List.getElem?_eq_some_iff.1 hj).1
   simpa using this
  have h2 := HC.out j hjl
  rw [List.getElem?_map, List.getElem?_eq_getElem hjl] at hj
  obtain rfl := Option.some.inj hj
  rw [List.getD_eq_getElem?_getD, List.getElem?_eq_getElem hjl] at h2
  exact Lib.cell?_alloc_some _ h2
 case qc3 =>
  intro u hu
  obtain ⟨x, _, rfl⟩ := List.mem_map.1 hu
  rfl
 case qc4 => simp [maxLen]; omega
 case qc5 => omega
 case qc6 => simp
 intro v' w1 hown hgrow hnil
 go_wp2
 go_ret
 refine ⟨v', rfl, Kd.R_of_own (enc := Value.int .u8) (show w1.ownsRow w.heap.size 5 1 v' l0.length (l0.map (Value.int .u8)) by simpa using hown) (fun _ _ => trivial), ?_⟩
 exact ((Below.refl _ w).alloc (Nat.le_refl _) _).grown hgrow (by simp) (by intro k hk; simp [Value.ownBlock] at hk; omega)
end Go.Proofs.YtgipkpiddjjhcaaDoor.Q
end
section
namespace Go.Proofs.YtgipkpiddjjhcaaDoor.Q
open Go.RowKit Go.Proofs.YtgipkpiddjjhcaaDoorW.PrintWords Go.Proofs.YtgipkpiddjjhcaaDoorW.PrintLast Go.Proofs.YtgipkpiddjjhcaaDoorW.PrintMore
attribute [local go_sem] max2_int min2_int max_two min_two max_three min_three max_four min_four
set_option linter.unusedVariables false
set_option linter.unusedSimpArgs false
def impl_tray_own.f (a0_0 : Int) (a0_1 : Int) (l0_2 : List Int) : Option (Int × Int × List Int) := (slices_Clone_u8.f l0_2).bind fun t103 => (some (a0_0, a0_1, t103))
def impl_tray_own.T1 : Bool × List (List Nat × List Nat) := (true, [([], []), ([0], [0]), ([], []), ([2], [2]), ([], []), ([4], [4]), ([5], [5]), ([1, 3, 6], [1, 3, 6]), ([7, 6, 0, 1, 2, 3, 4, 5, 6, 7], [7])])
def impl_tray_own.B1 : List Nat := [0, 1, 0, 4, 0, 16, 48, 127, 255]
theorem impl_tray_own.tab1 : rtab .any (opsOf Tryd.f102 1) = impl_tray_own.T1 := by kernel_rfl
theorem impl_tray_own.bits1 : waitsOk impl_tray_own.T1.2 impl_tray_own.B1 = true := by kernel_rfl
set_option maxHeartbeats 8000000 in
set_option maxRecDepth 100000 in
theorem impl_tray_own.calls (a0_0 : Int) (a0_1 : Int) (A0_2 : Option Addr) (c0_2 : Nat) (l0_2 : List Int) (r1 : Int) (r2 : Int) (r3 : List Int) (w : World) (hr0_2 : Kd.C (Kd.int .u8) w A0_2 l0_2.length l0_2) (hc0_2 : l0_2.length ≤ c0_2) (h : impl_tray_own.f a0_0 a0_1 l0_2 = some (r1, r2, r3)) :
  Calls Tryd.prog 102 #[.agg #[.int .i64 a0_0, .int .i64 a0_1, .slice A0_2 l0_2.length c0_2]] w fun e w' => ∃ v2_ : Value, e = .returned (.agg #[.int .i64 r1, .int .i64 r2, v2_]) ∧ Kd.R (Kd.int .u8) 5 w' w.heap.size (fun _ => True) v2_ r3 ∧ Below w.heap.size w w' := by
 have hu46 := Tryd.underlying46
 have HR0_2 := Aside0.mk hr0_2
 have HC0_2 := Aside0.mk hc0_2
 clear hr0_2 hc0_2
 have HB := Aside0.mk (Below.refl w.heap.size w)
 have H : ((slices_Clone_u8.f l0_2).bind fun t103 => (some (a0_0, a0_1, t103))) = some (r1, r2, r3) := h
 clear h
 replace H := Option.bind_eq_some_iff.mp H
 obtain ⟨t103, A20, H⟩ := H
 replace H : (some (a0_0, a0_1, t103)) = some (r1, r2, r3) := H
 have A2 := Aside0.mk A20
 clear A20
 simp only [Option.some.injEq, Prod.mk.injEq] at H
 obtain ⟨rfl, rfl, rfl⟩ := H
 go_enter Tryd.func102, Tryd.ntmps102
 try go_wp2_with (first | ((with_reducible refine gate_dst (N := 1) rfl ?_); refine boxE (N := 1) (cs := #[.int .i64 a0_0, .int .i64 a0_1, .slice A0_2 l0_2.length c0_2]) (t := 46) ?_; intro gb101 hg w3 hbox hb; have n0_ := Aside0.mk (below_step (bel HB) hb); have n1_ := Aside0.mk (hbox); have n2_ := Aside0.mk (gsz hg (bel HB)); have n3_ := Aside0.mk (gsz hg (bel HB)); clear HB; have HB := n0_; have BK101 := n1_; have GW101 := n2_; have GE101 := n3_; clear n0_ n1_ n2_ n3_; clear hb hbox hg) | ((with_reducible refine gate_dst (N := 2) rfl ?_); refine boxE (N := 2) (cs := #[.int .i64 0, .int .i64 0, .slice none 0 0]) (t := 46) ?_; intro gb102 hg w4 hbox hb; have n0_ := Aside0.mk (blk_below (g := gb101) (o := .cells #[.int .i64 a0_0, .int .i64 a0_1, .slice A0_2 l0_2.length c0_2] 46 (0, 0)) blc hb); have n1_ := Aside0.mk (below_step (bel HB) hb); have n2_ := Aside0.mk (hbox); have n3_ := Aside0.mk (gsz hg (bel HB)); have n4_ := Aside0.mk (gsz hg (bel HB)); have n5_ := Aside0.mk ((by rw [hg]; exact Nat.ne_of_lt (blk_lt (g := gb101) (o := .cells #[.int .i64 a0_0, .int .i64 a0_1, .slice A0_2 l0_2.length c0_2] 46 (0, 0)) blc) : gb101 ≠ gb102)); have n6_ := Aside0.mk ((by rw [hg]; exact Nat.ne_of_gt (blk_lt (g := gb101) (o := .cells #[.int .i64 a0_0, .int .i64 a0_1, .slice A0_2 l0_2.length c0_2] 46 (0, 0)) blc) : gb102 ≠ gb101)); clear BK101; clear HB; have BK101 := n0_; have HB := n1_; have BK102 := n2_; have GW102 := n3_; have GE102 := n4_; have NB101_102 := n5_; have NB102_101 := n6_; clear n0_ n1_ n2_ n3_ n4_ n5_ n6_; clear hb hbox hg))
 have n0_ := Aside0.mk (blk_drew BK101.out)
 have n1_ := Aside0.mk (blk_drew BK102.out)
 have n2_ := Aside0.mk (below_drew1 HB.out)
 clear BK101
 clear BK102
 clear HB
 have BK101 := n0_
 have BK102 := n1_
 have HB := n2_
 clear n0_ n1_ n2_
 refine start_ (n := 9) (S := fun w' => w'.cell? ⟨gb101, 0, none⟩ = some (.int .i64 a0_0) ∧ w'.cell? ⟨gb101, 1, none⟩ = some (.int .i64 a0_1) ∧ w'.cell? ⟨gb101, 2, none⟩ = some (.slice A0_2 l0_2.length c0_2)) (ds := []) #[false, false, false, false, false, false, false, false, false] (by kernel_rfl) rfl rfl ⟨(blk_cell BK101.out 0).trans rfl, (blk_cell BK101.out 1).trans rfl, (blk_cell BK101.out 2).trans rfl⟩ (fun hHeld => ?_); refine with_tabW impl_tray_own.tab1 impl_tray_own.bits1 (fun HT_ HW_ => ?_)
 generalize w4.drew = w5 at BK101 BK102 HB hHeld ⊢
 refine pure_ (i := 0) (N := some 3) (v := ?_) (a' := ?_) #[true, false, false, false, false, false, false, false, false] rfl rfl (any_of HT_.out (by kernel_rfl)) (fun _ _ _ h => h) (Or.inl ⟨by rfl, ?_⟩) ?_ ?_
 rotate_left
 ·intro w'
  go_simp
  with_reducible rfl
 rotate_left
 ·simp only [Act.put, List.setIfInBounds_toArray, List.set_cons_zero, List.set_cons_succ, i64_w, i32_w]
  rfl
 refine pure_ (i := 2) (N := some 5) (v := ?_) (a' := ?_) #[true, false, true, false, false, false, false, false, false] rfl rfl (any_of HT_.out (by kernel_rfl)) (fun _ _ _ h => h) (Or.inl ⟨by rfl, ?_⟩) ?_ ?_
 rotate_left
 ·intro w'
  go_simp
  with_reducible rfl
 rotate_left
 ·simp only [Act.put, List.setIfInBounds_toArray, List.set_cons_zero, List.set_cons_succ, i64_w, i32_w]
  rfl
 refine pure_ (i := 4) (N := some 7) (v := ?_) (a' := ?_) #[true, false, true, false, true, false, false, false, false] rfl rfl (any_of HT_.out (by kernel_rfl)) (fun _ _ _ h => h) (Or.inl ⟨by rfl, ?_⟩) ?_ ?_
 rotate_left
 ·intro w'
  go_simp
  with_reducible rfl
 rotate_left
 ·simp only [Act.put, List.setIfInBounds_toArray, List.set_cons_zero, List.set_cons_succ, i64_w, i32_w]
  rfl
 refine take_ (i := 1) (N := some 4) (v := ?_) (a' := ?_) #[true, true, true, false, true, false, false, false, false] rfl rfl (take_ofW HT_.out HW_.out (by kernel_rfl)) (fun _ _ _ h => h) (Or.inl ⟨by rfl, ?_⟩) hHeld ?_ ?_
 rotate_left
 ·rintro w' ⟨s0, s1, s2⟩
  go_simp
  with_reducible rfl
 rotate_left
 ·simp only [Act.put, List.setIfInBounds_toArray, List.set_cons_zero, List.set_cons_succ, i64_w, i32_w]
  rfl
 refine take_ (i := 3) (N := some 6) (v := ?_) (a' := ?_) #[true, true, true, true, true, false, false, false, false] rfl rfl (take_ofW HT_.out HW_.out (by kernel_rfl)) (fun _ _ _ h => h) (Or.inl ⟨by rfl, ?_⟩) hHeld ?_ ?_
 rotate_left
 ·rintro w' ⟨s0, s1, s2⟩
  go_simp
  with_reducible rfl
 rotate_left
 ·simp only [Act.put, List.setIfInBounds_toArray, List.set_cons_zero, List.set_cons_succ, i64_w, i32_w]
  rfl
 refine take_ (i := 5) (N := some 8) (v := ?_) (a' := ?_) #[true, true, true, true, true, true, false, false, false] rfl rfl (take_ofW HT_.out HW_.out (by kernel_rfl)) (fun _ _ _ h => h) (Or.inl ⟨by rfl, ?_⟩) hHeld ?_ ?_
 rotate_left
 ·rintro w' ⟨s0, s1, s2⟩
  go_simp
  with_reducible rfl
 rotate_left
 ·simp only [Act.put, List.setIfInBounds_toArray, List.set_cons_zero, List.set_cons_succ, i64_w, i32_w]
  rfl
 refine one_ (i := 6) (N := some 9) #[true, true, true, true, true, true, true, false, false] rfl rfl (one_of HT_.out (by kernel_rfl)) (by decide) (fun K hK => ?_)
 refine goes_ Tryd.func112 (by kernel_rfl) rfl #[.slice A0_2 l0_2.length c0_2] (by rfl) rfl rfl (by (try simp only [List.map_toArray, List.map_cons, List.map_nil]); first | done | rfl | (simp only [List.length_drop, List.length_take]; rfl)) ?_
 with_reducible refine (slices_Clone_u8.calls _ _ l0_2 t103 _ ?side1 ?side2 A2.out).mono ?_
 (case side1 => repeat (first | exact (Kd.C_below HR0_2.out HB.out) | (with_reducible refine Kd.C_alloc ?_ _) | (with_reducible refine Kd.C_drewN ?_ _) | (with_reducible refine Kd.C_drew ?_)))
 (case side2 => exact HC0_2.out)
 rintro e w6 ⟨v104, rfl, ho0, hb⟩
 refine ⟨_, rfl, ?_⟩
 have n0_ := Aside0.mk (Kd.R_lower ho0 (below_size (bel HB)))
 have n1_ := Aside0.mk (blk_below (g := gb101) (o := .cells #[.int .i64 a0_0, .int .i64 a0_1, .slice A0_2 l0_2.length c0_2] 46 (0, 0)) blc hb)
 have n2_ := Aside0.mk (blk_below (g := gb102) (o := .cells #[.int .i64 0, .int .i64 0, .slice none 0 0] 46 (0, 0)) blc hb)
 have n3_ := Aside0.mk (below_step (bel HB) hb)
 clear BK101
 clear BK102
 clear HB
 have HO105 := n0_
 have BK101 := n1_
 have BK102 := n2_
 have HB := n3_
 clear n0_ n1_ n2_ n3_
 (try clear hb)
 (try clear hb2)
 (try clear hk)
 (try clear hi)
 (try clear ho0)
 obtain ⟨Ao7, co7, eo7⟩ := Kd.R_slice HO105.out
 (first | subst eo7 | (injection eo7 with f1_ f2_ f3_; have f4_ := f1_.symm; have f5_ := f3_.symm; clear f1_ f2_ f3_; subst f4_; subst f5_))
 refine hK.out _ _ ⟨(blk_cell BK101.out 0).trans rfl, (blk_cell BK101.out 1).trans rfl, (blk_cell BK101.out 2).trans rfl⟩ (fun hHeld => ?_)
 clear hK K
 refine norm_ (a' := ?_) ?_ ?_
 rotate_left
 ·show Act.put _ (some 9) _ = _
  simp only [Act.put, List.setIfInBounds_toArray, List.set_cons_zero, List.set_cons_succ, i64_w, i32_w]
  rfl
 refine pure_ (i := 7) (N := some 10) (v := ?_) (a' := ?_) #[true, true, true, true, true, true, true, true, false] rfl rfl (any_of HT_.out (by kernel_rfl)) (fun _ _ _ h => h) (Or.inl ⟨by rfl, ?_⟩) ?_ ?_
 rotate_left
 ·intro w'
  go_simp
  with_reducible rfl
 rotate_left
 ·simp only [Act.put, List.setIfInBounds_toArray, List.set_cons_zero, List.set_cons_succ, i64_w, i32_w]
  rfl
 refine one_ (i := 8) (N := none) #[true, true, true, true, true, true, true, true, true] rfl rfl (one_of HT_.out (by kernel_rfl)) (by decide) (fun K hK => ?_)
 have hs8 : w6.cell? ⟨gb102, 0, none⟩ = some (.int .i64 0) := (blk_cell BK102.out 0).trans rfl
 have hfs8 := blk_frozen BK102.out 0
 have hns8_0 := NB101_102.out
 have hms8_0 := NB102_101.out
 have hs9 : w6.cell? ⟨gb102, 1, none⟩ = some (.int .i64 0) := (blk_cell BK102.out 1).trans rfl
 have hfs9 := blk_frozen BK102.out 1
 have hns9_0 := NB101_102.out
 have hms9_0 := NB102_101.out
 have hs10 : w6.cell? ⟨gb102, 2, none⟩ = some (.slice none 0 0) := (blk_cell BK102.out 2).trans rfl
 have hfs10 := blk_frozen BK102.out 2
 have hns10_0 := NB101_102.out
 have hms10_0 := NB102_101.out
 refine skip_ (w1 := ?_) (by rfl) rfl ?_ ?_
 rotate_left
 ·go_simp
  rfl
 refine hK.out _ _ ⟨((cell_far (p := ⟨gb102, _, none⟩) NB101_102.out _).trans (((cell_far (p := ⟨gb102, _, none⟩) NB101_102.out _).trans (((cell_far (p := ⟨gb102, _, none⟩) NB101_102.out _).trans (hHeld.1)))))), ((cell_far (p := ⟨gb102, _, none⟩) NB101_102.out _).trans (((cell_far (p := ⟨gb102, _, none⟩) NB101_102.out _).trans (((cell_far (p := ⟨gb102, _, none⟩) NB101_102.out _).trans (hHeld.2.1)))))), ((cell_far (p := ⟨gb102, _, none⟩) NB101_102.out _).trans (((cell_far (p := ⟨gb102, _, none⟩) NB101_102.out _).trans (((cell_far (p := ⟨gb102, _, none⟩) NB101_102.out _).trans (hHeld.2.2))))))⟩ (fun hHeld => ?_)
 clear hK K
 refine done_ (done_of HT_.out (by kernel_rfl)) ?_
 try go_wp2
 refine bodyPost_ret (results_cell_row rfl _ _ gb102 46 #[.int .i64 a0_0, .int .i64 a0_1, .slice Ao7 t103.length co7] (0, 0) _ rfl (by (with_reducible repeat (first | refine blk_drewN ?_ _ | refine blk_drew ?_ | refine blk_alloc ?_ _)); refine blk_put (cs := #[.int .i64 a0_0, .int .i64 a0_1, .slice none 0 0]) ?_ 2 _ rfl; (with_reducible repeat (first | refine blk_drewN ?_ _ | refine blk_drew ?_ | refine blk_alloc ?_ _)); refine blk_put (cs := #[.int .i64 a0_0, .int .i64 0, .slice none 0 0]) ?_ 1 _ rfl; (with_reducible repeat (first | refine blk_drewN ?_ _ | refine blk_drew ?_ | refine blk_alloc ?_ _)); refine blk_put (cs := #[.int .i64 0, .int .i64 0, .slice none 0 0]) ?_ 0 _ rfl; exact blc) Tryd.underlying46 rfl (by kernel_rfl)) rfl ?_
 exact ⟨_, by first | rfl | (simp [errW_none, errW_some] <;> rfl) | (simp [*, errW_none, errW_some] <;> rfl), by (with_reducible repeat (first | apply Kd.R_alloc | apply Kd.R_drewN | apply Kd.R_drew)); exact Kd.R_mono (Kd.R_far (p := ⟨gb102, 2, none⟩) (Kd.R_far (p := ⟨gb102, 1, none⟩) (Kd.R_far (p := ⟨gb102, 0, none⟩) (Kd.R_types HO105.out BK102.out (by decide)) (fun _ hk => hk.2) (.int .i64 a0_0)) (fun _ hk => hk.2) (.int .i64 a0_1)) (fun _ hk => hk.2) (.slice Ao7 t103.length co7)) (fun _ hk => trivial), bel HB⟩
end Go.Proofs.YtgipkpiddjjhcaaDoor.Q
end
section
namespace Go.Proofs.YtgipkpiddjjhcaaDoor.Q
open Go.RowKit Go.Proofs.YtgipkpiddjjhcaaDoorW.PrintWords Go.Proofs.YtgipkpiddjjhcaaDoorW.PrintLast Go.Proofs.YtgipkpiddjjhcaaDoorW.PrintMore
def impl_tray_emptied.f (w h : Int) (cs : List Int) : Option (Int × Int × List Int) := if 0 < cs.length ∧ cs.length ≤ 1000 then some (w, h, emptyC cs) else none
def halfE (cs : List Int) (t : Nat) : List Int := emptyC (cs.take t) ++ cs.drop t
theorem own_val (w h : Int) (cs : List Int) (h0 : 0 < cs.length) (hl : cs.length ≤ 1000) : impl_tray_own.f w h cs = some (w, h, cs) := by
 unfold impl_tray_own.f slices_Clone_u8.f
 rw [if_pos ⟨h0, by omega⟩]
 rfl
theorem halfE_all (cs : List Int) : halfE cs cs.length = emptyC cs := by
 unfold halfE
 rw [List.take_length, List.drop_length, List.append_nil]
theorem halfE_at (cs : List Int) (t : Nat) (h : t < cs.length) : rdOf 0 (halfE cs t) (t : Int) = rd cs (t : Int) := by
 have hl : (emptyC (cs.take t)).length = t := by
  unfold emptyC
  simp
  omega
 unfold rdOf rd halfE
 rw [Int.toNat_natCast, List.getD_eq_getElem?_getD, List.getD_eq_getElem?_getD, List.getElem?_append_right (by omega), hl, Nat.sub_self, List.getElem?_drop, Nat.add_zero]
theorem halfE_succ (cs : List Int) (t : Nat) (h : t < cs.length) : halfE cs (t + 1) = if isB (rd cs (t : Int)) = true then (halfE cs t).set t 46 else halfE cs t := by
 have e1 : cs.take (t + 1) = cs.take t ++ [cs[t]] := List.take_succ_eq_append_getElem h
 have e2 : cs.drop t = cs[t] :: cs.drop (t + 1) := List.drop_eq_getElem_cons h
 have hl : (emptyC (cs.take t)).length = t := by
  unfold emptyC
  simp
  omega
 rw [rd_nat cs t h]
 unfold halfE
 rw [e1, e2]
 have e3 : emptyC (cs.take t ++ [cs[t]]) = emptyC (cs.take t) ++ [if isB cs[t] = true then 46 else cs[t]] := by
  unfold emptyC
  rw [List.map_append]
  rfl
 rw [e3, List.append_assoc]
 by_cases hb : isB cs[t] = true
 ·rw [if_pos hb, if_pos hb, List.set_append_right _ _ (by omega), hl, Nat.sub_self]
  rfl
 ·rw [if_neg hb, if_neg hb]
  rfl
structure EM (w W : World) (gr go gb : Nat) (a b : Int) (n c : Nat) (xs : List Int) : Prop where
 below : Below w.heap.size w W
 res : W.heap[gr]? = some (.cells #[.int .i64 0, .int .i64 0, .slice none 0 0] 46 (0, 0))
 out : W.heap[go]? = some (.cells #[.int .i64 a, .int .i64 b, .slice (some ⟨gb, 0, none⟩) n c] 46 (0, 0))
 row : Kd.R (Kd.int .u8) 5 W w.heap.size (fun _ => True) (.slice (some ⟨gb, 0, none⟩) n c) xs
 gr0 : w.heap.size ≤ gr
 go0 : w.heap.size ≤ go
 gb0 : w.heap.size ≤ gb
 ne : gr ≠ go
 len : xs.length = n
section
variable {w W W1 : World} {gr go gb n c : Nat} {a b : Int} {xs : List Int}
theorem EM.step (h : EM w W gr go gb a b n c xs) (hb : Below W.heap.size W W1) : EM w W1 gr go gb a b n c xs :=
 ⟨below_then h.below h.below.size hb, (hb.block _ (blk_lt h.res)).trans h.res, (hb.block _ (blk_lt h.out)).trans h.out, Kd.R_below h.row hb, h.gr0, h.go0, h.gb0, h.ne, h.len⟩
theorem EM.neb (h : EM w W gr go gb a b n c xs) : gr ≠ gb ∧ go ≠ gb :=
 ⟨fun e => Kd.R_ne h.row h.res (by decide) (by rw [e]; rfl), fun e => Kd.R_ne h.row h.out (by decide) (by rw [e]; rfl)⟩
theorem EM.set (h : EM w W gr go gb a b n c xs) (i x : Int) : EM w (W.setCell ⟨gb, i.toNat, none⟩ (.int .u8 x)) gr go gb a b n c (xs.set i.toNat x) := by
 obtain ⟨n1, n2⟩ := h.neb
 exact ⟨below_set h.below h.gb0, blk_far h.res n1 _, blk_far h.out n2 _, (Kd.R_putg h.row i x).1, h.gr0, h.go0, h.gb0, h.ne, by rw [List.length_set]; exact h.len⟩
end
set_option maxHeartbeats 16000000 in
set_option maxRecDepth 100000 in
theorem impl_tray_emptied.calls (a0_0 a0_1 : Int) (A0_2 : Option Addr) (c0_2 : Nat) (l0_2 : List Int) (r1 r2 : Int) (r3 : List Int) (w : World) (hr0_2 : Kd.C (Kd.int .u8) w A0_2 l0_2.length l0_2) (hc0_2 : l0_2.length ≤ c0_2) (h : impl_tray_emptied.f a0_0 a0_1 l0_2 = some (r1, r2, r3)) :
  Calls Tryd.prog 83 #[.agg #[.int .i64 a0_0, .int .i64 a0_1, .slice A0_2 l0_2.length c0_2]] w fun e w' => ∃ v2_ : Value, e = .returned (.agg #[.int .i64 r1, .int .i64 r2, v2_]) ∧ Kd.R (Kd.int .u8) 5 w' w.heap.size (fun _ => True) v2_ r3 ∧ Below w.heap.size w w' := by
 unfold impl_tray_emptied.f at h
 split at h
 case isFalse => cases h
 rename_i hl
 simp only [Option.some.injEq, Prod.mk.injEq] at h
 obtain ⟨rfl, rfl, rfl⟩ := h
 have hu := Tryd.underlying46
 have HR := Aside0.mk hr0_2
 have HC := Aside0.mk hc0_2
 have HL := Aside0.mk hl
 have HV := Aside0.mk (own_val a0_0 a0_1 l0_2 hl.1 hl.2)
 clear hr0_2 hc0_2 hl
 go_enter Tryd.func83, Tryd.ntmps83
 go_wp2_with (first
  | ((with_reducible refine gate_dst (N := 1) rfl ?_); refine box_event ?hg (N := 1) ?hd (cs := #[.int .i64 a0_0, .int .i64 a0_1, .slice A0_2 l0_2.length c0_2]) (t := 46) ?hr ?_; (case hd => rfl); (case hg => rfl); (case hr => first | (go_simp; done) | (go_simp; rfl)); intro gt hg w1 hbox hb; (have HB1 := Aside0.mk hb); (have HT := Aside0.mk hbox); clear hbox hb hg)
  | ((with_reducible refine gate_dst (N := 2) rfl ?_); refine box_event ?hg (N := 2) ?hd (cs := #[.int .i64 0, .int .i64 0, .slice none 0 0]) (t := 46) ?hr ?_; (case hd => rfl); (case hg => rfl); (case hr => first | (go_simp; done) | (go_simp; rfl)); intro gr hg w2 hbox hb; (have HG2 := Aside0.mk (show w.heap.size ≤ gr by rw [hg]; exact HB1.out.size)); (have HB2 := Aside0.mk (below_then HB1.out HB1.out.size hb)); (have HT2 := Aside0.mk ((hb.block gt (blk_lt HT.out)).trans HT.out)); (have HRS := Aside0.mk hbox); (have z0 := (blk_cell HT2.out 0).trans rfl); (have z1 := (blk_cell HT2.out 1).trans rfl); (have z2 := (blk_cell HT2.out 2).trans rfl); clear hbox hb hg HT HB1))
 refine (impl_tray_own.calls a0_0 a0_1 _ c0_2 l0_2 a0_0 a0_1 l0_2 _ (Kd.C_below HR.out HB2.out) HC.out HV.out).mono ?_
 rintro e w3 ⟨v2, rfl, ho, hb3⟩
 obtain ⟨gb, c, rfl, hgb, hlb, cl, hcl⟩ := Kd.R_form ho HL.out.1
 have HB3 := Aside0.mk (below_then HB2.out HB2.out.size hb3)
 have HRS3 := Aside0.mk ((hb3.block gr (blk_lt HRS.out)).trans HRS.out)
 have HO3 := Aside0.mk (Kd.R_lower ho HB2.out.size)
 have HGB := Aside0.mk (Nat.le_trans HB2.out.size hgb)
 clear z0 z1 z2 HT2 HRS HB2 ho hb3 hgb hlb hcl
 go_wp2_with (first
  | ((with_reducible refine gate_dst (N := 3) rfl ?_); refine box_event ?hg (N := 3) ?hd (cs := #[.int .i64 0, .int .i64 0, .slice none 0 0]) (t := 46) ?hr ?_; (case hd => rfl); (case hg => rfl); (case hr => first | (go_simp; done) | (go_simp; rfl)); intro go hg w4 hbox hb; (have HGO := Aside0.mk (show w.heap.size ≤ go by rw [hg]; exact HB3.out.size)); (have HNE := Aside0.mk (show gr ≠ go by rw [hg]; exact Nat.ne_of_lt (blk_lt HRS3.out))); (have HB4 := Aside0.mk (below_then HB3.out HB3.out.size hb)); (have HRS4 := Aside0.mk ((hb.block gr (blk_lt HRS3.out)).trans HRS3.out)); (have HO4 := Aside0.mk (Kd.R_below HO3.out hb)); (have HU := Aside0.mk hbox); (have y0 := (blk_cell HU.out 0).trans rfl); (have y1 := (blk_cell HU.out 1).trans rfl); (have y2 := (blk_cell HU.out 2).trans rfl); (have f0 := blk_frozen HU.out 0); (have f1 := blk_frozen HU.out 1); (have f2 := blk_frozen HU.out 2); clear hbox hb hg HB3 HRS3 HO3)
  | ((with_reducible refine gate_store (t := 46) (p := 3) rfl ?_); refine store_event (t := 46) (p := 3) (v := ?vo) (w1 := (((w4.setCell ⟨go, 0, none⟩ (.int .i64 a0_0)).setCell ⟨go, 1, none⟩ (.int .i64 a0_1)).setCell ⟨go, 2, none⟩ (.slice (some ⟨gb, 0, none⟩) l0_2.length c))) ?hg ?ho ?hn ?hr ?_; (case ho => rfl); (case hg => rfl); (case hn => rfl); (case hr => first | (go_simp; done) | (go_simp; rfl)); intro w5 hw; (have HE := Aside0.mk (show EM w w5 gr go gb a0_0 a0_1 l0_2.length c l0_2 from by rw [hw]; exact ⟨below_set (below_set (below_set HB4.out HGO.out) HGO.out) HGO.out, blk_far (blk_far (blk_far HRS4.out HNE.out _) HNE.out _) HNE.out _, (by refine blk_put (cs := #[.int .i64 a0_0, .int .i64 a0_1, .slice none 0 0]) ?_ 2 _ rfl; refine blk_put (cs := #[.int .i64 a0_0, .int .i64 0, .slice none 0 0]) ?_ 1 _ rfl; refine blk_put (cs := #[.int .i64 0, .int .i64 0, .slice none 0 0]) ?_ 0 _ rfl; exact HU.out), Kd.R_mono (Kd.R_far (p := ⟨go, 2, none⟩) (Kd.R_far (p := ⟨go, 1, none⟩) (Kd.R_far (p := ⟨go, 0, none⟩) (Kd.R_types HO4.out HU.out (by decide)) (fun _ hk => hk.2) (.int .i64 a0_0)) (fun _ hk => hk.2) (.int .i64 a0_1)) (fun _ hk => hk.2) (.slice (some ⟨gb, 0, none⟩) l0_2.length c)) (fun _ _ => trivial), HG2.out, HGO.out, HGB.out, HNE.out, rfl⟩)); clear hw HU HO4 HRS4 HB4 y0 y1 y2 f0 f1 f2; (have y0 := (blk_cell HE.out.out 0).trans rfl); (have y1 := (blk_cell HE.out.out 1).trans rfl); (have y2 := (blk_cell HE.out.out 2).trans rfl)))
 have HE0 := Aside0.mk (show EM w w5 gr go gb a0_0 a0_1 l0_2.length c (halfE l0_2 0) from HE.out)
 have HL2 := Aside0.mk HL.out.2
 clear HE y0 y1 y2
 go_loopg [11] l0_2.length (fun gg v11 wr => ∃ t : Nat, v11 = .int .i64 t ∧ Aside0 (t ≤ l0_2.length ∧ l0_2.length - t ≤ gg) ∧ Aside0 (EM w wr gr go gb a0_0 a0_1 l0_2.length c (halfE l0_2 t)))
 case atStart => exact ⟨0, rfl, ⟨Nat.zero_le _, by omega⟩, HE0⟩
 case round =>
  clear HE0
  obtain ⟨t, rfl, HA, HE⟩ := hrel
  have y0 := (blk_cell HE.out.out 0).trans rfl
  have y1 := (blk_cell HE.out.out 1).trans rfl
  have y2 := (blk_cell HE.out.out 2).trans rfl
  have hwt : wrap64 ((t : Int) + 1) = ((t + 1 : Nat) : Int) := by
   have := HA.out
   have := HL2.out
   unfold wrap64
   omega
  by_cases hlt : t < l0_2.length
  ·have c1 : decide ((t : Int) < (l0_2.length : Int)) = true := decide_eq_true (by omega)
   have p1 : (0 ≤ (t : Int)) = True := eq_true (by omega)
   have p2 : ((t : Int) < (l0_2.length : Int)) = True := eq_true (by omega)
   obtain ⟨x0, x1⟩ := Kd.R_celln 0 HE.out.row (t : Int) (by omega) (by omega)
   rw [halfE_at l0_2 t hlt] at x0
   rw [Int.toNat_natCast] at x0 x1
   have hsucc := halfE_succ l0_2 t hlt
   generalize rd l0_2 (t : Int) = v at x0 hsucc
   have HS := Aside0.mk hsucc
   clear hsucc
   cases hb : isB v with
   | true =>
    have hv := isBall_eq v
    rw [hb] at hv
    have HV2 := Aside0.mk hv
    clear hv
    go_wp2_with (go_at_call 63; refine (impl_isBall.calls v true _ HV2.out).mono ?_; rintro e w6 ⟨rfl, ⟨nd, rfl⟩⟩; (have HE6 := Aside0.mk (HE.out.step (pw_below_drewN (Below.refl _ _) nd))); clear y0 y1 y2 x0 x1; (have y0 := (blk_cell HE6.out.out 0).trans rfl); (have y1 := (blk_cell HE6.out.out 1).trans rfl); (have y2 := (blk_cell HE6.out.out 2).trans rfl); (obtain ⟨x0, x1⟩ := Kd.R_celln 0 HE6.out.row (t : Int) (by omega) (by omega)); rw [Int.toNat_natCast] at x0 x1)
    go_roundg (l0_2.length - (t + 1))
    case measure => have := HA.out; omega
    case rel =>
     refine ⟨t + 1, by first | rfl | rw [hwt], ⟨by have := HA.out; omega, Nat.le_refl _⟩, ?_⟩
     have h8 := HE6.out.set (t : Int) 46
     rw [Int.toNat_natCast] at h8
     rw [HS.out, if_pos hb]
     exact ⟨h8⟩
   | false =>
    have hv := isBall_eq v
    rw [hb] at hv
    have HV2 := Aside0.mk hv
    clear hv
    go_wp2_with (go_at_call 63; refine (impl_isBall.calls v false _ HV2.out).mono ?_; rintro e w6 ⟨rfl, ⟨nd, rfl⟩⟩; (have HE6 := Aside0.mk (HE.out.step (pw_below_drewN (Below.refl _ _) nd))); clear y0 y1 y2 x0 x1; (have y0 := (blk_cell HE6.out.out 0).trans rfl); (have y1 := (blk_cell HE6.out.out 1).trans rfl); (have y2 := (blk_cell HE6.out.out 2).trans rfl); (obtain ⟨x0, x1⟩ := Kd.R_celln 0 HE6.out.row (t : Int) (by omega) (by omega)); rw [Int.toNat_natCast] at x0 x1)
    go_roundg (l0_2.length - (t + 1))
    case measure => have := HA.out; omega
    case rel =>
     refine ⟨t + 1, by first | rfl | rw [hwt], ⟨by have := HA.out; omega, Nat.le_refl _⟩, ?_⟩
     rw [HS.out, if_neg (by rw [hb]; decide)]
     exact HE6
  ·have hAt := HA.out.1
   obtain rfl : t = l0_2.length := by omega
   have c1 : decide ((l0_2.length : Int) < (l0_2.length : Int)) = false := decide_eq_false (by omega)
   clear hAt HA hlt hwt
   rw [halfE_all] at HE
   have r0 := (blk_cell HE.out.res 0).trans rfl
   have r1 := (blk_cell HE.out.res 1).trans rfl
   have r2 := (blk_cell HE.out.res 2).trans rfl
   have g0 := blk_frozen HE.out.res 0
   have g1 := blk_frozen HE.out.res 1
   have g2 := blk_frozen HE.out.res 2
   go_wp2_with fail
   refine bodyPost_ret (results_cell_row rfl _ _ gr 46 #[.int .i64 a0_0, .int .i64 a0_1, .slice (some ⟨gb, 0, none⟩) l0_2.length c] (0, 0) _ rfl (by refine blk_put (cs := #[.int .i64 a0_0, .int .i64 a0_1, .slice none 0 0]) ?_ 2 _ rfl; refine blk_put (cs := #[.int .i64 a0_0, .int .i64 0, .slice none 0 0]) ?_ 1 _ rfl; refine blk_put (cs := #[.int .i64 0, .int .i64 0, .slice none 0 0]) ?_ 0 _ rfl; exact HE.out.res) Tryd.underlying46 rfl (by kernel_rfl)) rfl ?_
   exact ⟨_, rfl, Kd.R_mono (Kd.R_far (p := ⟨gr, 2, none⟩) (Kd.R_far (p := ⟨gr, 1, none⟩) (Kd.R_far (p := ⟨gr, 0, none⟩) (Kd.R_types HE.out.row HE.out.res (by decide)) (fun _ hk => hk.2) (.int .i64 a0_0)) (fun _ hk => hk.2) (.int .i64 a0_1)) (fun _ hk => hk.2) (.slice (some ⟨gb, 0, none⟩) l0_2.length c)) (fun _ _ => trivial), below_set (below_set (below_set HE.out.below HE.out.gr0) HE.out.gr0) HE.out.gr0⟩
end Go.Proofs.YtgipkpiddjjhcaaDoor.Q
end
section
namespace Go.Proofs.YtgipkpiddjjhcaaDoor.Q
open Go.RowKit Go.Proofs.YtgipkpiddjjhcaaDoorW.PrintWords Go.Proofs.YtgipkpiddjjhcaaDoorW.PrintLast Go.Proofs.YtgipkpiddjjhcaaDoorW.PrintMore
attribute [local go_sem] max2_int min2_int max_two min_two max_three min_three max_four min_four
set_option linter.unusedVariables false
set_option linter.unusedSimpArgs false
def spec_tyCopy.f (a0_0 : Int) (a0_1 : Int) (l0_2 : List Int) : Option (Int × Int × List Int) := (some (([] : List Int) : List Int)).bind fun y103 => (if y103.length + l0_2.length < 140737488355328 then (some (a0_0, a0_1, (y103 ++ l0_2))) else (none))
def spec_tyCopy.T1 : Bool × List (List Nat × List Nat) := (true, [([], []), ([0], [0]), ([], []), ([2], [2]), ([], []), ([], []), ([5], [5]), ([4, 6], [4, 6]), ([1, 3, 7], [1, 3, 7]), ([8, 7, 0, 1, 2, 3, 4, 5, 6, 7, 8], [8])])
def spec_tyCopy.B1 : List Nat := [0, 1, 0, 4, 0, 0, 32, 112, 255, 511]
theorem spec_tyCopy.tab1 : rtab .any (opsOf Tryd.f70 1) = spec_tyCopy.T1 := by kernel_rfl
theorem spec_tyCopy.bits1 : waitsOk spec_tyCopy.T1.2 spec_tyCopy.B1 = true := by kernel_rfl
set_option maxHeartbeats 8000000 in
set_option maxRecDepth 100000 in
theorem spec_tyCopy.calls (a0_0 : Int) (a0_1 : Int) (A0_2 : Option Addr) (c0_2 : Nat) (l0_2 : List Int) (r1 : Int) (r2 : Int) (r3 : List Int) (w : World) (hr0_2 : Kd.C (Kd.int .u8) w A0_2 l0_2.length l0_2) (hc0_2 : l0_2.length ≤ c0_2) (h : spec_tyCopy.f a0_0 a0_1 l0_2 = some (r1, r2, r3)) :
  Calls Tryd.prog 70 #[.agg #[.int .i64 a0_0, .int .i64 a0_1, .slice A0_2 l0_2.length c0_2]] w fun e w' => ∃ v2_ : Value, e = .returned (.agg #[.int .i64 r1, .int .i64 r2, v2_]) ∧ Kd.R (Kd.int .u8) 5 w' w.heap.size (fun _ => True) v2_ r3 ∧ Below w.heap.size w w' := by
 have hu36 := Tryd.underlying36
 have HR0_2 := Aside0.mk hr0_2
 have HC0_2 := Aside0.mk hc0_2
 clear hr0_2 hc0_2
 have HB := Aside0.mk (Below.refl w.heap.size w)
 have H : ((some (([] : List Int) : List Int)).bind fun y103 => (if y103.length + l0_2.length < 140737488355328 then (some (a0_0, a0_1, (y103 ++ l0_2))) else (none))) = some (r1, r2, r3) := h
 clear h
 obtain ⟨y103, hy103⟩ : ∃ y_ : List Int, y_ = (([] : List Int)) := ⟨_, rfl⟩
 replace H : (if y103.length + l0_2.length < 140737488355328 then (some (a0_0, a0_1, (y103 ++ l0_2))) else (none)) = some (r1, r2, r3) := rH hy103 H
 have Ny103 := Aside0.mk hy103
 clear hy103
 by_cases c2 : y103.length + l0_2.length < 140737488355328
 ·rw [if_pos c2] at H
  have LMc2 := Aside0.mk c2
  clear c2
  obtain ⟨y106, hy106⟩ : ∃ y_ : List Int, y_ = (y103 ++ l0_2) := ⟨_, rfl⟩
  replace H : (some (a0_0, a0_1, y106)) = some (r1, r2, r3) := rH hy106 H
  have Ny106 := Aside0.mk hy106
  clear hy106
  simp only [Option.some.injEq, Prod.mk.injEq] at H
  obtain ⟨rfl, rfl, rfl⟩ := H
  go_enter Tryd.func70, Tryd.ntmps70
  try go_wp2_with (first | ((with_reducible refine gate_dst (N := 1) rfl ?_); refine boxE (N := 1) (cs := #[.int .i64 a0_0, .int .i64 a0_1, .slice A0_2 l0_2.length c0_2]) (t := 36) ?_; intro gb101 hg w3 hbox hb; have n0_ := Aside0.mk (below_step (bel HB) hb); have n1_ := Aside0.mk (hbox); have n2_ := Aside0.mk (gsz hg (bel HB)); have n3_ := Aside0.mk (gsz hg (bel HB)); clear HB; have HB := n0_; have BK101 := n1_; have GW101 := n2_; have GE101 := n3_; clear n0_ n1_ n2_ n3_; clear hb hbox hg) | ((with_reducible refine gate_dst (N := 2) rfl ?_); refine boxE (N := 2) (cs := #[.int .i64 0, .int .i64 0, .slice none 0 0]) (t := 36) ?_; intro gb102 hg w4 hbox hb; have n0_ := Aside0.mk (blk_below (g := gb101) (o := .cells #[.int .i64 a0_0, .int .i64 a0_1, .slice A0_2 l0_2.length c0_2] 36 (0, 0)) blc hb); have n1_ := Aside0.mk (below_step (bel HB) hb); have n2_ := Aside0.mk (hbox); have n3_ := Aside0.mk (gsz hg (bel HB)); have n4_ := Aside0.mk (gsz hg (bel HB)); have n5_ := Aside0.mk ((by rw [hg]; exact Nat.ne_of_lt (blk_lt (g := gb101) (o := .cells #[.int .i64 a0_0, .int .i64 a0_1, .slice A0_2 l0_2.length c0_2] 36 (0, 0)) blc) : gb101 ≠ gb102)); have n6_ := Aside0.mk ((by rw [hg]; exact Nat.ne_of_gt (blk_lt (g := gb101) (o := .cells #[.int .i64 a0_0, .int .i64 a0_1, .slice A0_2 l0_2.length c0_2] 36 (0, 0)) blc) : gb102 ≠ gb101)); clear BK101; clear HB; have BK101 := n0_; have HB := n1_; have BK102 := n2_; have GW102 := n3_; have GE102 := n4_; have NB101_102 := n5_; have NB102_101 := n6_; clear n0_ n1_ n2_ n3_ n4_ n5_ n6_; clear hb hbox hg))
  have n0_ := Aside0.mk (blk_drew BK101.out)
  have n1_ := Aside0.mk (blk_drew BK102.out)
  have n2_ := Aside0.mk (below_drew1 HB.out)
  clear BK101
  clear BK102
  clear HB
  have BK101 := n0_
  have BK102 := n1_
  have HB := n2_
  clear n0_ n1_ n2_
  refine start_ (n := 10) (S := fun w' => w'.cell? ⟨gb101, 0, none⟩ = some (.int .i64 a0_0) ∧ w'.cell? ⟨gb101, 1, none⟩ = some (.int .i64 a0_1) ∧ w'.cell? ⟨gb101, 2, none⟩ = some (.slice A0_2 l0_2.length c0_2)) (ds := []) #[false, false, false, false, false, false, false, false, false, false] (by kernel_rfl) rfl rfl ⟨(blk_cell BK101.out 0).trans rfl, (blk_cell BK101.out 1).trans rfl, (blk_cell BK101.out 2).trans rfl⟩ (fun hHeld => ?_); refine with_tabW spec_tyCopy.tab1 spec_tyCopy.bits1 (fun HT_ HW_ => ?_)
  generalize w4.drew = w5 at BK101 BK102 HB hHeld ⊢
  refine pure_ (i := 0) (N := some 3) (v := ?_) (a' := ?_) #[true, false, false, false, false, false, false, false, false, false] rfl rfl (any_of HT_.out (by kernel_rfl)) (fun _ _ _ h => h) (Or.inl ⟨by rfl, ?_⟩) ?_ ?_
  rotate_left
  ·intro w'
   go_simp
   with_reducible rfl
  rotate_left
  ·simp only [Act.put, List.setIfInBounds_toArray, List.set_cons_zero, List.set_cons_succ, i64_w, i32_w]
   rfl
  refine pure_ (i := 2) (N := some 5) (v := ?_) (a' := ?_) #[true, false, true, false, false, false, false, false, false, false] rfl rfl (any_of HT_.out (by kernel_rfl)) (fun _ _ _ h => h) (Or.inl ⟨by rfl, ?_⟩) ?_ ?_
  rotate_left
  ·intro w'
   go_simp
   with_reducible rfl
  rotate_left
  ·simp only [Act.put, List.setIfInBounds_toArray, List.set_cons_zero, List.set_cons_succ, i64_w, i32_w]
   rfl
  refine pure_ (i := 5) (N := some 8) (v := ?_) (a' := ?_) #[true, false, true, false, false, true, false, false, false, false] rfl rfl (any_of HT_.out (by kernel_rfl)) (fun _ _ _ h => h) (Or.inl ⟨by rfl, ?_⟩) ?_ ?_
  rotate_left
  ·intro w'
   go_simp
   with_reducible rfl
  rotate_left
  ·simp only [Act.put, List.setIfInBounds_toArray, List.set_cons_zero, List.set_cons_succ, i64_w, i32_w]
   rfl
  refine take_ (i := 1) (N := some 4) (v := ?_) (a' := ?_) #[true, true, true, false, false, true, false, false, false, false] rfl rfl (take_ofW HT_.out HW_.out (by kernel_rfl)) (fun _ _ _ h => h) (Or.inl ⟨by rfl, ?_⟩) hHeld ?_ ?_
  rotate_left
  ·rintro w' ⟨s0, s1, s2⟩
   go_simp
   with_reducible rfl
  rotate_left
  ·simp only [Act.put, List.setIfInBounds_toArray, List.set_cons_zero, List.set_cons_succ, i64_w, i32_w]
   rfl
  refine take_ (i := 3) (N := some 6) (v := ?_) (a' := ?_) #[true, true, true, true, false, true, false, false, false, false] rfl rfl (take_ofW HT_.out HW_.out (by kernel_rfl)) (fun _ _ _ h => h) (Or.inl ⟨by rfl, ?_⟩) hHeld ?_ ?_
  rotate_left
  ·rintro w' ⟨s0, s1, s2⟩
   go_simp
   with_reducible rfl
  rotate_left
  ·simp only [Act.put, List.setIfInBounds_toArray, List.set_cons_zero, List.set_cons_succ, i64_w, i32_w]
   rfl
  refine take_ (i := 6) (N := some 9) (v := ?_) (a' := ?_) #[true, true, true, true, false, true, true, false, false, false] rfl rfl (take_ofW HT_.out HW_.out (by kernel_rfl)) (fun _ _ _ h => h) (Or.inl ⟨by rfl, ?_⟩) hHeld ?_ ?_
  rotate_left
  ·rintro w' ⟨s0, s1, s2⟩
   go_simp
   with_reducible rfl
  rotate_left
  ·simp only [Act.put, List.setIfInBounds_toArray, List.set_cons_zero, List.set_cons_succ, i64_w, i32_w]
   rfl
  refine one_ (i := 4) (N := some 7) #[true, true, true, true, true, true, true, false, false, false] rfl rfl (one_of HT_.out (by kernel_rfl)) (by decide) (fun K hK => ?_)
  refine Kd.R_lit_step (Kd.int .u8) _ 5 ?hg (N := 7) ?hd (xs := ([] : List Int)) (inner := []) (ok := fun _ => True) (okp := fun _ => True) ?hr ?hp (fun _ hk => hk) trivial (Below.refl _ _) (Nat.le_refl _) (by simp) ?_; (case hd => rfl); (case hg => rfl); (case hr => first | (go_simp; done) | (go_simp; rfl)); (case hp => exact (Reps.none _ _))
  intro v104 w6 ho7 hb hg_ hnew_
  clear hg_ hnew_
  (first | rw [← Ny103.out] at ho7 | (simp only [Int.reduceToNat] at ho7; rw [← Ny103.out] at ho7))
  have n0_ := Aside0.mk (Kd.R_lower ho7 (below_size (bel HB)))
  have n1_ := Aside0.mk (blk_below (g := gb101) (o := .cells #[.int .i64 a0_0, .int .i64 a0_1, .slice A0_2 l0_2.length c0_2] 36 (0, 0)) blc hb)
  have n2_ := Aside0.mk (blk_below (g := gb102) (o := .cells #[.int .i64 0, .int .i64 0, .slice none 0 0] 36 (0, 0)) blc hb)
  have n3_ := Aside0.mk (below_step (bel HB) hb)
  clear BK101
  clear BK102
  clear HB
  have HO105 := n0_
  have BK101 := n1_
  have BK102 := n2_
  have HB := n3_
  clear n0_ n1_ n2_ n3_
  clear hb ho7
  refine hK.out _ _ ⟨(blk_cell BK101.out 0).trans rfl, (blk_cell BK101.out 1).trans rfl, (blk_cell BK101.out 2).trans rfl⟩ (fun hHeld => ?_)
  clear hK K
  refine norm_ (a' := ?_) ?_ ?_
  rotate_left
  ·show Act.put _ (some 7) _ = _
   simp only [Act.put, List.setIfInBounds_toArray, List.set_cons_zero, List.set_cons_succ, i64_w, i32_w]
   rfl
  refine one_ (i := 7) (N := some 10) #[true, true, true, true, true, true, true, true, false, false] rfl rfl (one_of HT_.out (by kernel_rfl)) (by decide) (fun K hK => ?_)
  refine Kd.R_append_rows_step (Kd.int .u8) (w0 := w) w.heap.size (by rfl) (.tmp 7) (.tmp 9) 34 5 (.int .u8 0) 1 rfl Tryd.underlying34 info5 rfl (by decide) (by omega) v104 y103 l0_2 _ _ _ (fun _ => True) (fun _ => False) rfl rfl ?aO ?aR (fun _ _ h => h) (fun _ h => h.elim) ?aF ?aB ?aS ?aL ?_
  (case aR => repeat (first | exact (Kd.C_below HR0_2.out HB.out) | (with_reducible refine Kd.C_alloc ?_ _) | (with_reducible refine Kd.C_drewN ?_ _) | (with_reducible refine Kd.C_drew ?_)))
  (case aB => exact (bel HB))
  (case aF => exact (fun _ _ => trivial))
  (case aO => exact (rch HO105))
  (case aS => exact (below_size (bel HB)))
  (case aL => have := LMc2.out; omega)
  intro v107 w8 ho hb hg hat
  rw [← Ny106.out] at ho
  have n0_ := Aside0.mk (blk_grown (g := gb101) (o := .cells #[.int .i64 a0_0, .int .i64 a0_1, .slice A0_2 l0_2.length c0_2] 36 (0, 0)) blc hg (Kd.R_ne HO105.out BK101.out (by decide)))
  have n1_ := Aside0.mk (blk_grown (g := gb102) (o := .cells #[.int .i64 0, .int .i64 0, .slice none 0 0] 36 (0, 0)) blc hg (Kd.R_ne HO105.out BK102.out (by decide)))
  have n2_ := Aside0.mk (hb)
  have n3_ := Aside0.mk (ho)
  clear BK101
  clear BK102
  clear HB
  clear HO105
  have BK101 := n0_
  have BK102 := n1_
  have HB := n2_
  have HO108 := n3_
  clear n0_ n1_ n2_ n3_
  clear ho hb hg hat
  obtain ⟨Ao9, co9, eo9⟩ := Kd.R_slice HO108.out
  (first | subst eo9 | (injection eo9 with f1_ f2_ f3_; have f4_ := f1_.symm; have f5_ := f3_.symm; clear f1_ f2_ f3_; subst f4_; subst f5_))
  refine hK.out _ _ ⟨(blk_cell BK101.out 0).trans rfl, (blk_cell BK101.out 1).trans rfl, (blk_cell BK101.out 2).trans rfl⟩ (fun hHeld => ?_)
  clear hK K
  refine norm_ (a' := ?_) ?_ ?_
  rotate_left
  ·show Act.put _ (some 10) _ = _
   simp only [Act.put, List.setIfInBounds_toArray, List.set_cons_zero, List.set_cons_succ, i64_w, i32_w]
   rfl
  refine pure_ (i := 8) (N := some 11) (v := ?_) (a' := ?_) #[true, true, true, true, true, true, true, true, true, false] rfl rfl (any_of HT_.out (by kernel_rfl)) (fun _ _ _ h => h) (Or.inl ⟨by rfl, ?_⟩) ?_ ?_
  rotate_left
  ·intro w'
   go_simp
   with_reducible rfl
  rotate_left
  ·simp only [Act.put, List.setIfInBounds_toArray, List.set_cons_zero, List.set_cons_succ, i64_w, i32_w]
   rfl
  refine one_ (i := 9) (N := none) #[true, true, true, true, true, true, true, true, true, true] rfl rfl (one_of HT_.out (by kernel_rfl)) (by decide) (fun K hK => ?_)
  have hs10 : w8.cell? ⟨gb102, 0, none⟩ = some (.int .i64 0) := (blk_cell BK102.out 0).trans rfl
  have hfs10 := blk_frozen BK102.out 0
  have hns10_0 := NB101_102.out
  have hms10_0 := NB102_101.out
  have hs11 : w8.cell? ⟨gb102, 1, none⟩ = some (.int .i64 0) := (blk_cell BK102.out 1).trans rfl
  have hfs11 := blk_frozen BK102.out 1
  have hns11_0 := NB101_102.out
  have hms11_0 := NB102_101.out
  have hs12 : w8.cell? ⟨gb102, 2, none⟩ = some (.slice none 0 0) := (blk_cell BK102.out 2).trans rfl
  have hfs12 := blk_frozen BK102.out 2
  have hns12_0 := NB101_102.out
  have hms12_0 := NB102_101.out
  refine skip_ (w1 := ?_) (by rfl) rfl ?_ ?_
  rotate_left
  ·go_simp
   rfl
  refine hK.out _ _ ⟨((cell_far (p := ⟨gb102, _, none⟩) NB101_102.out _).trans (((cell_far (p := ⟨gb102, _, none⟩) NB101_102.out _).trans (((cell_far (p := ⟨gb102, _, none⟩) NB101_102.out _).trans (hHeld.1)))))), ((cell_far (p := ⟨gb102, _, none⟩) NB101_102.out _).trans (((cell_far (p := ⟨gb102, _, none⟩) NB101_102.out _).trans (((cell_far (p := ⟨gb102, _, none⟩) NB101_102.out _).trans (hHeld.2.1)))))), ((cell_far (p := ⟨gb102, _, none⟩) NB101_102.out _).trans (((cell_far (p := ⟨gb102, _, none⟩) NB101_102.out _).trans (((cell_far (p := ⟨gb102, _, none⟩) NB101_102.out _).trans (hHeld.2.2))))))⟩ (fun hHeld => ?_)
  clear hK K
  refine done_ (done_of HT_.out (by kernel_rfl)) ?_
  try go_wp2
  refine bodyPost_ret (results_cell_row rfl _ _ gb102 36 #[.int .i64 a0_0, .int .i64 a0_1, .slice Ao9 y106.length co9] (0, 0) _ rfl (by (with_reducible repeat (first | refine blk_drewN ?_ _ | refine blk_drew ?_ | refine blk_alloc ?_ _)); refine blk_put (cs := #[.int .i64 a0_0, .int .i64 a0_1, .slice none 0 0]) ?_ 2 _ rfl; (with_reducible repeat (first | refine blk_drewN ?_ _ | refine blk_drew ?_ | refine blk_alloc ?_ _)); refine blk_put (cs := #[.int .i64 a0_0, .int .i64 0, .slice none 0 0]) ?_ 1 _ rfl; (with_reducible repeat (first | refine blk_drewN ?_ _ | refine blk_drew ?_ | refine blk_alloc ?_ _)); refine blk_put (cs := #[.int .i64 0, .int .i64 0, .slice none 0 0]) ?_ 0 _ rfl; exact blc) Tryd.underlying36 rfl (by kernel_rfl)) rfl ?_
  exact ⟨_, by first | rfl | (simp [errW_none, errW_some] <;> rfl) | (simp [*, errW_none, errW_some] <;> rfl), by (with_reducible repeat (first | apply Kd.R_alloc | apply Kd.R_drewN | apply Kd.R_drew)); exact Kd.R_mono (Kd.R_far (p := ⟨gb102, 2, none⟩) (Kd.R_far (p := ⟨gb102, 1, none⟩) (Kd.R_far (p := ⟨gb102, 0, none⟩) (Kd.R_types HO108.out BK102.out (by decide)) (fun _ hk => hk.2) (.int .i64 a0_0)) (fun _ hk => hk.2) (.int .i64 a0_1)) (fun _ hk => hk.2) (.slice Ao9 y106.length co9)) (fun _ hk => trivial), bel HB⟩
 ·rw [if_neg c2] at H
  exact absurd H (by simp)
end Go.Proofs.YtgipkpiddjjhcaaDoor.Q
end
section
namespace Go.Proofs.YtgipkpiddjjhcaaDoor.Q
open Go.RowKit Go.Proofs.YtgipkpiddjjhcaaDoorW.PrintWords Go.Proofs.YtgipkpiddjjhcaaDoorW.PrintLast Go.Proofs.YtgipkpiddjjhcaaDoorW.PrintMore
def spec_tyWalls.f (w h : Int) (cs : List Int) : Option (Int × Int × List Int) := if 0 < cs.length ∧ cs.length ≤ 1000 then some (w, h, emptyC cs) else none
theorem copy_val (w h : Int) (cs : List Int) (_h0 : 0 < cs.length) (hl : cs.length ≤ 1000) : spec_tyCopy.f w h cs = some (w, h, cs) := by
 unfold spec_tyCopy.f
 rw [Option.bind_some, if_pos (Nat.lt_of_le_of_lt (show ([] : List Int).length + cs.length ≤ 1000 by simpa using hl) (by decide))]
 rfl
structure EMs (w W : World) (gr go gb : Nat) (a b : Int) (n c : Nat) (xs : List Int) : Prop where
 below : Below w.heap.size w W
 res : W.heap[gr]? = some (.cells #[.int .i64 0, .int .i64 0, .slice none 0 0] 36 (0, 0))
 out : W.heap[go]? = some (.cells #[.int .i64 a, .int .i64 b, .slice (some ⟨gb, 0, none⟩) n c] 36 (0, 0))
 row : Kd.R (Kd.int .u8) 5 W w.heap.size (fun _ => True) (.slice (some ⟨gb, 0, none⟩) n c) xs
 gr0 : w.heap.size ≤ gr
 go0 : w.heap.size ≤ go
 gb0 : w.heap.size ≤ gb
 ne : gr ≠ go
 len : xs.length = n
section
variable {w W W1 : World} {gr go gb n c : Nat} {a b : Int} {xs : List Int}
theorem EMs.step (h : EMs w W gr go gb a b n c xs) (hb : Below W.heap.size W W1) : EMs w W1 gr go gb a b n c xs :=
 ⟨below_then h.below h.below.size hb, (hb.block _ (blk_lt h.res)).trans h.res, (hb.block _ (blk_lt h.out)).trans h.out, Kd.R_below h.row hb, h.gr0, h.go0, h.gb0, h.ne, h.len⟩
theorem EMs.neb (h : EMs w W gr go gb a b n c xs) : gr ≠ gb ∧ go ≠ gb :=
 ⟨fun e => Kd.R_ne h.row h.res (by decide) (by rw [e]; rfl), fun e => Kd.R_ne h.row h.out (by decide) (by rw [e]; rfl)⟩
theorem EMs.set (h : EMs w W gr go gb a b n c xs) (i x : Int) : EMs w (W.setCell ⟨gb, i.toNat, none⟩ (.int .u8 x)) gr go gb a b n c (xs.set i.toNat x) := by
 obtain ⟨n1, n2⟩ := h.neb
 exact ⟨below_set h.below h.gb0, blk_far h.res n1 _, blk_far h.out n2 _, (Kd.R_putg h.row i x).1, h.gr0, h.go0, h.gb0, h.ne, by rw [List.length_set]; exact h.len⟩
end
set_option maxHeartbeats 16000000 in
set_option maxRecDepth 100000 in
theorem spec_tyWalls.calls (a0_0 a0_1 : Int) (A0_2 : Option Addr) (c0_2 : Nat) (l0_2 : List Int) (r1 r2 : Int) (r3 : List Int) (w : World) (hr0_2 : Kd.C (Kd.int .u8) w A0_2 l0_2.length l0_2) (hc0_2 : l0_2.length ≤ c0_2) (h : spec_tyWalls.f a0_0 a0_1 l0_2 = some (r1, r2, r3)) :
  Calls Tryd.prog 54 #[.agg #[.int .i64 a0_0, .int .i64 a0_1, .slice A0_2 l0_2.length c0_2]] w fun e w' => ∃ v2_ : Value, e = .returned (.agg #[.int .i64 r1, .int .i64 r2, v2_]) ∧ Kd.R (Kd.int .u8) 5 w' w.heap.size (fun _ => True) v2_ r3 ∧ Below w.heap.size w w' := by
 unfold spec_tyWalls.f at h
 split at h
 case isFalse => cases h
 rename_i hl
 simp only [Option.some.injEq, Prod.mk.injEq] at h
 obtain ⟨rfl, rfl, rfl⟩ := h
 have hu := Tryd.underlying36
 have HR := Aside0.mk hr0_2
 have HC := Aside0.mk hc0_2
 have HL := Aside0.mk hl
 have HV := Aside0.mk (copy_val a0_0 a0_1 l0_2 hl.1 hl.2)
 clear hr0_2 hc0_2 hl
 go_enter Tryd.func54, Tryd.ntmps54
 go_wp2_with (first
  | ((with_reducible refine gate_dst (N := 1) rfl ?_); refine box_event ?hg (N := 1) ?hd (cs := #[.int .i64 a0_0, .int .i64 a0_1, .slice A0_2 l0_2.length c0_2]) (t := 36) ?hr ?_; (case hd => rfl); (case hg => rfl); (case hr => first | (go_simp; done) | (go_simp; rfl)); intro gt hg w1 hbox hb; (have HB1 := Aside0.mk hb); (have HT := Aside0.mk hbox); clear hbox hb hg)
  | ((with_reducible refine gate_dst (N := 2) rfl ?_); refine box_event ?hg (N := 2) ?hd (cs := #[.int .i64 0, .int .i64 0, .slice none 0 0]) (t := 36) ?hr ?_; (case hd => rfl); (case hg => rfl); (case hr => first | (go_simp; done) | (go_simp; rfl)); intro gr hg w2 hbox hb; (have HG2 := Aside0.mk (show w.heap.size ≤ gr by rw [hg]; exact HB1.out.size)); (have HB2 := Aside0.mk (below_then HB1.out HB1.out.size hb)); (have HT2 := Aside0.mk ((hb.block gt (blk_lt HT.out)).trans HT.out)); (have HRS := Aside0.mk hbox); (have z0 := (blk_cell HT2.out 0).trans rfl); (have z1 := (blk_cell HT2.out 1).trans rfl); (have z2 := (blk_cell HT2.out 2).trans rfl); clear hbox hb hg HT HB1))
 refine (spec_tyCopy.calls a0_0 a0_1 _ c0_2 l0_2 a0_0 a0_1 l0_2 _ (Kd.C_below HR.out HB2.out) HC.out HV.out).mono ?_
 rintro e w3 ⟨v2, rfl, ho, hb3⟩
 obtain ⟨gb, c, rfl, hgb, hlb, cl, hcl⟩ := Kd.R_form ho HL.out.1
 have HB3 := Aside0.mk (below_then HB2.out HB2.out.size hb3)
 have HRS3 := Aside0.mk ((hb3.block gr (blk_lt HRS.out)).trans HRS.out)
 have HO3 := Aside0.mk (Kd.R_lower ho HB2.out.size)
 have HGB := Aside0.mk (Nat.le_trans HB2.out.size hgb)
 clear z0 z1 z2 HT2 HRS HB2 ho hb3 hgb hlb hcl
 go_wp2_with (first
  | ((with_reducible refine gate_dst (N := 3) rfl ?_); refine box_event ?hg (N := 3) ?hd (cs := #[.int .i64 0, .int .i64 0, .slice none 0 0]) (t := 36) ?hr ?_; (case hd => rfl); (case hg => rfl); (case hr => first | (go_simp; done) | (go_simp; rfl)); intro go hg w4 hbox hb; (have HGO := Aside0.mk (show w.heap.size ≤ go by rw [hg]; exact HB3.out.size)); (have HNE := Aside0.mk (show gr ≠ go by rw [hg]; exact Nat.ne_of_lt (blk_lt HRS3.out))); (have HB4 := Aside0.mk (below_then HB3.out HB3.out.size hb)); (have HRS4 := Aside0.mk ((hb.block gr (blk_lt HRS3.out)).trans HRS3.out)); (have HO4 := Aside0.mk (Kd.R_below HO3.out hb)); (have HU := Aside0.mk hbox); (have y0 := (blk_cell HU.out 0).trans rfl); (have y1 := (blk_cell HU.out 1).trans rfl); (have y2 := (blk_cell HU.out 2).trans rfl); (have f0 := blk_frozen HU.out 0); (have f1 := blk_frozen HU.out 1); (have f2 := blk_frozen HU.out 2); clear hbox hb hg HB3 HRS3 HO3)
  | ((with_reducible refine gate_store (t := 36) (p := 3) rfl ?_); refine store_event (t := 36) (p := 3) (v := ?vo) (w1 := (((w4.setCell ⟨go, 0, none⟩ (.int .i64 a0_0)).setCell ⟨go, 1, none⟩ (.int .i64 a0_1)).setCell ⟨go, 2, none⟩ (.slice (some ⟨gb, 0, none⟩) l0_2.length c))) ?hg ?ho ?hn ?hr ?_; (case ho => rfl); (case hg => rfl); (case hn => rfl); (case hr => first | (go_simp; done) | (go_simp; rfl)); intro w5 hw; (have HE := Aside0.mk (show EMs w w5 gr go gb a0_0 a0_1 l0_2.length c l0_2 from by rw [hw]; exact ⟨below_set (below_set (below_set HB4.out HGO.out) HGO.out) HGO.out, blk_far (blk_far (blk_far HRS4.out HNE.out _) HNE.out _) HNE.out _, (by refine blk_put (cs := #[.int .i64 a0_0, .int .i64 a0_1, .slice none 0 0]) ?_ 2 _ rfl; refine blk_put (cs := #[.int .i64 a0_0, .int .i64 0, .slice none 0 0]) ?_ 1 _ rfl; refine blk_put (cs := #[.int .i64 0, .int .i64 0, .slice none 0 0]) ?_ 0 _ rfl; exact HU.out), Kd.R_mono (Kd.R_far (p := ⟨go, 2, none⟩) (Kd.R_far (p := ⟨go, 1, none⟩) (Kd.R_far (p := ⟨go, 0, none⟩) (Kd.R_types HO4.out HU.out (by decide)) (fun _ hk => hk.2) (.int .i64 a0_0)) (fun _ hk => hk.2) (.int .i64 a0_1)) (fun _ hk => hk.2) (.slice (some ⟨gb, 0, none⟩) l0_2.length c)) (fun _ _ => trivial), HG2.out, HGO.out, HGB.out, HNE.out, rfl⟩)); clear hw HU HO4 HRS4 HB4 y0 y1 y2 f0 f1 f2; (have y0 := (blk_cell HE.out.out 0).trans rfl); (have y1 := (blk_cell HE.out.out 1).trans rfl); (have y2 := (blk_cell HE.out.out 2).trans rfl)))
 have HE0 := Aside0.mk (show EMs w w5 gr go gb a0_0 a0_1 l0_2.length c (halfE l0_2 0) from HE.out)
 have HL2 := Aside0.mk HL.out.2
 clear HE y0 y1 y2
 go_loopg [11] l0_2.length (fun gg v11 wr => ∃ t : Nat, v11 = .int .i64 t ∧ Aside0 (t ≤ l0_2.length ∧ l0_2.length - t ≤ gg) ∧ Aside0 (EMs w wr gr go gb a0_0 a0_1 l0_2.length c (halfE l0_2 t)))
 case atStart => exact ⟨0, rfl, ⟨Nat.zero_le _, by omega⟩, HE0⟩
 case round =>
  clear HE0
  obtain ⟨t, rfl, HA, HE⟩ := hrel
  have y0 := (blk_cell HE.out.out 0).trans rfl
  have y1 := (blk_cell HE.out.out 1).trans rfl
  have y2 := (blk_cell HE.out.out 2).trans rfl
  have hwt : wrap64 ((t : Int) + 1) = ((t + 1 : Nat) : Int) := by
   have := HA.out
   have := HL2.out
   unfold wrap64
   omega
  by_cases hlt : t < l0_2.length
  ·have c1 : decide ((t : Int) < (l0_2.length : Int)) = true := decide_eq_true (by omega)
   have p1 : (0 ≤ (t : Int)) = True := eq_true (by omega)
   have p2 : ((t : Int) < (l0_2.length : Int)) = True := eq_true (by omega)
   obtain ⟨x0, x1⟩ := Kd.R_celln 0 HE.out.row (t : Int) (by omega) (by omega)
   rw [halfE_at l0_2 t hlt] at x0
   rw [Int.toNat_natCast] at x0 x1
   have hsucc := halfE_succ l0_2 t hlt
   generalize rd l0_2 (t : Int) = v at x0 hsucc
   have HS := Aside0.mk hsucc
   clear hsucc
   cases hb : isB v with
   | true =>
    have hv := tyBall_eq v
    rw [hb] at hv
    have HV2 := Aside0.mk hv
    clear hv
    go_wp2_with (go_at_call 51; refine (spec_tyBall.calls v true _ HV2.out).mono ?_; rintro e w6 ⟨rfl, ⟨nd, rfl⟩⟩; (have HE6 := Aside0.mk (HE.out.step (pw_below_drewN (Below.refl _ _) nd))); clear y0 y1 y2 x0 x1; (have y0 := (blk_cell HE6.out.out 0).trans rfl); (have y1 := (blk_cell HE6.out.out 1).trans rfl); (have y2 := (blk_cell HE6.out.out 2).trans rfl); (obtain ⟨x0, x1⟩ := Kd.R_celln 0 HE6.out.row (t : Int) (by omega) (by omega)); rw [Int.toNat_natCast] at x0 x1)
    go_roundg (l0_2.length - (t + 1))
    case measure => have := HA.out; omega
    case rel =>
     refine ⟨t + 1, by first | rfl | rw [hwt], ⟨by have := HA.out; omega, Nat.le_refl _⟩, ?_⟩
     have h8 := HE6.out.set (t : Int) 46
     rw [Int.toNat_natCast] at h8
     rw [HS.out, if_pos hb]
     exact ⟨h8⟩
   | false =>
    have hv := tyBall_eq v
    rw [hb] at hv
    have HV2 := Aside0.mk hv
    clear hv
    go_wp2_with (go_at_call 51; refine (spec_tyBall.calls v false _ HV2.out).mono ?_; rintro e w6 ⟨rfl, ⟨nd, rfl⟩⟩; (have HE6 := Aside0.mk (HE.out.step (pw_below_drewN (Below.refl _ _) nd))); clear y0 y1 y2 x0 x1; (have y0 := (blk_cell HE6.out.out 0).trans rfl); (have y1 := (blk_cell HE6.out.out 1).trans rfl); (have y2 := (blk_cell HE6.out.out 2).trans rfl); (obtain ⟨x0, x1⟩ := Kd.R_celln 0 HE6.out.row (t : Int) (by omega) (by omega)); rw [Int.toNat_natCast] at x0 x1)
    go_roundg (l0_2.length - (t + 1))
    case measure => have := HA.out; omega
    case rel =>
     refine ⟨t + 1, by first | rfl | rw [hwt], ⟨by have := HA.out; omega, Nat.le_refl _⟩, ?_⟩
     rw [HS.out, if_neg (by rw [hb]; decide)]
     exact HE6
  ·have hAt := HA.out.1
   obtain rfl : t = l0_2.length := by omega
   have c1 : decide ((l0_2.length : Int) < (l0_2.length : Int)) = false := decide_eq_false (by omega)
   clear hAt HA hlt hwt
   rw [halfE_all] at HE
   have r0 := (blk_cell HE.out.res 0).trans rfl
   have r1 := (blk_cell HE.out.res 1).trans rfl
   have r2 := (blk_cell HE.out.res 2).trans rfl
   have g0 := blk_frozen HE.out.res 0
   have g1 := blk_frozen HE.out.res 1
   have g2 := blk_frozen HE.out.res 2
   go_wp2_with fail
   refine bodyPost_ret (results_cell_row rfl _ _ gr 36 #[.int .i64 a0_0, .int .i64 a0_1, .slice (some ⟨gb, 0, none⟩) l0_2.length c] (0, 0) _ rfl (by refine blk_put (cs := #[.int .i64 a0_0, .int .i64 a0_1, .slice none 0 0]) ?_ 2 _ rfl; refine blk_put (cs := #[.int .i64 a0_0, .int .i64 0, .slice none 0 0]) ?_ 1 _ rfl; refine blk_put (cs := #[.int .i64 0, .int .i64 0, .slice none 0 0]) ?_ 0 _ rfl; exact HE.out.res) Tryd.underlying36 rfl (by kernel_rfl)) rfl ?_
   exact ⟨_, rfl, Kd.R_mono (Kd.R_far (p := ⟨gr, 2, none⟩) (Kd.R_far (p := ⟨gr, 1, none⟩) (Kd.R_far (p := ⟨gr, 0, none⟩) (Kd.R_types HE.out.row HE.out.res (by decide)) (fun _ hk => hk.2) (.int .i64 a0_0)) (fun _ hk => hk.2) (.int .i64 a0_1)) (fun _ hk => hk.2) (.slice (some ⟨gb, 0, none⟩) l0_2.length c)) (fun _ _ => trivial), below_set (below_set (below_set HE.out.below HE.out.gr0) HE.out.gr0) HE.out.gr0⟩
end Go.Proofs.YtgipkpiddjjhcaaDoor.Q
end
