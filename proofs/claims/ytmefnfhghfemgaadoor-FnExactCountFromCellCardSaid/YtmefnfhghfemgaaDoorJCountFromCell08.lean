/- Texts of this claim, joined. -/
import Derived.Test.YtmefnfhghfemgaaDoorJCountFromCell01
import Derived.Test.YtmefnfhghfemgaaDoorJCountFromCell04
import Derived.Test.YtmefnfhghfemgaaDoorJCountFromCell07
import Derived.Test.YtmefnfhghfemgaaDoorJCountFromCell06
import Derived.Test.YtmefnfhghfemgaaDoorJCountFromCell05
set_option linter.unusedVariables false
set_option linter.unusedSimpArgs false
set_option linter.unusedSectionVars false
section
namespace Go.Proofs.YtmefnfhghfemgaaDoor.Q
open Go.RowKit Go.Proofs.YtmefnfhghfemgaaDoorW.PrintWords Go.Proofs.YtmefnfhghfemgaaDoorW.PrintLast Go.Proofs.YtmefnfhghfemgaaDoorW.PrintMore
attribute [local go_sem] max2_int min2_int max_two min_two max_three min_three max_four min_four
set_option linter.unusedVariables false
set_option linter.unusedSimpArgs false
mutual
def spec_buTable.l0 : Nat → Int → List Int → List Int → Int → Int → Int → List Int → Option (List Int)
 | 0, _, _, _, _, _, _, _ => none
 | k + 1, x1, x5, x6, x7, x102000, x102001, x102002 => if x7 < (x6.length : Int) then ((spec_tyEmpty.f k x102000 x102001).bind fun bt108 => (spec_buTable.l1 k x1 x5 x6 x7 0 x5 (x5.length : Int) 0 x102000 x102001 x102002 bt108.1 bt108.2.1 bt108.2.2)) else (some x6)
def spec_buTable.l1 : Nat → Int → List Int → List Int → Int → Int → List Int → Int → Int → Int → Int → List Int → Int → Int → List Int → Option (List Int)
 | 0, _, _, _, _, _, _, _, _, _, _, _, _, _, _ => none
 | k + 1, x1, x5, x6, x7, x9, x33, x34, x35, x102000, x102001, x102002, x114000, x114001, x114002 => if x35 < x34 then (if 0 ≤ x35 then (if x35 < (x33.length : Int) then (if (Int.tmod (shr .i64 x7 x35) 2) = 1 then (if 0 ≤ (rd x33 x35) then (if (rd x33 x35) < (x114002.length : Int) then (spec_buTable.l1 k x1 x5 x6 x7 (wrap64 (x9 + 1)) x33 x34 (wrap64 (x35 + 1)) x102000 x102001 x102002 x114000 x114001 (x114002.set ((rd x33 x35) : Int).toNat 111)) else (none)) else (none)) else (spec_buTable.l1 k x1 x5 x6 x7 x9 x33 x34 (wrap64 (x35 + 1)) x102000 x102001 x102002 x114000 x114001 x114002)) else (none)) else (none)) else (if x9 = 1 then (if x1 < 0 then (if 0 ≤ x7 then (if x7 < (x6.length : Int) then (spec_buTable.l0 k x1 x5 (x6.set (x7 : Int).toNat 1) (wrap64 (x7 + 1)) x102000 x102001 x102002) else (none)) else (none)) else (if 0 ≤ x1 then (if x7 = (shl .i64 1 x1) then (if 0 ≤ x7 then (if x7 < (x6.length : Int) then (spec_buTable.l0 k x1 x5 (x6.set (x7 : Int).toNat 1) (wrap64 (x7 + 1)) x102000 x102001 x102002) else (none)) else (none)) else (spec_buTable.l0 k x1 x5 x6 (wrap64 (x7 + 1)) x102000 x102001 x102002)) else (none))) else (spec_buTable.l2 k x1 x5 x6 x7 x5 (x5.length : Int) 0 x102000 x102001 x102002 x114000 x114001 x114002))
def spec_buTable.l2 : Nat → Int → List Int → List Int → Int → List Int → Int → Int → Int → Int → List Int → Int → Int → List Int → Option (List Int)
 | 0, _, _, _, _, _, _, _, _, _, _, _, _, _ => none
 | k + 1, x1, x5, x6, x7, x65, x66, x67, x102000, x102001, x102002, x114000, x114001, x114002 => if x67 < x66 then (if 0 ≤ x67 then (if x67 < (x65.length : Int) then (if (Int.tmod (shr .i64 x7 x67) 2) = 0 then (spec_buTable.j3 k x1 x5 x6 x7 x67 (rd x65 x67) x65 x66 x67 true x102000 x102001 x102002 x114000 x114001 x114002) else (if 0 ≤ (wrap64 (x7 - (shl .i64 1 x67))) then (if (wrap64 (x7 - (shl .i64 1 x67))) < (x6.length : Int) then (spec_buTable.j3 k x1 x5 x6 x7 x67 (rd x65 x67) x65 x66 x67 ((rd x6 (wrap64 (x7 - (shl .i64 1 x67)))) == 0) x102000 x102001 x102002 x114000 x114001 x114002) else (none)) else (none))) else (none)) else (none)) else (spec_buTable.l0 k x1 x5 x6 (wrap64 (x7 + 1)) x102000 x102001 x102002)
def spec_buTable.j3 : Nat → Int → List Int → List Int → Int → Int → Int → List Int → Int → Int → Bool → Int → Int → List Int → Int → Int → List Int → Option (List Int)
 | 0, _, _, _, _, _, _, _, _, _, _, _, _, _, _, _, _ => none
 | k + 1, x1, x5, x6, x7, x12, x13, x65, x66, x67, x86, x102000, x102001, x102002, x114000, x114001, x114002 => if x86 = true then (spec_buTable.l2 k x1 x5 x6 x7 x65 x66 (wrap64 (x67 + 1)) x102000 x102001 x102002 x114000 x114001 x114002) else ((spec_buTake.f k x114000 x114001 x114002 x13).bind fun bt120 => (if bt120.2.2.2 = true then (if 0 ≤ x7 then (if x7 < (x6.length : Int) then (if 0 ≤ x12 then (if 0 ≤ (wrap64 (x7 - (shl .i64 1 x12))) then (if (wrap64 (x7 - (shl .i64 1 x12))) < (x6.length : Int) then (spec_buTable.l2 k x1 x5 (x6.set (x7 : Int).toNat (wrap64 ((rd x6 x7) + (rd x6 (wrap64 (x7 - (shl .i64 1 x12))))))) x7 x65 x66 (wrap64 (x67 + 1)) x102000 x102001 x102002 x114000 x114001 x114002) else (none)) else (none)) else (none)) else (none)) else (none)) else (spec_buTable.l2 k x1 x5 x6 x7 x65 x66 (wrap64 (x67 + 1)) x102000 x102001 x102002 x114000 x114001 x114002)))
end
def spec_buTable.f (k : Nat) (a0_0 : Int) (a0_1 : Int) (l0_2 : List Int) (a1 : Int) : Option (List Int) := (spec_tyBalls.f k a0_0 a0_1 l0_2).bind fun t102 => (if 0 ≤ (shl .i64 1 (t102.length : Int)) then (if (shl .i64 1 (t102.length : Int) : Int).toNat ≤ 35184372088832 then (spec_buTable.l0 k a1 t102 (List.replicate (shl .i64 1 (t102.length : Int) : Int).toNat 0) 1 a0_0 a0_1 l0_2) else (none)) else (none))
def spec_buTable.T24 : Bool × List (List Nat × List Nat) := (true, [([], []), ([], []), ([0, 1], [0, 1]), ([2], [2]), ([], []), ([], []), ([], []), ([6], [6]), ([5, 7], [5, 7]), ([4, 8], [4, 8]), ([9], [9]), ([3, 10], [3, 10]), ([0, 1, 0, 1, 2, 3, 4, 5, 6, 7, 8, 9, 10, 11], [0, 1]), ([12, 11, 0, 1, 2, 3, 4, 5, 6, 7, 8, 9, 10, 11], [11, 12])])
def spec_buTable.B24 : List Nat := [0, 0, 3, 7, 0, 0, 0, 64, 224, 496, 1008, 2047, 4095, 8191]
theorem spec_buTable.tab24 : rtab .any (opsOf Tryd.f62 24) = spec_buTable.T24 := by kernel_rfl
theorem spec_buTable.bits24 : waitsOk spec_buTable.T24.2 spec_buTable.B24 = true := by kernel_rfl
set_option maxHeartbeats 8000000 in
set_option maxRecDepth 100000 in
theorem spec_buTable.calls (k : Nat) (a0_0 : Int) (a0_1 : Int) (A0_2 : Option Addr) (c0_2 : Nat) (l0_2 : List Int) (a1 : Int) (r : List Int) (w : World) (hr0_2 : Kd.C (Kd.int .u8) w A0_2 l0_2.length l0_2) (hc0_2 : l0_2.length ≤ c0_2) (h : spec_buTable.f k a0_0 a0_1 l0_2 a1 = some r) :
  Calls Tryd.prog 62 #[.agg #[.int .i64 a0_0, .int .i64 a0_1, .slice A0_2 l0_2.length c0_2], .int .i64 a1] w fun e w' => ∃ v0_ : Value, e = .returned (v0_) ∧ Kd.R (Kd.int .i64) 3 w' w.heap.size (fun _ => True) v0_ r ∧ Below w.heap.size w w' := by
 have hu40 := Tryd.underlying40
 have HR0_2 := Aside0.mk hr0_2
 have HC0_2 := Aside0.mk hc0_2
 clear hr0_2 hc0_2
 have HB := Aside0.mk (Below.refl w.heap.size w)
 have H : ((spec_tyBalls.f k a0_0 a0_1 l0_2).bind fun t102 => (if 0 ≤ (shl .i64 1 (t102.length : Int)) then (if (shl .i64 1 (t102.length : Int) : Int).toNat ≤ 35184372088832 then (spec_buTable.l0 k a1 t102 (List.replicate (shl .i64 1 (t102.length : Int) : Int).toNat 0) 1 a0_0 a0_1 l0_2) else (none)) else (none))) = some r := h
 clear h
 replace H := Option.bind_eq_some_iff.mp H
 obtain ⟨t102, A30, H⟩ := H
 replace H : (if 0 ≤ (shl .i64 1 (t102.length : Int)) then (if (shl .i64 1 (t102.length : Int) : Int).toNat ≤ 35184372088832 then (spec_buTable.l0 k a1 t102 (List.replicate (shl .i64 1 (t102.length : Int) : Int).toNat 0) 1 a0_0 a0_1 l0_2) else (none)) else (none)) = some r := H
 have A3 := Aside0.mk A30
 clear A30
 obtain ⟨ji4, hji4⟩ : ∃ j_ : Int, (shl .i64 1 (t102.length : Int)) = j_ := ⟨_, rfl⟩
 replace H : (if 0 ≤ (ji4) then (if (ji4 : Int).toNat ≤ 35184372088832 then (spec_buTable.l0 k a1 t102 (List.replicate (ji4 : Int).toNat 0) 1 a0_0 a0_1 l0_2) else (none)) else (none)) = some r := by first | (rw [hji4] at H; exact H) | (simp only [hji4] at H ⊢; exact H)
 (try rw [hji4] at A3)
 have hji4_ : (IntKind.i64.wrap (1 * 2 ^ min (t102.length : Int).toNat 64)) = ji4 := hji4
 have hji4z : (t102.length : Int) ≤ 64 → (IntKind.i64.wrap (1 * 2 ^ (t102.length : Int).toNat)) = ji4 := shl_small hji4
 have hji4p : (IntKind.i64.wrap (1 * 2 ^ min t102.length 64)) = ji4 := hji4_
 have hji4q : (t102.length : Int) ≤ 64 → (IntKind.i64.wrap (1 * 2 ^ t102.length)) = ji4 := hji4z
 have hji4r : (IntKind.i64.wrap (2 ^ min t102.length 64)) = ji4 := by have h_ := hji4p; rw [Int.one_mul] at h_; exact h_
 have hji4s : (t102.length : Int) ≤ 64 → (IntKind.i64.wrap (2 ^ t102.length)) = ji4 := fun hle_ => by have h_ := hji4q hle_; rw [Int.one_mul] at h_; exact h_
 have hji4u : (IntKind.i64.wrap (2 ^ min (t102.length : Int).toNat 64)) = ji4 := by have h_ := hji4_; rw [Int.one_mul] at h_; exact h_
 have hji4v : (t102.length : Int) ≤ 64 → (IntKind.i64.wrap (2 ^ (t102.length : Int).toNat)) = ji4 := fun hle_ => by have h_ := hji4z hle_; rw [Int.one_mul] at h_; exact h_
 have hji4y : (wrap64 (1 * 2 ^ min (t102.length : Int).toNat 64)) = ji4 := (i64_w _).symm.trans hji4_
 have hji4x : (t102.length : Int) ≤ 64 → (wrap64 (1 * 2 ^ (t102.length : Int).toNat)) = ji4 := fun h_ => (i64_w _).symm.trans (hji4z h_)
 by_cases c5 : 0 ≤ (ji4)
 ·rw [if_pos c5] at H
  have c5b0 := eq_true c5
  have c5b1 : decide (0 ≤ (ji4)) = true := decide_eq_true c5
  clear c5
  by_cases c6 : (ji4 : Int).toNat ≤ 35184372088832
  ·rw [if_pos c6] at H
   have c6b0 := eq_true c6
   have c6b1 : decide ((ji4 : Int).toNat ≤ 35184372088832) = true := decide_eq_true c6
   clear c6
   obtain ⟨y105, hy105⟩ : ∃ y_ : List Int, y_ = (List.replicate (ji4 : Int).toNat 0) := ⟨_, rfl⟩
   replace H : (spec_buTable.l0 k a1 t102 y105 1 a0_0 a0_1 l0_2) = some r := rH hy105 H
   have Ny105 := Aside0.mk hy105
   clear hy105
   have H' := Aside0.mk H
   clear H
   go_enter Tryd.func62, Tryd.ntmps62
   go_wp2_with (first | ((with_reducible refine gate_dst (N := 2) rfl ?_); refine boxE (N := 2) (cs := #[.int .i64 a0_0, .int .i64 a0_1, .slice A0_2 l0_2.length c0_2]) (t := 40) ?_; intro gb101 hg w7 hbox hb; have n0_ := Aside0.mk (below_step (bel HB) hb); have n1_ := Aside0.mk (hbox); have n2_ := Aside0.mk (gsz hg (bel HB)); have n3_ := Aside0.mk (gsz hg (bel HB)); clear HB; have HB := n0_; have BK101 := n1_; have GW101 := n2_; have GE101 := n3_; clear n0_ n1_ n2_ n3_; clear hb hbox hg; have hcz8_0 : w7.cell? ⟨gb101, 0, none⟩ = some (.int .i64 a0_0) := (blk_cell BK101.out 0).trans rfl; have hcz8_1 : w7.cell? ⟨gb101, 1, none⟩ = some (.int .i64 a0_1) := (blk_cell BK101.out 1).trans rfl; have hcz8_2 : w7.cell? ⟨gb101, 2, none⟩ = some (.slice A0_2 l0_2.length c0_2) := (blk_cell BK101.out 2).trans rfl; have hfz8_0 := blk_frozen BK101.out 0; have hfz8_1 := blk_frozen BK101.out 1; have hfz8_2 := blk_frozen BK101.out 2) | ((with_reducible refine gate_callee (f := 34) rfl ?_); refine gcall (some 17) Tryd.func34 #[.agg #[.int .i64 a0_0, .int .i64 a0_1, .slice A0_2 l0_2.length c0_2]] rfl ?_; (with_reducible refine (spec_tyBalls.calls k a0_0 a0_1 _ _ l0_2 t102 _ ?side1 ?side2 A3.out).mono ?_); (case side1 => repeat (first | exact (Kd.C_below HR0_2.out HB.out) | (with_reducible refine Kd.C_alloc ?_ _) | (with_reducible refine Kd.C_drewN ?_ _) | (with_reducible refine Kd.C_drew ?_))); (case side2 => exact HC0_2.out); rintro e w9 ⟨v103, rfl, ho0, hb⟩; refine ⟨_, rfl, ?_⟩; have n0_ := Aside0.mk (Kd.R_lower ho0 (below_size (bel HB))); have n1_ := Aside0.mk (blk_below (g := gb101) (o := .cells #[.int .i64 a0_0, .int .i64 a0_1, .slice A0_2 l0_2.length c0_2] 40 (0, 0)) blc hb); have n2_ := Aside0.mk (below_step (bel HB) hb); clear BK101; clear HB; have HO104 := n0_; have BK101 := n1_; have HB := n2_; clear n0_ n1_ n2_; (try clear hb); (try clear hb2); (try clear hk); (try clear hi); (try clear ho0); obtain ⟨Ao10, co10, eo10⟩ := Kd.R_slice HO104.out; subst eo10) | ((with_reducible refine gate_dst (N := 21) rfl ?_); refine Kd.R_make (Kd.int .i64) _ 3 rfl (N := 21) rfl 31 _ _ rfl ji4 rfl rfl Tryd.underlying31 (.int .i64 0) 8 info3 rfl (by decide) (by omega) 0 (ok := fun _ => True) (okp := fun _ => True) rfl (fun _ hk => hk) trivial (of_decide_eq_true (by first | (with_reducible assumption) | assumption)) (Nat.le_trans (Nat.mul_le_mul_right _ (of_decide_eq_true (by first | (with_reducible assumption) | assumption) : ji4.toNat ≤ 35184372088832)) (by omega)) (Below.refl _ _) (Nat.le_refl _) ?_; intro v106 w11 ho12 hb hg_ hnew_; clear hg_ hnew_; (first | rw [← Ny105.out] at ho12 | (simp only [Int.reduceToNat] at ho12; rw [← Ny105.out] at ho12)); have n0_ := Aside0.mk (Kd.R_elder' (rch HO104) (Kd.R_base ho12) hb); have n1_ := Aside0.mk (Kd.R_lower (Kd.R_new' ho12 (Kd.R_lt (rch HO104))) (below_size (bel HB))); have n2_ := Aside0.mk (blk_below (g := gb101) (o := .cells #[.int .i64 a0_0, .int .i64 a0_1, .slice A0_2 l0_2.length c0_2] 40 (0, 0)) blc hb); have n3_ := Aside0.mk (below_step (bel HB) hb); clear HO104; clear BK101; clear HB; have HO104 := n0_; have HO107 := n1_; have BK101 := n2_; have HB := n3_; clear n0_ n1_ n2_ n3_; clear hb ho12))
   go_loopg [7] k (fun kq v7 w' => ∃ (x6_1 : List Int) (x7_1 : Int), v7 = .int .i64 x7_1 ∧ Aside0 (spec_buTable.l0 kq a1 t102 x6_1 x7_1 a0_0 a0_1 l0_2 = some r) ∧ Aside0 (kq ≤ k) ∧ Aside0 (Kd.R (Kd.int .i64) 3 w' w.heap.size (fun k_ => some k_ ≠ (v106 : Value).ownBlock) (.slice Ao10 t102.length co10) t102) ∧ Aside0 (Kd.R (Kd.int .i64) 3 w' w.heap.size (fun k_ => some k_ ≠ ((.slice Ao10 t102.length co10) : Value).ownBlock) v106 x6_1) ∧ Aside0 (w'.heap[gb101]? = some (.cells #[.int .i64 a0_0, .int .i64 a0_1, (.slice A0_2 l0_2.length c0_2)] 40 (0, 0))) ∧ Aside0 (Below w.heap.size w w'))
   case atStart => exact ⟨(y105), (1), (by first | rfl | (simp; done) | (simp [*]; done)), H', ⟨Nat.le_refl _⟩, ⟨by (with_reducible repeat (first | apply Kd.R_alloc | apply Kd.R_drewN | apply Kd.R_drew)); (first | exact Kd.R_mono HO104.out (fun _ hk => hk.2) | exact HO104.out | exact R_any HO104.out)⟩, ⟨by (with_reducible repeat (first | apply Kd.R_alloc | apply Kd.R_drewN | apply Kd.R_drew)); (first | exact Kd.R_mono HO107.out (fun _ hk => hk.2) | exact HO107.out | exact R_any HO107.out)⟩, ⟨blc⟩, ⟨bel HB⟩⟩
   case round =>
    clear H'
    try clear p2
    try clear c3
    try clear c5
    try clear c5b0
    try clear c5b0y
    try clear c5b1
    try clear c6
    try clear c6b0
    try clear c6b0y
    try clear c6b1
    try clear p6
    try clear hcz8_0
    try clear hcz8_1
    try clear hcz8_2
    try clear hfz8_0
    try clear hfz8_1
    try clear hfz8_2
    obtain ⟨x6_1, x7_1, rfl, HA, HK1, HO_5, HO_6, BK101, HB⟩ := hrel
    cases gk with
    | zero => exact absurd HA.out (by simp [spec_buTable.l0])
    | succ k1 =>
     have H := HA.out
     clear HA
     simp only [spec_buTable.l0] at H
     by_cases c13 : x7_1 < (x6_1.length : Int)
     ·rw [if_pos c13] at H
      have c13b0 : decide (x7_1 < (x6_1.length : Int)) = true := decide_eq_true c13
      clear c13
      replace H := Option.bind_eq_some_iff.mp H
      obtain ⟨⟨t108, t109, t110⟩, A140, H⟩ := H
      replace H : (spec_buTable.l1 k1 a1 t102 x6_1 x7_1 0 t102 (t102.length : Int) 0 a0_0 a0_1 l0_2 t108 t109 t110) = some r := H
      have A14 := Aside0.mk A140
      clear A140
      have H' := Aside0.mk H
      clear H
      obtain ⟨Ao15, co15, eo15⟩ := Kd.R_slice HO_6.out
      subst eo15
      have hcz16_0 : wr.cell? ⟨gb101, 0, none⟩ = some (.int .i64 a0_0) := (blk_cell BK101.out 0).trans rfl
      have hcz16_1 : wr.cell? ⟨gb101, 1, none⟩ = some (.int .i64 a0_1) := (blk_cell BK101.out 1).trans rfl
      have hcz16_2 : wr.cell? ⟨gb101, 2, none⟩ = some (.slice A0_2 l0_2.length c0_2) := (blk_cell BK101.out 2).trans rfl
      have hfz16_0 := blk_frozen BK101.out 0
      have hfz16_1 := blk_frozen BK101.out 1
      have hfz16_2 := blk_frozen BK101.out 2
      go_wp2_with (first | ((with_reducible refine gate_callee (f := 37) rfl ?_); refine gcall (some 32) Tryd.func37 #[.int .i64 a0_0, .int .i64 a0_1] rfl ?_; (with_reducible refine (spec_tyEmpty.calls k1 a0_0 a0_1 t108 t109 t110 _ A14.out).mono ?_); rintro e w17 ⟨v111, rfl, ho0, hb⟩; refine ⟨_, rfl, ?_⟩; have n0_ := Aside0.mk (Kd.R_below (rch HO_5) hb); have n1_ := Aside0.mk (Kd.R_below (rch HO_6) hb); have n2_ := Aside0.mk (Kd.R_lower ho0 (below_size (bel HB))); have n3_ := Aside0.mk (blk_below (g := gb101) (o := .cells #[.int .i64 a0_0, .int .i64 a0_1, .slice A0_2 l0_2.length c0_2] 40 (0, 0)) blc hb); have n4_ := Aside0.mk (below_step (bel HB) hb); clear HO_5; clear HO_6; clear BK101; clear HB; have HO_5 := n0_; have HO_6 := n1_; have HO112 := n2_; have BK101 := n3_; have HB := n4_; clear n0_ n1_ n2_ n3_ n4_; (try clear hb); (try clear hb2); (try clear hk); (try clear hi); (try clear ho0)) | ((with_reducible refine gate_dst (N := 8) rfl ?_); refine boxE (N := 8) (cs := #[.int .i64 0, .int .i64 0, .slice none 0 0]) (t := 40) ?_; intro gb113 hg w18 hbox hb; have n0_ := Aside0.mk (Kd.R_below (rch HO_5) hb); have n1_ := Aside0.mk (Kd.R_below (rch HO_6) hb); have n2_ := Aside0.mk (Kd.R_below (rch HO112) hb); have n3_ := Aside0.mk (blk_below (g := gb101) (o := .cells #[.int .i64 a0_0, .int .i64 a0_1, .slice A0_2 l0_2.length c0_2] 40 (0, 0)) blc hb); have n4_ := Aside0.mk (below_step (bel HB) hb); have n5_ := Aside0.mk (hbox); have n6_ := Aside0.mk (gsz hg (bel HB)); have n7_ := Aside0.mk (gsz hg (bel HB)); have n8_ := Aside0.mk ((by rw [hg]; exact Nat.ne_of_lt (blk_lt (g := gb101) (o := .cells #[.int .i64 a0_0, .int .i64 a0_1, .slice A0_2 l0_2.length c0_2] 40 (0, 0)) blc) : gb101 ≠ gb113)); have n9_ := Aside0.mk ((by rw [hg]; exact Nat.ne_of_gt (blk_lt (g := gb101) (o := .cells #[.int .i64 a0_0, .int .i64 a0_1, .slice A0_2 l0_2.length c0_2] 40 (0, 0)) blc) : gb113 ≠ gb101)); clear HO_5; clear HO_6; clear HO112; clear BK101; clear HB; have HO_5 := n0_; have HO_6 := n1_; have HO112 := n2_; have BK101 := n3_; have HB := n4_; have BK113 := n5_; have GW113 := n6_; have GE113 := n7_; have NB101_113 := n8_; have NB113_101 := n9_; clear n0_ n1_ n2_ n3_ n4_ n5_ n6_ n7_ n8_ n9_; clear hb hbox hg; have hnb19 := NB113_101.out; have hnc19 := NB101_113.out; have hcz20_0 : w18.cell? ⟨gb113, 0, none⟩ = some (.int .i64 0) := (blk_cell BK113.out 0).trans rfl; have hcz20_1 : w18.cell? ⟨gb113, 1, none⟩ = some (.int .i64 0) := (blk_cell BK113.out 1).trans rfl; have hcz20_2 : w18.cell? ⟨gb113, 2, none⟩ = some (.slice none 0 0) := (blk_cell BK113.out 2).trans rfl; have hfz20_0 := blk_frozen BK113.out 0; have hfz20_1 := blk_frozen BK113.out 1; have hfz20_2 := blk_frozen BK113.out 2; obtain ⟨Ao21, co21, eo21⟩ := Kd.R_slice HO112.out; subst eo21))
      go_loopg [9, 35] k1 (fun kq v9 v35 w' => ∃ (x9_2 : Int) (x35_2 : Int) (x114002_2 : List Int) (u114002 : Value), v9 = .int .i64 x9_2 ∧ v35 = .int .i64 x35_2 ∧ Aside0 (spec_buTable.l1 kq a1 t102 x6_1 x7_1 x9_2 t102 (t102.length : Int) x35_2 a0_0 a0_1 l0_2 t108 t109 x114002_2 = some r) ∧ Aside0 (kq ≤ k1) ∧ Aside0 (Kd.R (Kd.int .i64) 3 w' w.heap.size (fun k_ => some k_ ≠ ((.slice Ao15 x6_1.length co15) : Value).ownBlock) (.slice Ao10 t102.length co10) t102) ∧ Aside0 (Kd.R (Kd.int .i64) 3 w' w.heap.size (fun k_ => some k_ ≠ ((.slice Ao10 t102.length co10) : Value).ownBlock ∧ some k_ ≠ ((.slice Ao10 t102.length co10) : Value).ownBlock) (.slice Ao15 x6_1.length co15) x6_1) ∧ Aside0 (Kd.R (Kd.int .i64) 3 w' w.heap.size (fun k_ => some k_ ≠ ((.slice Ao15 x6_1.length co15) : Value).ownBlock) (.slice Ao10 t102.length co10) t102) ∧ Aside0 (Kd.R (Kd.int .u8) 5 w' w.heap.size (fun _ => True) u114002 x114002_2) ∧ Aside0 (w'.heap[gb101]? = some (.cells #[.int .i64 a0_0, .int .i64 a0_1, (.slice A0_2 l0_2.length c0_2)] 40 (0, 0))) ∧ Aside0 (w'.heap[gb113]? = some (.cells #[.int .i64 t108, .int .i64 t109, u114002] 40 (0, 0))) ∧ Aside0 (Below w.heap.size w w'))
      case atStart => exact ⟨(0), (0), (t110), (.slice Ao21 t110.length co21), (by first | rfl | (simp; done) | (simp [*]; done)), (by first | rfl | (simp; done) | (simp [*]; done)), H', ⟨Nat.le_refl _⟩, ⟨by (with_reducible repeat (first | apply Kd.R_alloc | apply Kd.R_drewN | apply Kd.R_drew)); exact Kd.R_mono (Kd.R_far (p := ⟨gb113, 2, none⟩) (Kd.R_far (p := ⟨gb113, 1, none⟩) (Kd.R_far (p := ⟨gb113, 0, none⟩) (Kd.R_types HO_5.out BK113.out (by decide)) (fun _ hk => hk.2) (.int .i64 t108)) (fun _ hk => hk.2) (.int .i64 t109)) (fun _ hk => hk.2) (.slice Ao21 t110.length co21)) (fun _ hk => hk.1)⟩, ⟨by (with_reducible repeat (first | apply Kd.R_alloc | apply Kd.R_drewN | apply Kd.R_drew)); exact Kd.R_mono (Kd.R_far (p := ⟨gb113, 2, none⟩) (Kd.R_far (p := ⟨gb113, 1, none⟩) (Kd.R_far (p := ⟨gb113, 0, none⟩) (Kd.R_types HO_6.out BK113.out (by decide)) (fun _ hk => hk.2) (.int .i64 t108)) (fun _ hk => hk.2) (.int .i64 t109)) (fun _ hk => hk.2) (.slice Ao21 t110.length co21)) (fun _ hk => ⟨hk.1, hk.1⟩)⟩, ⟨by (with_reducible repeat (first | apply Kd.R_alloc | apply Kd.R_drewN | apply Kd.R_drew)); exact Kd.R_mono (Kd.R_far (p := ⟨gb113, 2, none⟩) (Kd.R_far (p := ⟨gb113, 1, none⟩) (Kd.R_far (p := ⟨gb113, 0, none⟩) (Kd.R_types HO_5.out BK113.out (by decide)) (fun _ hk => hk.2) (.int .i64 t108)) (fun _ hk => hk.2) (.int .i64 t109)) (fun _ hk => hk.2) (.slice Ao21 t110.length co21)) (fun _ hk => hk.1)⟩, ⟨by (with_reducible repeat (first | apply Kd.R_alloc | apply Kd.R_drewN | apply Kd.R_drew)); exact Kd.R_mono (Kd.R_far (p := ⟨gb113, 2, none⟩) (Kd.R_far (p := ⟨gb113, 1, none⟩) (Kd.R_far (p := ⟨gb113, 0, none⟩) (Kd.R_types HO112.out BK113.out (by decide)) (fun _ hk => hk.2) (.int .i64 t108)) (fun _ hk => hk.2) (.int .i64 t109)) (fun _ hk => hk.2) (.slice Ao21 t110.length co21)) (fun _ hk => trivial)⟩, ⟨by (with_reducible repeat (first | refine blk_drewN ?_ _ | refine blk_drew ?_ | refine blk_alloc ?_ _)); refine blk_far ?_ NB101_113.out _; (with_reducible repeat (first | refine blk_drewN ?_ _ | refine blk_drew ?_ | refine blk_alloc ?_ _)); refine blk_far ?_ NB101_113.out _; (with_reducible repeat (first | refine blk_drewN ?_ _ | refine blk_drew ?_ | refine blk_alloc ?_ _)); refine blk_far ?_ NB101_113.out _; exact blc⟩, ⟨by (with_reducible repeat (first | refine blk_drewN ?_ _ | refine blk_drew ?_ | refine blk_alloc ?_ _)); refine blk_put (cs := #[.int .i64 t108, .int .i64 t109, .slice none 0 0]) ?_ 2 _ rfl; (with_reducible repeat (first | refine blk_drewN ?_ _ | refine blk_drew ?_ | refine blk_alloc ?_ _)); refine blk_put (cs := #[.int .i64 t108, .int .i64 0, .slice none 0 0]) ?_ 1 _ rfl; (with_reducible repeat (first | refine blk_drewN ?_ _ | refine blk_drew ?_ | refine blk_alloc ?_ _)); refine blk_put (cs := #[.int .i64 0, .int .i64 0, .slice none 0 0]) ?_ 0 _ rfl; exact blc⟩, ⟨bel HB⟩⟩
      case round =>
       clear H'
       try clear c1
       try clear p2
       try clear c3
       try clear c5
       try clear c5b0
       try clear c5b0y
       try clear c5b1
       try clear c6
       try clear c6b0
       try clear c6b0y
       try clear c6b1
       try clear p6
       try clear c13
       try clear c13b0
       try clear c13b0y
       try clear c19
       try clear hcz16_0
       try clear hcz16_1
       try clear hcz16_2
       try clear hcz20_0
       try clear hcz20_1
       try clear hcz20_2
       try clear hcz8_0
       try clear hcz8_1
       try clear hcz8_2
       try clear hfz16_0
       try clear hfz16_1
       try clear hfz16_2
       try clear hfz20_0
       try clear hfz20_1
       try clear hfz20_2
       try clear hfz8_0
       try clear hfz8_1
       try clear hfz8_2
       try clear p2
       try clear p6
       obtain ⟨x9_2, x35_2, x114002_2, u114002, rfl, rfl, HA, HK2, HO_5, HO_6, HO_33, HO_114002, BK101, BK113, HB⟩ := hrel
       cases gk with
       | zero => exact absurd HA.out (by simp [spec_buTable.l1])
       | succ k2 =>
        have H := HA.out
        clear HA
        simp only [spec_buTable.l1] at H
        by_cases c22 : x35_2 < (t102.length : Int)
        ·rw [if_pos c22] at H
         have c22b0 : decide (x35_2 < (t102.length : Int)) = true := decide_eq_true c22
         clear c22
         by_cases c23 : 0 ≤ x35_2
         ·rw [if_pos c23] at H
          have c23b0 : decide (0 ≤ x35_2) = true := decide_eq_true c23
          clear c23
          by_cases c24 : x35_2 < (t102.length : Int)
          ·rw [if_pos c24] at H
           have c24b0 : decide (x35_2 < (t102.length : Int)) = true := decide_eq_true c24
           clear c24
           have c25b0 := eq_true (of_decide_eq_true (by first | (with_reducible assumption) | assumption) : 0 ≤ x35_2)
           obtain ⟨ji26, hji26⟩ : ∃ j_ : Int, (shr .i64 x7_1 x35_2) = j_ := ⟨_, rfl⟩
           replace H : (if (Int.tmod (ji26) 2) = 1 then (if 0 ≤ (rd t102 x35_2) then (if (rd t102 x35_2) < (x114002_2.length : Int) then (spec_buTable.l1 k2 a1 t102 x6_1 x7_1 (wrap64 (x9_2 + 1)) t102 (t102.length : Int) (wrap64 (x35_2 + 1)) a0_0 a0_1 l0_2 t108 t109 (x114002_2.set ((rd t102 x35_2) : Int).toNat 111)) else (none)) else (none)) else (spec_buTable.l1 k2 a1 t102 x6_1 x7_1 x9_2 t102 (t102.length : Int) (wrap64 (x35_2 + 1)) a0_0 a0_1 l0_2 t108 t109 x114002_2)) = some r := by first | (rw [hji26] at H; exact H) | (simp only [hji26] at H ⊢; exact H)
           have hji26_ : (x7_1 / 2 ^ min x35_2.toNat 64) = ji26 := hji26
           have hji26z : x35_2 ≤ 64 → (x7_1 / 2 ^ x35_2.toNat) = ji26 := shr_small hji26
           by_cases c27 : (Int.tmod (ji26) 2) = 1
           ·rw [if_pos c27] at H
            have c27b0 : ((Int.tmod (ji26) 2) == 1) = true := beq_iff_eq.mpr c27
            have c27b1 : ((Int.tmod (ji26) 2) != 1) = false := bne_eq_false_iff_eq.mpr c27
            clear c27
            by_cases c28 : 0 ≤ (rd t102 x35_2)
            ·rw [if_pos c28] at H
             have c28b0 : decide (0 ≤ (rd t102 x35_2)) = true := decide_eq_true c28
             clear c28
             by_cases c29 : (rd t102 x35_2) < (x114002_2.length : Int)
             ·rw [if_pos c29] at H
              have c29b0 : decide ((rd t102 x35_2) < (x114002_2.length : Int)) = true := decide_eq_true c29
              clear c29
              obtain ⟨y115, hy115⟩ : ∃ y_ : List Int, y_ = (x114002_2.set ((rd t102 x35_2) : Int).toNat 111) := ⟨_, rfl⟩
              replace H : (spec_buTable.l1 k2 a1 t102 x6_1 x7_1 (wrap64 (x9_2 + 1)) t102 (t102.length : Int) (wrap64 (x35_2 + 1)) a0_0 a0_1 l0_2 t108 t109 y115) = some r := rH hy115 H
              have Ny115 := Aside0.mk hy115
              clear hy115
              have H' := Aside0.mk H
              clear H
              have p114 : 0 ≤ (x35_2 : Int) := of_decide_eq_true (by first | (with_reducible assumption) | assumption)
              have q114 : x35_2 < (t102.length : Int) := of_decide_eq_true (by first | (with_reducible assumption) | assumption)
              obtain ⟨ad114, e114, hx114_0⟩ := Kd.at_int (Kd.R_reads' HO_33.out).2.2 x35_2 p114 q114
              cases e114
              replace p114 := eq_true p114
              replace q114 := eq_true q114
              have hnb31 := NB113_101.out
              have hnc31 := NB101_113.out
              have hcz32_0 : wr.cell? ⟨gb113, 0, none⟩ = some (.int .i64 t108) := (blk_cell BK113.out 0).trans rfl
              have hcz32_1 : wr.cell? ⟨gb113, 1, none⟩ = some (.int .i64 t109) := (blk_cell BK113.out 1).trans rfl
              have hcz32_2 : wr.cell? ⟨gb113, 2, none⟩ = some (u114002) := (blk_cell BK113.out 2).trans rfl
              have hfz32_0 := blk_frozen BK113.out 0
              have hfz32_1 := blk_frozen BK113.out 1
              have hfz32_2 := blk_frozen BK113.out 2
              have p30 : 0 ≤ ((rd t102 x35_2) : Int) := of_decide_eq_true (by first | (with_reducible assumption) | assumption)
              have q30 : ((rd t102 x35_2) : Int) < ((x114002_2.length : Int) : Int) := of_decide_eq_true (by first | (with_reducible assumption) | assumption)
              obtain ⟨go30, co30, eo30, gb30, gl30, cl30, HG30⟩ := Kd.R_form HO_114002.out (by omega)
              (first | cases eo30 | (injection eo30 with ea_ en_ ec_; (first | subst ea_ | (injection ea_ with ea_; subst ea_)); subst ec_; clear en_))
              have GB30 := Aside0.mk gb30
              have GG30 := Aside0.mk HG30
              clear gb30 gl30 HG30
              obtain ⟨hx30_0, hf30_0⟩ := Kd.R_celln 0 HO_114002.out ((rd t102 x35_2) : Int) p30 q30
              replace p30 := eq_true p30
              replace q30 := eq_true q30
              have HP33 := Kd.R_putg HO_114002.out ((rd t102 x35_2) : Int) 111
              go_wp2_with (first | ((with_reducible refine gate_store (t := 5) (p := 48) rfl ?_); refine store_event (t := 5) (p := 48) (v := ?vo_w34) (w1 := (wr.setCell ⟨go30, ((rd t102 x35_2) : Int).toNat, none⟩ (.int .u8 111))) ?hg ?ho ?hn ?hr ?_; (case ho => rfl); (case hg => rfl); (case hn => rfl); (case hr => first | (go_simp; done) | (go_simp; rfl)); intro w34 hw; have hg : wr.grownBy w34 (some go30) := (by rw [hw]; exact HP33.2); have hp_ : Kd.R (Kd.int .u8) 5 w34 w.heap.size (fun _ => True) (.slice (some ⟨go30, 0, none⟩) x114002_2.length co30) y115 := (by rw [hw, Ny115.out]; (first | exact HP33.1 | exact R_any HP33.1)); clear HP33; have n0_ := Aside0.mk (Kd.R_over' (v := (.slice (some ⟨go30, 0, none⟩) x114002_2.length co30)) (rch HO_5) (Kd.R_typed HO_114002.out) (by decide) hg); have n1_ := Aside0.mk (Kd.R_over' (v := (.slice (some ⟨go30, 0, none⟩) x114002_2.length co30)) (rch HO_6) (Kd.R_typed HO_114002.out) (by decide) hg); have n2_ := Aside0.mk (Kd.R_over' (v := (.slice (some ⟨go30, 0, none⟩) x114002_2.length co30)) (rch HO_33) (Kd.R_typed HO_114002.out) (by decide) hg); have n3_ := Aside0.mk (hp_); have n4_ := Aside0.mk (blk_grown (g := gb101) (o := .cells #[.int .i64 a0_0, .int .i64 a0_1, .slice A0_2 l0_2.length c0_2] 40 (0, 0)) blc hg (Kd.R_ne HO_114002.out BK101.out (by decide))); have n5_ := Aside0.mk (blk_grown (g := gb113) (o := .cells #[.int .i64 t108, .int .i64 t109, .slice (some ⟨go30, 0, none⟩) x114002_2.length co30] 40 (0, 0)) blc hg (Kd.R_ne HO_114002.out BK113.out (by decide))); have n6_ := Aside0.mk ((by rw [hw]; exact below_set (HB.out) GB30.out : Below w.heap.size w w34)); clear HO_5; clear HO_6; clear HO_33; clear HO_114002; clear BK101; clear BK113; clear HB; have HO_5 := n0_; have HO_6 := n1_; have HO_33 := n2_; have HO_114002 := n3_; have BK101 := n4_; have BK113 := n5_; have HB := n6_; clear n0_ n1_ n2_ n3_ n4_ n5_ n6_; clear hg hw hp_))
              go_roundg k2
              case measure => have := HK1.out; have := HK2.out; omega
              case rel => exact ⟨(wrap64 (x9_2 + 1)), (wrap64 (x35_2 + 1)), (y115), (.slice (some ⟨go30, 0, none⟩) x114002_2.length co30), (by first | rfl | (simp; done) | (simp [*]; done)), (by first | rfl | (simp; done) | (simp [*]; done)), H', ⟨by have := HK1.out; have := HK2.out; omega⟩, ⟨rch HO_5⟩, ⟨rch HO_6⟩, ⟨rch HO_33⟩, ⟨rch HO_114002⟩, ⟨blc⟩, ⟨blc⟩, ⟨bel HB⟩⟩
             ·rw [if_neg c29] at H
              exact absurd H (by simp)
            ·rw [if_neg c28] at H
             exact absurd H (by simp)
           ·rw [if_neg c27] at H
            have c27b0 : ((Int.tmod (ji26) 2) == 1) = false := beq_eq_false_iff_ne.mpr c27
            have c27b1 : ((Int.tmod (ji26) 2) != 1) = true := bne_iff_ne.mpr c27
            have H' := Aside0.mk H
            clear H
            have p114 : 0 ≤ (x35_2 : Int) := of_decide_eq_true (by first | (with_reducible assumption) | assumption)
            have q114 : x35_2 < (t102.length : Int) := of_decide_eq_true (by first | (with_reducible assumption) | assumption)
            obtain ⟨ad114, e114, hx114_0⟩ := Kd.at_int (Kd.R_reads' HO_33.out).2.2 x35_2 p114 q114
            cases e114
            replace p114 := eq_true p114
            replace q114 := eq_true q114
            go_wp2
            go_roundg k2
            case measure => have := HK1.out; have := HK2.out; omega
            case rel => exact ⟨(x9_2), (wrap64 (x35_2 + 1)), (x114002_2), (u114002), (by first | rfl | (simp; done) | (simp [*]; done)), (by first | rfl | (simp; done) | (simp [*]; done)), H', ⟨by have := HK1.out; have := HK2.out; omega⟩, ⟨rch HO_5⟩, ⟨rch HO_6⟩, ⟨rch HO_33⟩, ⟨rch HO_114002⟩, ⟨blc⟩, ⟨blc⟩, ⟨bel HB⟩⟩
          ·rw [if_neg c24] at H
           exact absurd H (by simp)
         ·rw [if_neg c23] at H
          exact absurd H (by simp)
        ·rw [if_neg c22] at H
         have c22b0 : decide (x35_2 < (t102.length : Int)) = false := decide_eq_false c22
         clear c22
         by_cases c35 : x9_2 = 1
         ·rw [if_pos c35] at H
          have c35b0 : (x9_2 == 1) = true := beq_iff_eq.mpr c35
          have c35b1 : (x9_2 != 1) = false := bne_eq_false_iff_eq.mpr c35
          clear c35
          by_cases c36 : a1 < 0
          ·rw [if_pos c36] at H
           have c36b0 : decide (a1 < 0) = true := decide_eq_true c36
           clear c36
           by_cases c37 : 0 ≤ x7_1
           ·rw [if_pos c37] at H
            have c37b0 : decide (0 ≤ x7_1) = true := decide_eq_true c37
            clear c37
            by_cases c38 : x7_1 < (x6_1.length : Int)
            ·rw [if_pos c38] at H
             have c38b0 : decide (x7_1 < (x6_1.length : Int)) = true := decide_eq_true c38
             clear c38
             obtain ⟨y116, hy116⟩ : ∃ y_ : List Int, y_ = (x6_1.set (x7_1 : Int).toNat 1) := ⟨_, rfl⟩
             replace H : (spec_buTable.l0 k2 a1 t102 y116 (wrap64 (x7_1 + 1)) a0_0 a0_1 l0_2) = some r := rH hy116 H
             have Ny116 := Aside0.mk hy116
             clear hy116
             have H' := Aside0.mk H
             clear H
             have p39 : 0 ≤ (x7_1 : Int) := of_decide_eq_true (by first | (with_reducible assumption) | assumption)
             have q39 : (x7_1 : Int) < ((x6_1.length : Int) : Int) := of_decide_eq_true (by first | (with_reducible assumption) | assumption)
             obtain ⟨go39, co39, eo39, gb39, gl39, cl39, HG39⟩ := Kd.R_form HO_6.out (by omega)
             (first | cases eo39 | (injection eo39 with ea_ en_ ec_; (first | subst ea_ | (injection ea_ with ea_; subst ea_)); subst ec_; clear en_))
             have GB39 := Aside0.mk gb39
             have GG39 := Aside0.mk HG39
             clear gb39 gl39 HG39
             obtain ⟨hx39_0, hf39_0⟩ := Kd.R_celln 0 HO_6.out (x7_1 : Int) p39 q39
             replace p39 := eq_true p39
             replace q39 := eq_true q39
             have HP40 := Kd.R_putg HO_6.out (x7_1 : Int) 1
             go_wp2_with (first | ((with_reducible refine gate_store (t := 3) (p := 64) rfl ?_); refine store_event (t := 3) (p := 64) (v := ?vo_w41) (w1 := (wr.setCell ⟨go39, (x7_1 : Int).toNat, none⟩ (.int .i64 1))) ?hg ?ho ?hn ?hr ?_; (case ho => rfl); (case hg => rfl); (case hn => rfl); (case hr => first | (go_simp; done) | (go_simp; rfl)); intro w41 hw; have hg : wr.grownBy w41 (some go39) := (by rw [hw]; exact HP40.2); have hp_ : Kd.R (Kd.int .i64) 3 w41 w.heap.size (fun k_ => some k_ ≠ (.slice Ao10 t102.length co10 : Value).ownBlock ∧ some k_ ≠ (.slice Ao10 t102.length co10 : Value).ownBlock) (.slice (some ⟨go39, 0, none⟩) x6_1.length co15) y116 := (by rw [hw, Ny116.out]; (first | exact HP40.1 | exact R_any HP40.1)); clear HP40; have n0_ := Aside0.mk (Kd.R_after (v := (.slice (some ⟨go39, 0, none⟩) x6_1.length co15)) (v1 := (.slice (some ⟨go39, 0, none⟩) x6_1.length co15)) (ok := (fun _ => True)) (by (with_reducible repeat (first | apply Kd.R_alloc | apply Kd.R_drewN | apply Kd.R_drew)); exact Kd.R_mono HO_5.out (fun _ hk => ⟨trivial, hk⟩)) hg (.inl rfl)); have n1_ := Aside0.mk (hp_); have n2_ := Aside0.mk (Kd.R_after (v := (.slice (some ⟨go39, 0, none⟩) x6_1.length co15)) (v1 := (.slice (some ⟨go39, 0, none⟩) x6_1.length co15)) (ok := (fun _ => True)) (by (with_reducible repeat (first | apply Kd.R_alloc | apply Kd.R_drewN | apply Kd.R_drew)); exact Kd.R_mono HO_33.out (fun _ hk => ⟨trivial, hk⟩)) hg (.inl rfl)); have n3_ := Aside0.mk (Kd.R_over' (v := (.slice (some ⟨go39, 0, none⟩) x6_1.length co15)) (rch HO_114002) (Kd.R_typed HO_6.out) (by decide) hg); have n4_ := Aside0.mk (blk_grown (g := gb101) (o := .cells #[.int .i64 a0_0, .int .i64 a0_1, .slice A0_2 l0_2.length c0_2] 40 (0, 0)) blc hg (Kd.R_ne HO_6.out BK101.out (by decide))); have n5_ := Aside0.mk (blk_grown (g := gb113) (o := .cells #[.int .i64 t108, .int .i64 t109, u114002] 40 (0, 0)) blc hg (Kd.R_ne HO_6.out BK113.out (by decide))); have n6_ := Aside0.mk ((by rw [hw]; exact below_set (HB.out) GB39.out : Below w.heap.size w w41)); clear HO_5; clear HO_6; clear HO_33; clear HO_114002; clear BK101; clear BK113; clear HB; have HO_5 := n0_; have HO_6 := n1_; have HO_33 := n2_; have HO_114002 := n3_; have BK101 := n4_; have BK113 := n5_; have HB := n6_; clear n0_ n1_ n2_ n3_ n4_ n5_ n6_; clear hg hw hp_))
             go_roundg k2
             case measure => have := HK1.out; have := HK2.out; omega
             case rel => exact ⟨(y116), (wrap64 (x7_1 + 1)), (by first | rfl | (simp; done) | (simp [*]; done)), H', ⟨by have := HK1.out; have := HK2.out; omega⟩, ⟨by (with_reducible repeat (first | apply Kd.R_alloc | apply Kd.R_drewN | apply Kd.R_drew)); (first | exact Kd.R_mono HO_5.out (fun _ hk => hk.2) | exact HO_5.out | exact R_any HO_5.out)⟩, ⟨by (with_reducible repeat (first | apply Kd.R_alloc | apply Kd.R_drewN | apply Kd.R_drew)); exact Kd.R_mono HO_6.out (fun _ hk => hk.1)⟩, ⟨blc⟩, ⟨bel HB⟩⟩
            ·rw [if_neg c38] at H
             exact absurd H (by simp)
           ·rw [if_neg c37] at H
            exact absurd H (by simp)
          ·rw [if_neg c36] at H
           have c36b0 : decide (a1 < 0) = false := decide_eq_false c36
           clear c36
           by_cases c42 : 0 ≤ a1
           ·rw [if_pos c42] at H
            have c42b0 := eq_true c42
            have c42b1 : decide (0 ≤ a1) = true := decide_eq_true c42
            clear c42
            obtain ⟨ji43, hji43⟩ : ∃ j_ : Int, (shl .i64 1 a1) = j_ := ⟨_, rfl⟩
            replace H : (if x7_1 = (ji43) then (if 0 ≤ x7_1 then (if x7_1 < (x6_1.length : Int) then (spec_buTable.l0 k2 a1 t102 (x6_1.set (x7_1 : Int).toNat 1) (wrap64 (x7_1 + 1)) a0_0 a0_1 l0_2) else (none)) else (none)) else (spec_buTable.l0 k2 a1 t102 x6_1 (wrap64 (x7_1 + 1)) a0_0 a0_1 l0_2)) = some r := by first | (rw [hji43] at H; exact H) | (simp only [hji43] at H ⊢; exact H)
            have hji43_ : (IntKind.i64.wrap (1 * 2 ^ min a1.toNat 64)) = ji43 := hji43
            have hji43z : a1 ≤ 64 → (IntKind.i64.wrap (1 * 2 ^ a1.toNat)) = ji43 := shl_small hji43
            have hji43u : (IntKind.i64.wrap (2 ^ min a1.toNat 64)) = ji43 := by have h_ := hji43_; rw [Int.one_mul] at h_; exact h_
            have hji43v : a1 ≤ 64 → (IntKind.i64.wrap (2 ^ a1.toNat)) = ji43 := fun hle_ => by have h_ := hji43z hle_; rw [Int.one_mul] at h_; exact h_
            have hji43y : (wrap64 (1 * 2 ^ min a1.toNat 64)) = ji43 := (i64_w _).symm.trans hji43_
            have hji43x : a1 ≤ 64 → (wrap64 (1 * 2 ^ a1.toNat)) = ji43 := fun h_ => (i64_w _).symm.trans (hji43z h_)
            by_cases c44 : x7_1 = (ji43)
            ·rw [if_pos c44] at H
             have c44b0 : (x7_1 == (ji43)) = true := beq_iff_eq.mpr c44
             have c44b1 : (x7_1 != (ji43)) = false := bne_eq_false_iff_eq.mpr c44
             clear c44
             by_cases c45 : 0 ≤ x7_1
             ·rw [if_pos c45] at H
              have c45b0 : decide (0 ≤ x7_1) = true := decide_eq_true c45
              clear c45
              by_cases c46 : x7_1 < (x6_1.length : Int)
              ·rw [if_pos c46] at H
               have c46b0 : decide (x7_1 < (x6_1.length : Int)) = true := decide_eq_true c46
               clear c46
               obtain ⟨y117, hy117⟩ : ∃ y_ : List Int, y_ = (x6_1.set (x7_1 : Int).toNat 1) := ⟨_, rfl⟩
               replace H : (spec_buTable.l0 k2 a1 t102 y117 (wrap64 (x7_1 + 1)) a0_0 a0_1 l0_2) = some r := rH hy117 H
               have Ny117 := Aside0.mk hy117
               clear hy117
               have H' := Aside0.mk H
               clear H
               have p47 : 0 ≤ (x7_1 : Int) := of_decide_eq_true (by first | (with_reducible assumption) | assumption)
               have q47 : (x7_1 : Int) < ((x6_1.length : Int) : Int) := of_decide_eq_true (by first | (with_reducible assumption) | assumption)
               obtain ⟨go47, co47, eo47, gb47, gl47, cl47, HG47⟩ := Kd.R_form HO_6.out (by omega)
               (first | cases eo47 | (injection eo47 with ea_ en_ ec_; (first | subst ea_ | (injection ea_ with ea_; subst ea_)); subst ec_; clear en_))
               have GB47 := Aside0.mk gb47
               have GG47 := Aside0.mk HG47
               clear gb47 gl47 HG47
               obtain ⟨hx47_0, hf47_0⟩ := Kd.R_celln 0 HO_6.out (x7_1 : Int) p47 q47
               replace p47 := eq_true p47
               replace q47 := eq_true q47
               have HP48 := Kd.R_putg HO_6.out (x7_1 : Int) 1
               go_wp2_with (first | ((with_reducible refine gate_store (t := 3) (p := 64) rfl ?_); refine store_event (t := 3) (p := 64) (v := ?vo_w49) (w1 := (wr.setCell ⟨go47, (x7_1 : Int).toNat, none⟩ (.int .i64 1))) ?hg ?ho ?hn ?hr ?_; (case ho => rfl); (case hg => rfl); (case hn => rfl); (case hr => first | (go_simp; done) | (go_simp; rfl)); intro w49 hw; have hg : wr.grownBy w49 (some go47) := (by rw [hw]; exact HP48.2); have hp_ : Kd.R (Kd.int .i64) 3 w49 w.heap.size (fun k_ => some k_ ≠ (.slice Ao10 t102.length co10 : Value).ownBlock ∧ some k_ ≠ (.slice Ao10 t102.length co10 : Value).ownBlock) (.slice (some ⟨go47, 0, none⟩) x6_1.length co15) y117 := (by rw [hw, Ny117.out]; (first | exact HP48.1 | exact R_any HP48.1)); clear HP48; have n0_ := Aside0.mk (Kd.R_after (v := (.slice (some ⟨go47, 0, none⟩) x6_1.length co15)) (v1 := (.slice (some ⟨go47, 0, none⟩) x6_1.length co15)) (ok := (fun _ => True)) (by (with_reducible repeat (first | apply Kd.R_alloc | apply Kd.R_drewN | apply Kd.R_drew)); exact Kd.R_mono HO_5.out (fun _ hk => ⟨trivial, hk⟩)) hg (.inl rfl)); have n1_ := Aside0.mk (hp_); have n2_ := Aside0.mk (Kd.R_after (v := (.slice (some ⟨go47, 0, none⟩) x6_1.length co15)) (v1 := (.slice (some ⟨go47, 0, none⟩) x6_1.length co15)) (ok := (fun _ => True)) (by (with_reducible repeat (first | apply Kd.R_alloc | apply Kd.R_drewN | apply Kd.R_drew)); exact Kd.R_mono HO_33.out (fun _ hk => ⟨trivial, hk⟩)) hg (.inl rfl)); have n3_ := Aside0.mk (Kd.R_over' (v := (.slice (some ⟨go47, 0, none⟩) x6_1.length co15)) (rch HO_114002) (Kd.R_typed HO_6.out) (by decide) hg); have n4_ := Aside0.mk (blk_grown (g := gb101) (o := .cells #[.int .i64 a0_0, .int .i64 a0_1, .slice A0_2 l0_2.length c0_2] 40 (0, 0)) blc hg (Kd.R_ne HO_6.out BK101.out (by decide))); have n5_ := Aside0.mk (blk_grown (g := gb113) (o := .cells #[.int .i64 t108, .int .i64 t109, u114002] 40 (0, 0)) blc hg (Kd.R_ne HO_6.out BK113.out (by decide))); have n6_ := Aside0.mk ((by rw [hw]; exact below_set (HB.out) GB47.out : Below w.heap.size w w49)); clear HO_5; clear HO_6; clear HO_33; clear HO_114002; clear BK101; clear BK113; clear HB; have HO_5 := n0_; have HO_6 := n1_; have HO_33 := n2_; have HO_114002 := n3_; have BK101 := n4_; have BK113 := n5_; have HB := n6_; clear n0_ n1_ n2_ n3_ n4_ n5_ n6_; clear hg hw hp_))
               go_roundg k2
               case measure => have := HK1.out; have := HK2.out; omega
               case rel => exact ⟨(y117), (wrap64 (x7_1 + 1)), (by first | rfl | (simp; done) | (simp [*]; done)), H', ⟨by have := HK1.out; have := HK2.out; omega⟩, ⟨by (with_reducible repeat (first | apply Kd.R_alloc | apply Kd.R_drewN | apply Kd.R_drew)); (first | exact Kd.R_mono HO_5.out (fun _ hk => hk.2) | exact HO_5.out | exact R_any HO_5.out)⟩, ⟨by (with_reducible repeat (first | apply Kd.R_alloc | apply Kd.R_drewN | apply Kd.R_drew)); exact Kd.R_mono HO_6.out (fun _ hk => hk.1)⟩, ⟨blc⟩, ⟨bel HB⟩⟩
              ·rw [if_neg c46] at H
               exact absurd H (by simp)
             ·rw [if_neg c45] at H
              exact absurd H (by simp)
            ·rw [if_neg c44] at H
             have c44b0 : (x7_1 == (ji43)) = false := beq_eq_false_iff_ne.mpr c44
             have c44b1 : (x7_1 != (ji43)) = true := bne_iff_ne.mpr c44
             have H' := Aside0.mk H
             clear H
             go_wp2
             go_roundg k2
             case measure => have := HK1.out; have := HK2.out; omega
             case rel => exact ⟨(x6_1), (wrap64 (x7_1 + 1)), (by first | rfl | (simp; done) | (simp [*]; done)), H', ⟨by have := HK1.out; have := HK2.out; omega⟩, ⟨rch HO_5⟩, ⟨by (with_reducible repeat (first | apply Kd.R_alloc | apply Kd.R_drewN | apply Kd.R_drew)); exact Kd.R_mono HO_6.out (fun _ hk => hk.1)⟩, ⟨blc⟩, ⟨bel HB⟩⟩
           ·rw [if_neg c42] at H
            exact absurd H (by simp)
         ·rw [if_neg c35] at H
          have c35b0 : (x9_2 == 1) = false := beq_eq_false_iff_ne.mpr c35
          have c35b1 : (x9_2 != 1) = true := bne_iff_ne.mpr c35
          have H' := Aside0.mk H
          clear H
          go_wp2
          go_loopg [67] k2 (fun kq v67 w' => ∃ (x6_3 : List Int) (x67_3 : Int), v67 = .int .i64 x67_3 ∧ Aside0 (spec_buTable.l2 kq a1 t102 x6_3 x7_1 t102 (t102.length : Int) x67_3 a0_0 a0_1 l0_2 t108 t109 x114002_2 = some r) ∧ Aside0 (kq ≤ k2) ∧ Aside0 (Kd.R (Kd.int .i64) 3 w' w.heap.size (fun k_ => some k_ ≠ ((.slice Ao15 x6_1.length co15) : Value).ownBlock) (.slice Ao10 t102.length co10) t102) ∧ Aside0 (Kd.R (Kd.int .i64) 3 w' w.heap.size (fun k_ => some k_ ≠ ((.slice Ao10 t102.length co10) : Value).ownBlock ∧ some k_ ≠ ((.slice Ao10 t102.length co10) : Value).ownBlock) (.slice Ao15 x6_1.length co15) x6_3) ∧ Aside0 (Kd.R (Kd.int .i64) 3 w' w.heap.size (fun k_ => some k_ ≠ ((.slice Ao15 x6_1.length co15) : Value).ownBlock) (.slice Ao10 t102.length co10) t102) ∧ Aside0 (Kd.R (Kd.int .u8) 5 w' w.heap.size (fun _ => True) u114002 x114002_2) ∧ Aside0 (w'.heap[gb101]? = some (.cells #[.int .i64 a0_0, .int .i64 a0_1, (.slice A0_2 l0_2.length c0_2)] 40 (0, 0))) ∧ Aside0 (w'.heap[gb113]? = some (.cells #[.int .i64 t108, .int .i64 t109, u114002] 40 (0, 0))) ∧ Aside0 (Below w.heap.size w w'))
          case atStart => exact ⟨(x6_1), (0), (by first | rfl | (simp; done) | (simp [*]; done)), H', ⟨Nat.le_refl _⟩, ⟨rch HO_5⟩, ⟨by (with_reducible repeat (first | apply Kd.R_alloc | apply Kd.R_drewN | apply Kd.R_drew)); exact Kd.R_mono HO_6.out (fun _ hk => ⟨hk.1, hk.1⟩)⟩, ⟨rch HO_5⟩, ⟨rch HO_114002⟩, ⟨blc⟩, ⟨blc⟩, ⟨bel HB⟩⟩
          case round =>
           clear H'
           try clear c1
           try clear p1
           try clear q1
           try clear hx1
           try clear c2
           try clear p2
           try clear c3
           try clear p3
           try clear q3
           try clear hx3
           try clear hf3
           try clear c4
           try clear p4
           try clear q4
           try clear hx4
           try clear hf4
           try clear c5
           try clear c5b0
           try clear c5b0y
           try clear c5b1
           try clear c6
           try clear c6b0
           try clear c6b0y
           try clear c6b1
           try clear p6
           try clear p11
           try clear q11
           try clear hx11
           try clear c13
           try clear c13b0
           try clear c13b0y
           try clear c19
           try clear c22
           try clear c22b0
           try clear c22b0y
           try clear c23
           try clear c23b0
           try clear c23b0y
           try clear c24
           try clear c24b0
           try clear c24b0y
           try clear c25
           try clear c25b0
           try clear c25b0y
           try clear c27
           try clear c27b0
           try clear c27b0y
           try clear c27b1
           try clear c28
           try clear c28b0
           try clear c28b0y
           try clear c29
           try clear c29b0
           try clear c29b0y
           try clear p30
           try clear q30
           try clear hx30
           try clear hf30
           try clear c31
           try clear c34
           try clear c35
           try clear c35b0
           try clear c35b0y
           try clear c35b1
           try clear c36
           try clear c36b0
           try clear c36b0y
           try clear c37
           try clear c37b0
           try clear c37b0y
           try clear c38
           try clear c38b0
           try clear c38b0y
           try clear p39
           try clear q39
           try clear hx39
           try clear hf39
           try clear c42
           try clear c42b0
           try clear c42b0y
           try clear c42b1
           try clear c44
           try clear c44b0
           try clear c44b0y
           try clear c44b1
           try clear c45
           try clear c45b0
           try clear c45b0y
           try clear c46
           try clear c46b0
           try clear c46b0y
           try clear p47
           try clear q47
           try clear hx47
           try clear hf47
           try clear hcz16_0
           try clear hcz16_1
           try clear hcz16_2
           try clear hcz20_0
           try clear hcz20_1
           try clear hcz20_2
           try clear hcz32_0
           try clear hcz32_1
           try clear hcz32_2
           try clear hcz8_0
           try clear hcz8_1
           try clear hcz8_2
           try clear hfz16_0
           try clear hfz16_1
           try clear hfz16_2
           try clear hfz20_0
           try clear hfz20_1
           try clear hfz20_2
           try clear hfz32_0
           try clear hfz32_1
           try clear hfz32_2
           try clear hfz8_0
           try clear hfz8_1
           try clear hfz8_2
           try clear hx114_0
           try clear hx30_0
           try clear hx39_0
           try clear hx47_0
           try clear p114
           try clear p2
           try clear p30
           try clear p39
           try clear p47
           try clear p6
           try clear q114
           try clear q30
           try clear q39
           try clear q47
           obtain ⟨x6_3, x67_3, rfl, HA, HK3, HO_5, HO_6, HO_65, HO_114002, BK101, BK113, HB⟩ := hrel
           have hl6_3 := (Kd.R_reads' HO_6.out).1
           rw [hl6_3] at HO_6
           (try simp only [hl6_3])
           (try simp only [hl6_3] at BK101)
           (try simp only [hl6_3] at BK113)
           (try simp only [hl6_3] at HO_5)
           (try simp only [hl6_3] at HO_65)
           (try simp only [hl6_3] at HO_114002)
           cases gk with
           | zero => exact absurd HA.out (by simp [spec_buTable.l2])
           | succ k3 =>
            have H := HA.out
            clear HA
            simp only [spec_buTable.l2] at H
            by_cases c50 : x67_3 < (t102.length : Int)
            ·rw [if_pos c50] at H
             have c50b0 : decide (x67_3 < (t102.length : Int)) = true := decide_eq_true c50
             clear c50
             by_cases c51 : 0 ≤ x67_3
             ·rw [if_pos c51] at H
              have c51b0 : decide (0 ≤ x67_3) = true := decide_eq_true c51
              clear c51
              by_cases c52 : x67_3 < (t102.length : Int)
              ·rw [if_pos c52] at H
               have c52b0 : decide (x67_3 < (t102.length : Int)) = true := decide_eq_true c52
               clear c52
               have HC53 := Aside0.mk H
               clear H
               have p118 : 0 ≤ (x67_3 : Int) := of_decide_eq_true (by first | (with_reducible assumption) | assumption)
               have q118 : x67_3 < (t102.length : Int) := of_decide_eq_true (by first | (with_reducible assumption) | assumption)
               obtain ⟨ad118, e118, hx118_0⟩ := Kd.at_int (Kd.R_reads' HO_65.out).2.2 x67_3 p118 q118
               cases e118
               replace p118 := eq_true p118
               replace q118 := eq_true q118
               go_upto_region 21 with (fail)
               go_cut [86] (fun v86 wc => ∃ (kq : Nat) (x86_52 : Bool), v86 = .bool x86_52 ∧ Aside0 (spec_buTable.j3 kq a1 t102 x6_3 x7_1 x67_3 (rd t102 x67_3) t102 (t102.length : Int) x67_3 x86_52 a0_0 a0_1 l0_2 t108 t109 x114002_2 = some r) ∧ Aside0 (kq ≤ k3) ∧ Aside0 (Kd.R (Kd.int .i64) 3 wc w.heap.size (fun k_ => some k_ ≠ ((.slice Ao15 x6_3.length co15) : Value).ownBlock) (.slice (some ad118) t102.length co10) t102) ∧ Aside0 (Kd.R (Kd.int .i64) 3 wc w.heap.size (fun k_ => some k_ ≠ ((.slice (some ad118) t102.length co10) : Value).ownBlock ∧ some k_ ≠ ((.slice (some ad118) t102.length co10) : Value).ownBlock) (.slice Ao15 x6_3.length co15) x6_3) ∧ Aside0 (Kd.R (Kd.int .i64) 3 wc w.heap.size (fun k_ => some k_ ≠ ((.slice Ao15 x6_3.length co15) : Value).ownBlock) (.slice (some ad118) t102.length co10) t102) ∧ Aside0 (Kd.R (Kd.int .u8) 5 wc w.heap.size (fun _ => True) u114002 x114002_2) ∧ Aside0 (wc.heap[gb101]? = some (.cells #[.int .i64 a0_0, .int .i64 a0_1, (.slice A0_2 l0_2.length c0_2)] 40 (0, 0))) ∧ Aside0 (wc.heap[gb113]? = some (.cells #[.int .i64 t108, .int .i64 t109, u114002] 40 (0, 0))) ∧ Aside0 (Below w.heap.size w wc))
               case first =>
                have H := HC53.out
                clear HC53
                have c54b0 := eq_true (of_decide_eq_true (by first | (with_reducible assumption) | assumption) : 0 ≤ x67_3)
                obtain ⟨ji55, hji55⟩ : ∃ j_ : Int, (shr .i64 x7_1 x67_3) = j_ := ⟨_, rfl⟩
                replace H : (if (Int.tmod (ji55) 2) = 0 then (spec_buTable.j3 k3 a1 t102 x6_3 x7_1 x67_3 (rd t102 x67_3) t102 (t102.length : Int) x67_3 true a0_0 a0_1 l0_2 t108 t109 x114002_2) else (if 0 ≤ (wrap64 (x7_1 - (shl .i64 1 x67_3))) then (if (wrap64 (x7_1 - (shl .i64 1 x67_3))) < (x6_3.length : Int) then (spec_buTable.j3 k3 a1 t102 x6_3 x7_1 x67_3 (rd t102 x67_3) t102 (t102.length : Int) x67_3 ((rd x6_3 (wrap64 (x7_1 - (shl .i64 1 x67_3)))) == 0) a0_0 a0_1 l0_2 t108 t109 x114002_2) else (none)) else (none))) = some r := by first | (rw [hji55] at H; exact H) | (simp only [hji55] at H ⊢; exact H)
                have hji55_ : (x7_1 / 2 ^ min x67_3.toNat 64) = ji55 := hji55
                have hji55z : x67_3 ≤ 64 → (x7_1 / 2 ^ x67_3.toNat) = ji55 := shr_small hji55
                by_cases c56 : (Int.tmod (ji55) 2) = 0
                ·rw [if_pos c56] at H
                 have c56b0 : ((Int.tmod (ji55) 2) == 0) = true := beq_iff_eq.mpr c56
                 have c56b1 : ((Int.tmod (ji55) 2) != 0) = false := bne_eq_false_iff_eq.mpr c56
                 clear c56
                 (first | rw [c56b0] | (simp only [i64_w, i32_w]; rw [c56b0]) | skip)
                 have H' := Aside0.mk H
                 clear H
                 go_wp2
                 go_meet
                 case rel => exact ⟨_, (true), (by first | rfl | (simp; done) | (simp [*]; done)), H', ⟨by have := HK1.out; have := HK2.out; have := HK3.out; first | omega | exact Nat.le_refl _⟩, ⟨by (try simp only [hl6_3]); (with_reducible repeat (first | apply Kd.R_alloc | apply Kd.R_drewN | apply Kd.R_drew)); (first | exact HO_5.out | exact R_any HO_5.out)⟩, ⟨by (try simp only [hl6_3]); (with_reducible repeat (first | apply Kd.R_alloc | apply Kd.R_drewN | apply Kd.R_drew)); (first | exact HO_6.out | exact R_any HO_6.out)⟩, ⟨by (try simp only [hl6_3]); (with_reducible repeat (first | apply Kd.R_alloc | apply Kd.R_drewN | apply Kd.R_drew)); (first | exact HO_65.out | exact R_any HO_65.out)⟩, ⟨by (try simp only [hl6_3]); (with_reducible repeat (first | apply Kd.R_alloc | apply Kd.R_drewN | apply Kd.R_drew)); (first | exact HO_114002.out | exact R_any HO_114002.out)⟩, ⟨by (try simp only [hl6_3]); exact blc⟩, ⟨by (try simp only [hl6_3]); exact blc⟩, ⟨bel HB⟩⟩
                ·rw [if_neg c56] at H
                 have c56b0 : ((Int.tmod (ji55) 2) == 0) = false := beq_eq_false_iff_ne.mpr c56
                 have c56b1 : ((Int.tmod (ji55) 2) != 0) = true := bne_iff_ne.mpr c56
                 (first | rw [c56b0] | (simp only [i64_w, i32_w]; rw [c56b0]) | skip)
                 have c57b0 := eq_true (of_decide_eq_true (by first | (with_reducible assumption) | assumption) : 0 ≤ x67_3)
                 obtain ⟨ji58, hji58⟩ : ∃ j_ : Int, (shl .i64 1 x67_3) = j_ := ⟨_, rfl⟩
                 replace H : (if 0 ≤ (wrap64 (x7_1 - (ji58))) then (if (wrap64 (x7_1 - (ji58))) < (x6_3.length : Int) then (spec_buTable.j3 k3 a1 t102 x6_3 x7_1 x67_3 (rd t102 x67_3) t102 (t102.length : Int) x67_3 ((rd x6_3 (wrap64 (x7_1 - (ji58)))) == 0) a0_0 a0_1 l0_2 t108 t109 x114002_2) else (none)) else (none)) = some r := by first | (rw [hji58] at H; exact H) | (simp only [hji58] at H ⊢; exact H)
                 have hji58_ : (IntKind.i64.wrap (1 * 2 ^ min x67_3.toNat 64)) = ji58 := hji58
                 have hji58z : x67_3 ≤ 64 → (IntKind.i64.wrap (1 * 2 ^ x67_3.toNat)) = ji58 := shl_small hji58
                 have hji58u : (IntKind.i64.wrap (2 ^ min x67_3.toNat 64)) = ji58 := by have h_ := hji58_; rw [Int.one_mul] at h_; exact h_
                 have hji58v : x67_3 ≤ 64 → (IntKind.i64.wrap (2 ^ x67_3.toNat)) = ji58 := fun hle_ => by have h_ := hji58z hle_; rw [Int.one_mul] at h_; exact h_
                 have hji58y : (wrap64 (1 * 2 ^ min x67_3.toNat 64)) = ji58 := (i64_w _).symm.trans hji58_
                 have hji58x : x67_3 ≤ 64 → (wrap64 (1 * 2 ^ x67_3.toNat)) = ji58 := fun h_ => (i64_w _).symm.trans (hji58z h_)
                 obtain ⟨ji59, hji59⟩ : ∃ j_ : Int, (wrap64 (x7_1 - (ji58))) = j_ := ⟨_, rfl⟩
                 replace H : (if 0 ≤ (ji59) then (if (ji59) < (x6_3.length : Int) then (spec_buTable.j3 k3 a1 t102 x6_3 x7_1 x67_3 (rd t102 x67_3) t102 (t102.length : Int) x67_3 ((rd x6_3 (ji59)) == 0) a0_0 a0_1 l0_2 t108 t109 x114002_2) else (none)) else (none)) = some r := by first | (rw [hji59] at H; exact H) | (simp only [hji59] at H ⊢; exact H)
                 have hji59w : (IntKind.i64.wrap (x7_1 - (ji58))) = ji59 := (i64_w _).trans hji59
                 by_cases c60 : 0 ≤ (ji59)
                 ·rw [if_pos c60] at H
                  have c60b0 : decide (0 ≤ (ji59)) = true := decide_eq_true c60
                  clear c60
                  by_cases c61 : (ji59) < (x6_3.length : Int)
                  ·rw [if_pos c61] at H
                   have c61b0 : decide ((ji59) < (x6_3.length : Int)) = true := decide_eq_true c61
                   clear c61
                   have H' := Aside0.mk H
                   clear H
                   have p119 : 0 ≤ ((ji59) : Int) := of_decide_eq_true (by first | (with_reducible assumption) | assumption)
                   have q119 : (ji59) < (x6_3.length : Int) := of_decide_eq_true (by first | (with_reducible assumption) | assumption)
                   obtain ⟨ad119, e119, hx119_0⟩ := Kd.at_int (Kd.R_reads' HO_6.out).2.2 (ji59) p119 q119
                   cases e119
                   replace p119 := eq_true p119
                   replace q119 := eq_true q119
                   go_wp2
                   go_meet
                   case rel => exact ⟨_, (((rd x6_3 (ji59)) == 0)), (by first | rfl | (simp; done) | (simp only [← hji59] <;> (first | rfl | simp)) | (simp [*]; done)), H', ⟨by have := HK1.out; have := HK2.out; have := HK3.out; first | omega | exact Nat.le_refl _⟩, ⟨by (try simp only [hl6_3]); (with_reducible repeat (first | apply Kd.R_alloc | apply Kd.R_drewN | apply Kd.R_drew)); (first | exact HO_5.out | exact R_any HO_5.out)⟩, ⟨by (try simp only [hl6_3]); (with_reducible repeat (first | apply Kd.R_alloc | apply Kd.R_drewN | apply Kd.R_drew)); (first | exact HO_6.out | exact R_any HO_6.out)⟩, ⟨by (try simp only [hl6_3]); (with_reducible repeat (first | apply Kd.R_alloc | apply Kd.R_drewN | apply Kd.R_drew)); (first | exact HO_65.out | exact R_any HO_65.out)⟩, ⟨by (try simp only [hl6_3]); (with_reducible repeat (first | apply Kd.R_alloc | apply Kd.R_drewN | apply Kd.R_drew)); (first | exact HO_114002.out | exact R_any HO_114002.out)⟩, ⟨by (try simp only [hl6_3]); exact blc⟩, ⟨by (try simp only [hl6_3]); exact blc⟩, ⟨bel HB⟩⟩
                  ·rw [if_neg c61] at H
                   exact absurd H (by simp)
                 ·rw [if_neg c60] at H
                  exact absurd H (by simp)
               case rest =>
                clear HC53
                try clear c1
                try clear p1
                try clear q1
                try clear hx1
                try clear c2
                try clear p2
                try clear c3
                try clear p3
                try clear q3
                try clear hx3
                try clear hf3
                try clear c4
                try clear p4
                try clear q4
                try clear hx4
                try clear hf4
                try clear c5
                try clear c5b0
                try clear c5b0y
                try clear c5b1
                try clear c6
                try clear c6b0
                try clear c6b0y
                try clear c6b1
                try clear p6
                try clear p11
                try clear q11
                try clear hx11
                try clear c13
                try clear c13b0
                try clear c13b0y
                try clear c19
                try clear c22
                try clear c22b0
                try clear c22b0y
                try clear c23
                try clear c23b0
                try clear c23b0y
                try clear c24
                try clear c24b0
                try clear c24b0y
                try clear c25
                try clear c25b0
                try clear c25b0y
                try clear c27
                try clear c27b0
                try clear c27b0y
                try clear c27b1
                try clear c28
                try clear c28b0
                try clear c28b0y
                try clear c29
                try clear c29b0
                try clear c29b0y
                try clear p30
                try clear q30
                try clear hx30
                try clear hf30
                try clear c31
                try clear c34
                try clear c35
                try clear c35b0
                try clear c35b0y
                try clear c35b1
                try clear c36
                try clear c36b0
                try clear c36b0y
                try clear c37
                try clear c37b0
                try clear c37b0y
                try clear c38
                try clear c38b0
                try clear c38b0y
                try clear p39
                try clear q39
                try clear hx39
                try clear hf39
                try clear c42
                try clear c42b0
                try clear c42b0y
                try clear c42b1
                try clear c44
                try clear c44b0
                try clear c44b0y
                try clear c44b1
                try clear c45
                try clear c45b0
                try clear c45b0y
                try clear c46
                try clear c46b0
                try clear c46b0y
                try clear p47
                try clear q47
                try clear hx47
                try clear hf47
                try clear c50
                try clear c50b0
                try clear c50b0y
                try clear c51
                try clear c51b0
                try clear c51b0y
                try clear c52
                try clear c52b0
                try clear c52b0y
                try clear c54
                try clear c54b0
                try clear c54b0y
                try clear c56
                try clear c56b0
                try clear c56b0y
                try clear c56b1
                try clear c57
                try clear c57b0
                try clear c57b0y
                try clear c60
                try clear c60b0
                try clear c60b0y
                try clear c61
                try clear c61b0
                try clear c61b0y
                try clear hcz16_0
                try clear hcz16_1
                try clear hcz16_2
                try clear hcz20_0
                try clear hcz20_1
                try clear hcz20_2
                try clear hcz32_0
                try clear hcz32_1
                try clear hcz32_2
                try clear hcz8_0
                try clear hcz8_1
                try clear hcz8_2
                try clear hfz16_0
                try clear hfz16_1
                try clear hfz16_2
                try clear hfz20_0
                try clear hfz20_1
                try clear hfz20_2
                try clear hfz32_0
                try clear hfz32_1
                try clear hfz32_2
                try clear hfz8_0
                try clear hfz8_1
                try clear hfz8_2
                try clear hx114_0
                try clear hx118_0
                try clear hx119_0
                try clear hx30_0
                try clear hx39_0
                try clear hx47_0
                try clear p1
                try clear p11
                try clear p114
                try clear p118
                try clear p119
                try clear p2
                try clear p3
                try clear p30
                try clear p39
                try clear p4
                try clear p47
                try clear p6
                try clear q1
                try clear q11
                try clear q114
                try clear q118
                try clear q119
                try clear q3
                try clear q30
                try clear q39
                try clear q4
                try clear q47
                obtain ⟨kq, x86_52, rfl, HA, HJ52, HO_5, HO_6, HO_65, HO_114002, BK101, BK113, HB⟩ := hcut
                cases kq with
                | zero => exact absurd HA.out (by simp [spec_buTable.j3])
                | succ kj52 =>
                 have H := HA.out
                 clear HA
                 simp only [spec_buTable.j3] at H
                 by_cases c62 : x86_52 = true
                 ·subst c62
                  have H1 : (spec_buTable.l2 kj52 a1 t102 x6_3 x7_1 t102 (t102.length : Int) (wrap64 (x67_3 + 1)) a0_0 a0_1 l0_2 t108 t109 x114002_2) = some r := by rw [if_pos rfl] at H; exact H
                  clear H
                  have H := H1
                  clear H1
                  have H' := Aside0.mk H
                  clear H
                  go_wp2
                  (try simp only [← hl6_3])
                  go_roundg kj52
                  case measure => have := HK1.out; have := HK2.out; have := HK3.out; have := HJ52.out; omega
                  case rel => exact ⟨(x6_3), (wrap64 (x67_3 + 1)), (by first | rfl | (simp; done) | (simp [*]; done)), H', ⟨by have := HK1.out; have := HK2.out; have := HK3.out; have := HJ52.out; omega⟩, ⟨by (try simp only [hl6_3]); (with_reducible repeat (first | apply Kd.R_alloc | apply Kd.R_drewN | apply Kd.R_drew)); (first | exact HO_5.out | exact R_any HO_5.out)⟩, ⟨by (try simp only [hl6_3]); (with_reducible repeat (first | apply Kd.R_alloc | apply Kd.R_drewN | apply Kd.R_drew)); (first | exact HO_6.out | exact R_any HO_6.out)⟩, ⟨by (try simp only [hl6_3]); (with_reducible repeat (first | apply Kd.R_alloc | apply Kd.R_drewN | apply Kd.R_drew)); (first | exact HO_65.out | exact R_any HO_65.out)⟩, ⟨by (try simp only [hl6_3]); (with_reducible repeat (first | apply Kd.R_alloc | apply Kd.R_drewN | apply Kd.R_drew)); (first | exact HO_114002.out | exact R_any HO_114002.out)⟩, ⟨by (try simp only [hl6_3]); exact blc⟩, ⟨by (try simp only [hl6_3]); exact blc⟩, ⟨bel HB⟩⟩
                 ·replace c62 := Bool.eq_false_iff.mpr c62
                  subst c62
                  have H1 : ((spec_buTake.f kj52 t108 t109 x114002_2 (rd t102 x67_3)).bind fun bt120 => (if bt120.2.2.2 = true then (if 0 ≤ x7_1 then (if x7_1 < (x6_3.length : Int) then (if 0 ≤ x67_3 then (if 0 ≤ (wrap64 (x7_1 - (shl .i64 1 x67_3))) then (if (wrap64 (x7_1 - (shl .i64 1 x67_3))) < (x6_3.length : Int) then (spec_buTable.l2 kj52 a1 t102 (x6_3.set (x7_1 : Int).toNat (wrap64 ((rd x6_3 x7_1) + (rd x6_3 (wrap64 (x7_1 - (shl .i64 1 x67_3))))))) x7_1 t102 (t102.length : Int) (wrap64 (x67_3 + 1)) a0_0 a0_1 l0_2 t108 t109 x114002_2) else (none)) else (none)) else (none)) else (none)) else (none)) else (spec_buTable.l2 kj52 a1 t102 x6_3 x7_1 t102 (t102.length : Int) (wrap64 (x67_3 + 1)) a0_0 a0_1 l0_2 t108 t109 x114002_2))) = some r := by rw [if_neg (show ¬ (false = true) by decide)] at H; exact H
                  clear H
                  have H := H1
                  clear H1
                  replace H := Option.bind_eq_some_iff.mp H
                  obtain ⟨⟨t120, t121, t122, t125⟩, A630, H⟩ := H
                  replace H : (if t125 = true then (if 0 ≤ x7_1 then (if x7_1 < (x6_3.length : Int) then (if 0 ≤ x67_3 then (if 0 ≤ (wrap64 (x7_1 - (shl .i64 1 x67_3))) then (if (wrap64 (x7_1 - (shl .i64 1 x67_3))) < (x6_3.length : Int) then (spec_buTable.l2 kj52 a1 t102 (x6_3.set (x7_1 : Int).toNat (wrap64 ((rd x6_3 x7_1) + (rd x6_3 (wrap64 (x7_1 - (shl .i64 1 x67_3))))))) x7_1 t102 (t102.length : Int) (wrap64 (x67_3 + 1)) a0_0 a0_1 l0_2 t108 t109 x114002_2) else (none)) else (none)) else (none)) else (none)) else (none)) else (spec_buTable.l2 kj52 a1 t102 x6_3 x7_1 t102 (t102.length : Int) (wrap64 (x67_3 + 1)) a0_0 a0_1 l0_2 t108 t109 x114002_2)) = some r := H
                  have A63 := Aside0.mk A630
                  clear A630
                  by_cases c64 : t125 = true
                  ·subst c64
                   have H1 : (if 0 ≤ x7_1 then (if x7_1 < (x6_3.length : Int) then (if 0 ≤ x67_3 then (if 0 ≤ (wrap64 (x7_1 - (shl .i64 1 x67_3))) then (if (wrap64 (x7_1 - (shl .i64 1 x67_3))) < (x6_3.length : Int) then (spec_buTable.l2 kj52 a1 t102 (x6_3.set (x7_1 : Int).toNat (wrap64 ((rd x6_3 x7_1) + (rd x6_3 (wrap64 (x7_1 - (shl .i64 1 x67_3))))))) x7_1 t102 (t102.length : Int) (wrap64 (x67_3 + 1)) a0_0 a0_1 l0_2 t108 t109 x114002_2) else (none)) else (none)) else (none)) else (none)) else (none)) = some r := by rw [if_pos rfl] at H; exact H
                   clear H
                   have H := H1
                   clear H1
                   by_cases c65 : 0 ≤ x7_1
                   ·rw [if_pos c65] at H
                    have c65b0 : decide (0 ≤ x7_1) = true := decide_eq_true c65
                    clear c65
                    by_cases c66 : x7_1 < (x6_3.length : Int)
                    ·rw [if_pos c66] at H
                     have c66b0 : decide (x7_1 < (x6_3.length : Int)) = true := decide_eq_true c66
                     clear c66
                     by_cases c67 : 0 ≤ x67_3
                     ·rw [if_pos c67] at H
                      have c67b0 := eq_true c67
                      have c67b1 : decide (0 ≤ x67_3) = true := decide_eq_true c67
                      clear c67
                      obtain ⟨ji68, hji68⟩ : ∃ j_ : Int, (shl .i64 1 x67_3) = j_ := ⟨_, rfl⟩
                      replace H : (if 0 ≤ (wrap64 (x7_1 - (ji68))) then (if (wrap64 (x7_1 - (ji68))) < (x6_3.length : Int) then (spec_buTable.l2 kj52 a1 t102 (x6_3.set (x7_1 : Int).toNat (wrap64 ((rd x6_3 x7_1) + (rd x6_3 (wrap64 (x7_1 - (ji68))))))) x7_1 t102 (t102.length : Int) (wrap64 (x67_3 + 1)) a0_0 a0_1 l0_2 t108 t109 x114002_2) else (none)) else (none)) = some r := by first | (rw [hji68] at H; exact H) | (simp only [hji68] at H ⊢; exact H)
                      (try rw [hji68] at A63)
                      have hji68_ : (IntKind.i64.wrap (1 * 2 ^ min x67_3.toNat 64)) = ji68 := hji68
                      have hji68z : x67_3 ≤ 64 → (IntKind.i64.wrap (1 * 2 ^ x67_3.toNat)) = ji68 := shl_small hji68
                      have hji68u : (IntKind.i64.wrap (2 ^ min x67_3.toNat 64)) = ji68 := by have h_ := hji68_; rw [Int.one_mul] at h_; exact h_
                      have hji68v : x67_3 ≤ 64 → (IntKind.i64.wrap (2 ^ x67_3.toNat)) = ji68 := fun hle_ => by have h_ := hji68z hle_; rw [Int.one_mul] at h_; exact h_
                      have hji68y : (wrap64 (1 * 2 ^ min x67_3.toNat 64)) = ji68 := (i64_w _).symm.trans hji68_
                      have hji68x : x67_3 ≤ 64 → (wrap64 (1 * 2 ^ x67_3.toNat)) = ji68 := fun h_ => (i64_w _).symm.trans (hji68z h_)
                      obtain ⟨ji69, hji69⟩ : ∃ j_ : Int, (wrap64 (x7_1 - (ji68))) = j_ := ⟨_, rfl⟩
                      replace H : (if 0 ≤ (ji69) then (if (ji69) < (x6_3.length : Int) then (spec_buTable.l2 kj52 a1 t102 (x6_3.set (x7_1 : Int).toNat (wrap64 ((rd x6_3 x7_1) + (rd x6_3 (ji69))))) x7_1 t102 (t102.length : Int) (wrap64 (x67_3 + 1)) a0_0 a0_1 l0_2 t108 t109 x114002_2) else (none)) else (none)) = some r := by first | (rw [hji69] at H; exact H) | (simp only [hji69] at H ⊢; exact H)
                      (try rw [hji69] at A63)
                      have hji69w : (IntKind.i64.wrap (x7_1 - (ji68))) = ji69 := (i64_w _).trans hji69
                      by_cases c70 : 0 ≤ (ji69)
                      ·rw [if_pos c70] at H
                       have c70b0 : decide (0 ≤ (ji69)) = true := decide_eq_true c70
                       clear c70
                       by_cases c71 : (ji69) < (x6_3.length : Int)
                       ·rw [if_pos c71] at H
                        have c71b0 : decide ((ji69) < (x6_3.length : Int)) = true := decide_eq_true c71
                        clear c71
                        obtain ⟨y129, hy129⟩ : ∃ y_ : List Int, y_ = (x6_3.set (x7_1 : Int).toNat (wrap64 ((rd x6_3 x7_1) + (rd x6_3 (ji69))))) := ⟨_, rfl⟩
                        replace H : (spec_buTable.l2 kj52 a1 t102 y129 x7_1 t102 (t102.length : Int) (wrap64 (x67_3 + 1)) a0_0 a0_1 l0_2 t108 t109 x114002_2) = some r := rH hy129 H
                        have Ny129 := Aside0.mk hy129
                        clear hy129
                        have H' := Aside0.mk H
                        clear H
                        have hnb73 := NB113_101.out
                        have hnc73 := NB101_113.out
                        have hcz74_0 : wc.cell? ⟨gb113, 0, none⟩ = some (.int .i64 t108) := (blk_cell BK113.out 0).trans rfl
                        have hcz74_1 : wc.cell? ⟨gb113, 1, none⟩ = some (.int .i64 t109) := (blk_cell BK113.out 1).trans rfl
                        have hcz74_2 : wc.cell? ⟨gb113, 2, none⟩ = some (u114002) := (blk_cell BK113.out 2).trans rfl
                        have hfz74_0 := blk_frozen BK113.out 0
                        have hfz74_1 := blk_frozen BK113.out 1
                        have hfz74_2 := blk_frozen BK113.out 2
                        obtain ⟨Ao75, co75, eo75⟩ := Kd.R_slice HO_114002.out
                        subst eo75
                        try go_wp2_with (first | ((with_reducible refine gate_callee (f := 95) rfl ?_); refine gcall (some 90) Tryd.func95 #[.agg #[.int .i64 t108, .int .i64 t109, .slice Ao75 x114002_2.length co75], .int .i64 (rd t102 x67_3)] rfl ?_; (with_reducible refine (spec_buTake.calls kj52 t108 t109 _ _ x114002_2 (rd t102 x67_3) t120 t121 t122 true _ ?side1 ?side2 A63.out).mono ?_); (case side1 => repeat (first | exact (Kd.R_reads' HO_114002.out).2.2 | (with_reducible refine Kd.C_alloc ?_ _) | (with_reducible refine Kd.C_drewN ?_ _) | (with_reducible refine Kd.C_drew ?_))); (case side2 => exact (Kd.R_reads' HO_114002.out).2.1); rintro e w76 ⟨v123, rfl, ho0, hb⟩; refine ⟨_, rfl, ?_⟩; have n0_ := Aside0.mk (Kd.R_below (rch HO_5) hb); have n1_ := Aside0.mk (Kd.R_below (rch HO_6) hb); have n2_ := Aside0.mk (Kd.R_below (rch HO_65) hb); have n3_ := Aside0.mk (Kd.R_elder' (rch HO_114002) (Kd.R_base ho0) hb); have n4_ := Aside0.mk (Kd.R_lower (Kd.R_new' ho0 (Kd.R_lt (rch HO_114002))) (below_size (bel HB))); have n5_ := Aside0.mk (blk_below (g := gb101) (o := .cells #[.int .i64 a0_0, .int .i64 a0_1, .slice A0_2 l0_2.length c0_2] 40 (0, 0)) blc hb); have n6_ := Aside0.mk (blk_below (g := gb113) (o := .cells #[.int .i64 t108, .int .i64 t109, .slice Ao75 x114002_2.length co75] 40 (0, 0)) blc hb); have n7_ := Aside0.mk (below_step (bel HB) hb); clear HO_5; clear HO_6; clear HO_65; clear HO_114002; clear BK101; clear BK113; clear HB; have HO_5 := n0_; have HO_6 := n1_; have HO_65 := n2_; have HO_114002 := n3_; have HO124 := n4_; have BK101 := n5_; have BK113 := n6_; have HB := n7_; clear n0_ n1_ n2_ n3_ n4_ n5_ n6_ n7_; (try clear hb); (try clear hb2); (try clear hk); (try clear hi); (try clear ho0)) | ((with_reducible refine gate_dst (N := 14) rfl ?_); refine boxE (N := 14) (cs := #[.int .i64 0, .int .i64 0, .slice none 0 0]) (t := 40) ?_; intro gb126 hg w77 hbox hb; have n0_ := Aside0.mk (Kd.R_below (rch HO_5) hb); have n1_ := Aside0.mk (Kd.R_below (rch HO_6) hb); have n2_ := Aside0.mk (Kd.R_below (rch HO_65) hb); have n3_ := Aside0.mk (Kd.R_below (rch HO_114002) hb); have n4_ := Aside0.mk (Kd.R_below (rch HO124) hb); have n5_ := Aside0.mk (blk_below (g := gb101) (o := .cells #[.int .i64 a0_0, .int .i64 a0_1, .slice A0_2 l0_2.length c0_2] 40 (0, 0)) blc hb); have n6_ := Aside0.mk (blk_below (g := gb113) (o := .cells #[.int .i64 t108, .int .i64 t109, .slice Ao75 x114002_2.length co75] 40 (0, 0)) blc hb); have n7_ := Aside0.mk (below_step (bel HB) hb); have n8_ := Aside0.mk (hbox); have n9_ := Aside0.mk (gsz hg (bel HB)); have n10_ := Aside0.mk (gsz hg (bel HB)); have n11_ := Aside0.mk ((by rw [hg]; exact Nat.ne_of_lt (blk_lt (g := gb101) (o := .cells #[.int .i64 a0_0, .int .i64 a0_1, .slice A0_2 l0_2.length c0_2] 40 (0, 0)) blc) : gb101 ≠ gb126)); have n12_ := Aside0.mk ((by rw [hg]; exact Nat.ne_of_gt (blk_lt (g := gb101) (o := .cells #[.int .i64 a0_0, .int .i64 a0_1, .slice A0_2 l0_2.length c0_2] 40 (0, 0)) blc) : gb126 ≠ gb101)); have n13_ := Aside0.mk ((by rw [hg]; exact Nat.ne_of_lt (blk_lt (g := gb113) (o := .cells #[.int .i64 t108, .int .i64 t109, .slice Ao75 x114002_2.length co75] 40 (0, 0)) blc) : gb113 ≠ gb126)); have n14_ := Aside0.mk ((by rw [hg]; exact Nat.ne_of_gt (blk_lt (g := gb113) (o := .cells #[.int .i64 t108, .int .i64 t109, .slice Ao75 x114002_2.length co75] 40 (0, 0)) blc) : gb126 ≠ gb113)); clear HO_5; clear HO_6; clear HO_65; clear HO_114002; clear HO124; clear BK101; clear BK113; clear HB; have HO_5 := n0_; have HO_6 := n1_; have HO_65 := n2_; have HO_114002 := n3_; have HO124 := n4_; have BK101 := n5_; have BK113 := n6_; have HB := n7_; have BK126 := n8_; have GW126 := n9_; have GE126 := n10_; have NB101_126 := n11_; have NB126_101 := n12_; have NB113_126 := n13_; have NB126_113 := n14_; clear n0_ n1_ n2_ n3_ n4_ n5_ n6_ n7_ n8_ n9_ n10_ n11_ n12_ n13_ n14_; clear hb hbox hg; have hnb78 := NB126_101.out; have hnc78 := NB101_126.out; have hnb79 := NB126_113.out; have hnc79 := NB113_126.out; have hcz80_0 : w77.cell? ⟨gb126, 0, none⟩ = some (.int .i64 0) := (blk_cell BK126.out 0).trans rfl; have hcz80_1 : w77.cell? ⟨gb126, 1, none⟩ = some (.int .i64 0) := (blk_cell BK126.out 1).trans rfl; have hcz80_2 : w77.cell? ⟨gb126, 2, none⟩ = some (.slice none 0 0) := (blk_cell BK126.out 2).trans rfl; have hfz80_0 := blk_frozen BK126.out 0; have hfz80_1 := blk_frozen BK126.out 1; have hfz80_2 := blk_frozen BK126.out 2; obtain ⟨Ao81, co81, eo81⟩ := Kd.R_slice HO124.out; subst eo81))
                        have n0_ : Aside0 (Kd.R (Kd.int .i64) 3 (((w77.setCell ⟨gb126, 0, none⟩ (.int .i64 t120)).setCell ⟨gb126, 1, none⟩ (.int .i64 t121)).setCell ⟨gb126, 2, none⟩ (.slice Ao81 t122.length co81)) w.heap.size (fun k_ => some k_ ≠ (.slice Ao15 x6_3.length co15 : Value).ownBlock) (.slice (some ad118) t102.length co10) t102) := ⟨by (with_reducible repeat (first | apply Kd.R_alloc | apply Kd.R_drewN | apply Kd.R_drew)); exact Kd.R_mono (Kd.R_far (p := ⟨gb126, 2, none⟩) (Kd.R_far (p := ⟨gb126, 1, none⟩) (Kd.R_far (p := ⟨gb126, 0, none⟩) (Kd.R_types HO_5.out BK126.out (by decide)) (fun _ hk => hk.2) (.int .i64 t120)) (fun _ hk => hk.2) (.int .i64 t121)) (fun _ hk => hk.2) (.slice Ao81 t122.length co81)) (fun _ hk => hk.1)⟩
                        have n1_ : Aside0 (Kd.R (Kd.int .i64) 3 (((w77.setCell ⟨gb126, 0, none⟩ (.int .i64 t120)).setCell ⟨gb126, 1, none⟩ (.int .i64 t121)).setCell ⟨gb126, 2, none⟩ (.slice Ao81 t122.length co81)) w.heap.size (fun k_ => some k_ ≠ (.slice (some ad118) t102.length co10 : Value).ownBlock ∧ some k_ ≠ (.slice (some ad118) t102.length co10 : Value).ownBlock) (.slice Ao15 x6_3.length co15) x6_3) := ⟨by (with_reducible repeat (first | apply Kd.R_alloc | apply Kd.R_drewN | apply Kd.R_drew)); exact Kd.R_mono (Kd.R_far (p := ⟨gb126, 2, none⟩) (Kd.R_far (p := ⟨gb126, 1, none⟩) (Kd.R_far (p := ⟨gb126, 0, none⟩) (Kd.R_types HO_6.out BK126.out (by decide)) (fun _ hk => hk.2) (.int .i64 t120)) (fun _ hk => hk.2) (.int .i64 t121)) (fun _ hk => hk.2) (.slice Ao81 t122.length co81)) (fun _ hk => ⟨hk.1.1, hk.1.2⟩)⟩
                        have n2_ : Aside0 (Kd.R (Kd.int .i64) 3 (((w77.setCell ⟨gb126, 0, none⟩ (.int .i64 t120)).setCell ⟨gb126, 1, none⟩ (.int .i64 t121)).setCell ⟨gb126, 2, none⟩ (.slice Ao81 t122.length co81)) w.heap.size (fun k_ => some k_ ≠ (.slice Ao15 x6_3.length co15 : Value).ownBlock) (.slice (some ad118) t102.length co10) t102) := ⟨by (with_reducible repeat (first | apply Kd.R_alloc | apply Kd.R_drewN | apply Kd.R_drew)); exact Kd.R_mono (Kd.R_far (p := ⟨gb126, 2, none⟩) (Kd.R_far (p := ⟨gb126, 1, none⟩) (Kd.R_far (p := ⟨gb126, 0, none⟩) (Kd.R_types HO_65.out BK126.out (by decide)) (fun _ hk => hk.2) (.int .i64 t120)) (fun _ hk => hk.2) (.int .i64 t121)) (fun _ hk => hk.2) (.slice Ao81 t122.length co81)) (fun _ hk => hk.1)⟩
                        have n3_ : Aside0 (Kd.R (Kd.int .u8) 5 (((w77.setCell ⟨gb126, 0, none⟩ (.int .i64 t120)).setCell ⟨gb126, 1, none⟩ (.int .i64 t121)).setCell ⟨gb126, 2, none⟩ (.slice Ao81 t122.length co81)) w.heap.size (fun k_ => some k_ ≠ (.slice Ao81 t122.length co81 : Value).ownBlock) (.slice Ao75 x114002_2.length co75) x114002_2) := ⟨by (with_reducible repeat (first | apply Kd.R_alloc | apply Kd.R_drewN | apply Kd.R_drew)); exact Kd.R_mono (Kd.R_far (p := ⟨gb126, 2, none⟩) (Kd.R_far (p := ⟨gb126, 1, none⟩) (Kd.R_far (p := ⟨gb126, 0, none⟩) (Kd.R_types HO_114002.out BK126.out (by decide)) (fun _ hk => hk.2) (.int .i64 t120)) (fun _ hk => hk.2) (.int .i64 t121)) (fun _ hk => hk.2) (.slice Ao81 t122.length co81)) (fun _ hk => hk.1.2)⟩
                        have n4_ : Aside0 (Kd.R (Kd.int .u8) 5 (((w77.setCell ⟨gb126, 0, none⟩ (.int .i64 t120)).setCell ⟨gb126, 1, none⟩ (.int .i64 t121)).setCell ⟨gb126, 2, none⟩ (.slice Ao81 t122.length co81)) w.heap.size (fun k_ => some k_ ≠ (.slice Ao75 x114002_2.length co75 : Value).ownBlock) (.slice Ao81 t122.length co81) t122) := ⟨by (with_reducible repeat (first | apply Kd.R_alloc | apply Kd.R_drewN | apply Kd.R_drew)); exact Kd.R_mono (Kd.R_far (p := ⟨gb126, 2, none⟩) (Kd.R_far (p := ⟨gb126, 1, none⟩) (Kd.R_far (p := ⟨gb126, 0, none⟩) (Kd.R_types HO124.out BK126.out (by decide)) (fun _ hk => hk.2) (.int .i64 t120)) (fun _ hk => hk.2) (.int .i64 t121)) (fun _ hk => hk.2) (.slice Ao81 t122.length co81)) (fun _ hk => hk.1.2)⟩
                        have n5_ : Aside0 ((((w77.setCell ⟨gb126, 0, none⟩ (.int .i64 t120)).setCell ⟨gb126, 1, none⟩ (.int .i64 t121)).setCell ⟨gb126, 2, none⟩ (.slice Ao81 t122.length co81)).heap[gb101]? = some (.cells #[.int .i64 a0_0, .int .i64 a0_1, .slice A0_2 l0_2.length c0_2] 40 (0, 0))) := ⟨by (with_reducible repeat (first | refine blk_drewN ?_ _ | refine blk_drew ?_ | refine blk_alloc ?_ _)); refine blk_far ?_ NB101_126.out _; (with_reducible repeat (first | refine blk_drewN ?_ _ | refine blk_drew ?_ | refine blk_alloc ?_ _)); refine blk_far ?_ NB101_126.out _; (with_reducible repeat (first | refine blk_drewN ?_ _ | refine blk_drew ?_ | refine blk_alloc ?_ _)); refine blk_far ?_ NB101_126.out _; exact blc⟩
                        have n6_ : Aside0 ((((w77.setCell ⟨gb126, 0, none⟩ (.int .i64 t120)).setCell ⟨gb126, 1, none⟩ (.int .i64 t121)).setCell ⟨gb126, 2, none⟩ (.slice Ao81 t122.length co81)).heap[gb113]? = some (.cells #[.int .i64 t108, .int .i64 t109, .slice Ao75 x114002_2.length co75] 40 (0, 0))) := ⟨by (with_reducible repeat (first | refine blk_drewN ?_ _ | refine blk_drew ?_ | refine blk_alloc ?_ _)); refine blk_far ?_ NB113_126.out _; (with_reducible repeat (first | refine blk_drewN ?_ _ | refine blk_drew ?_ | refine blk_alloc ?_ _)); refine blk_far ?_ NB113_126.out _; (with_reducible repeat (first | refine blk_drewN ?_ _ | refine blk_drew ?_ | refine blk_alloc ?_ _)); refine blk_far ?_ NB113_126.out _; exact blc⟩
                        have n7_ : Aside0 ((((w77.setCell ⟨gb126, 0, none⟩ (.int .i64 t120)).setCell ⟨gb126, 1, none⟩ (.int .i64 t121)).setCell ⟨gb126, 2, none⟩ (.slice Ao81 t122.length co81)).heap[gb126]? = some (.cells #[.int .i64 t120, .int .i64 t121, .slice Ao81 t122.length co81] 40 (0, 0))) := ⟨by (with_reducible repeat (first | refine blk_drewN ?_ _ | refine blk_drew ?_ | refine blk_alloc ?_ _)); refine blk_put (cs := #[.int .i64 t120, .int .i64 t121, .slice none 0 0]) ?_ 2 _ rfl; (with_reducible repeat (first | refine blk_drewN ?_ _ | refine blk_drew ?_ | refine blk_alloc ?_ _)); refine blk_put (cs := #[.int .i64 t120, .int .i64 0, .slice none 0 0]) ?_ 1 _ rfl; (with_reducible repeat (first | refine blk_drewN ?_ _ | refine blk_drew ?_ | refine blk_alloc ?_ _)); refine blk_put (cs := #[.int .i64 0, .int .i64 0, .slice none 0 0]) ?_ 0 _ rfl; exact blc⟩
                        have n8_ : Aside0 (Below w.heap.size w (((w77.setCell ⟨gb126, 0, none⟩ (.int .i64 t120)).setCell ⟨gb126, 1, none⟩ (.int .i64 t121)).setCell ⟨gb126, 2, none⟩ (.slice Ao81 t122.length co81))) := ⟨bel HB⟩
                        (try clear HO_5)
                        (try clear HO_6)
                        (try clear HO_65)
                        (try clear HO_114002)
                        (try clear HO124)
                        (try clear BK101)
                        (try clear BK113)
                        (try clear BK126)
                        (try clear HB)
                        generalize (((w77.setCell ⟨gb126, 0, none⟩ (.int .i64 t120)).setCell ⟨gb126, 1, none⟩ (.int .i64 t121)).setCell ⟨gb126, 2, none⟩ (.slice Ao81 t122.length co81)) = w82 at n0_ n1_ n2_ n3_ n4_ n5_ n6_ n7_ n8_ ⊢
                        have HO_5 := n0_
                        have HO_6 := n1_
                        have HO_65 := n2_
                        have HO_114002 := n3_
                        have HO124 := n4_
                        have BK101 := n5_
                        have BK113 := n6_
                        have BK126 := n7_
                        have HB := n8_
                        clear n0_ n1_ n2_ n3_ n4_ n5_ n6_ n7_ n8_
                        have n0_ := Aside0.mk (Kd.R_drew HO_5.out)
                        have n1_ := Aside0.mk (Kd.R_drew HO_6.out)
                        have n2_ := Aside0.mk (Kd.R_drew HO_65.out)
                        have n3_ := Aside0.mk (Kd.R_drew HO_114002.out)
                        have n4_ := Aside0.mk (Kd.R_drew HO124.out)
                        have n5_ := Aside0.mk (blk_drew BK101.out)
                        have n6_ := Aside0.mk (blk_drew BK113.out)
                        have n7_ := Aside0.mk (blk_drew BK126.out)
                        have n8_ := Aside0.mk (below_drew1 HB.out)
                        clear HO_5
                        clear HO_6
                        clear HO_65
                        clear HO_114002
                        clear HO124
                        clear BK101
                        clear BK113
                        clear BK126
                        clear HB
                        have HO_5 := n0_
                        have HO_6 := n1_
                        have HO_65 := n2_
                        have HO_114002 := n3_
                        have HO124 := n4_
                        have BK101 := n5_
                        have BK113 := n6_
                        have BK126 := n7_
                        have HB := n8_
                        clear n0_ n1_ n2_ n3_ n4_ n5_ n6_ n7_ n8_
                        have p127 : 0 ≤ (x7_1 : Int) := of_decide_eq_true (by first | (with_reducible assumption) | assumption)
                        have q127 : x7_1 < (x6_3.length : Int) := of_decide_eq_true (by first | (with_reducible assumption) | assumption)
                        obtain ⟨ad127, e127, hx127_0⟩ := Kd.at_int (Kd.R_reads' HO_6.out).2.2 x7_1 p127 q127
                        cases e127
                        replace p127 := eq_true p127
                        replace q127 := eq_true q127
                        have p128 : 0 ≤ ((ji69) : Int) := of_decide_eq_true (by first | (with_reducible assumption) | assumption)
                        have q128 : (ji69) < (x6_3.length : Int) := of_decide_eq_true (by first | (with_reducible assumption) | assumption)
                        obtain ⟨ad128, e128, hx128_0⟩ := Kd.at_int (Kd.R_reads' HO_6.out).2.2 (ji69) p128 q128
                        obtain rfl : ad127 = ad128 := (by injection e128)
                        replace p128 := eq_true p128
                        replace q128 := eq_true q128
                        have p72 : 0 ≤ (x7_1 : Int) := of_decide_eq_true (by first | (with_reducible assumption) | assumption)
                        have q72 : (x7_1 : Int) < ((x6_3.length : Int) : Int) := of_decide_eq_true (by first | (with_reducible assumption) | assumption)
                        obtain ⟨go72, co72, eo72, gb72, gl72, cl72, HG72⟩ := Kd.R_form HO_6.out (by omega)
                        (first | cases eo72 | (injection eo72 with ea_ en_ ec_; (first | subst ea_ | (injection ea_ with ea_; subst ea_)); subst ec_; clear en_))
                        have GB72 := Aside0.mk gb72
                        have GG72 := Aside0.mk HG72
                        clear gb72 gl72 HG72
                        (first | simp only [add_plain] at hx127_0 | skip)
                        (first | simp only [add_plain] at hx128_0 | skip)
                        obtain ⟨hx72_0, hf72_0⟩ := Kd.R_celln 0 HO_6.out (x7_1 : Int) p72 q72
                        replace p72 := eq_true p72
                        replace q72 := eq_true q72
                        have HP84 := Kd.R_putn HO_6.out (x7_1 : Int) (wrap64 ((rd x6_3 x7_1) + (rd x6_3 (ji69))))
                        rw [← Ny129.out] at HP84
                        have HQ84 := Aside0.mk HP84
                        clear HP84
                        refine start_ (n := 14) (S := fun w' => w'.cell? ⟨go72, (x7_1).toNat, none⟩ = some (.int .i64 (rd x6_3 x7_1)) ∧ w'.cell? ⟨go72, ((ji69)).toNat, none⟩ = some (.int .i64 (rd x6_3 (ji69)))) (ds := [13]) #[false, false, false, false, false, false, false, false, false, false, false, false, false, false] (by kernel_rfl) rfl rfl ⟨hx127_0, hx128_0⟩ (fun hHeld => ?_); refine with_tabW spec_buTable.tab24 spec_buTable.bits24 (fun HT_ HW_ => ?_)
                        generalize w82.drew = w83 at HO_5 HO_6 HO_65 HO_114002 HO124 BK101 BK113 BK126 HB GG72 HQ84 hf72_0 hx127_0 hx128_0 hx72_0 hHeld ⊢
                        refine pure_ (i := 0) (N := some 94) (v := ?_) (a' := ?_) #[true, false, false, false, false, false, false, false, false, false, false, false, false, false] rfl rfl (any_of HT_.out (by kernel_rfl)) (fun _ _ _ h => h) (Or.inl ⟨by rfl, ?_⟩) ?_ ?_
                        rotate_left
                        ·intro w'
                         go_simp
                         with_reducible rfl
                        rotate_left
                        ·simp only [Act.put, List.setIfInBounds_toArray, List.set_cons_zero, List.set_cons_succ, i64_w, i32_w]
                         rfl
                        refine pure_ (i := 1) (N := some 95) (v := ?_) (a' := ?_) #[true, true, false, false, false, false, false, false, false, false, false, false, false, false] rfl rfl (any_of HT_.out (by kernel_rfl)) (fun _ _ _ h => h) (Or.inl ⟨by rfl, ?_⟩) ?_ ?_
                        rotate_left
                        ·intro w'
                         go_simp
                         with_reducible rfl
                        rotate_left
                        ·simp only [Act.put, List.setIfInBounds_toArray, List.set_cons_zero, List.set_cons_succ, i64_w, i32_w]
                         rfl
                        refine pure_ (i := 2) (N := some 96) (v := ?_) (a' := ?_) #[true, true, true, false, false, false, false, false, false, false, false, false, false, false] rfl rfl (any_of HT_.out (by kernel_rfl)) (fun _ _ _ h => h) (Or.inl ⟨by rfl, ?_⟩) ?_ ?_
                        rotate_left
                        ·intro w'
                         go_simp
                         with_reducible rfl
                        rotate_left
                        ·simp only [Act.put, List.setIfInBounds_toArray, List.set_cons_zero, List.set_cons_succ, i64_w, i32_w]
                         rfl
                        refine pure_ (i := 4) (N := some 98) (v := ?_) (a' := ?_) #[true, true, true, false, true, false, false, false, false, false, false, false, false, false] rfl rfl (any_of HT_.out (by kernel_rfl)) (fun _ _ _ h => h) (Or.inl ⟨by rfl, ?_⟩) ?_ ?_
                        rotate_left
                        ·intro w'
                         go_simp
                         with_reducible rfl
                        rotate_left
                        ·simp only [Act.put, List.setIfInBounds_toArray, List.set_cons_zero, List.set_cons_succ, i64_w, i32_w]
                         rfl
                        refine pure_ (i := 5) (N := some 99) (v := ?_) (a' := ?_) #[true, true, true, false, true, true, false, false, false, false, false, false, false, false] rfl rfl (any_of HT_.out (by kernel_rfl)) (fun _ _ _ h => h) (Or.inl ⟨by rfl, ?_⟩) ?_ ?_
                        rotate_left
                        ·intro w'
                         go_simp
                         with_reducible rfl
                        rotate_left
                        ·simp only [Act.put, List.setIfInBounds_toArray, List.set_cons_zero, List.set_cons_succ, i64_w, i32_w]
                         rfl
                        refine pure_ (i := 6) (N := some 100) (v := ?_) (a' := ?_) #[true, true, true, false, true, true, true, false, false, false, false, false, false, false] rfl rfl (any_of HT_.out (by kernel_rfl)) (fun _ _ _ h => h) (Or.inl ⟨by rfl, ?_⟩) ?_ ?_
                        rotate_left
                        ·intro w'
                         go_simp
                         with_reducible rfl
                        rotate_left
                        ·simp only [Act.put, List.setIfInBounds_toArray, List.set_cons_zero, List.set_cons_succ, i64_w, i32_w]
                         rfl
                        refine pure_ (i := 7) (N := some 101) (v := ?_) (a' := ?_) #[true, true, true, false, true, true, true, true, false, false, false, false, false, false] rfl rfl (any_of HT_.out (by kernel_rfl)) (fun _ _ _ h => h) (Or.inl ⟨by rfl, ?_⟩) ?_ ?_
                        rotate_left
                        ·intro w'
                         go_simp
                         with_reducible rfl
                        rotate_left
                        ·simp only [Act.put, List.setIfInBounds_toArray, List.set_cons_zero, List.set_cons_succ, i64_w, i32_w]
                         rfl
                        refine pure_ (i := 8) (N := some 102) (v := ?_) (a' := ?_) #[true, true, true, false, true, true, true, true, true, false, false, false, false, false] rfl rfl (any_of HT_.out (by kernel_rfl)) (fun _ _ _ h => h) (Or.inl ⟨by rfl, ?_⟩) ?_ ?_
                        rotate_left
                        ·intro w'
                         go_simp
                         with_reducible rfl
                        rotate_left
                        ·simp only [Act.put, List.setIfInBounds_toArray, List.set_cons_zero, List.set_cons_succ, i64_w, i32_w]
                         rfl
                        refine pure_ (i := 9) (N := some 103) (v := ?_) (a' := ?_) #[true, true, true, false, true, true, true, true, true, true, false, false, false, false] rfl rfl (any_of HT_.out (by kernel_rfl)) (fun _ _ _ h => h) (Or.inl ⟨by rfl, ?_⟩) ?_ ?_
                        rotate_left
                        ·intro w'
                         go_simp
                         with_reducible rfl
                        rotate_left
                        ·simp only [Act.put, List.setIfInBounds_toArray, List.set_cons_zero, List.set_cons_succ, i64_w, i32_w]
                         rfl
                        refine take_ (i := 3) (N := some 97) (v := ?_) (a' := ?_) #[true, true, true, true, true, true, true, true, true, true, false, false, false, false] rfl rfl (take_ofW HT_.out HW_.out (by kernel_rfl)) (fun _ _ _ h => h) (Or.inl ⟨by rfl, ?_⟩) hHeld ?_ ?_
                        rotate_left
                        ·rintro w' ⟨s0, s1⟩
                         go_simp
                         with_reducible rfl
                        rotate_left
                        ·simp only [Act.put, List.setIfInBounds_toArray, List.set_cons_zero, List.set_cons_succ, i64_w, i32_w]
                         rfl
                        refine take_ (i := 10) (N := some 104) (v := ?_) (a' := ?_) #[true, true, true, true, true, true, true, true, true, true, true, false, false, false] rfl rfl (take_ofW HT_.out HW_.out (by kernel_rfl)) (fun _ _ _ h => h) (Or.inl ⟨by rfl, ?_⟩) hHeld ?_ ?_
                        rotate_left
                        ·rintro w' ⟨s0, s1⟩
                         go_simp
                         with_reducible rfl
                        rotate_left
                        ·simp only [Act.put, List.setIfInBounds_toArray, List.set_cons_zero, List.set_cons_succ, i64_w, i32_w]
                         rfl
                        refine pure_ (i := 11) (N := some 105) (v := ?_) (a' := ?_) #[true, true, true, true, true, true, true, true, true, true, true, true, false, false] rfl rfl (any_of HT_.out (by kernel_rfl)) (fun _ _ _ h => h) (Or.inl ⟨by rfl, ?_⟩) ?_ ?_
                        rotate_left
                        ·intro w'
                         go_simp
                         with_reducible rfl
                        rotate_left
                        ·simp only [Act.put, List.setIfInBounds_toArray, List.set_cons_zero, List.set_cons_succ, i64_w, i32_w]
                         rfl
                        refine pure_ (i := 12) (N := some 106) (v := ?_) (a' := ?_) #[true, true, true, true, true, true, true, true, true, true, true, true, true, false] rfl rfl (any_of HT_.out (by kernel_rfl)) (fun _ _ _ h => h) (Or.inl ⟨by rfl, ?_⟩) ?_ ?_
                        rotate_left
                        ·intro w'
                         go_simp
                         with_reducible rfl
                        rotate_left
                        ·simp only [Act.put, List.setIfInBounds_toArray, List.set_cons_zero, List.set_cons_succ, i64_w, i32_w]
                         rfl
                        refine last_ (i := 13) (N := none) #[true, true, true, true, true, true, true, true, true, true, true, true, true, true] rfl rfl (one_of HT_.out (by kernel_rfl)) (by decide) (fun K hK => ?_)
                        refine skip_ (w1 := ?_) (by rfl) rfl ?_ ?_
                        rotate_left
                        ·go_simp
                         rfl
                        refine hK.out _ _ ?_
                        clear hK K
                        refine done_ (done_of HT_.out (by kernel_rfl)) ?_
                        try go_wp2
                        (try simp only [← hl6_3])
                        go_roundg kj52
                        case measure => have := HK1.out; have := HK2.out; have := HK3.out; have := HJ52.out; omega
                        case rel => exact ⟨(y129), (wrap64 (x67_3 + 1)), (by first | rfl | (simp; done) | (simp [*]; done)), H', ⟨by have := HK1.out; have := HK2.out; have := HK3.out; have := HJ52.out; omega⟩, ⟨by (try simp only [hl6_3]); (with_reducible repeat (first | apply Kd.R_alloc | apply Kd.R_drewN | apply Kd.R_drew)); exact Kd.R_mono (Kd.R_far (p := ⟨go72, (x7_1 : Int).toNat, none⟩) (Kd.R_mono HO_5.out (fun k_ hk => (⟨hk, fun e_ => hk (by rw [e_]; rfl)⟩ : _ ∧ k_ ≠ go72))) (fun _ hk => hk.2) (.int .i64 (wrap64 ((rd x6_3 x7_1) + (rd x6_3 (ji69)))))) (fun _ hk => hk.1)⟩, ⟨by (try simp only [hl6_3]); (with_reducible repeat (first | apply Kd.R_alloc | apply Kd.R_drewN | apply Kd.R_drew)); exact HQ84.out⟩, ⟨by (try simp only [hl6_3]); (with_reducible repeat (first | apply Kd.R_alloc | apply Kd.R_drewN | apply Kd.R_drew)); exact Kd.R_mono (Kd.R_far (p := ⟨go72, (x7_1 : Int).toNat, none⟩) (Kd.R_mono HO_65.out (fun k_ hk => (⟨hk, fun e_ => hk (by rw [e_]; rfl)⟩ : _ ∧ k_ ≠ go72))) (fun _ hk => hk.2) (.int .i64 (wrap64 ((rd x6_3 x7_1) + (rd x6_3 (ji69)))))) (fun _ hk => hk.1)⟩, ⟨by (try simp only [hl6_3]); (with_reducible repeat (first | apply Kd.R_alloc | apply Kd.R_drewN | apply Kd.R_drew)); exact Kd.R_mono (Kd.R_far (p := ⟨go72, (x7_1 : Int).toNat, none⟩) (Kd.R_types HO_114002.out GG72.out (by decide)) (fun _ hk => hk.2) (.int .i64 (wrap64 ((rd x6_3 x7_1) + (rd x6_3 (ji69)))))) (fun _ hk => trivial)⟩, ⟨by (try simp only [hl6_3]); (with_reducible repeat (first | refine blk_drewN ?_ _ | refine blk_drew ?_ | refine blk_alloc ?_ _)); refine blk_far ?_ (by have h_ := Kd.R_ne HO_6.out BK101.out (by decide); intro e_; exact h_ (by rw [e_]; rfl)) _; exact blc⟩, ⟨by (try simp only [hl6_3]); (with_reducible repeat (first | refine blk_drewN ?_ _ | refine blk_drew ?_ | refine blk_alloc ?_ _)); refine blk_far ?_ (by have h_ := Kd.R_ne HO_6.out BK113.out (by decide); intro e_; exact h_ (by rw [e_]; rfl)) _; exact blc⟩, ⟨bel HB⟩⟩
                       ·rw [if_neg c71] at H
                        exact absurd H (by simp)
                      ·rw [if_neg c70] at H
                       exact absurd H (by simp)
                     ·rw [if_neg c67] at H
                      exact absurd H (by simp)
                    ·rw [if_neg c66] at H
                     exact absurd H (by simp)
                   ·rw [if_neg c65] at H
                    exact absurd H (by simp)
                  ·replace c64 := Bool.eq_false_iff.mpr c64
                   subst c64
                   have H1 : (spec_buTable.l2 kj52 a1 t102 x6_3 x7_1 t102 (t102.length : Int) (wrap64 (x67_3 + 1)) a0_0 a0_1 l0_2 t108 t109 x114002_2) = some r := by rw [if_neg (show ¬ (false = true) by decide)] at H; exact H
                   clear H
                   have H := H1
                   clear H1
                   have H' := Aside0.mk H
                   clear H
                   have hnb85 := NB113_101.out
                   have hnc85 := NB101_113.out
                   have hcz86_0 : wc.cell? ⟨gb113, 0, none⟩ = some (.int .i64 t108) := (blk_cell BK113.out 0).trans rfl
                   have hcz86_1 : wc.cell? ⟨gb113, 1, none⟩ = some (.int .i64 t109) := (blk_cell BK113.out 1).trans rfl
                   have hcz86_2 : wc.cell? ⟨gb113, 2, none⟩ = some (u114002) := (blk_cell BK113.out 2).trans rfl
                   have hfz86_0 := blk_frozen BK113.out 0
                   have hfz86_1 := blk_frozen BK113.out 1
                   have hfz86_2 := blk_frozen BK113.out 2
                   obtain ⟨Ao87, co87, eo87⟩ := Kd.R_slice HO_114002.out
                   subst eo87
                   go_wp2_with (first | ((with_reducible refine gate_callee (f := 95) rfl ?_); refine gcall (some 90) Tryd.func95 #[.agg #[.int .i64 t108, .int .i64 t109, .slice Ao87 x114002_2.length co87], .int .i64 (rd t102 x67_3)] rfl ?_; (with_reducible refine (spec_buTake.calls kj52 t108 t109 _ _ x114002_2 (rd t102 x67_3) t120 t121 t122 false _ ?side1 ?side2 A63.out).mono ?_); (case side1 => repeat (first | exact (Kd.R_reads' HO_114002.out).2.2 | (with_reducible refine Kd.C_alloc ?_ _) | (with_reducible refine Kd.C_drewN ?_ _) | (with_reducible refine Kd.C_drew ?_))); (case side2 => exact (Kd.R_reads' HO_114002.out).2.1); rintro e w88 ⟨v123, rfl, ho0, hb⟩; refine ⟨_, rfl, ?_⟩; have n0_ := Aside0.mk (Kd.R_below (rch HO_5) hb); have n1_ := Aside0.mk (Kd.R_below (rch HO_6) hb); have n2_ := Aside0.mk (Kd.R_below (rch HO_65) hb); have n3_ := Aside0.mk (Kd.R_elder' (rch HO_114002) (Kd.R_base ho0) hb); have n4_ := Aside0.mk (Kd.R_lower (Kd.R_new' ho0 (Kd.R_lt (rch HO_114002))) (below_size (bel HB))); have n5_ := Aside0.mk (blk_below (g := gb101) (o := .cells #[.int .i64 a0_0, .int .i64 a0_1, .slice A0_2 l0_2.length c0_2] 40 (0, 0)) blc hb); have n6_ := Aside0.mk (blk_below (g := gb113) (o := .cells #[.int .i64 t108, .int .i64 t109, .slice Ao87 x114002_2.length co87] 40 (0, 0)) blc hb); have n7_ := Aside0.mk (below_step (bel HB) hb); clear HO_5; clear HO_6; clear HO_65; clear HO_114002; clear BK101; clear BK113; clear HB; have HO_5 := n0_; have HO_6 := n1_; have HO_65 := n2_; have HO_114002 := n3_; have HO124 := n4_; have BK101 := n5_; have BK113 := n6_; have HB := n7_; clear n0_ n1_ n2_ n3_ n4_ n5_ n6_ n7_; (try clear hb); (try clear hb2); (try clear hk); (try clear hi); (try clear ho0)) | ((with_reducible refine gate_dst (N := 14) rfl ?_); refine boxE (N := 14) (cs := #[.int .i64 0, .int .i64 0, .slice none 0 0]) (t := 40) ?_; intro gb126 hg w89 hbox hb; have n0_ := Aside0.mk (Kd.R_below (rch HO_5) hb); have n1_ := Aside0.mk (Kd.R_below (rch HO_6) hb); have n2_ := Aside0.mk (Kd.R_below (rch HO_65) hb); have n3_ := Aside0.mk (Kd.R_below (rch HO_114002) hb); have n4_ := Aside0.mk (Kd.R_below (rch HO124) hb); have n5_ := Aside0.mk (blk_below (g := gb101) (o := .cells #[.int .i64 a0_0, .int .i64 a0_1, .slice A0_2 l0_2.length c0_2] 40 (0, 0)) blc hb); have n6_ := Aside0.mk (blk_below (g := gb113) (o := .cells #[.int .i64 t108, .int .i64 t109, .slice Ao87 x114002_2.length co87] 40 (0, 0)) blc hb); have n7_ := Aside0.mk (below_step (bel HB) hb); have n8_ := Aside0.mk (hbox); have n9_ := Aside0.mk (gsz hg (bel HB)); have n10_ := Aside0.mk (gsz hg (bel HB)); have n11_ := Aside0.mk ((by rw [hg]; exact Nat.ne_of_lt (blk_lt (g := gb101) (o := .cells #[.int .i64 a0_0, .int .i64 a0_1, .slice A0_2 l0_2.length c0_2] 40 (0, 0)) blc) : gb101 ≠ gb126)); have n12_ := Aside0.mk ((by rw [hg]; exact Nat.ne_of_gt (blk_lt (g := gb101) (o := .cells #[.int .i64 a0_0, .int .i64 a0_1, .slice A0_2 l0_2.length c0_2] 40 (0, 0)) blc) : gb126 ≠ gb101)); have n13_ := Aside0.mk ((by rw [hg]; exact Nat.ne_of_lt (blk_lt (g := gb113) (o := .cells #[.int .i64 t108, .int .i64 t109, .slice Ao87 x114002_2.length co87] 40 (0, 0)) blc) : gb113 ≠ gb126)); have n14_ := Aside0.mk ((by rw [hg]; exact Nat.ne_of_gt (blk_lt (g := gb113) (o := .cells #[.int .i64 t108, .int .i64 t109, .slice Ao87 x114002_2.length co87] 40 (0, 0)) blc) : gb126 ≠ gb113)); clear HO_5; clear HO_6; clear HO_65; clear HO_114002; clear HO124; clear BK101; clear BK113; clear HB; have HO_5 := n0_; have HO_6 := n1_; have HO_65 := n2_; have HO_114002 := n3_; have HO124 := n4_; have BK101 := n5_; have BK113 := n6_; have HB := n7_; have BK126 := n8_; have GW126 := n9_; have GE126 := n10_; have NB101_126 := n11_; have NB126_101 := n12_; have NB113_126 := n13_; have NB126_113 := n14_; clear n0_ n1_ n2_ n3_ n4_ n5_ n6_ n7_ n8_ n9_ n10_ n11_ n12_ n13_ n14_; clear hb hbox hg; have hnb90 := NB126_101.out; have hnc90 := NB101_126.out; have hnb91 := NB126_113.out; have hnc91 := NB113_126.out; have hcz92_0 : w89.cell? ⟨gb126, 0, none⟩ = some (.int .i64 0) := (blk_cell BK126.out 0).trans rfl; have hcz92_1 : w89.cell? ⟨gb126, 1, none⟩ = some (.int .i64 0) := (blk_cell BK126.out 1).trans rfl; have hcz92_2 : w89.cell? ⟨gb126, 2, none⟩ = some (.slice none 0 0) := (blk_cell BK126.out 2).trans rfl; have hfz92_0 := blk_frozen BK126.out 0; have hfz92_1 := blk_frozen BK126.out 1; have hfz92_2 := blk_frozen BK126.out 2; obtain ⟨Ao93, co93, eo93⟩ := Kd.R_slice HO124.out; subst eo93))
                   (try simp only [← hl6_3])
                   go_roundg kj52
                   case measure => have := HK1.out; have := HK2.out; have := HK3.out; have := HJ52.out; omega
                   case rel => exact ⟨(x6_3), (wrap64 (x67_3 + 1)), (by first | rfl | (simp; done) | (simp [*]; done)), H', ⟨by have := HK1.out; have := HK2.out; have := HK3.out; have := HJ52.out; omega⟩, ⟨by (try simp only [hl6_3]); (with_reducible repeat (first | apply Kd.R_alloc | apply Kd.R_drewN | apply Kd.R_drew)); exact Kd.R_mono (Kd.R_far (p := ⟨gb126, 2, none⟩) (Kd.R_far (p := ⟨gb126, 1, none⟩) (Kd.R_far (p := ⟨gb126, 0, none⟩) (Kd.R_types HO_5.out BK126.out (by decide)) (fun _ hk => hk.2) (.int .i64 t120)) (fun _ hk => hk.2) (.int .i64 t121)) (fun _ hk => hk.2) (.slice Ao93 t122.length co93)) (fun _ hk => hk.1)⟩, ⟨by (try simp only [hl6_3]); (with_reducible repeat (first | apply Kd.R_alloc | apply Kd.R_drewN | apply Kd.R_drew)); exact Kd.R_mono (Kd.R_far (p := ⟨gb126, 2, none⟩) (Kd.R_far (p := ⟨gb126, 1, none⟩) (Kd.R_far (p := ⟨gb126, 0, none⟩) (Kd.R_types HO_6.out BK126.out (by decide)) (fun _ hk => hk.2) (.int .i64 t120)) (fun _ hk => hk.2) (.int .i64 t121)) (fun _ hk => hk.2) (.slice Ao93 t122.length co93)) (fun _ hk => ⟨hk.1.1, hk.1.2⟩)⟩, ⟨by (try simp only [hl6_3]); (with_reducible repeat (first | apply Kd.R_alloc | apply Kd.R_drewN | apply Kd.R_drew)); exact Kd.R_mono (Kd.R_far (p := ⟨gb126, 2, none⟩) (Kd.R_far (p := ⟨gb126, 1, none⟩) (Kd.R_far (p := ⟨gb126, 0, none⟩) (Kd.R_types HO_65.out BK126.out (by decide)) (fun _ hk => hk.2) (.int .i64 t120)) (fun _ hk => hk.2) (.int .i64 t121)) (fun _ hk => hk.2) (.slice Ao93 t122.length co93)) (fun _ hk => hk.1)⟩, ⟨by (try simp only [hl6_3]); (with_reducible repeat (first | apply Kd.R_alloc | apply Kd.R_drewN | apply Kd.R_drew)); exact Kd.R_mono (Kd.R_far (p := ⟨gb126, 2, none⟩) (Kd.R_far (p := ⟨gb126, 1, none⟩) (Kd.R_far (p := ⟨gb126, 0, none⟩) (Kd.R_types HO_114002.out BK126.out (by decide)) (fun _ hk => hk.2) (.int .i64 t120)) (fun _ hk => hk.2) (.int .i64 t121)) (fun _ hk => hk.2) (.slice Ao93 t122.length co93)) (fun _ hk => trivial)⟩, ⟨by (try simp only [hl6_3]); (with_reducible repeat (first | refine blk_drewN ?_ _ | refine blk_drew ?_ | refine blk_alloc ?_ _)); refine blk_far ?_ NB101_126.out _; (with_reducible repeat (first | refine blk_drewN ?_ _ | refine blk_drew ?_ | refine blk_alloc ?_ _)); refine blk_far ?_ NB101_126.out _; (with_reducible repeat (first | refine blk_drewN ?_ _ | refine blk_drew ?_ | refine blk_alloc ?_ _)); refine blk_far ?_ NB101_126.out _; exact blc⟩, ⟨by (try simp only [hl6_3]); (with_reducible repeat (first | refine blk_drewN ?_ _ | refine blk_drew ?_ | refine blk_alloc ?_ _)); refine blk_far ?_ NB113_126.out _; (with_reducible repeat (first | refine blk_drewN ?_ _ | refine blk_drew ?_ | refine blk_alloc ?_ _)); refine blk_far ?_ NB113_126.out _; (with_reducible repeat (first | refine blk_drewN ?_ _ | refine blk_drew ?_ | refine blk_alloc ?_ _)); refine blk_far ?_ NB113_126.out _; exact blc⟩, ⟨bel HB⟩⟩
              ·rw [if_neg c52] at H
               exact absurd H (by simp)
             ·rw [if_neg c51] at H
              exact absurd H (by simp)
            ·rw [if_neg c50] at H
             have c50b0 : decide (x67_3 < (t102.length : Int)) = false := decide_eq_false c50
             (try (have c50b0y := c50b0; first | rw [hl6_3] at c50b0y))
             clear c50
             have H' := Aside0.mk H
             clear H
             go_wp2
             (try simp only [← hl6_3])
             go_roundg k3
             case measure => have := HK1.out; have := HK2.out; have := HK3.out; omega
             case rel => exact ⟨(x6_3), (wrap64 (x7_1 + 1)), (by first | rfl | (simp; done) | (simp [*]; done)), H', ⟨by have := HK1.out; have := HK2.out; have := HK3.out; omega⟩, ⟨by (try simp only [hl6_3]); (with_reducible repeat (first | apply Kd.R_alloc | apply Kd.R_drewN | apply Kd.R_drew)); (first | exact HO_5.out | exact R_any HO_5.out)⟩, ⟨by (try simp only [hl6_3]); (with_reducible repeat (first | apply Kd.R_alloc | apply Kd.R_drewN | apply Kd.R_drew)); exact Kd.R_mono HO_6.out (fun _ hk => hk.1)⟩, ⟨by (try simp only [hl6_3]); exact blc⟩, ⟨bel HB⟩⟩
     ·rw [if_neg c13] at H
      have c13b0 : decide (x7_1 < (x6_1.length : Int)) = false := decide_eq_false c13
      clear c13
      obtain rfl := Option.some.inj H
      obtain ⟨Ao94, co94, eo94⟩ := Kd.R_slice HO_6.out
      subst eo94
      go_wp2
      go_ret
      exact ⟨_, by first | rfl | (simp [errW_none, errW_some] <;> rfl) | (simp only [← hji4]; first | rfl | (simp [errW_none, errW_some] <;> rfl)) | (simp [*, errW_none, errW_some] <;> rfl), by (with_reducible repeat (first | apply Kd.R_alloc | apply Kd.R_drewN | apply Kd.R_drew)); exact Kd.R_mono HO_6.out (fun _ hk => trivial), bel HB⟩
  ·rw [if_neg c6] at H
   exact absurd H (by simp)
 ·rw [if_neg c5] at H
  exact absurd H (by simp)
end Go.Proofs.YtmefnfhghfemgaaDoor.Q
end
section
namespace Go.Proofs.YtmefnfhghfemgaaDoor.Q
open Go.RowKit Go.Proofs.YtmefnfhghfemgaaDoorW.PrintWords Go.Proofs.YtmefnfhghfemgaaDoorW.PrintLast Go.Proofs.YtmefnfhghfemgaaDoorW.PrintMore
attribute [local go_sem] max2_int min2_int max_two min_two max_three min_three max_four min_four
set_option linter.unusedVariables false
set_option linter.unusedSimpArgs false
def spec_buCount.f (k : Nat) (a0_0 : Int) (a0_1 : Int) (l0_2 : List Int) (a1 : Int) : Option (Int) := (spec_buTable.f k a0_0 a0_1 l0_2 a1).bind fun t102 => (if 0 ≤ (wrap64 ((t102.length : Int) - 1)) then (if (wrap64 ((t102.length : Int) - 1)) < (t102.length : Int) then (some (rd t102 (wrap64 ((t102.length : Int) - 1)))) else (none)) else (none))
set_option maxHeartbeats 8000000 in
set_option maxRecDepth 100000 in
theorem spec_buCount.calls (k : Nat) (a0_0 : Int) (a0_1 : Int) (A0_2 : Option Addr) (c0_2 : Nat) (l0_2 : List Int) (a1 : Int) (r : Int) (w : World) (hr0_2 : Kd.C (Kd.int .u8) w A0_2 l0_2.length l0_2) (hc0_2 : l0_2.length ≤ c0_2) (h : spec_buCount.f k a0_0 a0_1 l0_2 a1 = some r) :
  Calls Tryd.prog 30 #[.agg #[.int .i64 a0_0, .int .i64 a0_1, .slice A0_2 l0_2.length c0_2], .int .i64 a1] w fun e w' => e = .returned (.int .i64 r) ∧ Below w.heap.size w w' := by
 have hu40 := Tryd.underlying40
 have HR0_2 := Aside0.mk hr0_2
 have HC0_2 := Aside0.mk hc0_2
 clear hr0_2 hc0_2
 have HB := Aside0.mk (Below.refl w.heap.size w)
 have H : ((spec_buTable.f k a0_0 a0_1 l0_2 a1).bind fun t102 => (if 0 ≤ (wrap64 ((t102.length : Int) - 1)) then (if (wrap64 ((t102.length : Int) - 1)) < (t102.length : Int) then (some (rd t102 (wrap64 ((t102.length : Int) - 1)))) else (none)) else (none))) = some r := h
 clear h
 replace H := Option.bind_eq_some_iff.mp H
 obtain ⟨t102, A30, H⟩ := H
 replace H : (if 0 ≤ (wrap64 ((t102.length : Int) - 1)) then (if (wrap64 ((t102.length : Int) - 1)) < (t102.length : Int) then (some (rd t102 (wrap64 ((t102.length : Int) - 1)))) else (none)) else (none)) = some r := H
 have A3 := Aside0.mk A30
 clear A30
 obtain ⟨ji4, hji4⟩ : ∃ j_ : Int, (wrap64 ((t102.length : Int) - 1)) = j_ := ⟨_, rfl⟩
 replace H : (if 0 ≤ (ji4) then (if (ji4) < (t102.length : Int) then (some (rd t102 (ji4))) else (none)) else (none)) = some r := by first | (rw [hji4] at H; exact H) | (simp only [hji4] at H ⊢; exact H)
 (try rw [hji4] at A3)
 have hji4w : (IntKind.i64.wrap ((t102.length : Int) - 1)) = ji4 := (i64_w _).trans hji4
 by_cases c5 : 0 ≤ (ji4)
 ·rw [if_pos c5] at H
  have c5b0 : decide (0 ≤ (ji4)) = true := decide_eq_true c5
  clear c5
  by_cases c6 : (ji4) < (t102.length : Int)
  ·rw [if_pos c6] at H
   have c6b0 : decide ((ji4) < (t102.length : Int)) = true := decide_eq_true c6
   clear c6
   obtain rfl := Option.some.inj H
   go_enter Tryd.func30, Tryd.ntmps30
   go_wp2_with (first | ((with_reducible refine gate_dst (N := 2) rfl ?_); refine boxE (N := 2) (cs := #[.int .i64 a0_0, .int .i64 a0_1, .slice A0_2 l0_2.length c0_2]) (t := 40) ?_; intro gb101 hg w7 hbox hb; have n0_ := Aside0.mk (below_step (bel HB) hb); have n1_ := Aside0.mk (hbox); have n2_ := Aside0.mk (gsz hg (bel HB)); have n3_ := Aside0.mk (gsz hg (bel HB)); clear HB; have HB := n0_; have BK101 := n1_; have GW101 := n2_; have GE101 := n3_; clear n0_ n1_ n2_ n3_; clear hb hbox hg; have hcz8_0 : w7.cell? ⟨gb101, 0, none⟩ = some (.int .i64 a0_0) := (blk_cell BK101.out 0).trans rfl; have hcz8_1 : w7.cell? ⟨gb101, 1, none⟩ = some (.int .i64 a0_1) := (blk_cell BK101.out 1).trans rfl; have hcz8_2 : w7.cell? ⟨gb101, 2, none⟩ = some (.slice A0_2 l0_2.length c0_2) := (blk_cell BK101.out 2).trans rfl; have hfz8_0 := blk_frozen BK101.out 0; have hfz8_1 := blk_frozen BK101.out 1; have hfz8_2 := blk_frozen BK101.out 2) | ((with_reducible refine gate_callee (f := 62) rfl ?_); refine gcall (some 8) Tryd.func62 #[.agg #[.int .i64 a0_0, .int .i64 a0_1, .slice A0_2 l0_2.length c0_2], .int .i64 a1] rfl ?_; (with_reducible refine (spec_buTable.calls k a0_0 a0_1 _ _ l0_2 a1 t102 _ ?side1 ?side2 A3.out).mono ?_); (case side1 => repeat (first | exact (Kd.C_below HR0_2.out HB.out) | (with_reducible refine Kd.C_alloc ?_ _) | (with_reducible refine Kd.C_drewN ?_ _) | (with_reducible refine Kd.C_drew ?_))); (case side2 => exact HC0_2.out); rintro e w9 ⟨v103, rfl, ho0, hb⟩; refine ⟨_, rfl, ?_⟩; have n0_ := Aside0.mk (Kd.R_lower ho0 (below_size (bel HB))); have n1_ := Aside0.mk (blk_below (g := gb101) (o := .cells #[.int .i64 a0_0, .int .i64 a0_1, .slice A0_2 l0_2.length c0_2] 40 (0, 0)) blc hb); have n2_ := Aside0.mk (below_step (bel HB) hb); clear BK101; clear HB; have HO104 := n0_; have BK101 := n1_; have HB := n2_; clear n0_ n1_ n2_; (try clear hb); (try clear hb2); (try clear hk); (try clear hi); (try clear ho0); obtain ⟨Ao10, co10, eo10⟩ := Kd.R_slice HO104.out; subst eo10; have p105 : 0 ≤ ((ji4) : Int) := of_decide_eq_true (by first | (with_reducible assumption) | assumption); have q105 : (ji4) < (t102.length : Int) := of_decide_eq_true (by first | (with_reducible assumption) | assumption); obtain ⟨ad105, e105, hx105_0⟩ := Kd.at_int (Kd.R_reads' HO104.out).2.2 (ji4) p105 q105; cases e105; replace p105 := eq_true p105; replace q105 := eq_true q105))
   go_ret
   exact ⟨by first | rfl | (simp [errW_none, errW_some] <;> rfl) | (simp only [← hji4]; first | rfl | (simp [errW_none, errW_some] <;> rfl)) | (simp [*, errW_none, errW_some] <;> rfl), bel HB⟩
  ·rw [if_neg c6] at H
   exact absurd H (by simp)
 ·rw [if_neg c5] at H
  exact absurd H (by simp)
end Go.Proofs.YtmefnfhghfemgaaDoor.Q
end
section
namespace Go.Proofs.YtmefnfhghfemgaaDoor.Q
set_option linter.unusedSectionVars false
set_option linter.unusedSimpArgs false
open Go.RowKit Go.Proofs.YtmefnfhghfemgaaDoorW.PrintWords Go.Proofs.YtmefnfhghfemgaaDoorW.PrintLast Go.Proofs.YtmefnfhghfemgaaDoorW.PrintMore
open Classical
theorem wn (n : Nat) (h : n ≤ 100000000000) : wrap64 (n : Int) = (n : Int) := by unfold wrap64; omega
theorem ws (n : Nat) (h : n ≤ 1000000) : wrap64 ((n : Int) + 1) = ((n + 1 : Nat) : Int) := by unfold wrap64; omega
theorem shl_nat (i : Nat) (h : i ≤ 10) : shl .i64 1 (i : Int) = ((2 ^ i : Nat) : Int) := by
 have h2 : 2 ^ i ≤ 2 ^ 10 := Nat.pow_le_pow_right (by decide) h
 have h1 : (2 : Int) ^ min i 64 = ((2 ^ i : Nat) : Int) := by rw [Nat.min_eq_left (by omega)]; simp
 unfold shl
 rw [i64_w, Int.one_mul, Int.toNat_natCast, show (IntKind.i64.bits : Nat) = 64 from rfl, h1]
 exact wn _ (Nat.le_trans h2 (by decide))
theorem shr_bit (S i : Nat) (h : i ≤ 10) : Int.tmod (shr .i64 (S : Int) (i : Int)) 2 = if S.testBit i = true then 1 else 0 := by
 have h1 : (2 : Int) ^ min i 64 = ((2 ^ i : Nat) : Int) := by rw [Nat.min_eq_left (by omega)]; simp
 unfold shr
 rw [Int.toNat_natCast, show (IntKind.i64.bits : Nat) = 64 from rfl, h1, show (S : Int) / ((2 ^ i : Nat) : Int) = ((S / 2 ^ i : Nat) : Int) from (Int.natCast_ediv _ _).symm, Nat.testBit_eq_decide_div_mod_eq]
 rw [show Int.tmod ((S / 2 ^ i : Nat) : Int) 2 = ((S / 2 ^ i % 2 : Nat) : Int) from rfl]
 rcases Nat.mod_two_eq_zero_or_one (S / 2 ^ i) with h5 | h5 <;> rw [h5] <;> simp
theorem shr_one {S i : Nat} (h : i ≤ 10) (hb : S.testBit i = true) : Int.tmod (shr .i64 (S : Int) (i : Int)) 2 = 1 := by rw [shr_bit S i h, if_pos hb]
theorem shr_zero {S i : Nat} (h : i ≤ 10) (hb : S.testBit i = false) : Int.tmod (shr .i64 (S : Int) (i : Int)) 2 = 0 := by rw [shr_bit S i h, if_neg (by rw [hb]; decide)]
section
variable {w h : Nat} (hs : w * h ≤ 36)
include hs
theorem empty_l0 : ∀ (m t : Nat), t + m = w * h → Ev (fun k => spec_tyEmpty.l0 k w h t w h (List.replicate t 46)) ((w : Int), (h : Int), List.replicate (w * h) 46)
 | 0, t, ht => by
  obtain rfl : t = w * h := by omega
  refine Ev.step (Ev.const (o := some ((w : Int), (h : Int), List.replicate (w * h) 46)) rfl) fun k => ?_
  rw [spec_tyEmpty.l0, if_neg]
  rw [show ((w : Int) * (h : Int)) = ((w * h : Nat) : Int) by simp, wn _ (by omega)]
  omega
 | m + 1, t, ht => by
  have ih := empty_l0 m (t + 1) (by omega)
  refine Ev.step ih fun k => ?_
  rw [spec_tyEmpty.l0, if_pos, if_pos, ws t (by omega), List.replicate_succ']
  ·rw [List.length_replicate]
   exact Nat.lt_of_le_of_lt (show t ≤ 36 by omega) (by decide)
  ·rw [show ((w : Int) * (h : Int)) = ((w * h : Nat) : Int) by simp, wn _ (by omega)]
   omega
theorem empty_ev : Ev (fun k => spec_tyEmpty.f k w h) ((w : Int), (h : Int), List.replicate (w * h) 46) := empty_l0 hs (w * h) 0 (by omega)
end
def tabQ (w h : Nat) (cs : List Int) (S0 T : Nat) : Nat := if T = 0 then 0 else PO.Q (ballsOf cs).length (eS w h (w * h) (ballsOf cs)) S0 T
def tabL (w h : Nat) (cs : List Int) (S0 : Nat) (T : Nat) : List Int := (List.range (2 ^ (ballsOf cs).length)).map fun U => if U < T then ((tabQ w h cs S0 U : Nat) : Int) else 0
theorem tabL_len (w h : Nat) (cs : List Int) (S0 T : Nat) : (tabL w h cs S0 T).length = 2 ^ (ballsOf cs).length := by unfold tabL; simp
theorem tabL_rd (w h : Nat) (cs : List Int) (S0 T U : Nat) (hU : U < 2 ^ (ballsOf cs).length) : rd (tabL w h cs S0 T) (U : Int) = if U < T then ((tabQ w h cs S0 U : Nat) : Int) else 0 := by
 rw [rd_nat _ U (by rw [tabL_len]; exact hU)]
 unfold tabL
 rw [List.getElem_map, List.getElem_range]
theorem tabL_set (w h : Nat) (cs : List Int) (S0 T : Nat) (hT : T < 2 ^ (ballsOf cs).length) : (tabL w h cs S0 T).set T ((tabQ w h cs S0 T : Nat) : Int) = tabL w h cs S0 (T + 1) := by
 refine rd_same (by rw [List.length_set, tabL_len, tabL_len]) fun j hj => ?_
 rw [List.length_set, tabL_len] at hj
 have h1 := rd_set (tabL w h cs S0 T) (T : Int) (j : Int) ((tabQ w h cs S0 T : Nat) : Int) (by omega) (by rw [tabL_len]; omega) (by omega)
 rw [Int.toNat_natCast] at h1
 rw [h1, tabL_rd _ _ _ _ _ _ hj, tabL_rd _ _ _ _ _ _ hj]
 by_cases e : j = T
 ·subst e
  rw [if_pos rfl, if_pos (by omega)]
 ·rw [if_neg (by omega)]
  by_cases e2 : j < T
  ·rw [if_pos e2, if_pos (by omega)]
  ·rw [if_neg e2, if_neg (by omega)]
theorem tabL_same (w h : Nat) (cs : List Int) (S0 T : Nat) (hT : T < 2 ^ (ballsOf cs).length) : (tabL w h cs S0 T).set T 0 = tabL w h cs S0 T := by
 refine rd_same (by rw [List.length_set]) fun j hj => ?_
 rw [List.length_set, tabL_len] at hj
 have h1 := rd_set (tabL w h cs S0 T) (T : Int) (j : Int) 0 (by omega) (by rw [tabL_len]; omega) (by omega)
 rw [Int.toNat_natCast] at h1
 rw [h1]
 by_cases e : j = T
 ·subst e
  rw [if_pos rfl, tabL_rd _ _ _ _ _ _ hj, if_neg (by omega)]
 ·rw [if_neg (by omega)]
theorem tabL_zero (w h : Nat) (cs : List Int) (S0 : Nat) : tabL w h cs S0 1 = List.replicate (2 ^ (ballsOf cs).length) 0 := by
 refine rd_same (by rw [tabL_len, List.length_replicate]) fun j hj => ?_
 rw [tabL_len] at hj
 rw [tabL_rd _ _ _ _ _ _ hj, rd_nat _ j (by rw [List.length_replicate]; exact hj), List.getElem_replicate]
 split
 ·obtain rfl : j = 0 := by omega
  rfl
 ·rfl
theorem sumL_one (n k : Nat) (f : Nat → Nat) (hk : k < n) (h : ∀ j, j < n → j ≠ k → f j = 0) : PO.sumL (List.range n) f = f k := by
 induction n with
 | zero => omega
 | succ n ih =>
  rw [List.range_succ, PO.sumL_append, PO.sumL_cons, PO.sumL_nil, Nat.add_zero]
  by_cases e : k = n
  ·subst e
   rw [PO.sumL_congr (g := fun _ => 0) (fun a ha => h a (by have := List.mem_range.1 ha; omega) (by have := List.mem_range.1 ha; omega)), PO.sumL_zero, Nat.zero_add]
  ·rw [ih (by omega) (fun j hj => h j (by omega)), h n (by omega) (by omega), Nat.add_zero]
theorem pc_pos {n S : Nat} (h0 : S ≠ 0) (hS : S < 2 ^ n) : 1 ≤ PO.pc n S := by
 obtain ⟨i, hi, hb⟩ := some_bit h0 hS
 obtain ⟨U, rfl, hU⟩ := PO.take_bit hb
 rw [PO.pc_put hU hi]
 omega
theorem pc_zero (n : Nat) : PO.pc n 0 = 0 := by
 unfold PO.pc
 rw [List.countP_eq_zero]
 intro a _
 simp
theorem pc_pow {n k : Nat} (hk : k < n) : PO.pc n (2 ^ k) = 1 := by
 have := PO.pc_put (n := n) (S := 0) (k := k) (by simp) hk
 rw [Nat.zero_add, pc_zero] at this
 exact this
theorem pc_one {n T : Nat} (h0 : T ≠ 0) (hT : T < 2 ^ n) (h1 : PO.pc n T = 1) : ∃ k, k < n ∧ T = 2 ^ k := by
 obtain ⟨k, hk, hb⟩ := some_bit h0 hT
 obtain ⟨U, rfl, hU⟩ := PO.take_bit hb
 rw [PO.pc_put hU hk] at h1
 refine ⟨k, hk, ?_⟩
 by_cases e : U = 0
 ·rw [e, Nat.zero_add]
 ·have hp := Nat.two_pow_pos k
  have := pc_pos (n := n) e (by omega)
  omega
def Start (n : Nat) (x1 : Int) (S0 : Nat) : Prop := (x1 = -1 ∧ S0 = 0) ∨ ∃ f : Nat, f < n ∧ x1 = (f : Int) ∧ S0 = 2 ^ f
section
variable {w h : Nat} {cs : List Int} (hw1 : 1 ≤ w) (hw : w ≤ 7) (hh1 : 1 ≤ h) (hh : h ≤ 7) (hs : w * h ≤ 36) (hn : cs.length = w * h) (h10 : (ballsOf cs).length ≤ 10)
include hw1 hw hh1 hh hs hn h10
theorem start_lt {x1 : Int} {S0 : Nat} (hst : Start (ballsOf cs).length x1 S0) : S0 < 2 ^ (ballsOf cs).length := by
 rcases hst with ⟨_, rfl⟩ | ⟨f, hf, _, rfl⟩
 ·exact Nat.two_pow_pos _
 ·exact Nat.pow_lt_pow_right (by decide) hf
theorem hang_Q {x1 : Int} {S0 : Nat} (hst : Start (ballsOf cs).length x1 S0) (U : Nat) (h0 : U ≠ 0) (hU : U < 2 ^ (ballsOf cs).length) (hq : PO.Q (ballsOf cs).length (eS w h (w * h) (ballsOf cs)) S0 U ≠ 0) : isB3 w h (nowC (w * h) (ballsOf cs) U) := by
 rw [isB3_now hw hh hs hn h10 U h0 hU]
 refine PO.Q_keeps (ballsOf cs).length (eS w h (w * h) (ballsOf cs)) (P := fun S => S ≠ 0 → (mins w h (nowC (w * h) (ballsOf cs) S) (w * h)).length = 1) (fun S i hS hi hb he hp _ => hang_step hw hh hs hn h10 S i hS hi hb he hp) (PO.pc (ballsOf cs).length U) S0 U (Nat.le_refl _) (start_lt hw1 hw hh1 hh hs hn h10 hst) hU (fun hne => ?_) hq h0
 rcases hst with ⟨_, rfl⟩ | ⟨f, hf, _, rfl⟩
 ·exact absurd rfl hne
 ·have := hang_step hw hh hs hn h10 0 f (Nat.two_pow_pos _) hf (by simp) (by unfold eS; simp) (fun h => absurd rfl h)
  rw [Nat.zero_add] at this
  exact this
theorem tab_one {x1 : Int} {S0 : Nat} (hst : Start (ballsOf cs).length x1 S0) (k : Nat) (hk : k < (ballsOf cs).length) : tabQ w h cs S0 (2 ^ k) = if x1 < 0 ∨ x1 = (k : Int) then 1 else 0 := by
 have hp := Nat.two_pow_pos k
 have hlt : 2 ^ k < 2 ^ (ballsOf cs).length := Nat.pow_lt_pow_right (by decide) hk
 have hS0 := start_lt hw1 hw hh1 hh hs hn h10 hst
 unfold tabQ
 rw [if_neg (by omega)]
 by_cases hsame : S0 = 2 ^ k
 ·rw [hsame, PO.Q_self _ _ hlt, if_pos]
  rcases hst with ⟨h1, rfl⟩ | ⟨f, hf, h1, rfl⟩
  ·omega
  ·right
   rw [h1, (Nat.pow_right_inj (by decide)).1 hsame]
 ·rw [PO.Q_last _ _ (2 ^ (ballsOf cs).length) S0 (2 ^ k) hS0 hlt (by omega) hsame, sumL_one _ k _ hk (fun j hj hjk => by
   unfold PO.back
   rw [if_neg fun h => by
    have h2 := h.1
    rw [Nat.testBit_two_pow] at h2
    exact hjk (of_decide_eq_true h2).symm, Nat.zero_mul]), Nat.sub_self]
  have hback : PO.back (eS w h (w * h) (ballsOf cs)) (2 ^ k) k = 1 := by
   unfold PO.back
   rw [if_pos ⟨by simp, by rw [Nat.sub_self]; unfold eS; simp⟩]
  rw [hback, Nat.one_mul]
  rcases hst with ⟨h1, rfl⟩ | ⟨f, hf, h1, rfl⟩
  ·rw [PO.Q_self _ _ (Nat.two_pow_pos _), if_pos (Or.inl (by omega))]
  ·have hp2 := Nat.two_pow_pos f
   rw [PO.Q_down _ _ (2 ^ (ballsOf cs).length) (2 ^ f) 0 (by omega) (by omega) (Nat.two_pow_pos _), if_neg]
   rintro (h2 | h2)
   ·omega
   ·exact hsame (by rw [show f = k by omega])
theorem accL_rd (S0 T U : Nat) (a : Int) (hT : T < 2 ^ (ballsOf cs).length) (hU : U < 2 ^ (ballsOf cs).length) : rd ((tabL w h cs S0 T).set T a) (U : Int) = if U = T then a else if U < T then ((tabQ w h cs S0 U : Nat) : Int) else 0 := by
 have h1 := rd_set (tabL w h cs S0 T) (T : Int) (U : Int) a (by omega) (by rw [tabL_len]; omega) (by omega)
 rw [Int.toNat_natCast] at h1
 rw [h1, tabL_rd _ _ _ _ _ _ hU]
 by_cases e : U = T
 ·rw [if_pos e, if_pos (by omega)]
 ·rw [if_neg e, if_neg (by omega)]
theorem take_now (T t : Nat) (ht : t < (ballsOf cs).length) (U : Nat) (hU0 : U ≠ 0) (hb : U.testBit t = false) (hTU : T = U + 2 ^ t) (hk : isB3 w h (nowC (w * h) (ballsOf cs) U)) :
  Ev (fun k => spec_buTake.f k w h (nowC (w * h) (ballsOf cs) T) (rd (ballsOf cs) (t : Int))) ((w : Int), (h : Int), (nowC (w * h) (ballsOf cs) T).set (rd (ballsOf cs) (t : Int)).toNat 46, eS w h (w * h) (ballsOf cs) U t) := by
 have hL : Cells (w * h) (ballsOf cs) := hn ▸ cells_balls cs
 have h1 := buTake_ev hw1 hw hh1 hh hs (nowC_len hL T) (nowC_open hL T) _ (nowC_in hL T t ht)
 have h2 : decide (takeOK w h (nowC (w * h) (ballsOf cs) T) (rd (ballsOf cs) (t : Int))) = eS w h (w * h) (ballsOf cs) U t := by
  unfold takeOK eS
  rw [decide_eq_false hU0, Bool.false_or, hTU, nowC_take hL U t ht hb, nowC_at hL _ t ht, if_pos (by rw [PO.put_bits hb]; simp)]
  cases hx : wayB w h (nowC (w * h) (ballsOf cs) U) (rd (ballsOf cs) (t : Int)) with
  | true => exact @decide_eq_true _ (Classical.propDecidable _) ⟨rfl, hk, rfl⟩
  | false => exact @decide_eq_false _ (Classical.propDecidable _) fun h => by cases h.2.2
 rw [h2] at h1
 exact h1
theorem tab_l2 {x1 : Int} {S0 : Nat} (hst : Start (ballsOf cs).length x1 S0) (T : Nat) (hT0 : T ≠ 0) (hT : T < 2 ^ (ballsOf cs).length) (hpc : PO.pc (ballsOf cs).length T ≠ 1) (K : List Int)
  (hK : Ev (fun k => spec_buTable.l0 k x1 (ballsOf cs) (tabL w h cs S0 (T + 1)) ((T + 1 : Nat) : Int) w h cs) K) :
  ∀ (m t : Nat), t + m = (ballsOf cs).length → Ev (fun k => spec_buTable.l2 k x1 (ballsOf cs) ((tabL w h cs S0 T).set T ((PO.sumL (List.range t) (fun j => PO.back (eS w h (w * h) (ballsOf cs)) T j * PO.Q (ballsOf cs).length (eS w h (w * h) (ballsOf cs)) S0 (T - 2 ^ j)) : Nat) : Int)) T (ballsOf cs) ((ballsOf cs).length : Int) t w h cs w h (nowC (w * h) (ballsOf cs) T)) K
 | 0, t, ht => by
  obtain rfl : t = (ballsOf cs).length := by omega
  have hne : S0 ≠ T := by
   rintro rfl
   rcases hst with ⟨_, rfl⟩ | ⟨f, hf, _, rfl⟩
   ·exact hT0 rfl
   ·exact hpc (pc_pow hf)
  have hq : PO.sumL (List.range (ballsOf cs).length) (fun j => PO.back (eS w h (w * h) (ballsOf cs)) T j * PO.Q (ballsOf cs).length (eS w h (w * h) (ballsOf cs)) S0 (T - 2 ^ j)) = tabQ w h cs S0 T := by
   unfold tabQ
   rw [if_neg hT0, PO.Q_last _ _ (2 ^ (ballsOf cs).length) S0 T (start_lt hw1 hw hh1 hh hs hn h10 hst) hT (by omega) hne]
  refine Ev.step hK fun k => ?_
  rw [spec_buTable.l2, if_neg (by omega), hq, tabL_set _ _ _ _ _ hT, ws T (by have : 2 ^ (ballsOf cs).length ≤ 2 ^ 10 := Nat.pow_le_pow_right (by decide) h10; omega)]
 | m + 1, t, ht => by
  have ih := tab_l2 hst T hT0 hT hpc K hK m (t + 1) (by omega)
  have hp10 : 2 ^ (ballsOf cs).length ≤ 2 ^ 10 := Nat.pow_le_pow_right (by decide) h10
  have hpt := Nat.two_pow_pos t
  have htl : t < (ballsOf cs).length := by omega
  have ht6 : t ≤ 1000000 := by omega
  have ht10 : t ≤ 10 := by omega
  have hbound : PO.sumL (List.range (t + 1)) (fun j => PO.back (eS w h (w * h) (ballsOf cs)) T j * PO.Q (ballsOf cs).length (eS w h (w * h) (ballsOf cs)) S0 (T - 2 ^ j)) ≤ 10000000000 := by
   have hne : S0 ≠ T := by
    rintro rfl
    rcases hst with ⟨_, rfl⟩ | ⟨f, hf, _, rfl⟩
    ·exact hT0 rfl
    ·exact hpc (pc_pow hf)
   have hQ := PO.Q_last (ballsOf cs).length (eS w h (w * h) (ballsOf cs)) (2 ^ (ballsOf cs).length) S0 T (start_lt hw1 hw hh1 hh hs hn h10 hst) hT (Nat.le_add_right _ _) hne
   have hF := PO.Q_fits (ballsOf cs).length (eS w h (w * h) (ballsOf cs)) h10 (start_lt hw1 hw hh1 hh hs hn h10 hst) hT
   rw [hQ] at hF
   exact Nat.le_trans (PO.sumL_part _ (t + 1) (ballsOf cs).length htl) hF
  have hstep : PO.sumL (List.range (t + 1)) (fun j => PO.back (eS w h (w * h) (ballsOf cs)) T j * PO.Q (ballsOf cs).length (eS w h (w * h) (ballsOf cs)) S0 (T - 2 ^ j)) = PO.sumL (List.range t) (fun j => PO.back (eS w h (w * h) (ballsOf cs)) T j * PO.Q (ballsOf cs).length (eS w h (w * h) (ballsOf cs)) S0 (T - 2 ^ j)) + PO.back (eS w h (w * h) (ballsOf cs)) T t * PO.Q (ballsOf cs).length (eS w h (w * h) (ballsOf cs)) S0 (T - 2 ^ t) := by
   rw [List.range_succ, PO.sumL_append, PO.sumL_cons, PO.sumL_nil, Nat.add_zero]
  rw [hstep] at ih hbound
  generalize PO.sumL (List.range t) (fun j => PO.back (eS w h (w * h) (ballsOf cs)) T j * PO.Q (ballsOf cs).length (eS w h (w * h) (ballsOf cs)) S0 (T - 2 ^ j)) = acc at ih hbound ⊢
  have c1 : (t : Int) < ((ballsOf cs).length : Int) := Int.ofNat_lt.2 htl
  have c0 : (0 : Int) ≤ (t : Int) := Int.natCast_nonneg _
  have hwt := ws t ht6
  by_cases hb : T.testBit t = true
  ·obtain ⟨U, hTU, hUb⟩ := PO.take_bit hb
   have hU0 : U ≠ 0 := by
    rintro rfl
    rw [Nat.zero_add] at hTU
    exact hpc (by rw [hTU]; exact pc_pow htl)
   clear hwt
   have hTU2 : T - 2 ^ t = U := by rw [hTU]; exact Nat.add_sub_cancel _ _
   have hUT : U < T := by rw [hTU]; exact Nat.lt_add_of_pos_right hpt
   have hUl : U < 2 ^ (ballsOf cs).length := Nat.lt_trans hUT hT
   have hback : PO.back (eS w h (w * h) (ballsOf cs)) T t = if eS w h (w * h) (ballsOf cs) U t = true then 1 else 0 := by
    unfold PO.back
    rw [hTU2]
    by_cases hx : eS w h (w * h) (ballsOf cs) U t = true
    ·rw [if_pos ⟨hb, hx⟩, if_pos hx]
    ·rw [if_neg fun h => hx h.2, if_neg hx]
   rw [hTU2, hback] at ih hbound
   have hlen : ((tabL w h cs S0 T).set T (acc : Int)).length = 2 ^ (ballsOf cs).length := by rw [List.length_set, tabL_len]
   have hrU := accL_rd hw1 hw hh1 hh hs hn h10 S0 T U (acc : Int) hT hUl
   rw [if_neg (Nat.ne_of_lt hUT), if_pos hUT] at hrU
   have htq : tabQ w h cs S0 U = PO.Q (ballsOf cs).length (eS w h (w * h) (ballsOf cs)) S0 U := if_neg hU0
   have hrT := accL_rd hw1 hw hh1 hh hs hn h10 S0 T T (acc : Int) hT hT
   rw [if_pos rfl] at hrT
   have c2 : (U : Int) < (((tabL w h cs S0 T).set T (acc : Int)).length : Int) := by rw [hlen]; exact Int.ofNat_lt.2 hUl
   have c3 : (T : Int) < (((tabL w h cs S0 T).set T (acc : Int)).length : Int) := by rw [hlen]; exact Int.ofNat_lt.2 hT
   have hset : ∀ v : Int, ((tabL w h cs S0 T).set T (acc : Int)).set ((T : Int)).toNat v = (tabL w h cs S0 T).set T v := fun v => by rw [Int.toNat_natCast, List.set_set]
   have hw2 : wrap64 ((T : Int) - shl .i64 1 (t : Int)) = (U : Int) := by
    rw [shl_nat t ht10, hTU, show ((U + 2 ^ t : Nat) : Int) - ((2 ^ t : Nat) : Int) = (U : Int) from by rw [Int.natCast_add]; exact Int.add_sub_cancel _ _]
    exact wn U (Nat.le_trans (Nat.le_of_lt hUl) (Nat.le_trans hp10 (by decide)))
   have hwt := ws t ht6
   have hgo : ∀ b : Bool, (rd ((tabL w h cs S0 T).set T (acc : Int)) (U : Int) == 0) = b → Ev (fun k => spec_buTable.j3 k x1 (ballsOf cs) ((tabL w h cs S0 T).set T (acc : Int)) T t (rd (ballsOf cs) (t : Int)) (ballsOf cs) ((ballsOf cs).length : Int) t b w h cs w h (nowC (w * h) (ballsOf cs) T)) K → Ev (fun k => spec_buTable.l2 k x1 (ballsOf cs) ((tabL w h cs S0 T).set T (acc : Int)) T (ballsOf cs) ((ballsOf cs).length : Int) t w h cs w h (nowC (w * h) (ballsOf cs) T)) K := by
    intro b hb2 hj
    refine Ev.step hj fun k => ?_
    rw [spec_buTable.l2, if_pos c1, if_pos c0, if_pos c1, if_neg (by rw [shr_one ht10 hb]; decide), hw2, if_pos (Int.natCast_nonneg _), if_pos c2, hb2]
   by_cases hq0 : PO.Q (ballsOf cs).length (eS w h (w * h) (ballsOf cs)) S0 U = 0
   ·rw [hq0, Nat.mul_zero, show acc + 0 = acc from rfl] at ih
    refine hgo true (by rw [hrU, htq, hq0]; rfl) (Ev.step ih fun k => ?_)
    rw [spec_buTable.j3, if_pos rfl, hwt]
   ·have htk := take_now hw1 hw hh1 hh hs hn h10 T t htl U hU0 hUb hTU (hang_Q hw1 hw hh1 hh hs hn h10 hst U hU0 hUl hq0)
    have hj3 : ∀ k, spec_buTable.j3 (k + 1) x1 (ballsOf cs) ((tabL w h cs S0 T).set T (acc : Int)) T t (rd (ballsOf cs) (t : Int)) (ballsOf cs) ((ballsOf cs).length : Int) t false w h cs w h (nowC (w * h) (ballsOf cs) T) = (spec_buTake.f k w h (nowC (w * h) (ballsOf cs) T) (rd (ballsOf cs) (t : Int))).bind fun bt120 => (if bt120.2.2.2 = true then spec_buTable.l2 k x1 (ballsOf cs) ((tabL w h cs S0 T).set T (wrap64 ((acc : Int) + ((PO.Q (ballsOf cs).length (eS w h (w * h) (ballsOf cs)) S0 U : Nat) : Int)))) T (ballsOf cs) ((ballsOf cs).length : Int) ((t + 1 : Nat) : Int) w h cs w h (nowC (w * h) (ballsOf cs) T) else spec_buTable.l2 k x1 (ballsOf cs) ((tabL w h cs S0 T).set T (acc : Int)) T (ballsOf cs) ((ballsOf cs).length : Int) ((t + 1 : Nat) : Int) w h cs w h (nowC (w * h) (ballsOf cs) T)) := by
     intro k
     rw [spec_buTable.j3, if_neg Bool.false_ne_true, if_pos (show (0 : Int) ≤ (T : Int) from Int.natCast_nonneg _), if_pos c3, if_pos c0, hw2, if_pos (show (0 : Int) ≤ (U : Int) from Int.natCast_nonneg _), if_pos c2, hset, hrT, hrU, htq, hwt]
    have hne0 : ((PO.Q (ballsOf cs).length (eS w h (w * h) (ballsOf cs)) S0 U : Nat) : Int) ≠ 0 := fun e => hq0 (Int.ofNat_inj.1 e)
    refine hgo false (by rw [hrU, htq]; exact beq_false_of_ne hne0) ?_
    cases hx : eS w h (w * h) (ballsOf cs) U t with
    | true =>
     rw [hx] at htk
     rw [hx, if_pos rfl] at ih hbound
     have hsum : wrap64 ((acc : Int) + ((PO.Q (ballsOf cs).length (eS w h (w * h) (ballsOf cs)) S0 U : Nat) : Int)) = ((acc + 1 * PO.Q (ballsOf cs).length (eS w h (w * h) (ballsOf cs)) S0 U : Nat) : Int) := by
      generalize PO.Q (ballsOf cs).length (eS w h (w * h) (ballsOf cs)) S0 U = q at hbound ⊢
      clear ih hgo hset hj3 htk hrU hrT hn h10 hs
      unfold wrap64
      omega
     refine Ev.step (Ev.bind (f := fun k (bt120 : Int × Int × List Int × Bool) => (if bt120.2.2.2 = true then spec_buTable.l2 k x1 (ballsOf cs) ((tabL w h cs S0 T).set T (wrap64 ((acc : Int) + ((PO.Q (ballsOf cs).length (eS w h (w * h) (ballsOf cs)) S0 U : Nat) : Int)))) T (ballsOf cs) ((ballsOf cs).length : Int) ((t + 1 : Nat) : Int) w h cs w h (nowC (w * h) (ballsOf cs) T) else spec_buTable.l2 k x1 (ballsOf cs) ((tabL w h cs S0 T).set T (acc : Int)) T (ballsOf cs) ((ballsOf cs).length : Int) ((t + 1 : Nat) : Int) w h cs w h (nowC (w * h) (ballsOf cs) T))) htk (Ev.congr ih fun k => ?_)) hj3
     rw [hsum]
     exact if_pos rfl
    | false =>
     rw [hx] at htk
     rw [hx, if_neg Bool.false_ne_true, Nat.zero_mul, show acc + 0 = acc from rfl] at ih
     exact Ev.step (Ev.bind (f := fun k (bt120 : Int × Int × List Int × Bool) => (if bt120.2.2.2 = true then spec_buTable.l2 k x1 (ballsOf cs) ((tabL w h cs S0 T).set T (wrap64 ((acc : Int) + ((PO.Q (ballsOf cs).length (eS w h (w * h) (ballsOf cs)) S0 U : Nat) : Int)))) T (ballsOf cs) ((ballsOf cs).length : Int) ((t + 1 : Nat) : Int) w h cs w h (nowC (w * h) (ballsOf cs) T) else spec_buTable.l2 k x1 (ballsOf cs) ((tabL w h cs S0 T).set T (acc : Int)) T (ballsOf cs) ((ballsOf cs).length : Int) ((t + 1 : Nat) : Int) w h cs w h (nowC (w * h) (ballsOf cs) T))) htk (Ev.congr ih fun k => if_neg Bool.false_ne_true)) hj3
  ·have hb2 : T.testBit t = false := by simpa using hb
   have e0 : PO.back (eS w h (w * h) (ballsOf cs)) T t = 0 := by
    unfold PO.back
    rw [if_neg fun h => hb h.1]
   rw [e0, Nat.zero_mul, show acc + 0 = acc from rfl] at ih
   refine Ev.step (g' := fun k => spec_buTable.j3 k x1 (ballsOf cs) ((tabL w h cs S0 T).set T (acc : Int)) T t (rd (ballsOf cs) (t : Int)) (ballsOf cs) ((ballsOf cs).length : Int) t true w h cs w h (nowC (w * h) (ballsOf cs) T)) (Ev.step ih fun k => ?_) fun k => ?_
   ·rw [spec_buTable.j3, if_pos rfl, hwt]
   ·rw [spec_buTable.l2, if_pos c1, if_pos c0, if_pos c1, if_pos (shr_zero ht10 hb2)]
theorem tab_l1 {x1 : Int} {S0 : Nat} (hst : Start (ballsOf cs).length x1 S0) (T : Nat) (hT0 : T ≠ 0) (hT : T < 2 ^ (ballsOf cs).length) (K : List Int)
  (hK : Ev (fun k => spec_buTable.l0 k x1 (ballsOf cs) (tabL w h cs S0 (T + 1)) ((T + 1 : Nat) : Int) w h cs) K) :
  ∀ (m t : Nat), t + m = (ballsOf cs).length → Ev (fun k => spec_buTable.l1 k x1 (ballsOf cs) (tabL w h cs S0 T) T ((PO.pc t T : Nat) : Int) (ballsOf cs) ((ballsOf cs).length : Int) t w h cs w h (putC (List.replicate (w * h) 46) (ballsOf cs) T t)) K
 | 0, t, ht => by
  obtain rfl : t = (ballsOf cs).length := by omega
  have hp10 : 2 ^ (ballsOf cs).length ≤ 2 ^ 10 := Nat.pow_le_pow_right (by decide) h10
  have hT6 : T ≤ 1000000 := by omega
  have c3 : (T : Int) < ((tabL w h cs S0 T).length : Int) := by rw [tabL_len]; exact Int.ofNat_lt.2 hT
  have c4 : (0 : Int) ≤ (T : Int) := Int.natCast_nonneg _
  by_cases hpc : PO.pc (ballsOf cs).length T = 1
  ·obtain ⟨k0, hk0, hTk⟩ := pc_one hT0 hT hpc
   have h1 := tab_one hw1 hw hh1 hh hs hn h10 hst k0 hk0
   rw [← hTk] at h1
   have hset := tabL_set w h cs S0 T hT
   refine Ev.step hK fun k => ?_
   rw [spec_buTable.l1, if_neg (by omega), if_pos (by omega)]
   by_cases hx : x1 < 0
   ·rw [if_pos (Or.inl hx)] at h1
    rw [h1] at hset
    rw [if_pos hx, if_pos c4, if_pos c3, ws T hT6, Int.toNat_natCast]
    rw [show (tabL w h cs S0 T).set T 1 = tabL w h cs S0 (T + 1) from hset]
   ·rcases hst with ⟨h2, _⟩ | ⟨f, hf, h2, _⟩
    ·omega
    ·rw [if_neg hx, if_pos (by omega), h2, shl_nat f (by omega)]
     by_cases hkf : k0 = f
     ·rw [if_pos (Or.inr (by omega))] at h1
      rw [h1] at hset
      rw [if_pos (by rw [hTk, hkf]), if_pos c4, if_pos c3, ws T hT6, Int.toNat_natCast]
      rw [show (tabL w h cs S0 T).set T 1 = tabL w h cs S0 (T + 1) from hset]
     ·rw [if_neg (by omega)] at h1
      rw [h1] at hset
      rw [if_neg (fun e => hkf ((Nat.pow_right_inj (show 1 < 2 by decide)).1 (by rw [← hTk]; exact Int.ofNat_inj.1 e))), ws T hT6]
      rw [show tabL w h cs S0 (T + 1) = tabL w h cs S0 T from hset.symm.trans (tabL_same w h cs S0 T hT)]
  ·have h2 := tab_l2 hw1 hw hh1 hh hs hn h10 hst T hT0 hT hpc K hK (ballsOf cs).length 0 (by omega)
   refine Ev.step h2 fun k => ?_
   rw [spec_buTable.l1, if_neg (by omega), if_neg (by omega)]
   rw [show (tabL w h cs S0 T).set T ((PO.sumL (List.range 0) (fun j => PO.back (eS w h (w * h) (ballsOf cs)) T j * PO.Q (ballsOf cs).length (eS w h (w * h) (ballsOf cs)) S0 (T - 2 ^ j)) : Nat) : Int) = tabL w h cs S0 T from tabL_same w h cs S0 T hT]
   rfl
 | m + 1, t, ht => by
  have ih := tab_l1 hst T hT0 hT K hK m (t + 1) (by omega)
  have hL : Cells (w * h) (ballsOf cs) := hn ▸ cells_balls cs
  have htl : t < (ballsOf cs).length := by omega
  have hr := hL.inN t htl
  have hpl : PO.pc t T ≤ t := PO.pc_le t T
  have hps : PO.pc (t + 1) T = PO.pc t T + if T.testBit t = true then 1 else 0 := by
   unfold PO.pc
   rw [List.range_succ, List.countP_append, List.countP_singleton]
  have hput : putC (List.replicate (w * h) 46) (ballsOf cs) T (t + 1) = if T.testBit t = true then (putC (List.replicate (w * h) 46) (ballsOf cs) T t).set (rd (ballsOf cs) (t : Int)).toNat 111 else putC (List.replicate (w * h) 46) (ballsOf cs) T t := rfl
  have c2 : rd (ballsOf cs) (t : Int) < ((putC (List.replicate (w * h) 46) (ballsOf cs) T t).length : Int) := by rw [putC_len, List.length_replicate]; exact hr.2
  rw [hps, hput] at ih
  refine Ev.step ih fun k => ?_
  rw [spec_buTable.l1, if_pos (by omega), if_pos (by omega), if_pos (by omega), ws t (by omega)]
  by_cases hb : T.testBit t = true
  ·rw [if_pos (shr_one (by omega) hb), if_pos hr.1, if_pos c2, if_pos hb, if_pos hb, ws _ (by omega)]
  ·rw [if_neg (by rw [shr_zero (by omega) (by simpa using hb)]; decide), if_neg hb, if_neg hb]
   rfl
theorem tab_l0 {x1 : Int} {S0 : Nat} (hst : Start (ballsOf cs).length x1 S0) : ∀ (m T : Nat), T + m = 2 ^ (ballsOf cs).length → T ≠ 0 → Ev (fun k => spec_buTable.l0 k x1 (ballsOf cs) (tabL w h cs S0 T) T w h cs) (tabL w h cs S0 (2 ^ (ballsOf cs).length))
 | 0, T, hT, hT0 => by
  rw [Nat.add_zero] at hT
  refine Ev.step (Ev.const (o := some (tabL w h cs S0 (2 ^ (ballsOf cs).length))) rfl) fun k => ?_
  rw [spec_buTable.l0, if_neg (by rw [tabL_len, hT]; exact Int.lt_irrefl _), hT]
 | m + 1, T, hT, hT0 => by
  have hlt : T < 2 ^ (ballsOf cs).length := by rw [← hT]; exact Nat.lt_add_of_pos_right (Nat.succ_pos m)
  have ih := tab_l0 hst m (T + 1) (by rw [← hT, Nat.add_right_comm, Nat.add_assoc]) (Nat.succ_ne_zero _)
  have h1 := tab_l1 hw1 hw hh1 hh hs hn h10 hst T hT0 hlt _ ih (ballsOf cs).length 0 (Nat.zero_add _)
  refine Ev.step (Ev.bind (f := fun k (bt108 : Int × Int × List Int) => (spec_buTable.l1 k x1 (ballsOf cs) (tabL w h cs S0 T) T 0 (ballsOf cs) ((ballsOf cs).length : Int) 0 w h cs bt108.1 bt108.2.1 bt108.2.2)) (empty_ev hs) h1) fun k => ?_
  rw [spec_buTable.l0, if_pos (by rw [tabL_len]; exact Int.ofNat_lt.2 hlt)]
theorem buTable_ev {x1 : Int} {S0 : Nat} (hst : Start (ballsOf cs).length x1 S0) : Ev (fun k => spec_buTable.f k w h cs x1) (tabL w h cs S0 (2 ^ (ballsOf cs).length)) := by
 have hp10 : 2 ^ (ballsOf cs).length ≤ 2 ^ 10 := Nat.pow_le_pow_right (by decide) h10
 have hpp := Nat.two_pow_pos (ballsOf cs).length
 have h0 := tab_l0 hw1 hw hh1 hh hs hn h10 hst (2 ^ (ballsOf cs).length - 1) 1 (by omega) (by decide)
 refine Ev.bind (f := fun k (t102 : List Int) => (if 0 ≤ (shl .i64 1 (t102.length : Int)) then (if (shl .i64 1 (t102.length : Int) : Int).toNat ≤ 35184372088832 then (spec_buTable.l0 k x1 t102 (List.replicate (shl .i64 1 (t102.length : Int) : Int).toNat 0) 1 w h cs) else (none)) else (none))) (tyBalls_ev cs (by omega) w h) (Ev.congr h0 fun k => ?_)
 rw [shl_nat _ h10, Int.toNat_natCast, if_pos (Int.natCast_nonneg _), if_pos (Nat.le_trans hp10 (by decide)), tabL_zero]
 rfl
theorem buCount_ev {x1 : Int} {S0 : Nat} (hst : Start (ballsOf cs).length x1 S0) : Ev (fun k => spec_buCount.f k w h cs x1) ((tabQ w h cs S0 (2 ^ (ballsOf cs).length - 1) : Nat) : Int) := by
 have hp10 : 2 ^ (ballsOf cs).length ≤ 2 ^ 10 := Nat.pow_le_pow_right (by decide) h10
 have hpp := Nat.two_pow_pos (ballsOf cs).length
 have hwr : wrap64 (((2 ^ (ballsOf cs).length : Nat) : Int) - 1) = ((2 ^ (ballsOf cs).length - 1 : Nat) : Int) := by
  generalize 2 ^ (ballsOf cs).length = p at hp10 hpp ⊢
  unfold wrap64
  omega
 have hlt : 2 ^ (ballsOf cs).length - 1 < 2 ^ (ballsOf cs).length := Nat.sub_lt hpp (by decide)
 refine Ev.bind (f := fun _ (t102 : List Int) => (if 0 ≤ (wrap64 ((t102.length : Int) - 1)) then (if (wrap64 ((t102.length : Int) - 1)) < (t102.length : Int) then (some (rd t102 (wrap64 ((t102.length : Int) - 1)))) else (none)) else (none))) (buTable_ev hw1 hw hh1 hh hs hn h10 hst) (Ev.const ?_)
 rw [tabL_len, hwr, if_pos (Int.natCast_nonneg _), if_pos (Int.ofNat_lt.2 hlt), tabL_rd _ _ _ _ _ _ hlt, if_pos hlt]
end
end Go.Proofs.YtmefnfhghfemgaaDoor.Q
end
section
namespace Go.Proofs.YtmefnfhghfemgaaDoor.Q
set_option linter.unusedSectionVars false
set_option linter.unusedSimpArgs false
set_option linter.unusedVariables false
open Go.RowKit Go.Proofs.YtmefnfhghfemgaaDoorW.PrintWords Go.Proofs.YtmefnfhghfemgaaDoorW.PrintLast Go.Proofs.YtmefnfhghfemgaaDoorW.PrintMore
def EndO (tw th : Int) (l L : List Int) (b S : Nat) (f : Int → Option Int) (W W' : World) : Prop := W.grownBy W' (some b) ∧ ∃ n' f', MP W' b n' f' ∧ TR tw th l L f' ∧ n' + mu f' ≤ 1024 ∧ ∀ x : Nat, x < S → f' (x : Int) = f (x : Int)
theorem wrap1o (n : Nat) (h : n < 1000000) : wrap64 ((n : Int) + 1) = ((n + 1 : Nat) : Int) := by unfold wrap64; omega
theorem full_eq (n S : Nat) (hn : n ≤ 10) : ((S : Int) == wrap64 (wrap64 (2 ^ min n 64) - 1)) = decide (S = 2 ^ n - 1) := by
 have h1 : (2 : Int) ^ min n 64 = ((2 ^ n : Nat) : Int) := by rw [Nat.min_eq_left (by omega)]; simp
 have h2 : 2 ^ n ≤ 2 ^ 10 := Nat.pow_le_pow_right (by decide) hn
 have h3 := Nat.two_pow_pos n
 rw [h1]
 generalize 2 ^ n = p at h2 h3 ⊢
 have h4 : wrap64 (wrap64 (p : Int) - 1) = ((p - 1 : Nat) : Int) := by unfold wrap64; omega
 rw [h4]
 by_cases e : S = p - 1
 ·rw [decide_eq_true e, e]; simp
 ·rw [decide_eq_false e]
  exact beq_false_of_ne fun h => e (Int.ofNat_inj.1 h)
theorem bit_and (S t : Nat) (hS : S < 1024) (ht : t ≤ 10) : bits .and .i64 ((S : Int) / 2 ^ min t 64) 1 = if S.testBit t = true then 1 else 0 := by
 have h1 : (2 : Int) ^ min t 64 = ((2 ^ t : Nat) : Int) := by rw [Nat.min_eq_left (by omega)]; simp
 have h2 : (S : Int) / ((2 ^ t : Nat) : Int) = ((S / 2 ^ t : Nat) : Int) := (Int.natCast_ediv _ _).symm
 have h3 : S / 2 ^ t ≤ S := Nat.div_le_self _ _
 have h4 := (bits_nat .i64 62 (by decide) (fun n h0 h1 => by rw [IntKind.wrap_i64]; omega) (S / 2 ^ t) 1 (by omega) (by decide)).1
 rw [h1, h2, show (1 : Int) = ((1 : Nat) : Int) from rfl, h4, Nat.and_one_is_mod, Nat.testBit_eq_decide_div_mod_eq]
 have h5 := Nat.mod_two_eq_zero_or_one (S / 2 ^ t)
 rcases h5 with h5 | h5 <;> rw [h5] <;> simp
theorem bit_is1 (S t : Nat) (hS : S < 1024) (ht : t ≤ 10) : (bits .and .i64 ((S : Int) / 2 ^ min t 64) 1 == 1) = S.testBit t := by
 rw [bit_and S t hS ht]
 cases S.testBit t <;> decide
theorem bit_is0 (S t : Nat) (hS : S < 1024) (ht : t ≤ 10) : (bits .and .i64 ((S : Int) / 2 ^ min t 64) 1 == 0) = !S.testBit t := by
 rw [bit_and S t hS ht]
 cases S.testBit t <;> decide
theorem pow_wrap (t : Nat) (ht : t ≤ 10) : wrap64 (2 ^ min t 64) = ((2 ^ t : Nat) : Int) := by
 have h1 : (2 : Int) ^ min t 64 = ((2 ^ t : Nat) : Int) := by rw [Nat.min_eq_left (by omega)]; simp
 have h2 : 2 ^ t ≤ 2 ^ 10 := Nat.pow_le_pow_right (by decide) ht
 rw [h1]
 generalize 2 ^ t = p at h2 ⊢
 unfold wrap64
 omega
theorem bit_put (S t : Nat) (hS : S < 1024) (ht : t ≤ 10) (hb : S.testBit t = false) : bits .or .i64 (S : Int) (wrap64 (2 ^ min t 64)) = ((S + 2 ^ t : Nat) : Int) := by
 have h2 : 2 ^ t ≤ 2 ^ 10 := Nat.pow_le_pow_right (by decide) ht
 rw [pow_wrap t ht, (bits_nat .i64 62 (by decide) (fun n h0 h1 => by rw [IntKind.wrap_i64]; omega) S (2 ^ t) (by omega) (by omega)).2, PO.put_or hb]
section
variable {go gl gq gc b : Nat} {tw th : Int} {A AL : Option Addr} {c cL : Nat} {l L : List Int}
set_option maxHeartbeats 16000000 in
set_option maxRecDepth 100000 in
theorem impl_orders1.calls (k : Nat) : ∀ (S : Nat) (r : Int) (n : Nat) (f : Int → Option Int) (W : World), OR W go gl gq gc b tw th A c l AL cL L → MP W b n f → TR tw th l L f → n + mu f ≤ 1024 → ordF k tw th l L S = some r →
  Calls Tryd.prog 67 #[.int .i64 (S : Int), .pointer (some ⟨gl, 0, none⟩), .pointer (some ⟨gq, 0, none⟩), .pointer (some ⟨go, 0, none⟩), .pointer (some ⟨gc, 0, none⟩)] W fun e W' => e = .returned (.int .i64 r) ∧ EndO tw th l L b S f W W' := by
 induction k with
 | zero => intro S r n f W _ _ _ _ h; cases h
 | succ k ih =>
  intro S r n f W hO hM hT hn h
  have h0 := h
  unfold ordF at h
  split at h
  case isFalse => cases h
  rename_i hgd
  obtain ⟨hS, hl, h10, hin⟩ := hgd
  have HO := Aside0.mk hO
  have HM := Aside0.mk hM
  have HT := Aside0.mk hT
  have HN := Aside0.mk hn
  have H0 := Aside0.mk h0
  have HS := Aside0.mk hS
  have HL := Aside0.mk hl
  have H10 := Aside0.mk h10
  have HIN := Aside0.mk hin
  clear hM hT hn h0 hS hl h10 hin
  have x0 := (blk_cell hO.lst 0).trans rfl
  have x1 := (blk_cell hO.kno 0).trans rfl
  have x2 := (blk_cell hO.own 0).trans rfl
  have x3 := (blk_cell hO.own 1).trans rfl
  have x4 := (blk_cell hO.own 2).trans rfl
  clear hO
  split at h
  ·rename_i hf
   obtain rfl := Option.some.inj h
   have e1 := full_eq L.length S H10.out
   rw [decide_eq_true hf] at e1
   clear hf h x1 x2 x3 x4
   go_enter Tryd.func67, Tryd.ntmps67
   go_wp2_with fail
   go_ret
   exact ⟨rfl, grown_of_below (Below.refl _ _) _, n, f, HM.out, HT.out, HN.out, fun _ _ => rfl⟩
  ·rename_i hf
   have e1 := full_eq L.length S H10.out
   rw [decide_eq_false hf] at e1
   have HF := Aside0.mk hf
   have HS1 := Aside0.mk h
   have HKS := Aside0.mk (show fits64 (S : Int) from by
    have h1 := HS.out
    have h2 : 2 ^ L.length ≤ 2 ^ 10 := Nat.pow_le_pow_right (by decide) H10.out
    unfold fits64
    omega)
   clear hf h
   cases hfx : f (S : Int) with
   | some v =>
    have hv : v = r := by
     obtain ⟨k2, S2, h1, h2⟩ := HT.out _ _ hfx
     obtain rfl := Int.ofNat_inj.1 h1
     exact ordF_same h2 H0.out
    subst hv
    have HFX := Aside0.mk hfx
    clear hfx x2 x3 x4
    go_enter Tryd.func67, Tryd.ntmps67
    go_wp2_with (at_lookup; refine wpList_hit rfl _ rfl _ _ 86 rfl Tryd.underlying86 b n f HM.out (S : Int) rfl rfl HKS.out v HFX.out ?_)
    go_ret
    exact ⟨rfl, grown_of_below (Below.refl _ _) _, n, f, HM.out, HT.out, HN.out, fun _ _ => rfl⟩
   | none =>
    have HFX := Aside0.mk hfx
    have hu := Tryd.underlying46
    have HV := Aside0.mk (show impl_tray_emptied.f tw th l = some (tw, th, emptyC l) from if_pos HL.out)
    have HEL := Aside0.mk (show (emptyC l).length = l.length from by unfold emptyC; rw [List.length_map])
    clear hfx
    go_enter Tryd.func67, Tryd.ntmps67
    go_wp2_with (first
     | (at_lookup; refine wpList_miss rfl _ rfl _ _ 86 rfl Tryd.underlying86 b n f HM.out (S : Int) rfl rfl HKS.out HFX.out ?_; clear x1 e1))
    have hvr := Kd.V_reads' HO.out.cells
    refine (impl_tray_emptied.calls tw th A c l tw th (emptyC l) _ hvr.2.2 hvr.2.1 HV.out).mono ?_
    rintro e w1 ⟨v1, rfl, ho, hb1⟩
    obtain ⟨gb, c1, rfl, hgb, hlb, cl, hcl⟩ := Kd.R_form ho (by rw [HEL.out]; exact HL.out.1)
    rw [HEL.out] at ho ⊢
    have HB1 := Aside0.mk hb1
    have HR1 := Aside0.mk ho
    have HGB := Aside0.mk hgb
    have HMB := Aside0.mk HM.out.lt
    clear hvr ho hb1 hgb hlb hcl x0 x2 x3 x4 HV
    go_wp2_with (first
     | ((with_reducible refine gate_dst (N := 9) rfl ?_); refine box_event ?hg (N := 9) ?hd (cs := #[.int .i64 0, .int .i64 0, .slice none 0 0]) (t := 46) ?hr ?_; (case hd => rfl); (case hg => rfl); (case hr => first | (go_simp; done) | (go_simp; rfl)); intro gn hg w2 hbox hb; (have HGN := Aside0.mk (show W.heap.size ≤ gn by rw [hg]; exact HB1.out.size)); (have HB2 := Aside0.mk (below_then HB1.out HB1.out.size hb)); (have HR2 := Aside0.mk (Kd.R_below HR1.out hb)); (have HU := Aside0.mk hbox); (have y0 := (blk_cell HU.out 0).trans rfl); (have y1 := (blk_cell HU.out 1).trans rfl); (have y2 := (blk_cell HU.out 2).trans rfl); (have f0 := blk_frozen HU.out 0); (have f1 := blk_frozen HU.out 1); (have f2 := blk_frozen HU.out 2); clear hbox hb hg HB1 HR1)
     | ((with_reducible refine gate_store (t := 46) (p := 9) rfl ?_); refine store_event (t := 46) (p := 9) (v := ?vo) (w1 := (((w2.setCell ⟨gn, 0, none⟩ (.int .i64 tw)).setCell ⟨gn, 1, none⟩ (.int .i64 th)).setCell ⟨gn, 2, none⟩ (.slice (some ⟨gb, 0, none⟩) l.length c1))) ?hg ?ho ?hn ?hr ?_; (case ho => rfl); (case hg => rfl); (case hn => rfl); (case hr => first | (go_simp; done) | (go_simp; rfl)); intro w3 hw; (have HB3 := Aside0.mk (show Below W.heap.size W w3 by rw [hw]; exact below_set (below_set (below_set HB2.out HGN.out) HGN.out) HGN.out)); (have HE := Aside0.mk (show NW W w3 gn gb tw th l.length c1 (emptyC l) b from ⟨grown_of_below HB3.out _, (by rw [hw]; refine blk_put (cs := #[.int .i64 tw, .int .i64 th, .slice none 0 0]) ?_ 2 _ rfl; refine blk_put (cs := #[.int .i64 tw, .int .i64 0, .slice none 0 0]) ?_ 1 _ rfl; refine blk_put (cs := #[.int .i64 0, .int .i64 0, .slice none 0 0]) ?_ 0 _ rfl; exact HU.out), (by rw [hw]; exact Kd.R_mono (Kd.R_far (p := ⟨gn, 2, none⟩) (Kd.R_far (p := ⟨gn, 1, none⟩) (Kd.R_far (p := ⟨gn, 0, none⟩) (Kd.R_types HR2.out HU.out (by decide)) (fun _ hk => hk.2) (.int .i64 tw)) (fun _ hk => hk.2) (.int .i64 th)) (fun _ hk => hk.2) (.slice (some ⟨gb, 0, none⟩) l.length c1)) (fun _ _ => trivial)), HGN.out, HGB.out, HMB.out, HEL.out⟩)); clear hw HU HR2 HB2 y0 y1 y2 f0 f1 f2; (have x0 := (blk_cell (HO.out.below HB3.out).lst 0).trans rfl)))
    clear x0
    go_loopg [33] L.length (fun gg v33 wr => ∃ t : Nat, v33 = .int .i64 t ∧ Aside0 (t ≤ L.length ∧ L.length - t ≤ gg) ∧ Aside0 (Below W.heap.size W wr) ∧ Aside0 (NW W wr gn gb tw th l.length c1 (putC (emptyC l) L S t) b))
    case atStart => exact ⟨0, rfl, ⟨Nat.zero_le _, by omega⟩, HB3, HE⟩
    case round =>
     clear HB3 HE
     obtain ⟨t, rfl, HA, HB, HE⟩ := hrel
     have y0 := (blk_cell HE.out.out 0).trans rfl
     have y1 := (blk_cell HE.out.out 1).trans rfl
     have y2 := (blk_cell HE.out.out 2).trans rfl
     have hOr := HO.out.below HB.out
     by_cases hlt : t < L.length
     ·have e1 : decide ((t : Int) < (L.length : Int)) = true := decide_eq_true (by omega)
      have p1 : (0 ≤ (t : Int)) = True := eq_true (by omega)
      have p2 : ((t : Int) < (L.length : Int)) = True := eq_true (by omega)
      obtain ⟨ad, ea, hx⟩ := Kd.at_int (Kd.V_reads' hOr.list).2.2 (t : Int) (by omega) (by omega)
      subst ea
      rw [Int.toNat_natCast] at hx
      clear hOr
      have hS := HS.out
      have h10 := H10.out
      have hS10 : S < 1024 := Nat.lt_of_lt_of_le hS (Nat.pow_le_pow_right (by decide) h10)
      have hb := bit_is1 S t hS10 (by omega)
      have hrl : 0 ≤ rd L (t : Int) ∧ rd L (t : Int) < (l.length : Int) := by
       have h1 := HIN.out
       unfold inB at h1
       rw [Bool.and_eq_true, List.all_eq_true] at h1
       have h2 := h1.2 L[t] (List.getElem_mem hlt)
       rw [rd_nat L t hlt]
       exact of_decide_eq_true h2
      have hpt : putC (emptyC l) L S (t + 1) = if S.testBit t = true then (putC (emptyC l) L S t).set (rd L (t : Int)).toNat 111 else putC (emptyC l) L S t := rfl
      have HPT := Aside0.mk hpt
      have HA2 := Aside0.mk (show t < L.length ∧ L.length ≤ 10 from ⟨hlt, h10⟩)
      clear hpt hS h10 hS10 hlt
      cases hbt : S.testBit t with
      | true =>
       rw [hbt] at hb
       have HPT2 := Aside0.mk (show putC (emptyC l) L S (t + 1) = (putC (emptyC l) L S t).set (rd L (t : Int)).toNat 111 from HPT.out.trans (if_pos hbt))
       clear hbt HPT
       have p3 : (0 ≤ rd L (t : Int)) = True := eq_true hrl.1
       have p4 : (rd L (t : Int) < (l.length : Int)) = True := eq_true hrl.2
       obtain ⟨z0, z1⟩ := Kd.R_celln 0 HE.out.row (rd L (t : Int)) hrl.1 hrl.2
       clear hrl
       generalize rd L (t : Int) = a at hx z0 z1 p3 p4 HPT2
       go_wp2_with fail
       go_roundg (L.length - (t + 1))
       case measure => have h1 := HA2.out; have h2 := HA.out; omega
       case rel => exact ⟨t + 1, by first | rfl | rw [wrap1o t (by have := HA2.out; omega)] | simp, ⟨by have := HA2.out; omega, Nat.le_refl _⟩, ⟨below_set HB.out HGB.out⟩, ⟨by rw [HPT2.out]; exact HE.out.set a 111⟩⟩
      | false =>
       rw [hbt] at hb
       have HPT2 := Aside0.mk (show putC (emptyC l) L S (t + 1) = putC (emptyC l) L S t from HPT.out.trans (if_neg (by rw [hbt]; exact Bool.false_ne_true)))
       clear hbt HPT hrl
       go_wp2_with fail
       go_roundg (L.length - (t + 1))
       case measure => have h1 := HA2.out; have h2 := HA.out; omega
       case rel => exact ⟨t + 1, by first | rfl | rw [wrap1o t (by have := HA2.out; omega)] | simp, ⟨by have := HA2.out; omega, Nat.le_refl _⟩, HB, ⟨by rw [HPT2.out]; exact HE.out⟩⟩
     ·obtain rfl : t = L.length := by have := HA.out; omega
      have e1 : decide ((L.length : Int) < (L.length : Int)) = false := decide_eq_false (by omega)
      have HM0 := Aside0.mk (HM.out.below HB.out)
      have HQ0 := Aside0.mk (show sumO (addO k tw th (putC (emptyC l) L S L.length)) (ordF k tw th l L) L S (L.length - 0) 0 0 = some r from HS1.out)
      have x0 := (blk_cell hOr.lst 0).trans rfl
      clear hOr hlt HA y0 y1 y2
      go_wp2_with fail
      clear x0 e1
      go_loopg [12, 50] L.length (fun gg v12 v50 wr => ∃ (i : Nat) (a : Int) (m : Nat) (g : Int → Option Int), v12 = .int .i64 a ∧ v50 = .int .i64 i ∧ Aside0 (i ≤ L.length ∧ L.length - i ≤ gg) ∧ Aside0 (sumO (addO k tw th (putC (emptyC l) L S L.length)) (ordF k tw th l L) L S (L.length - i) i a = some r) ∧ Aside0 (NW W wr gn gb tw th l.length c1 (putC (emptyC l) L S L.length) b) ∧ Aside0 (MP wr b m g) ∧ Aside0 (TR tw th l L g ∧ m + mu g ≤ 1024 ∧ ∀ x : Nat, x ≤ S → g (x : Int) = f (x : Int)))
      case atStart => exact ⟨0, 0, n, f, rfl, rfl, ⟨Nat.zero_le _, by omega⟩, HQ0, HE, HM0, ⟨HT.out, HN.out, fun _ _ => rfl⟩⟩
      case round =>
       clear HB HE HM0 HQ0
       obtain ⟨i, a, m, g, rfl, rfl, HA, HQ, HE, HMg, HKg⟩ := hrel
       have y0 := (blk_cell HE.out.out 0).trans rfl
       have y1 := (blk_cell HE.out.out 1).trans rfl
       have y2 := (blk_cell HE.out.out 2).trans rfl
       have hOr := HO.out.turn HM.out.nc HE.out.grown
       have x1 := (blk_cell hOr.kno 0).trans rfl
       have x5 := (blk_cell hOr.cnt 0).trans rfl
       by_cases hlt : i < L.length
       ·have e1 : decide ((i : Int) < (L.length : Int)) = true := decide_eq_true (by omega)
        have p1 : (0 ≤ (i : Int)) = True := eq_true (by omega)
        have p2 : ((i : Int) < (L.length : Int)) = True := eq_true (by omega)
        obtain ⟨ad, ea, hx⟩ := Kd.at_int (Kd.V_reads' hOr.list).2.2 (i : Int) (by omega) (by omega)
        subst ea
        rw [Int.toNat_natCast] at hx
        have hS := HS.out
        have h10 := H10.out
        have hS10 : S < 1024 := Nat.lt_of_lt_of_le hS (Nat.pow_le_pow_right (by decide) h10)
        have hb := bit_is0 S i hS10 (by omega)
        have HA2 := Aside0.mk (show i < L.length ∧ L.length ≤ 10 from ⟨hlt, h10⟩)
        have HOr := Aside0.mk hOr
        have hq := HQ.out
        rw [show L.length - i = (L.length - (i + 1)) + 1 by omega] at hq
        unfold sumO at hq
        clear hOr x1
        cases hbt : S.testBit i with
        | true =>
         rw [hbt] at hb
         rw [if_pos hbt] at hq
         have HQ2 := Aside0.mk hq
         clear hq hS h10 hS10 hlt hbt HQ
         go_wp2_with fail
         go_roundg (L.length - (i + 1))
         case measure => have h1 := HA2.out; have h2 := HA.out; omega
         case rel => exact ⟨i + 1, a, m, g, rfl, by first | rfl | rw [wrap1o i (by have := HA2.out; omega)] | simp, ⟨by have := HA2.out; omega, Nat.le_refl _⟩, HQ2, HE, HMg, HKg⟩
        | false =>
         rw [hbt] at hb
         rw [if_neg (by rw [hbt]; exact Bool.false_ne_true)] at hq
         obtain ⟨T, hT⟩ : ∃ T : Nat, T = S + 2 ^ i := ⟨_, rfl⟩
         have hbp := bit_put S i hS10 (by omega) hbt
         rw [← hT] at hbp hq
         have hbq : bits .or .i64 (S : Int) (IntKind.i64.wrap (2 ^ min i 64)) = (T : Int) := by rw [i64_w]; exact hbp
         have HTS := Aside0.mk (show S < T from by have := Nat.two_pow_pos i; omega)
         have eg : ∀ args w, (callFunc 67 args).run Tryd.prog w = .ok (.enter 67 args) w := enters_of Tryd.func67 (by kernel_rfl) rfl
         clear hS h10 hS10 hlt hbt hT HQ
         by_cases h00 : S = 0
         ·rw [if_pos h00] at hq
          obtain ⟨cv, hcv, hq⟩ := Option.bind_eq_some_iff.1 hq
          have hcall := ih T cv m g _ HOr.out HMg.out HKg.out.1 HKg.out.2.1 hcv
          have hz : ((S : Int) == 0) = true := by rw [h00]; rfl
          have HQ2 := Aside0.mk hq
          have hcv0 := hcv
          clear hq hcv h00
          have HCV := Aside0.mk hcv0
          clear hcv0 hcall
          go_wp2_with fail
          go_region_with (refine (ih T cv m g _ (HOr.out.below (below_drew (Below.refl _ _))) (HMg.out.below (below_drew (Below.refl _ _))) HKg.out.1 HKg.out.2.1 HCV.out).mono ?_; rintro e w4 ⟨rfl, hend⟩)
          obtain ⟨hg, n', f', hM', hT', hn', hkeep⟩ := hend
          have HE4 := Aside0.mk ((HE.out.step (below_drew (Below.refl _ _))).turn hg)
          have HM4 := Aside0.mk hM'
          have HK4 := Aside0.mk (show TR tw th l L f' ∧ n' + mu f' ≤ 1024 ∧ ∀ x : Nat, x ≤ S → f' (x : Int) = f (x : Int) from ⟨hT', hn', fun x hx => (hkeep x (Nat.lt_of_le_of_lt hx HTS.out)).trans (HKg.out.2.2 x hx)⟩)
          clear hg hM' hT' hn' hkeep
          go_wp2_with fail
          go_roundg (L.length - (i + 1))
          case measure => have h1 := HA2.out; have h2 := HA.out; omega
          case rel => exact ⟨i + 1, wrap64 (a + cv), n', f', by first | rfl | simp only [i64_w], by first | rfl | rw [wrap1o i (by have := HA2.out; omega)] | simp, ⟨by have := HA2.out; omega, Nat.le_refl _⟩, HQ2, HE4, HM4, HK4⟩
         ·rw [if_neg h00] at hq
          obtain ⟨bb, hbb, hq⟩ := Option.bind_eq_some_iff.1 hq
          unfold addO at hbb
          obtain ⟨s, hs, hbb⟩ := Option.bind_eq_some_iff.1 hbb
          have hz : ((S : Int) == 0) = false := beq_false_of_ne (by omega)
          have hrow := Kd.R_reads' HE.out.row
          have hln : (putC (emptyC l) L S L.length).length = l.length := hrow.1.symm
          have hc := impl_tray_added.calls k tw th (some ⟨gb, 0, none⟩) c1 _ (rd L (i : Int)) s wr hrow.2.2 (by rw [hln]; exact hrow.2.1) hs
          rw [hln] at hc
          have HC0 := Aside0.mk hc
          have hbb := Option.some.inj hbb
          clear hc hrow hln hs h00
          cases bb with
          | true =>
           rw [if_pos rfl] at hq
           obtain ⟨cv, hcv, hq⟩ := Option.bind_eq_some_iff.1 hq
           have hse : s.toList.isEmpty = false := by
            cases hsl : s.toList with
            | nil => rw [hsl] at hbb; simp at hbb
            | cons _ _ => rfl
           have HQ2 := Aside0.mk hq
           have HCV := Aside0.mk hcv
           clear hq hcv hbb
           go_wp2_with (go_at_call 69; refine HC0.out.mono ?_; rintro e w2 ⟨rfl, hb2⟩; (have HE2 := Aside0.mk (HE.out.step hb2)); (have HO2 := Aside0.mk (HOr.out.below hb2)); (have HM2 := Aside0.mk (HMg.out.below hb2)); clear hb2 y0 y1 y2 hx x5; (have x5 := (blk_cell HO2.out.cnt 0).trans rfl))
           go_region_with (refine (ih T cv m g _ (HO2.out.below (below_drew (Below.refl _ _))) (HM2.out.below (below_drew (Below.refl _ _))) HKg.out.1 HKg.out.2.1 HCV.out).mono ?_; rintro e w4 ⟨rfl, hend⟩)
           obtain ⟨hg, n', f', hM', hT', hn', hkeep⟩ := hend
           have HE4 := Aside0.mk ((HE2.out.step (below_drew (Below.refl _ _))).turn hg)
           have HM4 := Aside0.mk hM'
           have HK4 := Aside0.mk (show TR tw th l L f' ∧ n' + mu f' ≤ 1024 ∧ ∀ x : Nat, x ≤ S → f' (x : Int) = f (x : Int) from ⟨hT', hn', fun x hx => (hkeep x (Nat.lt_of_le_of_lt hx HTS.out)).trans (HKg.out.2.2 x hx)⟩)
           clear hg hM' hT' hn' hkeep
           go_wp2_with fail
           go_roundg (L.length - (i + 1))
           case measure => have h1 := HA2.out; have h2 := HA.out; omega
           case rel => exact ⟨i + 1, wrap64 (a + cv), n', f', by first | rfl | simp only [i64_w], by first | rfl | rw [wrap1o i (by have := HA2.out; omega)] | simp, ⟨by have := HA2.out; omega, Nat.le_refl _⟩, HQ2, HE4, HM4, HK4⟩
          | false =>
           rw [if_neg Bool.false_ne_true] at hq
           have hse : s.toList.isEmpty = true := by
            cases hsl : s.toList with
            | nil => rfl
            | cons _ _ => rw [hsl] at hbb; simp at hbb
           have HQ2 := Aside0.mk hq
           clear hq hbb
           go_wp2_with (go_at_call 69; refine HC0.out.mono ?_; rintro e w2 ⟨rfl, hb2⟩; (have HE2 := Aside0.mk (HE.out.step hb2)); (have HM2 := Aside0.mk (HMg.out.below hb2)); clear hb2 y0 y1 y2 hx x5)
           go_roundg (L.length - (i + 1))
           case measure => have h1 := HA2.out; have h2 := HA.out; omega
           case rel => exact ⟨i + 1, a, m, g, rfl, by first | rfl | rw [wrap1o i (by have := HA2.out; omega)] | simp, ⟨by have := HA2.out; omega, Nat.le_refl _⟩, HQ2, HE2, HM2, HKg⟩
       ·obtain rfl : i = L.length := by have := HA.out; omega
        have e1 : decide ((L.length : Int) < (L.length : Int)) = false := decide_eq_false (by omega)
        have hq := HQ.out
        rw [Nat.sub_self] at hq
        unfold sumO at hq
        obtain rfl := Option.some.inj hq
        have hfit : fits64 a := sumO_fits L.length 0 0 a (by unfold fits64; omega) HS1.out
        have HFIT := Aside0.mk hfit
        have hS10 : S < 1024 := Nat.lt_of_lt_of_le HS.out (Nat.pow_le_pow_right (by decide) H10.out)
        have hgS : g (S : Int) = none := (HKg.out.2.2 S (Nat.le_refl _)).trans HFX.out
        have hmu := mu_upd g S a hS10 hgS
        have HMU := Aside0.mk (show m + 1 + mu (upd g (S : Int) a) ≤ 1024 from by have := HKg.out.2.1; omega)
        have HMS := Aside0.mk (show m < 1000000 from by have := HKg.out.2.1; omega)
        clear hq hfit hS10 hgS hmu hlt y0 y1 y2 x5 hOr HQ
        go_wp2_with (at_mapUpdate; refine wpList_putW rfl _ rfl _ _ _ 86 rfl Tryd.underlying86 b m g HMg.out HMS.out (S : Int) a rfl rfl rfl HKS.out HFIT.out ?_; intro w5 hm5 hg5; (have HM5 := Aside0.mk hm5); (have HG5 := Aside0.mk (HE.out.grown.trans hg5)); clear hm5 hg5 x1)
        go_ret
        refine ⟨rfl, HG5.out, m + 1, upd g (S : Int) a, HM5.out, fun x cc hx => ?_, HMU.out, fun x hx => ?_⟩
        ·unfold upd at hx
         by_cases e : x = (S : Int)
         ·rw [if_pos e] at hx
          exact ⟨k + 1, S, e, by rw [← Option.some.inj hx]; exact H0.out⟩
         ·rw [if_neg e] at hx
          exact HKg.out.1 x cc hx
        ·unfold upd
         rw [if_neg (by omega)]
         exact HKg.out.2.2 x (Nat.le_of_lt hx)
end
end Go.Proofs.YtmefnfhghfemgaaDoor.Q
end
section
namespace Go.Proofs.YtmefnfhghfemgaaDoor.Q
set_option linter.unusedSectionVars false
set_option linter.unusedSimpArgs false
set_option linter.unusedVariables false
open Go.RowKit Go.Proofs.YtmefnfhghfemgaaDoorW.PrintWords Go.Proofs.YtmefnfhghfemgaaDoorW.PrintLast Go.Proofs.YtmefnfhghfemgaaDoorW.PrintMore
theorem V_lt {α : Type} {d : Kd α} {e base : Nat} {ok : Nat → Prop} {W : World} {v : Value} {xs : List α} (h : Kd.V d e W base ok v xs) : Kd.V d e W 0 (fun k => k < W.heap.size) v xs := Kd.V_map h fun _ hf => Kd.F_mono (Kd.F_bound hf) (fun _ hk => hk.2)
structure OS (w W : World) (b go : Nat) (tw th : Int) (A : Option Addr) (c : Nat) (l : List Int) (AL : Option Addr) (cL : Nat) (L : List Int) : Prop where
 below : Below w.heap.size w W
 own : W.heap[go]? = some (.cells #[.int .i64 tw, .int .i64 th, .slice A l.length c] 46 (0, 0))
 cells : Kd.V (Kd.int .u8) 5 W 0 (fun k => k < b) (.slice A l.length c) l
 list : Kd.V (Kd.int .i64) 3 W 0 (fun k => k < b) (.slice AL L.length cL) L
 map : MP W b 0 (fun _ => none)
 lo : w.heap.size ≤ b
 lt : go < b
section
variable {w W W1 : World} {b go : Nat} {tw th : Int} {A AL : Option Addr} {c cL : Nat} {l L : List Int}
theorem OS.step (h : OS w W b go tw th A c l AL cL L) (hb : Below W.heap.size W W1) : OS w W1 b go tw th A c l AL cL L :=
 ⟨below_then h.below h.below.size hb, blk_below h.own hb, Kd.V_below h.cells hb, Kd.V_below h.list hb, h.map.below hb, h.lo, h.lt⟩
theorem OS.set (h : OS w W b go tw th A c l AL cL L) {g : Nat} (hg : b < g) (i : Nat) (v : Value) : OS w (W.setCell ⟨g, i, none⟩ v) b go tw th A c l AL cL L := by
 have h1 := h.lt
 have h2 := h.lo
 exact ⟨below_set h.below (by omega), blk_far h.own (p := ⟨g, i, none⟩) (by show go ≠ g; omega) _, Kd.V_far h.cells (p := ⟨g, i, none⟩) (fun k hk => by show k ≠ g; omega) v, Kd.V_far h.list (p := ⟨g, i, none⟩) (fun k hk => by show k ≠ g; omega) v, h.map.set (by omega) i v, h.lo, h.lt⟩
end
set_option maxHeartbeats 16000000 in
set_option maxRecDepth 100000 in
theorem impl_orders.calls (k : Nat) (a0 : ByteArray) (gw gh : Int) (gc L : List Int) (w : World) (hG : GoodW w) (hr : impl_read.f a0 = some (gw, gh, gc)) (hi : impl_tray_indices_isBall.f k gw gh gc () = some L) :
  Calls Tryd.prog 32 #[.string a0] w fun e w' => ∃ (go gl gq gn b : Nat) (A : Option Addr) (c : Nat) (AL : Option Addr) (cL : Nat), e = .returned (.tuple #[.func (.func 67) #[] #[.pointer (some ⟨gl, 0, none⟩), .pointer (some ⟨gq, 0, none⟩), .pointer (some ⟨go, 0, none⟩), .pointer (some ⟨gn, 0, none⟩)], .slice AL L.length cL]) ∧ OR w' go gl gq gn b gw gh A c gc AL cL L ∧ MP w' b 0 (fun _ => none) ∧ w.heap.size ≤ b ∧ Below w.heap.size w w' := by
 have HG := Aside0.mk hG
 have HR := Aside0.mk hr
 have HI := Aside0.mk hi
 clear hG hr hi
 have hu := Tryd.underlying46
 have hmf : ∀ (fn : Fn) (first cap : Array Value) (w : World), (Instr.makeFunc fn first cap).run Tryd.prog w = .ok (.func fn first cap) w := fun _ _ _ _ => rfl
 have hsf := fun (a : Addr) (c : Array Value) (w : World) => run_store Tryd.prog w a (.func (.func 67) #[] c) .plain rfl
 go_enter Tryd.func32, Tryd.ntmps32
 go_wp2_with (first
  | (go_at_call 27; refine (impl_read.calls a0 gw gh gc _ HG.out HR.out).mono ?_; rintro e w1 ⟨v1, rfl, ho1, hb1⟩; obtain ⟨A1, c1, rfl⟩ := Kd.V_slice ho1; (have HV1 := Aside0.mk (V_lt ho1)); (have HB1 := Aside0.mk hb1); clear ho1 hb1)
  | ((with_reducible refine gate_dst (N := 4) rfl ?_); refine box_event ?hg (N := 4) ?hd (cs := #[.int .i64 0, .int .i64 0, .slice none 0 0]) (t := 46) ?hr ?_; (case hd => rfl); (case hg => rfl); (case hr => first | (go_simp; done) | (go_simp; rfl)); intro go hg w2 hbox hb; (have HGO := Aside0.mk (show w1.heap.size ≤ go by rw [hg]; exact Nat.le_refl _)); (have HB2 := Aside0.mk (below_then HB1.out HB1.out.size hb)); (have HV2 := Aside0.mk (Kd.V_below HV1.out hb)); (have HU := Aside0.mk hbox); (have y0 := (blk_cell HU.out 0).trans rfl); (have y1 := (blk_cell HU.out 1).trans rfl); (have y2 := (blk_cell HU.out 2).trans rfl); (have f0 := blk_frozen HU.out 0); (have f1 := blk_frozen HU.out 1); (have f2 := blk_frozen HU.out 2); clear hbox hb hg HV1)
  | ((with_reducible refine gate_store (t := 46) (p := 4) rfl ?_); refine store_event (t := 46) (p := 4) (v := ?vo) (w1 := (((w2.setCell ⟨go, 0, none⟩ (.int .i64 gw)).setCell ⟨go, 1, none⟩ (.int .i64 gh)).setCell ⟨go, 2, none⟩ (.slice A1 gc.length c1))) ?hg ?ho ?hn ?hr ?_; (case ho => rfl); (case hg => rfl); (case hn => rfl); (case hr => first | (go_simp; done) | (go_simp; rfl)); intro w3 hw; (have HGW := Aside0.mk (Nat.le_trans HB1.out.size HGO.out)); (have HB3 := Aside0.mk (show Below w.heap.size w w3 by rw [hw]; exact below_set (below_set (below_set HB2.out HGW.out) HGW.out) HGW.out)); (have HX3 := Aside0.mk (show w3.heap[go]? = some (.cells #[.int .i64 gw, .int .i64 gh, .slice A1 gc.length c1] 46 (0, 0)) by rw [hw]; refine blk_put (cs := #[.int .i64 gw, .int .i64 gh, .slice none 0 0]) ?_ 2 _ rfl; refine blk_put (cs := #[.int .i64 gw, .int .i64 0, .slice none 0 0]) ?_ 1 _ rfl; refine blk_put (cs := #[.int .i64 0, .int .i64 0, .slice none 0 0]) ?_ 0 _ rfl; exact HU.out)); (have HV3 := Aside0.mk (show Kd.V (Kd.int .u8) 5 w3 0 (fun k_ => k_ < w1.heap.size) (.slice A1 gc.length c1) gc by rw [hw]; exact Kd.V_far (p := ⟨go, 2, none⟩) (Kd.V_far (p := ⟨go, 1, none⟩) (Kd.V_far (p := ⟨go, 0, none⟩) HV2.out (fun k_ hk => Nat.ne_of_lt (Nat.lt_of_lt_of_le hk HGO.out)) (.int .i64 gw)) (fun k_ hk => Nat.ne_of_lt (Nat.lt_of_lt_of_le hk HGO.out)) (.int .i64 gh)) (fun k_ hk => Nat.ne_of_lt (Nat.lt_of_lt_of_le hk HGO.out)) (.slice A1 gc.length c1))); clear hw HU HV2 HB2 y0 y1 y2 f0 f1 f2; (have y0 := (blk_cell HX3.out 0).trans rfl); (have y1 := (blk_cell HX3.out 1).trans rfl); (have y2 := (blk_cell HX3.out 2).trans rfl))
  | (go_at_call 65; refine (impl_tray_indices_isBall.calls k gw gh A1 c1 gc () L _ (Kd.V_reads' HV3.out).2.2 (Kd.V_reads' HV3.out).2.1 HI.out).mono ?_; rintro e w4 ⟨v4, rfl, ho4, hb4⟩; obtain ⟨A4, c4, rfl⟩ := Kd.R_slice ho4; (have HX4 := Aside0.mk (blk_below HX3.out hb4)); (have HV4 := Aside0.mk (Kd.V_below HV3.out hb4)); (have HS4 := Aside0.mk (Nat.le_trans (blk_lt HX3.out) hb4.size)); (have HB4 := Aside0.mk (below_then HB3.out HB3.out.size hb4)); (have HL4 := Aside0.mk (V_lt (Kd.R_V (base' := 0) ho4))); (have hmm := run_makeMap (P := Tryd.prog) 86 w4); clear ho4 hb4 HX3 HV3 HB3 y0 y1 y2)
  | ((with_reducible refine gate_dst (N := 5) rfl ?_); refine box_event ?hg (N := 5) ?hd (cs := #[.slice none 0 0]) (t := 31) ?hr ?_; (case hd => rfl); (case hg => rfl); (case hr => first | (go_simp; done) | (go_simp; rfl)); intro gl hg w5 hbox hb; (have HE5 := Aside0.mk (show OS w w5 w4.heap.size go gw gh A1 c1 gc A4 c4 L from ⟨below_then (below_alloc HB4.out (.map #[] 0)) (below_alloc HB4.out (.map #[] 0)).size hb, blk_below (blk_alloc HX4.out _) hb, Kd.V_mono (Kd.V_below (Kd.V_below HV4.out (below_alloc (Below.refl _ _) (.map #[] 0))) hb) (fun k_ hk => Nat.lt_of_lt_of_le hk (by have h1 := HS4.out; have h2 := HGO.out; omega)), Kd.V_below (Kd.V_below HL4.out (below_alloc (Below.refl _ _) (.map #[] 0))) hb, (MP.made w4).below hb, HB4.out.size, HS4.out⟩)); (have HGL := Aside0.mk (show w4.heap.size < gl by rw [hg]; exact blk_lt (blk_new w4 (.map #[] 0)))); (have HY5 := Aside0.mk hbox); clear hbox hb hg hmm HX4 HV4 HL4 HB4)
  | ((with_reducible refine gate_dst (N := 6) rfl ?_); refine box_event ?hg (N := 6) ?hd (cs := #[.map none]) (t := 86) ?hr ?_; (case hd => rfl); (case hg => rfl); (case hr => first | (go_simp; done) | (go_simp; rfl)); intro gq hg w6 hbox hb; (have HE6 := Aside0.mk (HE5.out.step hb)); (have HGQ := Aside0.mk (show gl < gq by rw [hg]; exact blk_lt HY5.out)); (have HY6 := Aside0.mk (blk_below HY5.out hb)); (have HZ6 := Aside0.mk hbox); clear hbox hb hg HE5 HY5; (have y0 := (blk_cell HY6.out 0).trans rfl); (have f0 := blk_frozen HY6.out 0); (have HZ7 := Aside0.mk (show (w6.setCell ⟨gl, 0, none⟩ (.slice A4 L.length c4)).heap[gq]? = some (.cells #[.map none] 86 (0, 0)) from blk_far HZ6.out (p := ⟨gl, 0, none⟩) (by show gq ≠ gl; have := HGQ.out; omega) _)); (have y1 := (blk_cell HZ7.out 0).trans rfl); (have f1 := blk_frozen HZ7.out 0))
  | ((with_reducible refine gate_dst (N := 7) rfl ?_); refine box_event ?hg (N := 7) ?hd (cs := #[.nilFunc]) (t := 52) ?hr ?_; (case hd => rfl); (case hg => rfl); (case hr => first | (go_simp; done) | (go_simp; rfl)); intro gn hg w9 hbox hb; (have HE9 := Aside0.mk (((HE6.out.set HGL.out 0 (.slice A4 L.length c4)).set (Nat.lt_trans HGL.out HGQ.out) 0 (.map (some w4.heap.size))).step hb)); (have HY9 := Aside0.mk (blk_below (blk_far (blk_put (cs := #[.slice none 0 0]) HY6.out 0 (.slice A4 L.length c4) rfl) (p := ⟨gq, 0, none⟩) (by show gl ≠ gq; have := HGQ.out; omega) (.map (some w4.heap.size))) hb)); (have HZ9 := Aside0.mk (blk_below (blk_put (cs := #[.map none]) HZ7.out 0 (.map (some w4.heap.size)) rfl) hb)); (have HGN := Aside0.mk (show gq < gn by rw [hg]; exact blk_lt (blk_put (cs := #[.map none]) HZ7.out 0 (.map (some w4.heap.size)) rfl))); (have HN9 := Aside0.mk hbox); clear hbox hb hg y0 f0 y1 f1 HE6 HY6 HZ6 HZ7; (have y0 := (blk_cell HN9.out 0).trans rfl); (have f0 := blk_frozen HN9.out 0)))
 obtain ⟨wf, hwf⟩ : ∃ wf, wf = w9.setCell ⟨gn, 0, none⟩ (.func (.func 67) #[] #[.pointer (some ⟨gl, 0, none⟩), .pointer (some ⟨gq, 0, none⟩), .pointer (some ⟨go, 0, none⟩), .pointer (some ⟨gn, 0, none⟩)]) := ⟨_, rfl⟩
 have hbn : w4.heap.size < gn := Nat.lt_trans HGL.out (Nat.lt_trans HGQ.out HGN.out)
 have HE10 := Aside0.mk (show OS w wf w4.heap.size go gw gh A1 c1 gc A4 c4 L by rw [hwf]; exact HE9.out.set hbn 0 _)
 have HY10 := Aside0.mk (show wf.heap[gl]? = some (.cells #[.slice A4 L.length c4] 31 (0, 0)) by rw [hwf]; exact blk_far HY9.out (p := ⟨gn, 0, none⟩) (by show gl ≠ gn; have := HGQ.out; have := HGN.out; omega) _)
 have HZ10 := Aside0.mk (show wf.heap[gq]? = some (.cells #[.map (some w4.heap.size)] 86 (0, 0)) by rw [hwf]; exact blk_far HZ9.out (p := ⟨gn, 0, none⟩) (by show gq ≠ gn; have := HGN.out; omega) _)
 have HN10 := Aside0.mk (show wf.heap[gn]? = some (.cells #[.func (.func 67) #[] #[.pointer (some ⟨gl, 0, none⟩), .pointer (some ⟨gq, 0, none⟩), .pointer (some ⟨go, 0, none⟩), .pointer (some ⟨gn, 0, none⟩)]] 52 (0, 0)) by rw [hwf]; exact blk_put (cs := #[.nilFunc]) HN9.out 0 _ rfl)
 rw [← hwf]
 clear hwf y0 f0 HE9 HY9 HZ9 HN9
 have x1 := (blk_cell HN10.out 0).trans rfl
 have x2 := (blk_cell HY10.out 0).trans rfl
 go_quiet (fail)
 go_wp2
 go_ret2
 have hor : OR wf go gl gq gn w4.heap.size gw gh A1 c1 gc A4 c4 L := ⟨HE10.out.own, HY10.out, HZ10.out, HN10.out, Kd.V_mono HE10.out.cells (fun k_ hk => Nat.ne_of_lt hk), Kd.V_mono HE10.out.list (fun k_ hk => Nat.ne_of_lt hk)⟩
 exact ⟨go, gl, gq, gn, w4.heap.size, A1, c1, A4, c4, rfl, hor.below (pw_below_drewN (Below.refl _ _) _), HE10.out.map.below (pw_below_drewN (Below.refl _ _) _), HE10.out.lo, pw_below_drewN HE10.out.below _⟩
end Go.Proofs.YtmefnfhghfemgaaDoor.Q
end
section
namespace Go.Proofs.YtmefnfhghfemgaaDoor.Q
open Go.RowKit Go.Proofs.YtmefnfhghfemgaaDoorW.PrintWords Go.Proofs.YtmefnfhghfemgaaDoorW.PrintLast Go.Proofs.YtmefnfhghfemgaaDoorW.PrintMore
attribute [local go_sem] max2_int min2_int max_two min_two max_three min_three max_four min_four
set_option linter.unusedVariables false
set_option linter.unusedSimpArgs false
def slices_Index_int_int.l0 : Nat → List Int → Int → Int → Int → Option (Int)
 | 0, _, _, _, _ => none
 | k + 1, x0, x1, x7, x8 => if x8 < x7 then (if 0 ≤ x8 then (if x8 < (x0.length : Int) then (if x1 = (rd x0 x8) then (some x8) else (slices_Index_int_int.l0 k x0 x1 x7 (wrap64 (x8 + 1)))) else (none)) else (none)) else (some (-1))
def slices_Index_int_int.f (k : Nat) (l0 : List Int) (a1 : Int) : Option (Int) := slices_Index_int_int.l0 k l0 a1 (l0.length : Int) 0
set_option maxHeartbeats 8000000 in
set_option maxRecDepth 100000 in
theorem slices_Index_int_int.calls (k : Nat) (A0 : Option Addr) (c0 : Nat) (l0 : List Int) (a1 : Int) (r : Int) (w : World) (hr0 : Kd.C (Kd.int .i64) w A0 l0.length l0) (hc0 : l0.length ≤ c0) (h : slices_Index_int_int.f k l0 a1 = some r) :
  Calls Tryd.prog 36 #[.slice A0 l0.length c0, .int .i64 a1] w fun e w' => e = .returned (.int .i64 r) ∧ Drawn0 w w' := by
 have HR0 := Aside0.mk hr0
 have HC0 := Aside0.mk hc0
 clear hr0 hc0
 have H : (slices_Index_int_int.l0 k l0 a1 (l0.length : Int) 0) = some r := h
 clear h
 have H' := Aside0.mk H
 clear H
 go_enter Tryd.func36, Tryd.ntmps36
 go_wp2
 go_loopg [8] k (fun kq v8 w' => ∃ (x8_1 : Int), v8 = .int .i64 x8_1 ∧ Aside0 (slices_Index_int_int.l0 kq l0 a1 (l0.length : Int) x8_1 = some r) ∧ Aside0 (kq ≤ k) ∧ Drawn0 w w')
 case atStart => exact ⟨(0), (by first | rfl | (simp; done) | (simp [*]; done)), H', ⟨Nat.le_refl _⟩, by repeat (first | exact Drawn0.refl _ | apply Drawn0.step)⟩
 case round =>
  clear H'
  try clear p2
  obtain ⟨x8_1, rfl, HA, HK1, ⟨m1, rfl⟩⟩ := hrel
  cases gk with
  | zero => exact absurd HA.out (by simp [slices_Index_int_int.l0])
  | succ k1 =>
   have H := HA.out
   clear HA
   simp only [slices_Index_int_int.l0] at H
   by_cases c3 : x8_1 < (l0.length : Int)
   ·rw [if_pos c3] at H
    have c3b0 : decide (x8_1 < (l0.length : Int)) = true := decide_eq_true c3
    clear c3
    by_cases c4 : 0 ≤ x8_1
    ·rw [if_pos c4] at H
     have c4b0 : decide (0 ≤ x8_1) = true := decide_eq_true c4
     clear c4
     by_cases c5 : x8_1 < (l0.length : Int)
     ·rw [if_pos c5] at H
      have c5b0 : decide (x8_1 < (l0.length : Int)) = true := decide_eq_true c5
      clear c5
      by_cases c6 : a1 = (rd l0 x8_1)
      ·rw [if_pos c6] at H
       have c6b0 : (a1 == (rd l0 x8_1)) = true := beq_iff_eq.mpr c6
       have c6b1 : (a1 != (rd l0 x8_1)) = false := bne_eq_false_iff_eq.mpr c6
       clear c6
       obtain rfl := Option.some.inj H
       have p101 : 0 ≤ (x8_1 : Int) := of_decide_eq_true (by first | (with_reducible assumption) | assumption)
       have q101 : x8_1 < (l0.length : Int) := of_decide_eq_true (by first | (with_reducible assumption) | assumption)
       obtain ⟨ad101, e101, hx101_0⟩ := Kd.at_int HR0.out x8_1 p101 q101
       cases e101
       replace p101 := eq_true p101
       replace q101 := eq_true q101
       go_wp2
       go_ret
       exact ⟨by first | rfl | (simp; done) | (simp [*]; done), by repeat (first | exact Drawn0.refl _ | apply Drawn0.step)⟩
      ·rw [if_neg c6] at H
       have c6b0 : (a1 == (rd l0 x8_1)) = false := beq_eq_false_iff_ne.mpr c6
       have c6b1 : (a1 != (rd l0 x8_1)) = true := bne_iff_ne.mpr c6
       have H' := Aside0.mk H
       clear H
       have p101 : 0 ≤ (x8_1 : Int) := of_decide_eq_true (by first | (with_reducible assumption) | assumption)
       have q101 : x8_1 < (l0.length : Int) := of_decide_eq_true (by first | (with_reducible assumption) | assumption)
       obtain ⟨ad101, e101, hx101_0⟩ := Kd.at_int HR0.out x8_1 p101 q101
       cases e101
       replace p101 := eq_true p101
       replace q101 := eq_true q101
       go_wp2
       go_roundg k1
       case measure => have := HK1.out; omega
       case rel => exact ⟨(wrap64 (x8_1 + 1)), (by first | rfl | (simp; done) | (simp [*]; done)), H', ⟨by have := HK1.out; omega⟩, by repeat (first | exact Drawn0.refl _ | apply Drawn0.step)⟩
     ·rw [if_neg c5] at H
      exact absurd H (by simp)
    ·rw [if_neg c4] at H
     exact absurd H (by simp)
   ·rw [if_neg c3] at H
    have c3b0 : decide (x8_1 < (l0.length : Int)) = false := decide_eq_false c3
    clear c3
    obtain rfl := Option.some.inj H
    go_wp2
    go_ret
    exact ⟨by first | rfl | (simp; done) | (simp [*]; done), by repeat (first | exact Drawn0.refl _ | apply Drawn0.step)⟩
end Go.Proofs.YtmefnfhghfemgaaDoor.Q
end
section
namespace Go.Proofs.YtmefnfhghfemgaaDoor.Q
set_option linter.unusedSectionVars false
set_option linter.unusedSimpArgs false
set_option linter.unusedVariables false
open Go.RowKit Go.Proofs.YtmefnfhghfemgaaDoorW.PrintWords Go.Proofs.YtmefnfhghfemgaaDoorW.PrintLast Go.Proofs.YtmefnfhghfemgaaDoorW.PrintMore
theorem TR_none (tw th : Int) (l L : List Int) : TR tw th l L fun _ => none := fun x c h => by cases h
theorem below_grown {w W W1 : World} {b : Nat} (h : Below w.heap.size w W) (hg : W.grownBy W1 (some b)) (hb : w.heap.size ≤ b) : Below w.heap.size w W1 := h.grown hg h.size (fun k e => by cases e; exact hb)
def impl_CountFromCell.f (k : Nat) (a0 : ByteArray) (a1 : Int) : Option (Int × Bool) :=
 (impl_isFormCell.f k a0 a1).bind fun b => if b = true then (impl_read.f a0).bind fun g => if 0 ≤ a1 ∧ a1 < (g.2.2.length : Int) then (if rd g.2.2 a1 = 111 then (impl_tray_indices_isBall.f k g.1 g.2.1 g.2.2 ()).bind fun L => (slices_Index_int_int.f k L a1).bind fun j => if 0 ≤ j ∧ j ≤ 10 then (ordF k g.1 g.2.1 g.2.2 L (2 ^ j.toNat)).bind fun r => some (r, true) else none else some (0, false)) else none else some (0, false)
set_option maxHeartbeats 16000000 in
set_option maxRecDepth 100000 in
theorem impl_CountFromCell.calls (k : Nat) (a0 : ByteArray) (a1 : Int) (r1 : Int) (r2 : Bool) (w : World) (hG : GoodW w) (h : impl_CountFromCell.f k a0 a1 = some (r1, r2)) :
  Calls Tryd.prog 16 #[.string a0, .int .i64 a1] w fun e w' => e = .returned (.tuple #[.int .i64 r1, .bool r2]) ∧ Below w.heap.size w w' := by
 unfold impl_CountFromCell.f at h
 obtain ⟨b, hb, h⟩ := Option.bind_eq_some_iff.1 h
 have HG := Aside0.mk hG
 have HT := Aside0.mk hb
 clear hG hb
 cases b with
 | false =>
  rw [if_neg Bool.false_ne_true] at h
  simp only [Option.some.injEq, Prod.mk.injEq] at h
  obtain ⟨rfl, rfl⟩ := h
  go_enter Tryd.func16, Tryd.ntmps16
  go_wp2_with (go_at_call 35; refine (impl_isFormCell.calls k a0 a1 false _ HG.out HT.out).mono ?_; rintro e w1 ⟨rfl, hb1⟩; (have HB1 := Aside0.mk hb1); clear hb1)
  go_ret2
  exact ⟨rfl, HB1.out⟩
 | true =>
  rw [if_pos rfl] at h
  obtain ⟨⟨gw, gh, gc⟩, hr, h⟩ := Option.bind_eq_some_iff.1 h
  split at h
  case isFalse => cases h
  rename_i hin
  have hin : 0 ≤ a1 ∧ a1 < (gc.length : Int) := hin
  have p1 : (0 ≤ a1) = True := eq_true hin.1
  have p2 : (a1 < (gc.length : Int)) = True := eq_true hin.2
  have HIN := Aside0.mk hin
  have hu := Tryd.underlying46
  have hfd : ∀ (a0 : Int) (a1 : Int) (A2 : Option Addr) (n2 c2 : Nat) (W : World), (Instr.field 46 (.agg #[.int .i64 a0, .int .i64 a1, .slice A2 n2 c2]) 2).run Tryd.prog W = .ok (.slice A2 n2 c2) W := fun _ _ _ _ _ _ => by kernel_rfl
  have HR := Aside0.mk hr
  clear hr hin
  split at h
  ·rename_i h111
   obtain ⟨L, hL, h⟩ := Option.bind_eq_some_iff.1 h
   obtain ⟨j, hj, h⟩ := Option.bind_eq_some_iff.1 h
   split at h
   case isFalse => cases h
   rename_i hj10
   obtain ⟨t, rfl⟩ : ∃ t : Nat, j = t := ⟨j.toNat, by omega⟩
   obtain ⟨r, ho, h⟩ := Option.bind_eq_some_iff.1 h
   simp only [Option.some.injEq, Prod.mk.injEq] at h
   obtain ⟨rfl, rfl⟩ := h
   rw [Int.toNat_natCast] at ho
   obtain ⟨T, hT⟩ : ∃ T : Nat, T = 2 ^ t := ⟨_, rfl⟩
   have hp := pow_wrap t (by omega)
   rw [← hT] at hp ho
   have HL := Aside0.mk hL
   have HO := Aside0.mk ho
   have HJ := Aside0.mk hj
   have H111 := Aside0.mk (show rd gc a1 = 111 from h111)
   clear hL ho hj h111 hj10 hT
   have eg : ∀ args w, (callFunc 67 args).run Tryd.prog w = .ok (.enter 67 args) w := enters_of Tryd.func67 (by kernel_rfl) rfl
   go_enter Tryd.func16, Tryd.ntmps16
   go_wp2_with (first
    | (go_at_call 35; refine (impl_isFormCell.calls k a0 a1 true _ HG.out HT.out).mono ?_; rintro e w1 ⟨rfl, hb1⟩; (have HB1 := Aside0.mk hb1); clear hb1)
    | (go_at_call 27; refine (impl_read.calls a0 gw gh gc _ (GoodW.below HG.out HB1.out) HR.out).mono ?_; rintro e w2 ⟨v2, rfl, ho2, hb2⟩; obtain ⟨A2, c2, rfl⟩ := Kd.V_slice ho2; (have HB2 := Aside0.mk (below_then HB1.out HB1.out.size hb2)); (obtain ⟨ad, e1, hcell⟩ := Kd.at_int (Kd.V_reads' ho2).2.2 a1 HIN.out.1 HIN.out.2); (cases e1); (rw [H111.out] at hcell); clear ho2 hb2)
    | (go_at_call 32; refine (impl_orders.calls k a0 gw gh gc L _ (GoodW.below HG.out HB2.out) HR.out HL.out).mono ?_; rintro e w3 ⟨go, gl, gq, gn, b, A, c, AL, cL, rfl, hor, hmp, hlo, hb3⟩; (have HOR := Aside0.mk hor); (have HMP := Aside0.mk hmp); (have HLO := Aside0.mk (Nat.le_trans HB2.out.size hlo)); (have HB3 := Aside0.mk (below_then HB2.out HB2.out.size hb3)); clear hor hmp hlo hb3 hcell)
    | (go_at_call 36; refine (slices_Index_int_int.calls k AL cL L a1 t _ (Kd.V_reads' HOR.out.list).2.2 (Kd.V_reads' HOR.out.list).2.1 HJ.out).mono ?_; rintro e w4 ⟨rfl, ⟨nd, rfl⟩⟩))
   have hcall : Calls Tryd.prog 67 #[.int .i64 (T : Int), .pointer (some ⟨gl, 0, none⟩), .pointer (some ⟨gq, 0, none⟩), .pointer (some ⟨go, 0, none⟩), .pointer (some ⟨gn, 0, none⟩)] (w3.drewN nd) fun e W' => e = .returned (.int .i64 r) ∧ EndO gw gh gc L b T (fun _ => none) (w3.drewN nd) W' := impl_orders1.calls k T r 0 (fun _ => none) _ (HOR.out.below (pw_below_drewN (Below.refl _ _) _)) (HMP.out.below (pw_below_drewN (Below.refl _ _) _)) (TR_none _ _ _ _) (by have := mu_none; omega) HO.out
   refine hcall.mono ?_
   rintro e w5 ⟨rfl, hg, _⟩
   have HB5 := Aside0.mk (below_grown (pw_below_drewN HB3.out nd) hg HLO.out)
   clear hg hcall
   go_wp2_with fail
   go_ret2
   exact ⟨rfl, HB5.out⟩
  ·rename_i h111
   simp only [Option.some.injEq, Prod.mk.injEq] at h
   obtain ⟨rfl, rfl⟩ := h
   have hne : (rd gc a1 != 111) = true := bne_iff_ne.2 h111
   clear h111
   go_enter Tryd.func16, Tryd.ntmps16
   go_wp2_with (first
    | (go_at_call 35; refine (impl_isFormCell.calls k a0 a1 true _ HG.out HT.out).mono ?_; rintro e w1 ⟨rfl, hb1⟩; (have HB1 := Aside0.mk hb1); clear hb1)
    | (go_at_call 27; refine (impl_read.calls a0 gw gh gc _ (GoodW.below HG.out HB1.out) HR.out).mono ?_; rintro e w2 ⟨v2, rfl, ho2, hb2⟩; obtain ⟨A2, c2, rfl⟩ := Kd.V_slice ho2; (have HB2 := Aside0.mk (below_then HB1.out HB1.out.size hb2)); (obtain ⟨ad, e1, hcell⟩ := Kd.at_int (Kd.V_reads' ho2).2.2 a1 HIN.out.1 HIN.out.2); (cases e1); clear ho2 hb2))
   go_ret2
   exact ⟨rfl, HB2.out⟩
end Go.Proofs.YtmefnfhghfemgaaDoor.Q
end
section
namespace Go.Proofs.YtmefnfhghfemgaaDoor.Q
set_option linter.unusedSectionVars false
set_option linter.unusedSimpArgs false
open Go.RowKit Go.Proofs.YtmefnfhghfemgaaDoorW.PrintWords Go.Proofs.YtmefnfhghfemgaaDoorW.PrintLast Go.Proofs.YtmefnfhghfemgaaDoorW.PrintMore
open Classical
theorem pow_one {n : Nat} (h : 1 ≤ n) : 2 ^ n - 1 ≠ 0 := by
 have := Nat.pow_le_pow_right (show 0 < 2 by decide) h
 omega
end Go.Proofs.YtmefnfhghfemgaaDoor.Q
end
section
namespace Go.Proofs.YtmefnfhghfemgaaDoor.Q
set_option linter.unusedSectionVars false
open Go.RowKit Go.Proofs.YtmefnfhghfemgaaDoorW.PrintWords Go.Proofs.YtmefnfhghfemgaaDoorW.PrintLast Go.Proofs.YtmefnfhghfemgaaDoorW.PrintMore
open Classical in
theorem buCell_ev (s : ByteArray) (a : Int) : ∃ g : Int × Int × List Int, Ev (fun k => spec_buCell.f k s a) (g.1, g.2.1, g.2.2, (match formOf s with | none => false | some (_, _, cs) => decide (inCells cs a))) ∧ (∀ t, formOf s = some t → g = t) := by
 have h0 := buRead_ev s
 rcases ht : trayOf s with _ | ⟨w, h, cs⟩
 ·have hf : formOf s = none := by unfold formOf; rw [ht]; rfl
  rw [ht] at h0
  refine ⟨(0, 0, []), Ev.bind (f := fun _ (bt102 : Int × Int × List Int × Bool) => (if bt102.2.2.2 = true then ((spec_l1In.f a 0 (wrap64 ((bt102.2.2.1.length : Int) - 1))).bind fun t109 => (some (bt102.1, bt102.2.1, bt102.2.2.1, t109))) else (some (bt102.1, bt102.2.1, bt102.2.2.1, false)))) h0 ?_, fun t e => by rw [hf] at e; cases e⟩
  rw [hf]
  exact Ev.const rfl
 ·rw [ht] at h0
  have hl : cs.length ≤ 36 := form_len ht
  have hwl : wrap64 ((cs.length : Int) - 1) = (cs.length : Int) - 1 := w64 (by omega) (by omega)
  have hf : formOf s = if formOK w.toNat h.toNat cs then some (w, h, cs) else none := by
   unfold formOf
   rw [ht]
   rfl
  refine ⟨(w, h, cs), Ev.bind (f := fun _ (bt102 : Int × Int × List Int × Bool) => (if bt102.2.2.2 = true then ((spec_l1In.f a 0 (wrap64 ((bt102.2.2.1.length : Int) - 1))).bind fun t109 => (some (bt102.1, bt102.2.1, bt102.2.2.1, t109))) else (some (bt102.1, bt102.2.1, bt102.2.2.1, false)))) h0 ?_, fun t e => by
   rw [hf] at e
   split at e
   ·exact (Option.some.inj e)
   ·cases e⟩
  by_cases hk : formOK w.toNat h.toNat cs
  ·rw [hf, if_pos hk]
   refine Ev.congr (Ev.const (o := some (w, h, cs, decide (inCells cs a))) rfl) fun k => ?_
   show (if decide (formOK w.toNat h.toNat cs) = true then (spec_l1In.f a 0 (wrap64 ((cs.length : Int) - 1))).bind _ else _) = _
   rw [if_pos (decide_eq_true hk), hwl, l1In_eq, Option.bind_some, inCells_eq]
  ·rw [hf, if_neg hk]
   refine Ev.congr (Ev.const (o := some (w, h, cs, false)) rfl) fun k => ?_
   show (if decide (formOK w.toNat h.toNat cs) = true then _ else _) = _
   rw [if_neg (by simpa using hk)]
end Go.Proofs.YtmefnfhghfemgaaDoor.Q
end
