/- Texts of this claim, joined. -/
import Derived.Test.YtkjlfgceodindaaDoorJWordToOne01
import Derived.Test.YtkjlfgceodindaaDoorJWordToOne03
import Derived.Test.YtkjlfgceodindaaDoorJWordToOne02
set_option linter.unusedVariables false
set_option linter.unusedSimpArgs false
set_option linter.unusedSectionVars false
section
namespace Go.Proofs.YtkjlfgceodindaaDoor.Q
open Go.RowKit Go.Proofs.YtkjlfgceodindaaDoorW.PrintWords Go.Proofs.YtkjlfgceodindaaDoorW.PrintLast Go.Proofs.YtkjlfgceodindaaDoorW.PrintMore
attribute [local go_sem] max2_int min2_int max_two min_two max_three min_three max_four min_four
set_option linter.unusedVariables false
set_option linter.unusedSimpArgs false
mutual
def spec_skMove.l0 : Nat → List Int → Int → Int → List Bool → List Int → Int → Int → Int → Int → List Int → Int → Int → List Int → Option (Int × Int × List Int × List Int × List Bool)
 | 0, _, _, _, _, _, _, _, _, _, _, _, _, _ => none
 | k + 1, x1, x2, x3, x11, x13, x30, x31, x102000, x102001, x102002, x112000, x112001, x112002 => if x31 < x30 then (if 0 ≤ x31 then (if x31 < (x13.length : Int) then (spec_skMove.l0 k x1 x2 x3 x11 (x13.set (x31 : Int).toNat (-1)) x30 (wrap64 (x31 + 1)) x102000 x102001 x102002 x112000 x112001 x112002) else (none)) else (none)) else (if 0 ≤ x2 then (if (x2 : Int).toNat ≤ 281474976710656 then (spec_skMove.l1 k x3 x11 x13 (List.replicate (x2 : Int).toNat false) x1 (x1.length : Int) 0 x102000 x102001 x102002 x112000 x112001 x112002) else (none)) else (none))
def spec_skMove.l1 : Nat → Int → List Bool → List Int → List Bool → List Int → Int → Int → Int → Int → List Int → Int → Int → List Int → Option (Int × Int × List Int × List Int × List Bool)
 | 0, _, _, _, _, _, _, _, _, _, _, _, _, _ => none
 | k + 1, x3, x11, x13, x15, x40, x41, x42, x102000, x102001, x102002, x112000, x112001, x112002 => if x42 < x41 then (if 0 ≤ x42 then (if x42 < (x40.length : Int) then (if (rd x40 x42) < 0 then (spec_skMove.l1 k x3 x11 x13 x15 x40 x41 (wrap64 (x42 + 1)) x102000 x102001 x102002 x112000 x112001 x112002) else (if 0 ≤ (rd x40 x42) then (if (rd x40 x42) < (x11.length : Int) then (if (rdOf false x11 (rd x40 x42) = true) then (if x42 < (x102002.length : Int) then (if x42 < (x112002.length : Int) then (if x42 < (x13.length : Int) then (spec_skMove.l1 k x3 x11 (x13.set (x42 : Int).toNat (rd x40 x42)) x15 x40 x41 (wrap64 (x42 + 1)) x102000 x102001 x102002 x112000 x112001 (x112002.set (x42 : Int).toNat (rd x102002 x42))) else (none)) else (none)) else (none)) else ((spec_tiAhead.f x102000 x102001 x102002 x42 x3).bind fun t124 => (if (rd x40 x42) < (x15.length : Int) then (if x42 < (x102002.length : Int) then (if 0 ≤ t124 then (if t124 < (x112002.length : Int) then (if t124 < (x13.length : Int) then (spec_skMove.l1 k x3 x11 (x13.set (t124 : Int).toNat (rd x40 x42)) (x15.set ((rd x40 x42) : Int).toNat true) x40 x41 (wrap64 (x42 + 1)) x102000 x102001 x102002 x112000 x112001 (x112002.set (t124 : Int).toNat (rd x102002 x42))) else (none)) else (none)) else (none)) else (none)) else (none)))) else (none)) else (none))) else (none)) else (none)) else (some (x112000, x112001, x112002, x13, x15))
end
def spec_skMove.f (k : Nat) (a0_0 : Int) (a0_1 : Int) (l0_2 : List Int) (l1 : List Int) (a2 : Int) (a3 : Int) : Option (Int × Int × List Int × List Int × List Bool) := (spec_skBlocked.f k a0_0 a0_1 l0_2 l1 a2 a3).bind fun t103 => ((spec_tyWalls.f a0_0 a0_1 l0_2).bind fun bt106 => (if 0 ≤ (l1.length : Int) then (if ((l1.length : Int) : Int).toNat ≤ 35184372088832 then ((some (List.replicate ((l1.length : Int) : Int).toNat 0 : List Int)).bind fun y112 => (spec_skMove.l0 k l1 a2 a3 t103 y112 (y112.length : Int) 0 a0_0 a0_1 l0_2 bt106.1 bt106.2.1 bt106.2.2)) else (none)) else (none)))
def spec_skMove.T18 : Bool × List (List Nat × List Nat) := (true, [([], []), ([0], [0]), ([], []), ([], []), ([3], [3]), ([], []), ([4, 5], [4, 5]), ([6], [6]), ([1, 2, 0, 1, 2, 3, 4, 5, 6, 7], [1, 2]), ([8, 7, 0, 1, 2, 3, 4, 5, 6, 7], [7, 8])])
def spec_skMove.B18 : List Nat := [0, 1, 0, 0, 8, 0, 56, 120, 255, 511]
theorem spec_skMove.tab18 : rtab .any (opsOf Tryd.f38 18) = spec_skMove.T18 := by kernel_rfl
theorem spec_skMove.bits18 : waitsOk spec_skMove.T18.2 spec_skMove.B18 = true := by kernel_rfl
set_option maxHeartbeats 8000000 in
set_option maxRecDepth 100000 in
theorem spec_skMove.calls (k : Nat) (a0_0 : Int) (a0_1 : Int) (A0_2 : Option Addr) (c0_2 : Nat) (l0_2 : List Int) (A1 : Option Addr) (c1 : Nat) (l1 : List Int) (a2 : Int) (a3 : Int) (r1 : Int) (r2 : Int) (r3 : List Int) (r4 : List Int) (r5 : List Bool) (w : World) (hr0_2 : Kd.C (Kd.int .u8) w A0_2 l0_2.length l0_2) (hc0_2 : l0_2.length ≤ c0_2) (hr1 : Kd.C (Kd.int .i64) w A1 l1.length l1) (hc1 : l1.length ≤ c1) (h : spec_skMove.f k a0_0 a0_1 l0_2 l1 a2 a3 = some (r1, r2, r3, r4, r5)) :
  Calls Tryd.prog 38 #[.agg #[.int .i64 a0_0, .int .i64 a0_1, .slice A0_2 l0_2.length c0_2], .slice A1 l1.length c1, .int .i64 a2, .int .i64 a3] w fun e w' => ∃ v2_ v3_ v4_ : Value, e = .returned (.tuple #[.agg #[.int .i64 r1, .int .i64 r2, v2_], v3_, v4_]) ∧ Kd.R (Kd.int .u8) 5 w' w.heap.size (fun _ => True) v2_ r3 ∧ Kd.R (Kd.int .i64) 3 w' w.heap.size (fun _ => True) v3_ r4 ∧ Kd.R Kd.bool 4 w' w.heap.size (fun _ => True) v4_ r5 ∧ Below w.heap.size w w' := by
 have hu30 := Tryd.underlying30;have HR0_2 := Aside0.mk hr0_2;have HC0_2 := Aside0.mk hc0_2;clear hr0_2 hc0_2;have HR1 := Aside0.mk hr1;have HC1 := Aside0.mk hc1;clear hr1 hc1;have HB := Aside0.mk (Below.refl w.heap.size w);have H : ((spec_skBlocked.f k a0_0 a0_1 l0_2 l1 a2 a3).bind fun t103 => ((spec_tyWalls.f a0_0 a0_1 l0_2).bind fun bt106 => (if 0 ≤ (l1.length : Int) then (if ((l1.length : Int) : Int).toNat ≤ 35184372088832 then ((some (List.replicate ((l1.length : Int) : Int).toNat 0 : List Int)).bind fun y112 => (spec_skMove.l0 k l1 a2 a3 t103 y112 (y112.length : Int) 0 a0_0 a0_1 l0_2 bt106.1 bt106.2.1 bt106.2.2)) else (none)) else (none)))) = some (r1, r2, r3, r4, r5) := h;clear h;replace H := Option.bind_eq_some_iff.mp H;obtain ⟨t103, A50, H⟩ := H;replace H : ((spec_tyWalls.f a0_0 a0_1 l0_2).bind fun bt106 => (if 0 ≤ (l1.length : Int) then (if ((l1.length : Int) : Int).toNat ≤ 35184372088832 then ((some (List.replicate ((l1.length : Int) : Int).toNat 0 : List Int)).bind fun y112 => (spec_skMove.l0 k l1 a2 a3 t103 y112 (y112.length : Int) 0 a0_0 a0_1 l0_2 bt106.1 bt106.2.1 bt106.2.2)) else (none)) else (none))) = some (r1, r2, r3, r4, r5) := H;have A5 := Aside0.mk A50;clear A50;replace H := Option.bind_eq_some_iff.mp H;obtain ⟨⟨t106, t107, t108⟩, A60, H⟩ := H;replace H : (if 0 ≤ (l1.length : Int) then (if ((l1.length : Int) : Int).toNat ≤ 35184372088832 then ((some (List.replicate ((l1.length : Int) : Int).toNat 0 : List Int)).bind fun y112 => (spec_skMove.l0 k l1 a2 a3 t103 y112 (y112.length : Int) 0 a0_0 a0_1 l0_2 t106 t107 t108)) else (none)) else (none)) = some (r1, r2, r3, r4, r5) := H;have A6 := Aside0.mk A60;clear A60
 by_cases c7 : 0 ≤ (l1.length : Int)
 ·rw [if_pos c7] at H
  have c7b0 := eq_true c7;have c7b1 : decide (0 ≤ (l1.length : Int)) = true := decide_eq_true c7;clear c7
  by_cases c8 : ((l1.length : Int) : Int).toNat ≤ 35184372088832
  ·rw [if_pos c8] at H
   have c8b0 := eq_true c8;have c8b1 : decide (((l1.length : Int) : Int).toNat ≤ 35184372088832) = true := decide_eq_true c8;clear c8;obtain ⟨y112, hy112⟩ : ∃ y_ : List Int, y_ = (List.replicate ((l1.length : Int) : Int).toNat 0) := ⟨_, rfl⟩;replace H : (spec_skMove.l0 k l1 a2 a3 t103 y112 (y112.length : Int) 0 a0_0 a0_1 l0_2 t106 t107 t108) = some (r1, r2, r3, r4, r5) := rH hy112 H;have Ny112 := Aside0.mk hy112;clear hy112;have H' := Aside0.mk H;clear H
   go_enter Tryd.func38, Tryd.ntmps38
   go_wp2_with (first | ((with_reducible refine gate_dst (N := 4) rfl ?_); refine boxE (N := 4) (cs := #[.int .i64 a0_0, .int .i64 a0_1, .slice A0_2 l0_2.length c0_2]) (t := 30) ?_; intro gb101 hg w9 hbox hb; have n0_ := Aside0.mk (below_step (bel HB) hb); have n1_ := Aside0.mk (hbox); have n2_ := Aside0.mk (gsz hg (bel HB)); have n3_ := Aside0.mk (gsz hg (bel HB)); clear HB; have HB := n0_; have BK101 := n1_; have GW101 := n2_; have GE101 := n3_; clear n0_ n1_ n2_ n3_; clear hb hbox hg) | ((with_reducible refine gate_dst (N := 8) rfl ?_); refine boxE (N := 8) (cs := #[.int .i64 0, .int .i64 0, .slice none 0 0]) (t := 30) ?_; intro gb102 hg w10 hbox hb; have n0_ := Aside0.mk (blk_below (g := gb101) (o := .cells #[.int .i64 a0_0, .int .i64 a0_1, .slice A0_2 l0_2.length c0_2] 30 (0, 0)) blc hb); have n1_ := Aside0.mk (below_step (bel HB) hb); have n2_ := Aside0.mk (hbox); have n3_ := Aside0.mk (gsz hg (bel HB)); have n4_ := Aside0.mk (gsz hg (bel HB)); have n5_ := Aside0.mk ((by rw [hg]; exact Nat.ne_of_lt (blk_lt (g := gb101) (o := .cells #[.int .i64 a0_0, .int .i64 a0_1, .slice A0_2 l0_2.length c0_2] 30 (0, 0)) blc) : gb101 ≠ gb102)); have n6_ := Aside0.mk ((by rw [hg]; exact Nat.ne_of_gt (blk_lt (g := gb101) (o := .cells #[.int .i64 a0_0, .int .i64 a0_1, .slice A0_2 l0_2.length c0_2] 30 (0, 0)) blc) : gb102 ≠ gb101)); clear BK101; clear HB; have BK101 := n0_; have HB := n1_; have BK102 := n2_; have GW102 := n3_; have GE102 := n4_; have NB101_102 := n5_; have NB102_101 := n6_; clear n0_ n1_ n2_ n3_ n4_ n5_ n6_; clear hb hbox hg; have hnb11 := NB101_102.out; have hnc11 := NB102_101.out; have hcz12_0 : w10.cell? ⟨gb101, 0, none⟩ = some (.int .i64 a0_0) := (blk_cell BK101.out 0).trans rfl; have hcz12_1 : w10.cell? ⟨gb101, 1, none⟩ = some (.int .i64 a0_1) := (blk_cell BK101.out 1).trans rfl; have hcz12_2 : w10.cell? ⟨gb101, 2, none⟩ = some (.slice A0_2 l0_2.length c0_2) := (blk_cell BK101.out 2).trans rfl; have hfz12_0 := blk_frozen BK101.out 0; have hfz12_1 := blk_frozen BK101.out 1; have hfz12_2 := blk_frozen BK101.out 2) | ((with_reducible refine gate_callee (f := 59) rfl ?_); refine gcall (some 23) Tryd.func59 #[.agg #[.int .i64 a0_0, .int .i64 a0_1, .slice A0_2 l0_2.length c0_2], .slice A1 l1.length c1, .int .i64 a2, .int .i64 a3] rfl ?_; (with_reducible refine (spec_skBlocked.calls k a0_0 a0_1 _ _ l0_2 _ _ l1 a2 a3 t103 _ ?side1 ?side2 ?side3 ?side4 A5.out).mono ?_); (case side1 => repeat (first | exact (Kd.C_below HR0_2.out HB.out) | (with_reducible refine Kd.C_alloc ?_ _) | (with_reducible refine Kd.C_drewN ?_ _) | (with_reducible refine Kd.C_drew ?_))); (case side2 => exact HC0_2.out); (case side3 => repeat (first | exact (Kd.C_below HR1.out HB.out) | (with_reducible refine Kd.C_alloc ?_ _) | (with_reducible refine Kd.C_drewN ?_ _) | (with_reducible refine Kd.C_drew ?_))); (case side4 => exact HC1.out); rintro e w13 ⟨v104, rfl, ho0, hb⟩; refine ⟨_, rfl, ?_⟩; have n0_ := Aside0.mk (Kd.R_lower ho0 (below_size (bel HB))); have n1_ := Aside0.mk (blk_below (g := gb101) (o := .cells #[.int .i64 a0_0, .int .i64 a0_1, .slice A0_2 l0_2.length c0_2] 30 (0, 0)) blc hb); have n2_ := Aside0.mk (blk_below (g := gb102) (o := .cells #[.int .i64 0, .int .i64 0, .slice none 0 0] 30 (0, 0)) blc hb); have n3_ := Aside0.mk (below_step (bel HB) hb); clear BK101; clear BK102; clear HB; have HO105 := n0_; have BK101 := n1_; have BK102 := n2_; have HB := n3_; clear n0_ n1_ n2_ n3_; (try clear hb); (try clear hb2); (try clear hk); (try clear hi); (try clear ho0); have hcz14_0 : w13.cell? ⟨gb101, 0, none⟩ = some (.int .i64 a0_0) := (blk_cell BK101.out 0).trans rfl; have hcz14_1 : w13.cell? ⟨gb101, 1, none⟩ = some (.int .i64 a0_1) := (blk_cell BK101.out 1).trans rfl; have hcz14_2 : w13.cell? ⟨gb101, 2, none⟩ = some (.slice A0_2 l0_2.length c0_2) := (blk_cell BK101.out 2).trans rfl; have hfz14_0 := blk_frozen BK101.out 0; have hfz14_1 := blk_frozen BK101.out 1; have hfz14_2 := blk_frozen BK101.out 2) | ((with_reducible refine gate_callee (f := 60) rfl ?_); refine gcall (some 25) Tryd.func60 #[.agg #[.int .i64 a0_0, .int .i64 a0_1, .slice A0_2 l0_2.length c0_2]] rfl ?_; (with_reducible refine (spec_tyWalls.calls a0_0 a0_1 _ _ l0_2 t106 t107 t108 _ ?side1 ?side2 A6.out).mono ?_); (case side1 => repeat (first | exact (Kd.C_below HR0_2.out HB.out) | (with_reducible refine Kd.C_alloc ?_ _) | (with_reducible refine Kd.C_drewN ?_ _) | (with_reducible refine Kd.C_drew ?_))); (case side2 => exact HC0_2.out); rintro e w15 ⟨v109, rfl, ho0, hb⟩; refine ⟨_, rfl, ?_⟩; have n0_ := Aside0.mk (Kd.R_below (rch HO105) hb); have n1_ := Aside0.mk (Kd.R_lower ho0 (below_size (bel HB))); have n2_ := Aside0.mk (blk_below (g := gb101) (o := .cells #[.int .i64 a0_0, .int .i64 a0_1, .slice A0_2 l0_2.length c0_2] 30 (0, 0)) blc hb); have n3_ := Aside0.mk (blk_below (g := gb102) (o := .cells #[.int .i64 0, .int .i64 0, .slice none 0 0] 30 (0, 0)) blc hb); have n4_ := Aside0.mk (below_step (bel HB) hb); clear HO105; clear BK101; clear BK102; clear HB; have HO105 := n0_; have HO110 := n1_; have BK101 := n2_; have BK102 := n3_; have HB := n4_; clear n0_ n1_ n2_ n3_ n4_; (try clear hb); (try clear hb2); (try clear hk); (try clear hi); (try clear ho0)) | ((with_reducible refine gate_dst (N := 12) rfl ?_); refine boxE (N := 12) (cs := #[.int .i64 0, .int .i64 0, .slice none 0 0]) (t := 30) ?_; intro gb111 hg w16 hbox hb; have n0_ := Aside0.mk (Kd.R_below (rch HO105) hb); have n1_ := Aside0.mk (Kd.R_below (rch HO110) hb); have n2_ := Aside0.mk (blk_below (g := gb101) (o := .cells #[.int .i64 a0_0, .int .i64 a0_1, .slice A0_2 l0_2.length c0_2] 30 (0, 0)) blc hb); have n3_ := Aside0.mk (blk_below (g := gb102) (o := .cells #[.int .i64 0, .int .i64 0, .slice none 0 0] 30 (0, 0)) blc hb); have n4_ := Aside0.mk (below_step (bel HB) hb); have n5_ := Aside0.mk (hbox); have n6_ := Aside0.mk (gsz hg (bel HB)); have n7_ := Aside0.mk (gsz hg (bel HB)); have n8_ := Aside0.mk ((by rw [hg]; exact Nat.ne_of_lt (blk_lt (g := gb101) (o := .cells #[.int .i64 a0_0, .int .i64 a0_1, .slice A0_2 l0_2.length c0_2] 30 (0, 0)) blc) : gb101 ≠ gb111)); have n9_ := Aside0.mk ((by rw [hg]; exact Nat.ne_of_gt (blk_lt (g := gb101) (o := .cells #[.int .i64 a0_0, .int .i64 a0_1, .slice A0_2 l0_2.length c0_2] 30 (0, 0)) blc) : gb111 ≠ gb101)); have n10_ := Aside0.mk ((by rw [hg]; exact Nat.ne_of_lt (blk_lt (g := gb102) (o := .cells #[.int .i64 0, .int .i64 0, .slice none 0 0] 30 (0, 0)) blc) : gb102 ≠ gb111)); have n11_ := Aside0.mk ((by rw [hg]; exact Nat.ne_of_gt (blk_lt (g := gb102) (o := .cells #[.int .i64 0, .int .i64 0, .slice none 0 0] 30 (0, 0)) blc) : gb111 ≠ gb102)); clear HO105; clear HO110; clear BK101; clear BK102; clear HB; have HO105 := n0_; have HO110 := n1_; have BK101 := n2_; have BK102 := n3_; have HB := n4_; have BK111 := n5_; have GW111 := n6_; have GE111 := n7_; have NB101_111 := n8_; have NB111_101 := n9_; have NB102_111 := n10_; have NB111_102 := n11_; clear n0_ n1_ n2_ n3_ n4_ n5_ n6_ n7_ n8_ n9_ n10_ n11_; clear hb hbox hg; have hnb17 := NB111_101.out; have hnc17 := NB101_111.out; have hnb18 := NB111_102.out; have hnc18 := NB102_111.out; have hcz19_0 : w16.cell? ⟨gb111, 0, none⟩ = some (.int .i64 0) := (blk_cell BK111.out 0).trans rfl; have hcz19_1 : w16.cell? ⟨gb111, 1, none⟩ = some (.int .i64 0) := (blk_cell BK111.out 1).trans rfl; have hcz19_2 : w16.cell? ⟨gb111, 2, none⟩ = some (.slice none 0 0) := (blk_cell BK111.out 2).trans rfl; have hfz19_0 := blk_frozen BK111.out 0; have hfz19_1 := blk_frozen BK111.out 1; have hfz19_2 := blk_frozen BK111.out 2; obtain ⟨Ao20, co20, eo20⟩ := Kd.R_slice HO110.out; subst eo20) | ((with_reducible refine gate_dst (N := 28) rfl ?_); refine Kd.R_make (Kd.int .i64) _ 3 rfl (N := 28) rfl 33 _ _ rfl (l1.length : Int) rfl rfl Tryd.underlying33 (.int .i64 0) 8 info3 rfl (by decide) (by omega) 0 (ok := fun _ => True) (okp := fun _ => True) rfl (fun _ hk => hk) trivial (of_decide_eq_true (by first | (with_reducible assumption) | assumption)) (Nat.le_trans (Nat.mul_le_mul_right _ (of_decide_eq_true (by first | (with_reducible assumption) | assumption) : (l1.length : Int).toNat ≤ 35184372088832)) (by omega)) (Below.refl _ _) (Nat.le_refl _) ?_; intro v113 w21 ho22 hb hg_ hnew_; clear hg_ hnew_; (first | rw [← Ny112.out] at ho22 | (simp only [Int.reduceToNat] at ho22; rw [← Ny112.out] at ho22)); have n0_ := Aside0.mk (Kd.R_below (by (with_reducible repeat (first | apply Kd.R_alloc | apply Kd.R_drewN | apply Kd.R_drew)); exact (Kd.R_mono (Kd.R_far (p := ⟨gb111, 2, none⟩) (Kd.R_far (p := ⟨gb111, 1, none⟩) (Kd.R_far (p := ⟨gb111, 0, none⟩) (Kd.R_types HO105.out BK111.out (by decide)) (fun _ hk => hk.2) (.int .i64 t106)) (fun _ hk => hk.2) (.int .i64 t107)) (fun _ hk => hk.2) (.slice Ao20 t108.length co20)) (fun _ h_ => h_.1))) hb); have n1_ := Aside0.mk (Kd.R_below (by (with_reducible repeat (first | apply Kd.R_alloc | apply Kd.R_drewN | apply Kd.R_drew)); exact (Kd.R_mono (Kd.R_far (p := ⟨gb111, 2, none⟩) (Kd.R_far (p := ⟨gb111, 1, none⟩) (Kd.R_far (p := ⟨gb111, 0, none⟩) (Kd.R_types HO110.out BK111.out (by decide)) (fun _ hk => hk.2) (.int .i64 t106)) (fun _ hk => hk.2) (.int .i64 t107)) (fun _ hk => hk.2) (.slice Ao20 t108.length co20)) (fun _ h_ => h_.1))) hb); have n2_ := Aside0.mk (Kd.R_lower ho22 (below_size (bel HB))); have n3_ := Aside0.mk (blk_below (g := gb101) (o := .cells #[.int .i64 a0_0, .int .i64 a0_1, .slice A0_2 l0_2.length c0_2] 30 (0, 0)) (by (with_reducible repeat (first | refine blk_drewN ?_ _ | refine blk_drew ?_ | refine blk_alloc ?_ _)); refine blk_far ?_ NB101_111.out _; (with_reducible repeat (first | refine blk_drewN ?_ _ | refine blk_drew ?_ | refine blk_alloc ?_ _)); refine blk_far ?_ NB101_111.out _; (with_reducible repeat (first | refine blk_drewN ?_ _ | refine blk_drew ?_ | refine blk_alloc ?_ _)); refine blk_far ?_ NB101_111.out _; exact blc) hb); have n4_ := Aside0.mk (blk_below (g := gb102) (o := .cells #[.int .i64 0, .int .i64 0, .slice none 0 0] 30 (0, 0)) (by (with_reducible repeat (first | refine blk_drewN ?_ _ | refine blk_drew ?_ | refine blk_alloc ?_ _)); refine blk_far ?_ NB102_111.out _; (with_reducible repeat (first | refine blk_drewN ?_ _ | refine blk_drew ?_ | refine blk_alloc ?_ _)); refine blk_far ?_ NB102_111.out _; (with_reducible repeat (first | refine blk_drewN ?_ _ | refine blk_drew ?_ | refine blk_alloc ?_ _)); refine blk_far ?_ NB102_111.out _; exact blc) hb); have n5_ := Aside0.mk (blk_below (g := gb111) (o := .cells #[.int .i64 t106, .int .i64 t107, .slice Ao20 t108.length co20] 30 (0, 0)) (by (with_reducible repeat (first | refine blk_drewN ?_ _ | refine blk_drew ?_ | refine blk_alloc ?_ _)); refine blk_put (cs := #[.int .i64 t106, .int .i64 t107, .slice none 0 0]) ?_ 2 _ rfl; (with_reducible repeat (first | refine blk_drewN ?_ _ | refine blk_drew ?_ | refine blk_alloc ?_ _)); refine blk_put (cs := #[.int .i64 t106, .int .i64 0, .slice none 0 0]) ?_ 1 _ rfl; (with_reducible repeat (first | refine blk_drewN ?_ _ | refine blk_drew ?_ | refine blk_alloc ?_ _)); refine blk_put (cs := #[.int .i64 0, .int .i64 0, .slice none 0 0]) ?_ 0 _ rfl; exact blc) hb); have n6_ := Aside0.mk (below_step (bel HB) hb); clear HO105; clear HO110; clear BK101; clear BK102; clear BK111; clear HB; have HO105 := n0_; have HO110 := n1_; have HO114 := n2_; have BK101 := n3_; have BK102 := n4_; have BK111 := n5_; have HB := n6_; clear n0_ n1_ n2_ n3_ n4_ n5_ n6_; clear hb ho22; obtain ⟨Ao23, co23, eo23⟩ := Kd.R_slice HO114.out; subst eo23))
   go_loopg [31] k (fun kq v31 w' => ∃ (x13_1 : List Int) (x31_1 : Int), v31 = .int .i64 x31_1 ∧ Aside0 (spec_skMove.l0 kq l1 a2 a3 t103 x13_1 (y112.length : Int) x31_1 a0_0 a0_1 l0_2 t106 t107 t108 = some (r1, r2, r3, r4, r5)) ∧ Aside0 (kq ≤ k) ∧ Aside0 (Kd.R Kd.bool 4 w' w.heap.size (fun _ => True) v104 t103) ∧ Aside0 (Kd.R (Kd.int .i64) 3 w' w.heap.size (fun _ => True) (.slice Ao23 y112.length co23) x13_1) ∧ Aside0 (Kd.R (Kd.int .u8) 5 w' w.heap.size (fun _ => True) (.slice Ao20 t108.length co20) t108) ∧ Aside0 (w'.heap[gb101]? = some (.cells #[.int .i64 a0_0, .int .i64 a0_1, (.slice A0_2 l0_2.length c0_2)] 30 (0, 0))) ∧ Aside0 (w'.heap[gb102]? = some (.cells #[.int .i64 0, .int .i64 0, (.slice none 0 0)] 30 (0, 0))) ∧ Aside0 (w'.heap[gb111]? = some (.cells #[.int .i64 t106, .int .i64 t107, (.slice Ao20 t108.length co20)] 30 (0, 0))) ∧ Aside0 (Below w.heap.size w w'))
   case atStart => exact ⟨(y112), (0), (by first | rfl | (simp; done) | (simp [*]; done)), H', ⟨Nat.le_refl _⟩, ⟨rch HO105⟩, ⟨rch HO114⟩, ⟨rch HO110⟩, ⟨blc⟩, ⟨blc⟩, ⟨blc⟩, ⟨bel HB⟩⟩
   case round =>
    clear H'
    try clear c1
    try clear p2
    try clear c3
    try clear c5
    try clear c6
    try clear c7
    try clear c7b0
    try clear c7b0y
    try clear c7b1
    try clear c8
    try clear c8b0
    try clear c8b0y
    try clear c8b1
    try clear c11
    try clear c17
    try clear c18
    try clear hcz12_0
    try clear hcz12_1
    try clear hcz12_2
    try clear hcz14_0
    try clear hcz14_1
    try clear hcz14_2
    try clear hcz19_0
    try clear hcz19_1
    try clear hcz19_2
    try clear hfz12_0
    try clear hfz12_1
    try clear hfz12_2
    try clear hfz14_0
    try clear hfz14_1
    try clear hfz14_2
    try clear hfz19_0
    try clear hfz19_1
    try clear hfz19_2
    obtain ⟨x13_1, x31_1, rfl, HA, HK1, HO_11, HO_13, HO_112002, BK101, BK102, BK111, HB⟩ := hrel;have hl13_1 := (Kd.R_reads' HO_13.out).1
    rw [hl13_1] at HO_13
    (try simp only [hl13_1])
    (try simp only [hl13_1] at BK101)
    (try simp only [hl13_1] at BK102)
    (try simp only [hl13_1] at BK111)
    (try simp only [hl13_1] at HO_11)
    (try simp only [hl13_1] at HO_112002)
    cases gk with
    | zero => exact absurd HA.out (by simp [spec_skMove.l0])
    | succ k1 =>
     have H := HA.out;clear HA
     simp only [spec_skMove.l0] at H
     by_cases c24 : x31_1 < (y112.length : Int)
     ·rw [if_pos c24] at H
      have c24b0 : decide (x31_1 < (y112.length : Int)) = true := decide_eq_true c24;clear c24
      by_cases c25 : 0 ≤ x31_1
      ·rw [if_pos c25] at H
       have c25b0 : decide (0 ≤ x31_1) = true := decide_eq_true c25;clear c25
       by_cases c26 : x31_1 < (x13_1.length : Int)
       ·rw [if_pos c26] at H
        have c26b0 : decide (x31_1 < (x13_1.length : Int)) = true := decide_eq_true c26;clear c26;obtain ⟨y115, hy115⟩ : ∃ y_ : List Int, y_ = (x13_1.set (x31_1 : Int).toNat (-1)) := ⟨_, rfl⟩;replace H : (spec_skMove.l0 k1 l1 a2 a3 t103 y115 (y112.length : Int) (wrap64 (x31_1 + 1)) a0_0 a0_1 l0_2 t106 t107 t108) = some (r1, r2, r3, r4, r5) := rH hy115 H;have Ny115 := Aside0.mk hy115;clear hy115;have H' := Aside0.mk H;clear H;have p27 : 0 ≤ (x31_1 : Int) := of_decide_eq_true (by first | (with_reducible assumption) | assumption);have q27 : (x31_1 : Int) < ((x13_1.length : Int) : Int) := of_decide_eq_true (by first | (with_reducible assumption) | assumption);obtain ⟨go27, co27, eo27, gb27, gl27, cl27, HG27⟩ := Kd.R_form HO_13.out (by omega)
        (first | cases eo27 | (injection eo27 with ea_ en_ ec_; (first | subst ea_ | (injection ea_ with ea_; subst ea_)); subst ec_; clear en_))
        have GB27 := Aside0.mk gb27;have GG27 := Aside0.mk HG27;clear gb27 gl27 HG27;obtain ⟨hx27_0, hf27_0⟩ := Kd.R_celln 0 HO_13.out (x31_1 : Int) p27 q27;replace p27 := eq_true p27;replace q27 := eq_true q27;have HP28 := Kd.R_putg HO_13.out (x31_1 : Int) (-1)
        go_wp2_with (first | ((with_reducible refine gate_store (t := 3) (p := 36) rfl ?_); refine store_event (t := 3) (p := 36) (v := ?vo_w29) (w1 := (wr.setCell ⟨go27, (x31_1 : Int).toNat, none⟩ (.int .i64 (-1)))) ?hg ?ho ?hn ?hr ?_; (case ho => rfl); (case hg => rfl); (case hn => rfl); (case hr => first | (go_simp; done) | (go_simp; rfl)); intro w29 hw; have hg : wr.grownBy w29 (some go27) := (by rw [hw]; exact HP28.2); have hp_ : Kd.R (Kd.int .i64) 3 w29 w.heap.size (fun _ => True) (.slice (some ⟨go27, 0, none⟩) x13_1.length co23) y115 := (by rw [hw, Ny115.out]; (first | exact HP28.1 | exact R_any HP28.1)); clear HP28; have n0_ := Aside0.mk (Kd.R_over' (v := (.slice (some ⟨go27, 0, none⟩) x13_1.length co23)) (rch HO_11) (Kd.R_typed HO_13.out) (by decide) hg); have n1_ := Aside0.mk (hp_); have n2_ := Aside0.mk (Kd.R_over' (v := (.slice (some ⟨go27, 0, none⟩) x13_1.length co23)) (rch HO_112002) (Kd.R_typed HO_13.out) (by decide) hg); have n3_ := Aside0.mk (blk_grown (g := gb101) (o := .cells #[.int .i64 a0_0, .int .i64 a0_1, .slice A0_2 l0_2.length c0_2] 30 (0, 0)) blc hg (Kd.R_ne HO_13.out BK101.out (by decide))); have n4_ := Aside0.mk (blk_grown (g := gb102) (o := .cells #[.int .i64 0, .int .i64 0, .slice none 0 0] 30 (0, 0)) blc hg (Kd.R_ne HO_13.out BK102.out (by decide))); have n5_ := Aside0.mk (blk_grown (g := gb111) (o := .cells #[.int .i64 t106, .int .i64 t107, .slice Ao20 t108.length co20] 30 (0, 0)) blc hg (Kd.R_ne HO_13.out BK111.out (by decide))); have n6_ := Aside0.mk ((by rw [hw]; exact below_set (HB.out) GB27.out : Below w.heap.size w w29)); clear HO_11; clear HO_13; clear HO_112002; clear BK101; clear BK102; clear BK111; clear HB; have HO_11 := n0_; have HO_13 := n1_; have HO_112002 := n2_; have BK101 := n3_; have BK102 := n4_; have BK111 := n5_; have HB := n6_; clear n0_ n1_ n2_ n3_ n4_ n5_ n6_; clear hg hw hp_))
        (try simp only [← hl13_1])
        go_roundg k1
        case measure => have := HK1.out; omega
        case rel => exact ⟨(y115), (wrap64 (x31_1 + 1)), (by first | rfl | (simp; done) | (simp [*]; done)), H', ⟨by have := HK1.out; omega⟩, ⟨by (try simp only [hl13_1]); (with_reducible repeat (first | apply Kd.R_alloc | apply Kd.R_drewN | apply Kd.R_drew)); (first | exact HO_11.out | exact R_any HO_11.out)⟩, ⟨by (try simp only [hl13_1]); (with_reducible repeat (first | apply Kd.R_alloc | apply Kd.R_drewN | apply Kd.R_drew)); (first | exact HO_13.out | exact R_any HO_13.out)⟩, ⟨by (try simp only [hl13_1]); (with_reducible repeat (first | apply Kd.R_alloc | apply Kd.R_drewN | apply Kd.R_drew)); (first | exact HO_112002.out | exact R_any HO_112002.out)⟩, ⟨by (try simp only [hl13_1]); exact blc⟩, ⟨by (try simp only [hl13_1]); exact blc⟩, ⟨by (try simp only [hl13_1]); exact blc⟩, ⟨bel HB⟩⟩
       ·rw [if_neg c26] at H
        exact absurd H (by simp)
      ·rw [if_neg c25] at H
       exact absurd H (by simp)
     ·rw [if_neg c24] at H
      have c24b0 : decide (x31_1 < (y112.length : Int)) = false := decide_eq_false c24
      (try (have c24b0y := c24b0; first | rw [hl13_1] at c24b0y))
      clear c24
      by_cases c30 : 0 ≤ a2
      ·rw [if_pos c30] at H
       have c30b0 := eq_true c30;have c30b1 : decide (0 ≤ a2) = true := decide_eq_true c30;clear c30
       by_cases c31 : (a2 : Int).toNat ≤ 281474976710656
       ·rw [if_pos c31] at H
        have c31b0 := eq_true c31;have c31b1 : decide ((a2 : Int).toNat ≤ 281474976710656) = true := decide_eq_true c31;clear c31;obtain ⟨y116, hy116⟩ : ∃ y_ : List Bool, y_ = (List.replicate (a2 : Int).toNat false) := ⟨_, rfl⟩;replace H : (spec_skMove.l1 k1 a3 t103 x13_1 y116 l1 (l1.length : Int) 0 a0_0 a0_1 l0_2 t106 t107 t108) = some (r1, r2, r3, r4, r5) := rH hy116 H;have Ny116 := Aside0.mk hy116;clear hy116;have H' := Aside0.mk H;clear H
        go_wp2_with (first | ((with_reducible refine gate_dst (N := 39) rfl ?_); refine Kd.R_make Kd.bool _ 4 rfl (N := 39) rfl 64 _ _ rfl a2 rfl rfl Tryd.underlying64 (.bool false) 1 info4 rfl (by decide) (by omega) false (ok := fun _ => True) (okp := fun _ => True) rfl (fun _ hk => hk) trivial (of_decide_eq_true (by first | (with_reducible assumption) | assumption)) (Nat.le_trans (Nat.mul_le_mul_right _ (of_decide_eq_true (by first | (with_reducible assumption) | assumption) : a2.toNat ≤ 281474976710656)) (by omega)) (Below.refl _ _) (Nat.le_refl _) ?_; intro v117 w32 ho33 hb hg_ hnew_; clear hg_ hnew_; (first | rw [← Ny116.out] at ho33 | (simp only [Int.reduceToNat] at ho33; rw [← Ny116.out] at ho33)); have n0_ := Aside0.mk (Kd.R_elder' (rch HO_11) (Kd.R_base ho33) hb); have n1_ := Aside0.mk (Kd.R_below (rch HO_13) hb); have n2_ := Aside0.mk (Kd.R_below (rch HO_112002) hb); have n3_ := Aside0.mk (Kd.R_lower (Kd.R_new' ho33 (Kd.R_lt (rch HO_11))) (below_size (bel HB))); have n4_ := Aside0.mk (blk_below (g := gb101) (o := .cells #[.int .i64 a0_0, .int .i64 a0_1, .slice A0_2 l0_2.length c0_2] 30 (0, 0)) blc hb); have n5_ := Aside0.mk (blk_below (g := gb102) (o := .cells #[.int .i64 0, .int .i64 0, .slice none 0 0] 30 (0, 0)) blc hb); have n6_ := Aside0.mk (blk_below (g := gb111) (o := .cells #[.int .i64 t106, .int .i64 t107, .slice Ao20 t108.length co20] 30 (0, 0)) blc hb); have n7_ := Aside0.mk (below_step (bel HB) hb); clear HO_11; clear HO_13; clear HO_112002; clear BK101; clear BK102; clear BK111; clear HB; have HO_11 := n0_; have HO_13 := n1_; have HO_112002 := n2_; have HO118 := n3_; have BK101 := n4_; have BK102 := n5_; have BK111 := n6_; have HB := n7_; clear n0_ n1_ n2_ n3_ n4_ n5_ n6_ n7_; clear hb ho33))
        go_loopg [42] k1 (fun kq v42 w' => ∃ (x13_2 : List Int) (x15_2 : List Bool) (x42_2 : Int) (x112002_2 : List Int) (u112002 : Value), v42 = .int .i64 x42_2 ∧ Aside0 (spec_skMove.l1 kq a3 t103 x13_2 x15_2 l1 (l1.length : Int) x42_2 a0_0 a0_1 l0_2 t106 t107 x112002_2 = some (r1, r2, r3, r4, r5)) ∧ Aside0 (kq ≤ k1) ∧ Aside0 (Kd.R Kd.bool 4 w' w.heap.size (fun k_ => some k_ ≠ (v117 : Value).ownBlock) v104 t103) ∧ Aside0 (Kd.R (Kd.int .i64) 3 w' w.heap.size (fun _ => True) (.slice Ao23 x13_1.length co23) x13_2) ∧ Aside0 (Kd.R Kd.bool 4 w' w.heap.size (fun k_ => some k_ ≠ (v104 : Value).ownBlock) v117 x15_2) ∧ Aside0 (Kd.R (Kd.int .u8) 5 w' w.heap.size (fun _ => True) u112002 x112002_2) ∧ Aside0 (w'.heap[gb101]? = some (.cells #[.int .i64 a0_0, .int .i64 a0_1, (.slice A0_2 l0_2.length c0_2)] 30 (0, 0))) ∧ Aside0 (w'.heap[gb102]? = some (.cells #[.int .i64 0, .int .i64 0, (.slice none 0 0)] 30 (0, 0))) ∧ Aside0 (w'.heap[gb111]? = some (.cells #[.int .i64 t106, .int .i64 t107, u112002] 30 (0, 0))) ∧ Aside0 (Below w.heap.size w w'))
        case atStart => exact ⟨(x13_1), (y116), (0), (t108), (.slice Ao20 t108.length co20), (by first | rfl | (simp; done) | (simp [*]; done)), H', ⟨Nat.le_refl _⟩, ⟨by (try simp only [hl13_1]); (with_reducible repeat (first | apply Kd.R_alloc | apply Kd.R_drewN | apply Kd.R_drew)); (first | exact Kd.R_mono HO_11.out (fun _ hk => hk.2) | exact HO_11.out | exact R_any HO_11.out)⟩, ⟨by (try simp only [hl13_1]); (with_reducible repeat (first | apply Kd.R_alloc | apply Kd.R_drewN | apply Kd.R_drew)); (first | exact HO_13.out | exact R_any HO_13.out)⟩, ⟨by (try simp only [hl13_1]); (with_reducible repeat (first | apply Kd.R_alloc | apply Kd.R_drewN | apply Kd.R_drew)); (first | exact Kd.R_mono HO118.out (fun _ hk => hk.2) | exact HO118.out | exact R_any HO118.out)⟩, ⟨by (try simp only [hl13_1]); (with_reducible repeat (first | apply Kd.R_alloc | apply Kd.R_drewN | apply Kd.R_drew)); (first | exact HO_112002.out | exact R_any HO_112002.out)⟩, ⟨by (try simp only [hl13_1]); exact blc⟩, ⟨by (try simp only [hl13_1]); exact blc⟩, ⟨by (try simp only [hl13_1]); exact blc⟩, ⟨bel HB⟩⟩
        case round =>
         clear H'
         try clear c1
         try clear c2
         try clear p2
         try clear q2
         try clear hx2
         try clear c3
         try clear c5
         try clear c6
         try clear p6
         try clear c7
         try clear c7b0
         try clear c7b0y
         try clear c7b1
         try clear c8
         try clear c8b0
         try clear c8b0y
         try clear c8b1
         try clear c11
         try clear c17
         try clear c18
         try clear c24
         try clear c24b0
         try clear c24b0y
         try clear c25
         try clear c25b0
         try clear c25b0y
         try clear c26
         try clear c26b0
         try clear c26b0y
         try clear p27
         try clear q27
         try clear hx27
         try clear hf27
         try clear c30
         try clear c30b0
         try clear c30b0y
         try clear c30b1
         try clear c31
         try clear c31b0
         try clear c31b0y
         try clear c31b1
         try clear hcz12_0
         try clear hcz12_1
         try clear hcz12_2
         try clear hcz14_0
         try clear hcz14_1
         try clear hcz14_2
         try clear hcz19_0
         try clear hcz19_1
         try clear hcz19_2
         try clear hfz12_0
         try clear hfz12_1
         try clear hfz12_2
         try clear hfz14_0
         try clear hfz14_1
         try clear hfz14_2
         try clear hfz19_0
         try clear hfz19_1
         try clear hfz19_2
         try clear hx27_0
         try clear p2
         try clear p27
         try clear q27
         obtain ⟨x13_2, x15_2, x42_2, x112002_2, u112002, rfl, HA, HK2, HO_11, HO_13, HO_15, HO_112002, BK101, BK102, BK111, HB⟩ := hrel;have hl13_2 := (Kd.R_reads' HO_13.out).1
         rw [hl13_2] at HO_13
         (try simp only [hl13_2])
         (try simp only [hl13_2] at BK101)
         (try simp only [hl13_2] at BK102)
         (try simp only [hl13_2] at BK111)
         (try simp only [hl13_2] at HO_11)
         (try simp only [hl13_2] at HO_15)
         (try simp only [hl13_2] at HO_112002)
         cases gk with
         | zero => exact absurd HA.out (by simp [spec_skMove.l1])
         | succ k2 =>
          have H := HA.out;clear HA
          simp only [spec_skMove.l1] at H
          by_cases c34 : x42_2 < (l1.length : Int)
          ·rw [if_pos c34] at H
           have c34b0 : decide (x42_2 < (l1.length : Int)) = true := decide_eq_true c34;clear c34
           by_cases c35 : 0 ≤ x42_2
           ·rw [if_pos c35] at H
            have c35b0 : decide (0 ≤ x42_2) = true := decide_eq_true c35;clear c35
            by_cases c36 : x42_2 < (l1.length : Int)
            ·rw [if_pos c36] at H
             have c36b0 : decide (x42_2 < (l1.length : Int)) = true := decide_eq_true c36;clear c36
             by_cases c37 : (rd l1 x42_2) < 0
             ·rw [if_pos c37] at H
              have c37b0 : decide ((rd l1 x42_2) < 0) = true := decide_eq_true c37;clear c37;have H' := Aside0.mk H;clear H;have p119 : 0 ≤ (x42_2 : Int) := of_decide_eq_true (by first | (with_reducible assumption) | assumption);have q119 : x42_2 < (l1.length : Int) := of_decide_eq_true (by first | (with_reducible assumption) | assumption);obtain ⟨ad119, e119, hx119_0⟩ := Kd.at_int HR1.out x42_2 p119 q119
              cases e119
              (try replace hx119_0 := (HB.out.cell (World.block_lt_of_cell? w _ hx119_0)).trans hx119_0)
              replace p119 := eq_true p119;replace q119 := eq_true q119
              go_wp2
              (try simp only [← hl13_2])
              go_roundg k2
              case measure => have := HK1.out; have := HK2.out; omega
              case rel => exact ⟨(x13_2), (x15_2), (wrap64 (x42_2 + 1)), (x112002_2), (u112002), (by first | rfl | (simp; done) | (simp [*]; done)), H', ⟨by have := HK1.out; have := HK2.out; omega⟩, ⟨by (try simp only [hl13_1]); (try simp only [hl13_2]); (with_reducible repeat (first | apply Kd.R_alloc | apply Kd.R_drewN | apply Kd.R_drew)); (first | exact HO_11.out | exact R_any HO_11.out)⟩, ⟨by (try simp only [hl13_1]); (try simp only [hl13_2]); (with_reducible repeat (first | apply Kd.R_alloc | apply Kd.R_drewN | apply Kd.R_drew)); (first | exact HO_13.out | exact R_any HO_13.out)⟩, ⟨by (try simp only [hl13_1]); (try simp only [hl13_2]); (with_reducible repeat (first | apply Kd.R_alloc | apply Kd.R_drewN | apply Kd.R_drew)); (first | exact HO_15.out | exact R_any HO_15.out)⟩, ⟨by (try simp only [hl13_1]); (try simp only [hl13_2]); (with_reducible repeat (first | apply Kd.R_alloc | apply Kd.R_drewN | apply Kd.R_drew)); (first | exact HO_112002.out | exact R_any HO_112002.out)⟩, ⟨by (try simp only [hl13_1]); (try simp only [hl13_2]); exact blc⟩, ⟨by (try simp only [hl13_1]); (try simp only [hl13_2]); exact blc⟩, ⟨by (try simp only [hl13_1]); (try simp only [hl13_2]); exact blc⟩, ⟨bel HB⟩⟩
             ·rw [if_neg c37] at H
              have c37b0 : decide ((rd l1 x42_2) < 0) = false := decide_eq_false c37;clear c37
              by_cases c38 : 0 ≤ (rd l1 x42_2)
              ·rw [if_pos c38] at H
               have c38b0 : decide (0 ≤ (rd l1 x42_2)) = true := decide_eq_true c38;clear c38
               by_cases c39 : (rd l1 x42_2) < (t103.length : Int)
               ·rw [if_pos c39] at H
                have c39b0 : decide ((rd l1 x42_2) < (t103.length : Int)) = true := decide_eq_true c39;clear c39;obtain ⟨bq40, hbq40⟩ : ∃ b_ : Bool, b_ = (rdOf false t103 (rd l1 x42_2)) := ⟨_, rfl⟩
                replace H : (if (bq40 = true) then (if x42_2 < (l0_2.length : Int) then (if x42_2 < (x112002_2.length : Int) then (if x42_2 < (x13_2.length : Int) then (spec_skMove.l1 k2 a3 t103 (x13_2.set (x42_2 : Int).toNat (rd l1 x42_2)) x15_2 l1 (l1.length : Int) (wrap64 (x42_2 + 1)) a0_0 a0_1 l0_2 t106 t107 (x112002_2.set (x42_2 : Int).toNat (rd l0_2 x42_2))) else (none)) else (none)) else (none)) else ((spec_tiAhead.f a0_0 a0_1 l0_2 x42_2 a3).bind fun t124 => (if (rd l1 x42_2) < (x15_2.length : Int) then (if x42_2 < (l0_2.length : Int) then (if 0 ≤ t124 then (if t124 < (x112002_2.length : Int) then (if t124 < (x13_2.length : Int) then (spec_skMove.l1 k2 a3 t103 (x13_2.set (t124 : Int).toNat (rd l1 x42_2)) (x15_2.set ((rd l1 x42_2) : Int).toNat true) l1 (l1.length : Int) (wrap64 (x42_2 + 1)) a0_0 a0_1 l0_2 t106 t107 (x112002_2.set (t124 : Int).toNat (rd l0_2 x42_2))) else (none)) else (none)) else (none)) else (none)) else (none)))) = some (r1, r2, r3, r4, r5) := by rw [← hbq40] at H; exact H
                have Nbq40 := Aside0.mk hbq40;clear hbq40
                by_cases c41 : (bq40 = true)
                ·subst c41
                 have H1 : (if x42_2 < (l0_2.length : Int) then (if x42_2 < (x112002_2.length : Int) then (if x42_2 < (x13_2.length : Int) then (spec_skMove.l1 k2 a3 t103 (x13_2.set (x42_2 : Int).toNat (rd l1 x42_2)) x15_2 l1 (l1.length : Int) (wrap64 (x42_2 + 1)) a0_0 a0_1 l0_2 t106 t107 (x112002_2.set (x42_2 : Int).toNat (rd l0_2 x42_2))) else (none)) else (none)) else (none)) = some (r1, r2, r3, r4, r5) := by rw [if_pos rfl] at H; exact H
                 clear H;have H := H1;clear H1
                 by_cases c42 : x42_2 < (l0_2.length : Int)
                 ·rw [if_pos c42] at H
                  have c42b0 : decide (x42_2 < (l0_2.length : Int)) = true := decide_eq_true c42;clear c42
                  by_cases c43 : x42_2 < (x112002_2.length : Int)
                  ·rw [if_pos c43] at H
                   have c43b0 : decide (x42_2 < (x112002_2.length : Int)) = true := decide_eq_true c43;clear c43;obtain ⟨y122, hy122⟩ : ∃ y_ : List Int, y_ = (x112002_2.set (x42_2 : Int).toNat (rd l0_2 x42_2)) := ⟨_, rfl⟩;replace H : (if x42_2 < (x13_2.length : Int) then (spec_skMove.l1 k2 a3 t103 (x13_2.set (x42_2 : Int).toNat (rd l1 x42_2)) x15_2 l1 (l1.length : Int) (wrap64 (x42_2 + 1)) a0_0 a0_1 l0_2 t106 t107 y122) else (none)) = some (r1, r2, r3, r4, r5) := rH hy122 H;have Ny122 := Aside0.mk hy122;clear hy122
                   by_cases c45 : x42_2 < (x13_2.length : Int)
                   ·rw [if_pos c45] at H
                    have c45b0 : decide (x42_2 < (x13_2.length : Int)) = true := decide_eq_true c45;clear c45;obtain ⟨y123, hy123⟩ : ∃ y_ : List Int, y_ = (x13_2.set (x42_2 : Int).toNat (rd l1 x42_2)) := ⟨_, rfl⟩;replace H : (spec_skMove.l1 k2 a3 t103 y123 x15_2 l1 (l1.length : Int) (wrap64 (x42_2 + 1)) a0_0 a0_1 l0_2 t106 t107 y122) = some (r1, r2, r3, r4, r5) := rH hy123 H;have Ny123 := Aside0.mk hy123;clear hy123;have H' := Aside0.mk H;clear H;have p119 : 0 ≤ (x42_2 : Int) := of_decide_eq_true (by first | (with_reducible assumption) | assumption);have q119 : x42_2 < (l1.length : Int) := of_decide_eq_true (by first | (with_reducible assumption) | assumption);obtain ⟨ad119, e119, hx119_0⟩ := Kd.at_int HR1.out x42_2 p119 q119
                    cases e119
                    (try replace hx119_0 := (HB.out.cell (World.block_lt_of_cell? w _ hx119_0)).trans hx119_0)
                    replace p119 := eq_true p119;replace q119 := eq_true q119;obtain ⟨Ao47, co47, eo47⟩ := Kd.R_slice HO_11.out;subst eo47;have p120 : 0 ≤ ((rd l1 x42_2) : Int) := of_decide_eq_true (by first | (with_reducible assumption) | assumption);have q120 : (rd l1 x42_2) < (t103.length : Int) := of_decide_eq_true (by first | (with_reducible assumption) | assumption);obtain ⟨ad120, e120, hx120_0⟩ := Kd.at_bool (Kd.R_reads' HO_11.out).2.2 (rd l1 x42_2) p120 q120
                    (try rw [← Nbq40.out] at hx120_0)
                    cases e120
                    replace p120 := eq_true p120;replace q120 := eq_true q120
                    try go_wp2
                    have n0_ := Aside0.mk (Kd.R_drew HO_11.out);have n1_ := Aside0.mk (Kd.R_drew HO_13.out);have n2_ := Aside0.mk (Kd.R_drew HO_15.out);have n3_ := Aside0.mk (Kd.R_drew HO_112002.out);have n4_ := Aside0.mk (blk_drew BK101.out);have n5_ := Aside0.mk (blk_drew BK102.out);have n6_ := Aside0.mk (blk_drew BK111.out);have n7_ := Aside0.mk (below_drew1 HB.out);clear HO_11;clear HO_13;clear HO_15;clear HO_112002;clear BK101;clear BK102;clear BK111;clear HB;have HO_11 := n0_;have HO_13 := n1_;have HO_15 := n2_;have HO_112002 := n3_;have BK101 := n4_;have BK102 := n5_;have BK111 := n6_;have HB := n7_;clear n0_ n1_ n2_ n3_ n4_ n5_ n6_ n7_;have p121 : 0 ≤ (x42_2 : Int) := of_decide_eq_true (by first | (with_reducible assumption) | assumption);have q121 : x42_2 < (l0_2.length : Int) := of_decide_eq_true (by first | (with_reducible assumption) | assumption);obtain ⟨ad121, e121, hx121_0⟩ := Kd.at_int HR0_2.out x42_2 p121 q121;have hw121_0 := hx121_0
                    cases e121
                    (try replace hx121_0 := (HB.out.cell (World.block_lt_of_cell? w _ hx121_0)).trans hx121_0)
                    replace p121 := eq_true p121;replace q121 := eq_true q121;have p44 : 0 ≤ (x42_2 : Int) := of_decide_eq_true (by first | (with_reducible assumption) | assumption);have q44 : (x42_2 : Int) < ((x112002_2.length : Int) : Int) := of_decide_eq_true (by first | (with_reducible assumption) | assumption);obtain ⟨go44, co44, eo44, gb44, gl44, cl44, HG44⟩ := Kd.R_form HO_112002.out (by omega)
                    (first | cases eo44 | (injection eo44 with ea_ en_ ec_; (first | subst ea_ | (injection ea_ with ea_; subst ea_)); subst ec_; clear en_))
                    have GB44 := Aside0.mk gb44;have GG44 := Aside0.mk HG44;clear gb44 gl44 HG44;obtain ⟨hx44_0, hf44_0⟩ := Kd.R_celln 0 HO_112002.out (x42_2 : Int) p44 q44;replace p44 := eq_true p44;replace q44 := eq_true q44;have HP49 := Kd.R_putn HO_112002.out (x42_2 : Int) (rd l0_2 x42_2)
                    rw [← Ny122.out] at HP49
                    have HQ49 := Aside0.mk HP49;clear HP49
                    refine start_ (n := 10) (S := fun w' => w'.cell? ⟨gb111, 0, none⟩ = some (.int .i64 t106) ∧ w'.cell? ⟨gb111, 1, none⟩ = some (.int .i64 t107) ∧ w'.cell? ⟨gb111, 2, none⟩ = some (.slice (some ⟨go44, 0, none⟩) x112002_2.length co44) ∧ w'.cell? ⟨gb101, 0, none⟩ = some (.int .i64 a0_0) ∧ w'.cell? ⟨gb101, 1, none⟩ = some (.int .i64 a0_1) ∧ w'.cell? ⟨gb101, 2, none⟩ = some (.slice (some ad121) l0_2.length c0_2) ∧ w'.cell? (ad121.add (x42_2).toNat) = some (.int .u8 (rd l0_2 x42_2))) (ds := [9]) #[false, false, false, false, false, false, false, false, false, false] (by kernel_rfl) rfl rfl ⟨(blk_cell BK111.out 0).trans rfl, (blk_cell BK111.out 1).trans rfl, (blk_cell BK111.out 2).trans rfl, (blk_cell BK101.out 0).trans rfl, (blk_cell BK101.out 1).trans rfl, (blk_cell BK101.out 2).trans rfl, ((HB.out.cell (World.block_lt_of_cell? w _ hw121_0)).trans hw121_0)⟩ (fun hHeld => ?_); refine with_tabW spec_skMove.tab18 spec_skMove.bits18 (fun HT_ HW_ => ?_)
                    generalize wr.drew = w48 at HO_11 HO_13 HO_15 HO_112002 BK101 BK102 BK111 HB GG44 HQ49 hf44_0 hx121_0 hx44_0 hHeld ⊢
                    refine pure_ (i := 0) (N := some 62) (v := ?_) (a' := ?_) #[true, false, false, false, false, false, false, false, false, false] rfl rfl (any_of HT_.out (by kernel_rfl)) (fun _ _ _ h => h) (Or.inl ⟨by rfl, ?_⟩) ?_ ?_
                    rotate_left
                    ·intro w'
                     go_simp
                     with_reducible rfl
                    rotate_left
                    ·simp only [Act.put, List.setIfInBounds_toArray, List.set_cons_zero, List.set_cons_succ, i64_w, i32_w]
                     rfl
                    refine pure_ (i := 2) (N := some 64) (v := ?_) (a' := ?_) #[true, false, true, false, false, false, false, false, false, false] rfl rfl (any_of HT_.out (by kernel_rfl)) (fun _ _ _ h => h) (Or.inl ⟨by rfl, ?_⟩) ?_ ?_
                    rotate_left
                    ·intro w'
                     go_simp
                     with_reducible rfl
                    rotate_left
                    ·simp only [Act.put, List.setIfInBounds_toArray, List.set_cons_zero, List.set_cons_succ, i64_w, i32_w]
                     rfl
                    refine pure_ (i := 3) (N := some 65) (v := ?_) (a' := ?_) #[true, false, true, true, false, false, false, false, false, false] rfl rfl (any_of HT_.out (by kernel_rfl)) (fun _ _ _ h => h) (Or.inl ⟨by rfl, ?_⟩) ?_ ?_
                    rotate_left
                    ·intro w'
                     go_simp
                     with_reducible rfl
                    rotate_left
                    ·simp only [Act.put, List.setIfInBounds_toArray, List.set_cons_zero, List.set_cons_succ, i64_w, i32_w]
                     rfl
                    refine pure_ (i := 5) (N := some 67) (v := ?_) (a' := ?_) #[true, false, true, true, false, true, false, false, false, false] rfl rfl (any_of HT_.out (by kernel_rfl)) (fun _ _ _ h => h) (Or.inl ⟨by rfl, ?_⟩) ?_ ?_
                    rotate_left
                    ·intro w'
                     go_simp
                     with_reducible rfl
                    rotate_left
                    ·simp only [Act.put, List.setIfInBounds_toArray, List.set_cons_zero, List.set_cons_succ, i64_w, i32_w]
                     rfl
                    refine take_ (i := 1) (N := some 63) (v := ?_) (a' := ?_) #[true, true, true, true, false, true, false, false, false, false] rfl rfl (take_ofW HT_.out HW_.out (by kernel_rfl)) (fun _ _ _ h => h) (Or.inl ⟨by rfl, ?_⟩) hHeld ?_ ?_
                    rotate_left
                    ·rintro w' ⟨s0, s1, s2, s3, s4, s5, s6⟩
                     go_simp
                     with_reducible rfl
                    rotate_left
                    ·simp only [Act.put, List.setIfInBounds_toArray, List.set_cons_zero, List.set_cons_succ, i64_w, i32_w]
                     rfl
                    refine take_ (i := 4) (N := some 66) (v := ?_) (a' := ?_) #[true, true, true, true, true, true, false, false, false, false] rfl rfl (take_ofW HT_.out HW_.out (by kernel_rfl)) (fun _ _ _ h => h) (Or.inl ⟨by rfl, ?_⟩) hHeld ?_ ?_
                    rotate_left
                    ·rintro w' ⟨s0, s1, s2, s3, s4, s5, s6⟩
                     go_simp
                     with_reducible rfl
                    rotate_left
                    ·simp only [Act.put, List.setIfInBounds_toArray, List.set_cons_zero, List.set_cons_succ, i64_w, i32_w]
                     rfl
                    refine pure_ (i := 6) (N := some 68) (v := ?_) (a' := ?_) #[true, true, true, true, true, true, true, false, false, false] rfl rfl (any_of HT_.out (by kernel_rfl)) (fun _ _ _ h => h) (Or.inl ⟨by rfl, ?_⟩) ?_ ?_
                    rotate_left
                    ·intro w'
                     go_simp
                     with_reducible rfl
                    rotate_left
                    ·simp only [Act.put, List.setIfInBounds_toArray, List.set_cons_zero, List.set_cons_succ, i64_w, i32_w]
                     rfl
                    refine take_ (i := 7) (N := some 69) (v := ?_) (a' := ?_) #[true, true, true, true, true, true, true, true, false, false] rfl rfl (take_ofW HT_.out HW_.out (by kernel_rfl)) (fun _ _ _ h => h) (Or.inl ⟨by rfl, ?_⟩) hHeld ?_ ?_
                    rotate_left
                    ·rintro w' ⟨s0, s1, s2, s3, s4, s5, s6⟩
                     go_simp
                     with_reducible rfl
                    rotate_left
                    ·simp only [Act.put, List.setIfInBounds_toArray, List.set_cons_zero, List.set_cons_succ, i64_w, i32_w]
                     rfl
                    refine pure_ (i := 8) (N := some 70) (v := ?_) (a' := ?_) #[true, true, true, true, true, true, true, true, true, false] rfl rfl (any_of HT_.out (by kernel_rfl)) (fun _ _ _ h => h) (Or.inl ⟨by rfl, ?_⟩) ?_ ?_
                    rotate_left
                    ·intro w'
                     go_simp
                     with_reducible rfl
                    rotate_left
                    ·simp only [Act.put, List.setIfInBounds_toArray, List.set_cons_zero, List.set_cons_succ, i64_w, i32_w]
                     rfl
                    refine last_ (i := 9) (N := none) #[true, true, true, true, true, true, true, true, true, true] rfl rfl (one_of HT_.out (by kernel_rfl)) (by decide) (fun K hK => ?_)
                    refine skip_ (w1 := ?_) (by rfl) rfl ?_ ?_
                    rotate_left
                    ·go_simp
                     rfl
                    refine hK.out _ _ ?_
                    clear hK K
                    refine done_ (done_of HT_.out (by kernel_rfl)) ?_
                    have n0_ : Aside0 (Kd.R Kd.bool 4 (w48.setCell ⟨go44, (x42_2 : Int).toNat, none⟩ (.int .u8 (rd l0_2 x42_2))) w.heap.size (fun k_ => some k_ ≠ (v117 : Value).ownBlock) (.slice (some ad120) t103.length co47) t103) := ⟨by (with_reducible repeat (first | apply Kd.R_alloc | apply Kd.R_drewN | apply Kd.R_drew)); exact Kd.R_mono (Kd.R_far (p := ⟨go44, (x42_2 : Int).toNat, none⟩) (Kd.R_types HO_11.out GG44.out (by decide)) (fun _ hk => hk.2) (.int .u8 (rd l0_2 x42_2))) (fun _ hk => hk.1)⟩;have n1_ : Aside0 (Kd.R (Kd.int .i64) 3 (w48.setCell ⟨go44, (x42_2 : Int).toNat, none⟩ (.int .u8 (rd l0_2 x42_2))) w.heap.size (fun _ => True) (.slice Ao23 x13_2.length co23) x13_2) := ⟨by (with_reducible repeat (first | apply Kd.R_alloc | apply Kd.R_drewN | apply Kd.R_drew)); exact Kd.R_mono (Kd.R_far (p := ⟨go44, (x42_2 : Int).toNat, none⟩) (Kd.R_types HO_13.out GG44.out (by decide)) (fun _ hk => hk.2) (.int .u8 (rd l0_2 x42_2))) (fun _ hk => trivial)⟩;have n2_ : Aside0 (Kd.R Kd.bool 4 (w48.setCell ⟨go44, (x42_2 : Int).toNat, none⟩ (.int .u8 (rd l0_2 x42_2))) w.heap.size (fun k_ => some k_ ≠ (.slice (some ad120) t103.length co47 : Value).ownBlock) v117 x15_2) := ⟨by (with_reducible repeat (first | apply Kd.R_alloc | apply Kd.R_drewN | apply Kd.R_drew)); exact Kd.R_mono (Kd.R_far (p := ⟨go44, (x42_2 : Int).toNat, none⟩) (Kd.R_types HO_15.out GG44.out (by decide)) (fun _ hk => hk.2) (.int .u8 (rd l0_2 x42_2))) (fun _ hk => hk.1)⟩;have n3_ : Aside0 (Kd.R (Kd.int .u8) 5 (w48.setCell ⟨go44, (x42_2 : Int).toNat, none⟩ (.int .u8 (rd l0_2 x42_2))) w.heap.size (fun _ => True) (.slice (some ⟨go44, 0, none⟩) x112002_2.length co44) y122) := ⟨by (with_reducible repeat (first | apply Kd.R_alloc | apply Kd.R_drewN | apply Kd.R_drew)); exact HQ49.out⟩;have n4_ : Aside0 ((w48.setCell ⟨go44, (x42_2 : Int).toNat, none⟩ (.int .u8 (rd l0_2 x42_2))).heap[gb101]? = some (.cells #[.int .i64 a0_0, .int .i64 a0_1, .slice (some ad121) l0_2.length c0_2] 30 (0, 0))) := ⟨by (with_reducible repeat (first | refine blk_drewN ?_ _ | refine blk_drew ?_ | refine blk_alloc ?_ _)); refine blk_far ?_ (by have h_ := Kd.R_ne HO_112002.out BK101.out (by decide); intro e_; exact h_ (by rw [e_]; rfl)) _; exact blc⟩;have n5_ : Aside0 ((w48.setCell ⟨go44, (x42_2 : Int).toNat, none⟩ (.int .u8 (rd l0_2 x42_2))).heap[gb102]? = some (.cells #[.int .i64 0, .int .i64 0, .slice none 0 0] 30 (0, 0))) := ⟨by (with_reducible repeat (first | refine blk_drewN ?_ _ | refine blk_drew ?_ | refine blk_alloc ?_ _)); refine blk_far ?_ (by have h_ := Kd.R_ne HO_112002.out BK102.out (by decide); intro e_; exact h_ (by rw [e_]; rfl)) _; exact blc⟩;have n6_ : Aside0 ((w48.setCell ⟨go44, (x42_2 : Int).toNat, none⟩ (.int .u8 (rd l0_2 x42_2))).heap[gb111]? = some (.cells #[.int .i64 t106, .int .i64 t107, .slice (some ⟨go44, 0, none⟩) x112002_2.length co44] 30 (0, 0))) := ⟨by (with_reducible repeat (first | refine blk_drewN ?_ _ | refine blk_drew ?_ | refine blk_alloc ?_ _)); refine blk_far ?_ (by have h_ := Kd.R_ne HO_112002.out BK111.out (by decide); intro e_; exact h_ (by rw [e_]; rfl)) _; exact blc⟩;have n7_ : Aside0 (Below w.heap.size w (w48.setCell ⟨go44, (x42_2 : Int).toNat, none⟩ (.int .u8 (rd l0_2 x42_2)))) := ⟨bel HB⟩
                    (try clear HO_11)
                    (try clear HO_13)
                    (try clear HO_15)
                    (try clear HO_112002)
                    (try clear BK101)
                    (try clear BK102)
                    (try clear BK111)
                    (try clear HB)
                    generalize (w48.setCell ⟨go44, (x42_2 : Int).toNat, none⟩ (.int .u8 (rd l0_2 x42_2))) = w50 at n0_ n1_ n2_ n3_ n4_ n5_ n6_ n7_ ⊢;have HO_11 := n0_;have HO_13 := n1_;have HO_15 := n2_;have HO_112002 := n3_;have BK101 := n4_;have BK102 := n5_;have BK111 := n6_;have HB := n7_;clear n0_ n1_ n2_ n3_ n4_ n5_ n6_ n7_;have p46 : 0 ≤ (x42_2 : Int) := of_decide_eq_true (by first | (with_reducible assumption) | assumption);have q46 : (x42_2 : Int) < ((x13_2.length : Int) : Int) := of_decide_eq_true (by first | (with_reducible assumption) | assumption);obtain ⟨go46, co46, eo46, gb46, gl46, cl46, HG46⟩ := Kd.R_form HO_13.out (by omega)
                    (first | cases eo46 | (injection eo46 with ea_ en_ ec_; (first | subst ea_ | (injection ea_ with ea_; subst ea_)); subst ec_; clear en_))
                    have GB46 := Aside0.mk gb46;have GG46 := Aside0.mk HG46;clear gb46 gl46 HG46;obtain ⟨hx46_0, hf46_0⟩ := Kd.R_celln 0 HO_13.out (x42_2 : Int) p46 q46;replace p46 := eq_true p46;replace q46 := eq_true q46;obtain ⟨hy51_, hz51_⟩ := Kd.R_celln 0 HO_13.out (x42_2 : Int) (of_decide_eq_true (by first | (with_reducible assumption) | assumption)) (of_decide_eq_true (by first | (with_reducible assumption) | assumption));have HP51 := Kd.R_putg HO_13.out (x42_2 : Int) (rd l1 x42_2)
                    try go_wp2_with (first | ((with_reducible refine gate_store (t := 3) (p := 74) rfl ?_); refine store_event (t := 3) (p := 74) (v := ?vo_w52) (w1 := (w50.setCell ⟨go46, (x42_2 : Int).toNat, none⟩ (.int .i64 (rd l1 x42_2)))) ?hg ?ho ?hn ?hr ?_; (case ho => rfl); (case hg => rfl); (case hn => rfl); (case hr => first | (go_simp; done) | (go_simp; rfl)); intro w52 hw; have hg : w50.grownBy w52 (some go46) := (by rw [hw]; exact HP51.2); have hp_ : Kd.R (Kd.int .i64) 3 w52 w.heap.size (fun _ => True) (.slice (some ⟨go46, 0, none⟩) x13_2.length co23) y123 := (by rw [hw, Ny123.out]; (first | exact HP51.1 | exact R_any HP51.1)); clear HP51; have n0_ := Aside0.mk (Kd.R_over' (v := (.slice (some ⟨go46, 0, none⟩) x13_2.length co23)) (rch HO_11) (Kd.R_typed HO_13.out) (by decide) hg); have n1_ := Aside0.mk (hp_); have n2_ := Aside0.mk (Kd.R_over' (v := (.slice (some ⟨go46, 0, none⟩) x13_2.length co23)) (rch HO_15) (Kd.R_typed HO_13.out) (by decide) hg); have n3_ := Aside0.mk (Kd.R_over' (v := (.slice (some ⟨go46, 0, none⟩) x13_2.length co23)) (rch HO_112002) (Kd.R_typed HO_13.out) (by decide) hg); have n4_ := Aside0.mk (blk_grown (g := gb101) (o := .cells #[.int .i64 a0_0, .int .i64 a0_1, .slice (some ad121) l0_2.length c0_2] 30 (0, 0)) blc hg (Kd.R_ne HO_13.out BK101.out (by decide))); have n5_ := Aside0.mk (blk_grown (g := gb102) (o := .cells #[.int .i64 0, .int .i64 0, .slice none 0 0] 30 (0, 0)) blc hg (Kd.R_ne HO_13.out BK102.out (by decide))); have n6_ := Aside0.mk (blk_grown (g := gb111) (o := .cells #[.int .i64 t106, .int .i64 t107, .slice (some ⟨go44, 0, none⟩) x112002_2.length co44] 30 (0, 0)) blc hg (Kd.R_ne HO_13.out BK111.out (by decide))); have n7_ := Aside0.mk ((by rw [hw]; exact below_set (HB.out) GB46.out : Below w.heap.size w w52)); clear HO_11; clear HO_13; clear HO_15; clear HO_112002; clear BK101; clear BK102; clear BK111; clear HB; have HO_11 := n0_; have HO_13 := n1_; have HO_15 := n2_; have HO_112002 := n3_; have BK101 := n4_; have BK102 := n5_; have BK111 := n6_; have HB := n7_; clear n0_ n1_ n2_ n3_ n4_ n5_ n6_ n7_; clear hg hw hp_))
                    (try simp only [← hl13_2])
                    go_roundg k2
                    case measure => have := HK1.out; have := HK2.out; omega
                    case rel => exact ⟨(y123), (x15_2), (wrap64 (x42_2 + 1)), (y122), (.slice (some ⟨go44, 0, none⟩) x112002_2.length co44), (by first | rfl | (simp; done) | (simp [*]; done)), H', ⟨by have := HK1.out; have := HK2.out; omega⟩, ⟨by (try simp only [hl13_1]); (try simp only [hl13_2]); (with_reducible repeat (first | apply Kd.R_alloc | apply Kd.R_drewN | apply Kd.R_drew)); (first | exact HO_11.out | exact R_any HO_11.out)⟩, ⟨by (try simp only [hl13_1]); (try simp only [hl13_2]); (with_reducible repeat (first | apply Kd.R_alloc | apply Kd.R_drewN | apply Kd.R_drew)); (first | exact HO_13.out | exact R_any HO_13.out)⟩, ⟨by (try simp only [hl13_1]); (try simp only [hl13_2]); (with_reducible repeat (first | apply Kd.R_alloc | apply Kd.R_drewN | apply Kd.R_drew)); (first | exact HO_15.out | exact R_any HO_15.out)⟩, ⟨by (try simp only [hl13_1]); (try simp only [hl13_2]); (with_reducible repeat (first | apply Kd.R_alloc | apply Kd.R_drewN | apply Kd.R_drew)); (first | exact HO_112002.out | exact R_any HO_112002.out)⟩, ⟨by (try simp only [hl13_1]); (try simp only [hl13_2]); exact blc⟩, ⟨by (try simp only [hl13_1]); (try simp only [hl13_2]); exact blc⟩, ⟨by (try simp only [hl13_1]); (try simp only [hl13_2]); exact blc⟩, ⟨bel HB⟩⟩
                   ·rw [if_neg c45] at H
                    exact absurd H (by simp)
                  ·rw [if_neg c43] at H
                   exact absurd H (by simp)
                 ·rw [if_neg c42] at H
                  exact absurd H (by simp)
                ·replace c41 := Bool.eq_false_iff.mpr c41
                 subst c41
                 have H1 : ((spec_tiAhead.f a0_0 a0_1 l0_2 x42_2 a3).bind fun t124 => (if (rd l1 x42_2) < (x15_2.length : Int) then (if x42_2 < (l0_2.length : Int) then (if 0 ≤ t124 then (if t124 < (x112002_2.length : Int) then (if t124 < (x13_2.length : Int) then (spec_skMove.l1 k2 a3 t103 (x13_2.set (t124 : Int).toNat (rd l1 x42_2)) (x15_2.set ((rd l1 x42_2) : Int).toNat true) l1 (l1.length : Int) (wrap64 (x42_2 + 1)) a0_0 a0_1 l0_2 t106 t107 (x112002_2.set (t124 : Int).toNat (rd l0_2 x42_2))) else (none)) else (none)) else (none)) else (none)) else (none))) = some (r1, r2, r3, r4, r5) := by rw [if_neg (show ¬ (false = true) by decide)] at H; exact H
                 clear H;have H := H1;clear H1;replace H := Option.bind_eq_some_iff.mp H;obtain ⟨t124, A530, H⟩ := H;replace H : (if (rd l1 x42_2) < (x15_2.length : Int) then (if x42_2 < (l0_2.length : Int) then (if 0 ≤ t124 then (if t124 < (x112002_2.length : Int) then (if t124 < (x13_2.length : Int) then (spec_skMove.l1 k2 a3 t103 (x13_2.set (t124 : Int).toNat (rd l1 x42_2)) (x15_2.set ((rd l1 x42_2) : Int).toNat true) l1 (l1.length : Int) (wrap64 (x42_2 + 1)) a0_0 a0_1 l0_2 t106 t107 (x112002_2.set (t124 : Int).toNat (rd l0_2 x42_2))) else (none)) else (none)) else (none)) else (none)) else (none)) = some (r1, r2, r3, r4, r5) := H;have A53 := Aside0.mk A530;clear A530
                 by_cases c54 : (rd l1 x42_2) < (x15_2.length : Int)
                 ·rw [if_pos c54] at H
                  have c54b0 : decide ((rd l1 x42_2) < (x15_2.length : Int)) = true := decide_eq_true c54;clear c54;obtain ⟨y125, hy125⟩ : ∃ y_ : List Bool, y_ = (x15_2.set ((rd l1 x42_2) : Int).toNat true) := ⟨_, rfl⟩;replace H : (if x42_2 < (l0_2.length : Int) then (if 0 ≤ t124 then (if t124 < (x112002_2.length : Int) then (if t124 < (x13_2.length : Int) then (spec_skMove.l1 k2 a3 t103 (x13_2.set (t124 : Int).toNat (rd l1 x42_2)) y125 l1 (l1.length : Int) (wrap64 (x42_2 + 1)) a0_0 a0_1 l0_2 t106 t107 (x112002_2.set (t124 : Int).toNat (rd l0_2 x42_2))) else (none)) else (none)) else (none)) else (none)) = some (r1, r2, r3, r4, r5) := rH hy125 H;have Ny125 := Aside0.mk hy125;clear hy125
                  by_cases c56 : x42_2 < (l0_2.length : Int)
                  ·rw [if_pos c56] at H
                   have c56b0 : decide (x42_2 < (l0_2.length : Int)) = true := decide_eq_true c56;clear c56
                   by_cases c57 : 0 ≤ t124
                   ·rw [if_pos c57] at H
                    have c57b0 : decide (0 ≤ t124) = true := decide_eq_true c57;clear c57
                    by_cases c58 : t124 < (x112002_2.length : Int)
                    ·rw [if_pos c58] at H
                     have c58b0 : decide (t124 < (x112002_2.length : Int)) = true := decide_eq_true c58;clear c58;obtain ⟨y127, hy127⟩ : ∃ y_ : List Int, y_ = (x112002_2.set (t124 : Int).toNat (rd l0_2 x42_2)) := ⟨_, rfl⟩;replace H : (if t124 < (x13_2.length : Int) then (spec_skMove.l1 k2 a3 t103 (x13_2.set (t124 : Int).toNat (rd l1 x42_2)) y125 l1 (l1.length : Int) (wrap64 (x42_2 + 1)) a0_0 a0_1 l0_2 t106 t107 y127) else (none)) = some (r1, r2, r3, r4, r5) := rH hy127 H;have Ny127 := Aside0.mk hy127;clear hy127
                     by_cases c60 : t124 < (x13_2.length : Int)
                     ·rw [if_pos c60] at H
                      have c60b0 : decide (t124 < (x13_2.length : Int)) = true := decide_eq_true c60;clear c60;obtain ⟨y128, hy128⟩ : ∃ y_ : List Int, y_ = (x13_2.set (t124 : Int).toNat (rd l1 x42_2)) := ⟨_, rfl⟩;replace H : (spec_skMove.l1 k2 a3 t103 y128 y125 l1 (l1.length : Int) (wrap64 (x42_2 + 1)) a0_0 a0_1 l0_2 t106 t107 y127) = some (r1, r2, r3, r4, r5) := rH hy128 H;have Ny128 := Aside0.mk hy128;clear hy128;have H' := Aside0.mk H;clear H;have p119 : 0 ≤ (x42_2 : Int) := of_decide_eq_true (by first | (with_reducible assumption) | assumption);have q119 : x42_2 < (l1.length : Int) := of_decide_eq_true (by first | (with_reducible assumption) | assumption);obtain ⟨ad119, e119, hx119_0⟩ := Kd.at_int HR1.out x42_2 p119 q119
                      cases e119
                      (try replace hx119_0 := (HB.out.cell (World.block_lt_of_cell? w _ hx119_0)).trans hx119_0)
                      replace p119 := eq_true p119;replace q119 := eq_true q119;obtain ⟨Ao62, co62, eo62⟩ := Kd.R_slice HO_11.out;subst eo62;have p120 : 0 ≤ ((rd l1 x42_2) : Int) := of_decide_eq_true (by first | (with_reducible assumption) | assumption);have q120 : (rd l1 x42_2) < (t103.length : Int) := of_decide_eq_true (by first | (with_reducible assumption) | assumption);obtain ⟨ad120, e120, hx120_0⟩ := Kd.at_bool (Kd.R_reads' HO_11.out).2.2 (rd l1 x42_2) p120 q120
                      (try rw [← Nbq40.out] at hx120_0)
                      cases e120
                      replace p120 := eq_true p120;replace q120 := eq_true q120;have hnb63 := NB101_102.out;have hnc63 := NB102_101.out;have hnb64 := NB101_111.out;have hnc64 := NB111_101.out;have hcz65_0 : wr.cell? ⟨gb101, 0, none⟩ = some (.int .i64 a0_0) := (blk_cell BK101.out 0).trans rfl;have hcz65_1 : wr.cell? ⟨gb101, 1, none⟩ = some (.int .i64 a0_1) := (blk_cell BK101.out 1).trans rfl;have hcz65_2 : wr.cell? ⟨gb101, 2, none⟩ = some (.slice A0_2 l0_2.length c0_2) := (blk_cell BK101.out 2).trans rfl;have hfz65_0 := blk_frozen BK101.out 0;have hfz65_1 := blk_frozen BK101.out 1;have hfz65_2 := blk_frozen BK101.out 2
                      try go_wp2_with (first | ((with_reducible refine gate_callee (f := 61) rfl ?_); refine gcall (some 58) Tryd.func61 #[.agg #[.int .i64 a0_0, .int .i64 a0_1, .slice A0_2 l0_2.length c0_2], .int .i64 x42_2, .int .i64 a3] rfl ?_; (with_reducible refine (spec_tiAhead.calls a0_0 a0_1 _ _ l0_2 x42_2 a3 t124 _ ?side1 ?side2 A53.out).mono ?_); (case side1 => repeat (first | exact (Kd.C_below HR0_2.out HB.out) | (with_reducible refine Kd.C_alloc ?_ _) | (with_reducible refine Kd.C_drewN ?_ _) | (with_reducible refine Kd.C_drew ?_))); (case side2 => exact HC0_2.out); rintro e w66 ⟨rfl, hb⟩; refine ⟨_, rfl, ?_⟩; have n0_ := Aside0.mk (Kd.R_below (rch HO_11) hb); have n1_ := Aside0.mk (Kd.R_below (rch HO_13) hb); have n2_ := Aside0.mk (Kd.R_below (rch HO_15) hb); have n3_ := Aside0.mk (Kd.R_below (rch HO_112002) hb); have n4_ := Aside0.mk (blk_below (g := gb101) (o := .cells #[.int .i64 a0_0, .int .i64 a0_1, .slice A0_2 l0_2.length c0_2] 30 (0, 0)) blc hb); have n5_ := Aside0.mk (blk_below (g := gb102) (o := .cells #[.int .i64 0, .int .i64 0, .slice none 0 0] 30 (0, 0)) blc hb); have n6_ := Aside0.mk (blk_below (g := gb111) (o := .cells #[.int .i64 t106, .int .i64 t107, u112002] 30 (0, 0)) blc hb); have n7_ := Aside0.mk (below_step (bel HB) hb); clear HO_11; clear HO_13; clear HO_15; clear HO_112002; clear BK101; clear BK102; clear BK111; clear HB; have HO_11 := n0_; have HO_13 := n1_; have HO_15 := n2_; have HO_112002 := n3_; have BK101 := n4_; have BK102 := n5_; have BK111 := n6_; have HB := n7_; clear n0_ n1_ n2_ n3_ n4_ n5_ n6_ n7_; (try clear hb); (try clear hb2); (try clear hk); (try clear hi); have p55 : 0 ≤ ((rd l1 x42_2) : Int) := of_decide_eq_true (by first | (with_reducible assumption) | assumption); have q55 : ((rd l1 x42_2) : Int) < ((x15_2.length : Int) : Int) := of_decide_eq_true (by first | (with_reducible assumption) | assumption); obtain ⟨go55, co55, eo55, gb55, gl55, cl55, HG55⟩ := Kd.R_form HO_15.out (by omega); (first | cases eo55 | (injection eo55 with ea_ en_ ec_; (first | subst ea_ | (injection ea_ with ea_; subst ea_)); subst ec_; clear en_)); have GB55 := Aside0.mk gb55; have GG55 := Aside0.mk HG55; clear gb55 gl55 HG55; obtain ⟨hx55_0, hf55_0⟩ := Kd.R_celln false HO_15.out ((rd l1 x42_2) : Int) p55 q55; replace p55 := eq_true p55; replace q55 := eq_true q55; obtain ⟨hy67_, hz67_⟩ := Kd.R_celln false HO_15.out ((rd l1 x42_2) : Int) (of_decide_eq_true (by first | (with_reducible assumption) | assumption)) (of_decide_eq_true (by first | (with_reducible assumption) | assumption)); have HP67 := Kd.R_putg HO_15.out ((rd l1 x42_2) : Int) true) | ((with_reducible refine gate_store (t := 4) (p := 61) rfl ?_); refine store_event (t := 4) (p := 61) (v := ?vo_w68) (w1 := (w66.setCell ⟨go55, ((rd l1 x42_2) : Int).toNat, none⟩ (.bool true))) ?hg ?ho ?hn ?hr ?_; (case ho => rfl); (case hg => rfl); (case hn => rfl); (case hr => first | (go_simp; done) | (go_simp; rfl)); intro w68 hw; have hg : w66.grownBy w68 (some go55) := (by rw [hw]; exact HP67.2); have hp_ : Kd.R Kd.bool 4 w68 w.heap.size (fun k_ => some k_ ≠ (.slice (some ad120) t103.length co62 : Value).ownBlock) (.slice (some ⟨go55, 0, none⟩) x15_2.length co55) y125 := (by rw [hw, Ny125.out]; (first | exact HP67.1 | exact R_any HP67.1)); clear HP67; have n0_ := Aside0.mk (Kd.R_after (v := (.slice (some ⟨go55, 0, none⟩) x15_2.length co55)) (v1 := (.slice (some ⟨go55, 0, none⟩) x15_2.length co55)) (ok := (fun _ => True)) (by (with_reducible repeat (first | apply Kd.R_alloc | apply Kd.R_drewN | apply Kd.R_drew)); exact Kd.R_mono HO_11.out (fun _ hk => ⟨trivial, hk⟩)) hg (.inl rfl)); have n1_ := Aside0.mk (Kd.R_over' (v := (.slice (some ⟨go55, 0, none⟩) x15_2.length co55)) (rch HO_13) (Kd.R_typed HO_15.out) (by decide) hg); have n2_ := Aside0.mk (hp_); have n3_ := Aside0.mk (Kd.R_over' (v := (.slice (some ⟨go55, 0, none⟩) x15_2.length co55)) (rch HO_112002) (Kd.R_typed HO_15.out) (by decide) hg); have n4_ := Aside0.mk (blk_grown (g := gb101) (o := .cells #[.int .i64 a0_0, .int .i64 a0_1, .slice A0_2 l0_2.length c0_2] 30 (0, 0)) blc hg (Kd.R_ne HO_15.out BK101.out (by decide))); have n5_ := Aside0.mk (blk_grown (g := gb102) (o := .cells #[.int .i64 0, .int .i64 0, .slice none 0 0] 30 (0, 0)) blc hg (Kd.R_ne HO_15.out BK102.out (by decide))); have n6_ := Aside0.mk (blk_grown (g := gb111) (o := .cells #[.int .i64 t106, .int .i64 t107, u112002] 30 (0, 0)) blc hg (Kd.R_ne HO_15.out BK111.out (by decide))); have n7_ := Aside0.mk ((by rw [hw]; exact below_set (HB.out) GB55.out : Below w.heap.size w w68)); clear HO_11; clear HO_13; clear HO_15; clear HO_112002; clear BK101; clear BK102; clear BK111; clear HB; have HO_11 := n0_; have HO_13 := n1_; have HO_15 := n2_; have HO_112002 := n3_; have BK101 := n4_; have BK102 := n5_; have BK111 := n6_; have HB := n7_; clear n0_ n1_ n2_ n3_ n4_ n5_ n6_ n7_; clear hg hw hp_))
                      have n0_ := Aside0.mk (Kd.R_drew HO_11.out);have n1_ := Aside0.mk (Kd.R_drew HO_13.out);have n2_ := Aside0.mk (Kd.R_drew HO_15.out);have n3_ := Aside0.mk (Kd.R_drew HO_112002.out);have n4_ := Aside0.mk (blk_drew BK101.out);have n5_ := Aside0.mk (blk_drew BK102.out);have n6_ := Aside0.mk (blk_drew BK111.out);have n7_ := Aside0.mk (below_drew1 HB.out);clear HO_11;clear HO_13;clear HO_15;clear HO_112002;clear BK101;clear BK102;clear BK111;clear HB;have HO_11 := n0_;have HO_13 := n1_;have HO_15 := n2_;have HO_112002 := n3_;have BK101 := n4_;have BK102 := n5_;have BK111 := n6_;have HB := n7_;clear n0_ n1_ n2_ n3_ n4_ n5_ n6_ n7_;have p126 : 0 ≤ (x42_2 : Int) := of_decide_eq_true (by first | (with_reducible assumption) | assumption);have q126 : x42_2 < (l0_2.length : Int) := of_decide_eq_true (by first | (with_reducible assumption) | assumption);obtain ⟨ad126, e126, hx126_0⟩ := Kd.at_int HR0_2.out x42_2 p126 q126;have hw126_0 := hx126_0
                      cases e126
                      (try replace hx126_0 := (HB.out.cell (World.block_lt_of_cell? w _ hx126_0)).trans hx126_0)
                      replace p126 := eq_true p126;replace q126 := eq_true q126;have p59 : 0 ≤ (t124 : Int) := of_decide_eq_true (by first | (with_reducible assumption) | assumption);have q59 : (t124 : Int) < ((x112002_2.length : Int) : Int) := of_decide_eq_true (by first | (with_reducible assumption) | assumption);obtain ⟨go59, co59, eo59, gb59, gl59, cl59, HG59⟩ := Kd.R_form HO_112002.out (by omega)
                      (first | cases eo59 | (injection eo59 with ea_ en_ ec_; (first | subst ea_ | (injection ea_ with ea_; subst ea_)); subst ec_; clear en_))
                      have GB59 := Aside0.mk gb59;have GG59 := Aside0.mk HG59;clear gb59 gl59 HG59;obtain ⟨hx59_0, hf59_0⟩ := Kd.R_celln 0 HO_112002.out (t124 : Int) p59 q59;replace p59 := eq_true p59;replace q59 := eq_true q59;have HP70 := Kd.R_putn HO_112002.out (t124 : Int) (rd l0_2 x42_2)
                      rw [← Ny127.out] at HP70
                      have HQ70 := Aside0.mk HP70;clear HP70
                      refine start_ (n := 10) (S := fun w' => w'.cell? ⟨gb111, 0, none⟩ = some (.int .i64 t106) ∧ w'.cell? ⟨gb111, 1, none⟩ = some (.int .i64 t107) ∧ w'.cell? ⟨gb111, 2, none⟩ = some (.slice (some ⟨go59, 0, none⟩) x112002_2.length co59) ∧ w'.cell? ⟨gb101, 0, none⟩ = some (.int .i64 a0_0) ∧ w'.cell? ⟨gb101, 1, none⟩ = some (.int .i64 a0_1) ∧ w'.cell? ⟨gb101, 2, none⟩ = some (.slice (some ad126) l0_2.length c0_2) ∧ w'.cell? (ad126.add (x42_2).toNat) = some (.int .u8 (rd l0_2 x42_2))) (ds := [9]) #[false, false, false, false, false, false, false, false, false, false] (by kernel_rfl) rfl rfl ⟨(blk_cell BK111.out 0).trans rfl, (blk_cell BK111.out 1).trans rfl, (blk_cell BK111.out 2).trans rfl, (blk_cell BK101.out 0).trans rfl, (blk_cell BK101.out 1).trans rfl, (blk_cell BK101.out 2).trans rfl, ((HB.out.cell (World.block_lt_of_cell? w _ hw126_0)).trans hw126_0)⟩ (fun hHeld => ?_); refine with_tabW spec_skMove.tab18 spec_skMove.bits18 (fun HT_ HW_ => ?_)
                      generalize w68.drew = w69 at HO_11 HO_13 HO_15 HO_112002 BK101 BK102 BK111 HB GG59 HQ70 hf59_0 hx126_0 hx59_0 hHeld ⊢
                      refine pure_ (i := 0) (N := some 62) (v := ?_) (a' := ?_) #[true, false, false, false, false, false, false, false, false, false] rfl rfl (any_of HT_.out (by kernel_rfl)) (fun _ _ _ h => h) (Or.inl ⟨by rfl, ?_⟩) ?_ ?_
                      rotate_left
                      ·intro w'
                       go_simp
                       with_reducible rfl
                      rotate_left
                      ·simp only [Act.put, List.setIfInBounds_toArray, List.set_cons_zero, List.set_cons_succ, i64_w, i32_w]
                       rfl
                      refine pure_ (i := 2) (N := some 64) (v := ?_) (a' := ?_) #[true, false, true, false, false, false, false, false, false, false] rfl rfl (any_of HT_.out (by kernel_rfl)) (fun _ _ _ h => h) (Or.inl ⟨by rfl, ?_⟩) ?_ ?_
                      rotate_left
                      ·intro w'
                       go_simp
                       with_reducible rfl
                      rotate_left
                      ·simp only [Act.put, List.setIfInBounds_toArray, List.set_cons_zero, List.set_cons_succ, i64_w, i32_w]
                       rfl
                      refine pure_ (i := 3) (N := some 65) (v := ?_) (a' := ?_) #[true, false, true, true, false, false, false, false, false, false] rfl rfl (any_of HT_.out (by kernel_rfl)) (fun _ _ _ h => h) (Or.inl ⟨by rfl, ?_⟩) ?_ ?_
                      rotate_left
                      ·intro w'
                       go_simp
                       with_reducible rfl
                      rotate_left
                      ·simp only [Act.put, List.setIfInBounds_toArray, List.set_cons_zero, List.set_cons_succ, i64_w, i32_w]
                       rfl
                      refine pure_ (i := 5) (N := some 67) (v := ?_) (a' := ?_) #[true, false, true, true, false, true, false, false, false, false] rfl rfl (any_of HT_.out (by kernel_rfl)) (fun _ _ _ h => h) (Or.inl ⟨by rfl, ?_⟩) ?_ ?_
                      rotate_left
                      ·intro w'
                       go_simp
                       with_reducible rfl
                      rotate_left
                      ·simp only [Act.put, List.setIfInBounds_toArray, List.set_cons_zero, List.set_cons_succ, i64_w, i32_w]
                       rfl
                      refine take_ (i := 1) (N := some 63) (v := ?_) (a' := ?_) #[true, true, true, true, false, true, false, false, false, false] rfl rfl (take_ofW HT_.out HW_.out (by kernel_rfl)) (fun _ _ _ h => h) (Or.inl ⟨by rfl, ?_⟩) hHeld ?_ ?_
                      rotate_left
                      ·rintro w' ⟨s0, s1, s2, s3, s4, s5, s6⟩
                       go_simp
                       with_reducible rfl
                      rotate_left
                      ·simp only [Act.put, List.setIfInBounds_toArray, List.set_cons_zero, List.set_cons_succ, i64_w, i32_w]
                       rfl
                      refine take_ (i := 4) (N := some 66) (v := ?_) (a' := ?_) #[true, true, true, true, true, true, false, false, false, false] rfl rfl (take_ofW HT_.out HW_.out (by kernel_rfl)) (fun _ _ _ h => h) (Or.inl ⟨by rfl, ?_⟩) hHeld ?_ ?_
                      rotate_left
                      ·rintro w' ⟨s0, s1, s2, s3, s4, s5, s6⟩
                       go_simp
                       with_reducible rfl
                      rotate_left
                      ·simp only [Act.put, List.setIfInBounds_toArray, List.set_cons_zero, List.set_cons_succ, i64_w, i32_w]
                       rfl
                      refine pure_ (i := 6) (N := some 68) (v := ?_) (a' := ?_) #[true, true, true, true, true, true, true, false, false, false] rfl rfl (any_of HT_.out (by kernel_rfl)) (fun _ _ _ h => h) (Or.inl ⟨by rfl, ?_⟩) ?_ ?_
                      rotate_left
                      ·intro w'
                       go_simp
                       with_reducible rfl
                      rotate_left
                      ·simp only [Act.put, List.setIfInBounds_toArray, List.set_cons_zero, List.set_cons_succ, i64_w, i32_w]
                       rfl
                      refine take_ (i := 7) (N := some 69) (v := ?_) (a' := ?_) #[true, true, true, true, true, true, true, true, false, false] rfl rfl (take_ofW HT_.out HW_.out (by kernel_rfl)) (fun _ _ _ h => h) (Or.inl ⟨by rfl, ?_⟩) hHeld ?_ ?_
                      rotate_left
                      ·rintro w' ⟨s0, s1, s2, s3, s4, s5, s6⟩
                       go_simp
                       with_reducible rfl
                      rotate_left
                      ·simp only [Act.put, List.setIfInBounds_toArray, List.set_cons_zero, List.set_cons_succ, i64_w, i32_w]
                       rfl
                      refine pure_ (i := 8) (N := some 70) (v := ?_) (a' := ?_) #[true, true, true, true, true, true, true, true, true, false] rfl rfl (any_of HT_.out (by kernel_rfl)) (fun _ _ _ h => h) (Or.inl ⟨by rfl, ?_⟩) ?_ ?_
                      rotate_left
                      ·intro w'
                       go_simp
                       with_reducible rfl
                      rotate_left
                      ·simp only [Act.put, List.setIfInBounds_toArray, List.set_cons_zero, List.set_cons_succ, i64_w, i32_w]
                       rfl
                      refine last_ (i := 9) (N := none) #[true, true, true, true, true, true, true, true, true, true] rfl rfl (one_of HT_.out (by kernel_rfl)) (by decide) (fun K hK => ?_)
                      refine skip_ (w1 := ?_) (by rfl) rfl ?_ ?_
                      rotate_left
                      ·go_simp
                       rfl
                      refine hK.out _ _ ?_
                      clear hK K
                      refine done_ (done_of HT_.out (by kernel_rfl)) ?_
                      have n0_ : Aside0 (Kd.R Kd.bool 4 (w69.setCell ⟨go59, (t124 : Int).toNat, none⟩ (.int .u8 (rd l0_2 x42_2))) w.heap.size (fun k_ => some k_ ≠ (.slice (some ⟨go55, 0, none⟩) x15_2.length co55 : Value).ownBlock) (.slice (some ad120) t103.length co62) t103) := ⟨by (with_reducible repeat (first | apply Kd.R_alloc | apply Kd.R_drewN | apply Kd.R_drew)); exact Kd.R_mono (Kd.R_far (p := ⟨go59, (t124 : Int).toNat, none⟩) (Kd.R_types HO_11.out GG59.out (by decide)) (fun _ hk => hk.2) (.int .u8 (rd l0_2 x42_2))) (fun _ hk => hk.1.2)⟩;have n1_ : Aside0 (Kd.R (Kd.int .i64) 3 (w69.setCell ⟨go59, (t124 : Int).toNat, none⟩ (.int .u8 (rd l0_2 x42_2))) w.heap.size (fun _ => True) (.slice Ao23 x13_2.length co23) x13_2) := ⟨by (with_reducible repeat (first | apply Kd.R_alloc | apply Kd.R_drewN | apply Kd.R_drew)); exact Kd.R_mono (Kd.R_far (p := ⟨go59, (t124 : Int).toNat, none⟩) (Kd.R_types HO_13.out GG59.out (by decide)) (fun _ hk => hk.2) (.int .u8 (rd l0_2 x42_2))) (fun _ hk => trivial)⟩;have n2_ : Aside0 (Kd.R Kd.bool 4 (w69.setCell ⟨go59, (t124 : Int).toNat, none⟩ (.int .u8 (rd l0_2 x42_2))) w.heap.size (fun k_ => some k_ ≠ (.slice (some ad120) t103.length co62 : Value).ownBlock) (.slice (some ⟨go55, 0, none⟩) x15_2.length co55) y125) := ⟨by (with_reducible repeat (first | apply Kd.R_alloc | apply Kd.R_drewN | apply Kd.R_drew)); exact Kd.R_mono (Kd.R_far (p := ⟨go59, (t124 : Int).toNat, none⟩) (Kd.R_types HO_15.out GG59.out (by decide)) (fun _ hk => hk.2) (.int .u8 (rd l0_2 x42_2))) (fun _ hk => hk.1)⟩;have n3_ : Aside0 (Kd.R (Kd.int .u8) 5 (w69.setCell ⟨go59, (t124 : Int).toNat, none⟩ (.int .u8 (rd l0_2 x42_2))) w.heap.size (fun _ => True) (.slice (some ⟨go59, 0, none⟩) x112002_2.length co59) y127) := ⟨by (with_reducible repeat (first | apply Kd.R_alloc | apply Kd.R_drewN | apply Kd.R_drew)); exact HQ70.out⟩;have n4_ : Aside0 ((w69.setCell ⟨go59, (t124 : Int).toNat, none⟩ (.int .u8 (rd l0_2 x42_2))).heap[gb101]? = some (.cells #[.int .i64 a0_0, .int .i64 a0_1, .slice (some ad126) l0_2.length c0_2] 30 (0, 0))) := ⟨by (with_reducible repeat (first | refine blk_drewN ?_ _ | refine blk_drew ?_ | refine blk_alloc ?_ _)); refine blk_far ?_ (by have h_ := Kd.R_ne HO_112002.out BK101.out (by decide); intro e_; exact h_ (by rw [e_]; rfl)) _; exact blc⟩;have n5_ : Aside0 ((w69.setCell ⟨go59, (t124 : Int).toNat, none⟩ (.int .u8 (rd l0_2 x42_2))).heap[gb102]? = some (.cells #[.int .i64 0, .int .i64 0, .slice none 0 0] 30 (0, 0))) := ⟨by (with_reducible repeat (first | refine blk_drewN ?_ _ | refine blk_drew ?_ | refine blk_alloc ?_ _)); refine blk_far ?_ (by have h_ := Kd.R_ne HO_112002.out BK102.out (by decide); intro e_; exact h_ (by rw [e_]; rfl)) _; exact blc⟩;have n6_ : Aside0 ((w69.setCell ⟨go59, (t124 : Int).toNat, none⟩ (.int .u8 (rd l0_2 x42_2))).heap[gb111]? = some (.cells #[.int .i64 t106, .int .i64 t107, .slice (some ⟨go59, 0, none⟩) x112002_2.length co59] 30 (0, 0))) := ⟨by (with_reducible repeat (first | refine blk_drewN ?_ _ | refine blk_drew ?_ | refine blk_alloc ?_ _)); refine blk_far ?_ (by have h_ := Kd.R_ne HO_112002.out BK111.out (by decide); intro e_; exact h_ (by rw [e_]; rfl)) _; exact blc⟩;have n7_ : Aside0 (Below w.heap.size w (w69.setCell ⟨go59, (t124 : Int).toNat, none⟩ (.int .u8 (rd l0_2 x42_2)))) := ⟨bel HB⟩
                      (try clear HO_11)
                      (try clear HO_13)
                      (try clear HO_15)
                      (try clear HO_112002)
                      (try clear BK101)
                      (try clear BK102)
                      (try clear BK111)
                      (try clear HB)
                      generalize (w69.setCell ⟨go59, (t124 : Int).toNat, none⟩ (.int .u8 (rd l0_2 x42_2))) = w71 at n0_ n1_ n2_ n3_ n4_ n5_ n6_ n7_ ⊢;have HO_11 := n0_;have HO_13 := n1_;have HO_15 := n2_;have HO_112002 := n3_;have BK101 := n4_;have BK102 := n5_;have BK111 := n6_;have HB := n7_;clear n0_ n1_ n2_ n3_ n4_ n5_ n6_ n7_;have p61 : 0 ≤ (t124 : Int) := of_decide_eq_true (by first | (with_reducible assumption) | assumption);have q61 : (t124 : Int) < ((x13_2.length : Int) : Int) := of_decide_eq_true (by first | (with_reducible assumption) | assumption);obtain ⟨go61, co61, eo61, gb61, gl61, cl61, HG61⟩ := Kd.R_form HO_13.out (by omega)
                      (first | cases eo61 | (injection eo61 with ea_ en_ ec_; (first | subst ea_ | (injection ea_ with ea_; subst ea_)); subst ec_; clear en_))
                      have GB61 := Aside0.mk gb61;have GG61 := Aside0.mk HG61;clear gb61 gl61 HG61;obtain ⟨hx61_0, hf61_0⟩ := Kd.R_celln 0 HO_13.out (t124 : Int) p61 q61;replace p61 := eq_true p61;replace q61 := eq_true q61;obtain ⟨hy72_, hz72_⟩ := Kd.R_celln 0 HO_13.out (t124 : Int) (of_decide_eq_true (by first | (with_reducible assumption) | assumption)) (of_decide_eq_true (by first | (with_reducible assumption) | assumption));have HP72 := Kd.R_putg HO_13.out (t124 : Int) (rd l1 x42_2)
                      try go_wp2_with (first | ((with_reducible refine gate_store (t := 3) (p := 74) rfl ?_); refine store_event (t := 3) (p := 74) (v := ?vo_w73) (w1 := (w71.setCell ⟨go61, (t124 : Int).toNat, none⟩ (.int .i64 (rd l1 x42_2)))) ?hg ?ho ?hn ?hr ?_; (case ho => rfl); (case hg => rfl); (case hn => rfl); (case hr => first | (go_simp; done) | (go_simp; rfl)); intro w73 hw; have hg : w71.grownBy w73 (some go61) := (by rw [hw]; exact HP72.2); have hp_ : Kd.R (Kd.int .i64) 3 w73 w.heap.size (fun _ => True) (.slice (some ⟨go61, 0, none⟩) x13_2.length co23) y128 := (by rw [hw, Ny128.out]; (first | exact HP72.1 | exact R_any HP72.1)); clear HP72; have n0_ := Aside0.mk (Kd.R_over' (v := (.slice (some ⟨go61, 0, none⟩) x13_2.length co23)) (rch HO_11) (Kd.R_typed HO_13.out) (by decide) hg); have n1_ := Aside0.mk (hp_); have n2_ := Aside0.mk (Kd.R_over' (v := (.slice (some ⟨go61, 0, none⟩) x13_2.length co23)) (rch HO_15) (Kd.R_typed HO_13.out) (by decide) hg); have n3_ := Aside0.mk (Kd.R_over' (v := (.slice (some ⟨go61, 0, none⟩) x13_2.length co23)) (rch HO_112002) (Kd.R_typed HO_13.out) (by decide) hg); have n4_ := Aside0.mk (blk_grown (g := gb101) (o := .cells #[.int .i64 a0_0, .int .i64 a0_1, .slice (some ad126) l0_2.length c0_2] 30 (0, 0)) blc hg (Kd.R_ne HO_13.out BK101.out (by decide))); have n5_ := Aside0.mk (blk_grown (g := gb102) (o := .cells #[.int .i64 0, .int .i64 0, .slice none 0 0] 30 (0, 0)) blc hg (Kd.R_ne HO_13.out BK102.out (by decide))); have n6_ := Aside0.mk (blk_grown (g := gb111) (o := .cells #[.int .i64 t106, .int .i64 t107, .slice (some ⟨go59, 0, none⟩) x112002_2.length co59] 30 (0, 0)) blc hg (Kd.R_ne HO_13.out BK111.out (by decide))); have n7_ := Aside0.mk ((by rw [hw]; exact below_set (HB.out) GB61.out : Below w.heap.size w w73)); clear HO_11; clear HO_13; clear HO_15; clear HO_112002; clear BK101; clear BK102; clear BK111; clear HB; have HO_11 := n0_; have HO_13 := n1_; have HO_15 := n2_; have HO_112002 := n3_; have BK101 := n4_; have BK102 := n5_; have BK111 := n6_; have HB := n7_; clear n0_ n1_ n2_ n3_ n4_ n5_ n6_ n7_; clear hg hw hp_))
                      (try simp only [← hl13_2])
                      go_roundg k2
                      case measure => have := HK1.out; have := HK2.out; omega
                      case rel => exact ⟨(y128), (y125), (wrap64 (x42_2 + 1)), (y127), (.slice (some ⟨go59, 0, none⟩) x112002_2.length co59), (by first | rfl | (simp; done) | (simp [*]; done)), H', ⟨by have := HK1.out; have := HK2.out; omega⟩, ⟨by (try simp only [hl13_1]); (try simp only [hl13_2]); (with_reducible repeat (first | apply Kd.R_alloc | apply Kd.R_drewN | apply Kd.R_drew)); (first | exact HO_11.out | exact R_any HO_11.out)⟩, ⟨by (try simp only [hl13_1]); (try simp only [hl13_2]); (with_reducible repeat (first | apply Kd.R_alloc | apply Kd.R_drewN | apply Kd.R_drew)); (first | exact HO_13.out | exact R_any HO_13.out)⟩, ⟨by (try simp only [hl13_1]); (try simp only [hl13_2]); (with_reducible repeat (first | apply Kd.R_alloc | apply Kd.R_drewN | apply Kd.R_drew)); (first | exact HO_15.out | exact R_any HO_15.out)⟩, ⟨by (try simp only [hl13_1]); (try simp only [hl13_2]); (with_reducible repeat (first | apply Kd.R_alloc | apply Kd.R_drewN | apply Kd.R_drew)); (first | exact HO_112002.out | exact R_any HO_112002.out)⟩, ⟨by (try simp only [hl13_1]); (try simp only [hl13_2]); exact blc⟩, ⟨by (try simp only [hl13_1]); (try simp only [hl13_2]); exact blc⟩, ⟨by (try simp only [hl13_1]); (try simp only [hl13_2]); exact blc⟩, ⟨bel HB⟩⟩
                     ·rw [if_neg c60] at H
                      exact absurd H (by simp)
                    ·rw [if_neg c58] at H
                     exact absurd H (by simp)
                   ·rw [if_neg c57] at H
                    exact absurd H (by simp)
                  ·rw [if_neg c56] at H
                   exact absurd H (by simp)
                 ·rw [if_neg c54] at H
                  exact absurd H (by simp)
               ·rw [if_neg c39] at H
                exact absurd H (by simp)
              ·rw [if_neg c38] at H
               exact absurd H (by simp)
            ·rw [if_neg c36] at H
             exact absurd H (by simp)
           ·rw [if_neg c35] at H
            exact absurd H (by simp)
          ·rw [if_neg c34] at H
           have c34b0 : decide (x42_2 < (l1.length : Int)) = false := decide_eq_false c34
           (try (have c34b0y := c34b0; first | rw [hl13_1] at c34b0y | rw [hl13_2] at c34b0y))
           clear c34
           simp only [Option.some.injEq, Prod.mk.injEq] at H
           obtain ⟨rfl, rfl, rfl, rfl, rfl⟩ := H;have hnb74 := NB111_101.out;have hnc74 := NB101_111.out;have hnb75 := NB111_102.out;have hnc75 := NB102_111.out;have hcz76_0 : wr.cell? ⟨gb111, 0, none⟩ = some (.int .i64 t106) := (blk_cell BK111.out 0).trans rfl;have hcz76_1 : wr.cell? ⟨gb111, 1, none⟩ = some (.int .i64 t107) := (blk_cell BK111.out 1).trans rfl;have hcz76_2 : wr.cell? ⟨gb111, 2, none⟩ = some (u112002) := (blk_cell BK111.out 2).trans rfl;have hfz76_0 := blk_frozen BK111.out 0;have hfz76_1 := blk_frozen BK111.out 1;have hfz76_2 := blk_frozen BK111.out 2;have hnb77 := NB102_101.out;have hnc77 := NB101_102.out;have hcz78_0 : wr.cell? ⟨gb102, 0, none⟩ = some (.int .i64 0) := (blk_cell BK102.out 0).trans rfl;have hcz78_1 : wr.cell? ⟨gb102, 1, none⟩ = some (.int .i64 0) := (blk_cell BK102.out 1).trans rfl;have hcz78_2 : wr.cell? ⟨gb102, 2, none⟩ = some (.slice none 0 0) := (blk_cell BK102.out 2).trans rfl;have hfz78_0 := blk_frozen BK102.out 0;have hfz78_1 := blk_frozen BK102.out 1;have hfz78_2 := blk_frozen BK102.out 2;obtain ⟨Ao79, co79, eo79⟩ := Kd.R_slice HO_112002.out;subst eo79
           go_wp2
           refine bodyPost_ret (results_ctt rfl _ _ gb102 30 #[.int .i64 t106, .int .i64 t107, .slice Ao79 x112002_2.length co79] (0, 0) _ rfl (by (with_reducible repeat (first | refine blk_drewN ?_ _ | refine blk_drew ?_ | refine blk_alloc ?_ _)); refine blk_put (cs := #[.int .i64 t106, .int .i64 t107, .slice none 0 0]) ?_ 2 _ rfl; (with_reducible repeat (first | refine blk_drewN ?_ _ | refine blk_drew ?_ | refine blk_alloc ?_ _)); refine blk_put (cs := #[.int .i64 t106, .int .i64 0, .slice none 0 0]) ?_ 1 _ rfl; (with_reducible repeat (first | refine blk_drewN ?_ _ | refine blk_drew ?_ | refine blk_alloc ?_ _)); refine blk_put (cs := #[.int .i64 0, .int .i64 0, .slice none 0 0]) ?_ 0 _ rfl; exact blc) Tryd.underlying30 rfl (by kernel_rfl)) rfl ?_
           exact ⟨_, _, _, by first | rfl | (simp [errW_none, errW_some] <;> rfl) | (simp [*, errW_none, errW_some] <;> rfl), by (with_reducible repeat (first | apply Kd.R_alloc | apply Kd.R_drewN | apply Kd.R_drew)); exact Kd.R_mono (Kd.R_far (p := ⟨gb102, 2, none⟩) (Kd.R_far (p := ⟨gb102, 1, none⟩) (Kd.R_far (p := ⟨gb102, 0, none⟩) (Kd.R_types HO_112002.out BK102.out (by decide)) (fun _ hk => hk.2) (.int .i64 t106)) (fun _ hk => hk.2) (.int .i64 t107)) (fun _ hk => hk.2) (.slice Ao79 x112002_2.length co79)) (fun _ hk => trivial), by (with_reducible repeat (first | apply Kd.R_alloc | apply Kd.R_drewN | apply Kd.R_drew)); exact Kd.R_mono (Kd.R_far (p := ⟨gb102, 2, none⟩) (Kd.R_far (p := ⟨gb102, 1, none⟩) (Kd.R_far (p := ⟨gb102, 0, none⟩) (Kd.R_types HO_13.out BK102.out (by decide)) (fun _ hk => hk.2) (.int .i64 t106)) (fun _ hk => hk.2) (.int .i64 t107)) (fun _ hk => hk.2) (.slice Ao79 x112002_2.length co79)) (fun _ hk => trivial), by (with_reducible repeat (first | apply Kd.R_alloc | apply Kd.R_drewN | apply Kd.R_drew)); exact Kd.R_mono (Kd.R_far (p := ⟨gb102, 2, none⟩) (Kd.R_far (p := ⟨gb102, 1, none⟩) (Kd.R_far (p := ⟨gb102, 0, none⟩) (Kd.R_types HO_15.out BK102.out (by decide)) (fun _ hk => hk.2) (.int .i64 t106)) (fun _ hk => hk.2) (.int .i64 t107)) (fun _ hk => hk.2) (.slice Ao79 x112002_2.length co79)) (fun _ hk => trivial), bel HB⟩
       ·rw [if_neg c31] at H
        exact absurd H (by simp)
      ·rw [if_neg c30] at H
       exact absurd H (by simp)
  ·rw [if_neg c8] at H
   exact absurd H (by simp)
 ·rw [if_neg c7] at H
  exact absurd H (by simp)
end Go.Proofs.YtkjlfgceodindaaDoor.Q
end
section
namespace Go.Proofs.YtkjlfgceodindaaDoor.Q
open Go.RowKit Go.Proofs.YtkjlfgceodindaaDoorW.PrintWords Go.Proofs.YtkjlfgceodindaaDoorW.PrintLast Go.Proofs.YtkjlfgceodindaaDoorW.PrintMore
attribute [local go_sem] max2_int min2_int max_two min_two max_three min_three max_four min_four
set_option linter.unusedVariables false
set_option linter.unusedSimpArgs false
mutual
def spec_skTilt.l0 : Nat → Int → List Int → Int → List Int → Int → Int → Int → List Int → Option (Int × Int × List Int × List Int)
 | 0, _, _, _, _, _, _, _, _ => none
 | k + 1, x1, x6, x7, x8, x9, x102000, x102001, x102002 => if x9 < 7 then ((spec_skMove.f k x102000 x102001 x102002 x6 x7 x1).bind fun bt110 => (spec_skTilt.l1 k x1 x7 x8 x9 bt110.2.2.2.1 bt110.2.2.2.2 (bt110.2.2.2.2.length : Int) 0 bt110.1 bt110.2.1 bt110.2.2.1)) else (some (x102000, x102001, x102002, x8))
def spec_skTilt.l1 : Nat → Int → Int → List Int → Int → List Int → List Bool → Int → Int → Int → Int → List Int → Option (Int × Int × List Int × List Int)
 | 0, _, _, _, _, _, _, _, _, _, _, _ => none
 | k + 1, x1, x7, x8, x9, x11, x35, x36, x37, x122000, x122001, x122002 => if x37 < x36 then (if 0 ≤ x37 then (if x37 < (x35.length : Int) then (if rdOf false x35 x37 = true then (if x37 < (x8.length : Int) then (spec_skTilt.l1 k x1 x7 (x8.set (x37 : Int).toNat (wrap64 ((rd x8 x37) + 1))) x9 x11 x35 x36 (wrap64 (x37 + 1)) x122000 x122001 x122002) else (none)) else (spec_skTilt.l1 k x1 x7 x8 x9 x11 x35 x36 (wrap64 (x37 + 1)) x122000 x122001 x122002)) else (none)) else (none)) else (spec_skTilt.l0 k x1 x11 x7 x8 (wrap64 (x9 + 1)) x122000 x122001 x122002)
end
def spec_skTilt.f (k : Nat) (a0_0 : Int) (a0_1 : Int) (l0_2 : List Int) (a1 : Int) : Option (Int × Int × List Int × List Int) := (spec_skPieces.f k a0_0 a0_1 l0_2).bind fun bt103 => (if 0 ≤ bt103.2 then (if (bt103.2 : Int).toNat ≤ 35184372088832 then (spec_skTilt.l0 k a1 bt103.1 bt103.2 (List.replicate (bt103.2 : Int).toNat 0) 0 a0_0 a0_1 l0_2) else (none)) else (none))
set_option maxHeartbeats 8000000 in
set_option maxRecDepth 100000 in
theorem spec_skTilt.calls (k : Nat) (a0_0 : Int) (a0_1 : Int) (P0_2_ : Nat → Prop) (A0_2 : Option Addr) (c0_2 : Nat) (l0_2 : List Int) (a1 : Int) (r1 : Int) (r2 : Int) (r3 : List Int) (r4 : List Int) (w : World) (hs0_2 : Kd.V (Kd.int .u8) 5 w w.heap.size (fun k_ => P0_2_ k_) (.slice A0_2 l0_2.length c0_2) l0_2) (h : spec_skTilt.f k a0_0 a0_1 l0_2 a1 = some (r1, r2, r3, r4)) :
  Calls Tryd.prog 27 #[.agg #[.int .i64 a0_0, .int .i64 a0_1, .slice A0_2 l0_2.length c0_2], .int .i64 a1] w fun e w' => ∃ v2_ v3_ : Value, e = .returned (.tuple #[.agg #[.int .i64 r1, .int .i64 r2, v2_], v3_]) ∧ Kd.V (Kd.int .u8) 5 w' w.heap.size (fun k_ => (P0_2_ k_ ∨ w.heap.size ≤ k_) ∧ some k_ ≠ (v3_ : Value).ownBlock) v2_ r3 ∧ Kd.R (Kd.int .i64) 3 w' w.heap.size (fun k_ => (w.heap.size ≤ k_)) v3_ r4 ∧ Below w.heap.size w w' := by
 have hu30 := Tryd.underlying30;have HO0_2 := Aside0.mk (show Kd.V (Kd.int .u8) 5 w w.heap.size (fun k_ => (P0_2_ k_ ∨ w.heap.size ≤ k_)) (.slice A0_2 l0_2.length c0_2) l0_2 from Kd.V_mono hs0_2 (fun k_ hk => .inl hk));have HB := Aside0.mk (Below.refl w.heap.size w);have H : ((spec_skPieces.f k a0_0 a0_1 l0_2).bind fun bt103 => (if 0 ≤ bt103.2 then (if (bt103.2 : Int).toNat ≤ 35184372088832 then (spec_skTilt.l0 k a1 bt103.1 bt103.2 (List.replicate (bt103.2 : Int).toNat 0) 0 a0_0 a0_1 l0_2) else (none)) else (none))) = some (r1, r2, r3, r4) := h;clear h;replace H := Option.bind_eq_some_iff.mp H;obtain ⟨⟨t103, t106⟩, A30, H⟩ := H;replace H : (if 0 ≤ t106 then (if (t106 : Int).toNat ≤ 35184372088832 then (spec_skTilt.l0 k a1 t103 t106 (List.replicate (t106 : Int).toNat 0) 0 a0_0 a0_1 l0_2) else (none)) else (none)) = some (r1, r2, r3, r4) := H;have A3 := Aside0.mk A30;clear A30
 by_cases c4 : 0 ≤ t106
 ·rw [if_pos c4] at H
  have c4b0 := eq_true c4;have c4b1 : decide (0 ≤ t106) = true := decide_eq_true c4;clear c4
  by_cases c5 : (t106 : Int).toNat ≤ 35184372088832
  ·rw [if_pos c5] at H
   have c5b0 := eq_true c5;have c5b1 : decide ((t106 : Int).toNat ≤ 35184372088832) = true := decide_eq_true c5;clear c5;obtain ⟨y107, hy107⟩ : ∃ y_ : List Int, y_ = (List.replicate (t106 : Int).toNat 0) := ⟨_, rfl⟩;replace H : (spec_skTilt.l0 k a1 t103 t106 y107 0 a0_0 a0_1 l0_2) = some (r1, r2, r3, r4) := rH hy107 H;have Ny107 := Aside0.mk hy107;clear hy107;have H' := Aside0.mk H;clear H
   go_enter Tryd.func27, Tryd.ntmps27
   go_wp2_with (first | ((with_reducible refine gate_dst (N := 2) rfl ?_); refine boxE (N := 2) (cs := #[.int .i64 a0_0, .int .i64 a0_1, .slice A0_2 l0_2.length c0_2]) (t := 30) ?_; intro gb101 hg w6 hbox hb; have n0_ := Aside0.mk (Kd.V_below (Kd.V_elderB (by (with_reducible repeat (first | apply Kd.V_alloc | apply Kd.V_drewN | apply Kd.V_drew)); (first | exact HO0_2.out | exact R_any HO0_2.out)) gb101 (Nat.le_of_eq hg.symm)) hb); have n1_ := Aside0.mk (below_step (bel HB) hb); have n2_ := Aside0.mk (hbox); have n3_ := Aside0.mk (gsz hg (bel HB)); have n4_ := Aside0.mk (gsz hg (bel HB)); clear HO0_2; clear HB; have HO0_2 := n0_; have HB := n1_; have BK101 := n2_; have GW101 := n3_; have GE101 := n4_; clear n0_ n1_ n2_ n3_ n4_; clear hb hbox hg) | ((with_reducible refine gate_dst (N := 4) rfl ?_); refine boxE (N := 4) (cs := #[.int .i64 0, .int .i64 0, .slice none 0 0]) (t := 30) ?_; intro gb102 hg w7 hbox hb; have n0_ := Aside0.mk (Kd.V_below (Kd.V_elderB (by (with_reducible repeat (first | apply Kd.V_alloc | apply Kd.V_drewN | apply Kd.V_drew)); (first | exact HO0_2.out | exact R_any HO0_2.out)) gb102 (Nat.le_of_eq hg.symm)) hb); have n1_ := Aside0.mk (blk_below (g := gb101) (o := .cells #[.int .i64 a0_0, .int .i64 a0_1, .slice A0_2 l0_2.length c0_2] 30 (0, 0)) blc hb); have n2_ := Aside0.mk (below_step (bel HB) hb); have n3_ := Aside0.mk (hbox); have n4_ := Aside0.mk (gsz hg (bel HB)); have n5_ := Aside0.mk (gsz hg (bel HB)); have n6_ := Aside0.mk ((by rw [hg]; exact Nat.ne_of_lt (blk_lt (g := gb101) (o := .cells #[.int .i64 a0_0, .int .i64 a0_1, .slice A0_2 l0_2.length c0_2] 30 (0, 0)) blc) : gb101 ≠ gb102)); have n7_ := Aside0.mk ((by rw [hg]; exact Nat.ne_of_gt (blk_lt (g := gb101) (o := .cells #[.int .i64 a0_0, .int .i64 a0_1, .slice A0_2 l0_2.length c0_2] 30 (0, 0)) blc) : gb102 ≠ gb101)); clear HO0_2; clear BK101; clear HB; have HO0_2 := n0_; have BK101 := n1_; have HB := n2_; have BK102 := n3_; have GW102 := n4_; have GE102 := n5_; have NB101_102 := n6_; have NB102_101 := n7_; clear n0_ n1_ n2_ n3_ n4_ n5_ n6_ n7_; clear hb hbox hg; have hnb8 := NB101_102.out; have hnc8 := NB102_101.out; have hcz9_0 : w7.cell? ⟨gb101, 0, none⟩ = some (.int .i64 a0_0) := (blk_cell BK101.out 0).trans rfl; have hcz9_1 : w7.cell? ⟨gb101, 1, none⟩ = some (.int .i64 a0_1) := (blk_cell BK101.out 1).trans rfl; have hcz9_2 : w7.cell? ⟨gb101, 2, none⟩ = some (.slice A0_2 l0_2.length c0_2) := (blk_cell BK101.out 2).trans rfl; have hfz9_0 := blk_frozen BK101.out 0; have hfz9_1 := blk_frozen BK101.out 1; have hfz9_2 := blk_frozen BK101.out 2) | ((with_reducible refine gate_callee (f := 11) rfl ?_); refine gcall (some 17) Tryd.func11 #[.agg #[.int .i64 a0_0, .int .i64 a0_1, .slice A0_2 l0_2.length c0_2]] rfl ?_; (with_reducible refine (spec_skPieces.calls k a0_0 a0_1 _ _ l0_2 t103 t106 _ ?side1 ?side2 A3.out).mono ?_); (case side1 => repeat (first | exact (Kd.V_reads' HO0_2.out).2.2 | (with_reducible refine Kd.C_alloc ?_ _) | (with_reducible refine Kd.C_drewN ?_ _) | (with_reducible refine Kd.C_drew ?_))); (case side2 => exact (Kd.V_reads' HO0_2.out).2.1); rintro e w10 ⟨v104, rfl, ho0, hb⟩; refine ⟨_, rfl, ?_⟩; have n0_ := Aside0.mk (Kd.V_elder' (by (with_reducible repeat (first | apply Kd.V_alloc | apply Kd.V_drewN | apply Kd.V_drew)); (first | exact HO0_2.out | exact R_any HO0_2.out)) (Kd.R_base ho0) hb); have n1_ := Aside0.mk (Kd.R_lower (Kd.R_newM (M := fun k_ => (w.heap.size ≤ k_)) ho0 (below_size (bel HB)) (fun k_ h_ => h_)) (below_size (bel HB))); have n2_ := Aside0.mk (blk_below (g := gb101) (o := .cells #[.int .i64 a0_0, .int .i64 a0_1, .slice A0_2 l0_2.length c0_2] 30 (0, 0)) blc hb); have n3_ := Aside0.mk (blk_below (g := gb102) (o := .cells #[.int .i64 0, .int .i64 0, .slice none 0 0] 30 (0, 0)) blc hb); have n4_ := Aside0.mk (below_step (bel HB) hb); clear HO0_2; clear BK101; clear BK102; clear HB; have HO0_2 := n0_; have HO105 := n1_; have BK101 := n2_; have BK102 := n3_; have HB := n4_; clear n0_ n1_ n2_ n3_ n4_; (try clear hb); (try clear hb2); (try clear hk); (try clear hi); (try clear ho0)) | ((with_reducible refine gate_dst (N := 21) rfl ?_); refine Kd.R_make (Kd.int .i64) _ 3 rfl (N := 21) rfl 33 _ _ rfl t106 rfl rfl Tryd.underlying33 (.int .i64 0) 8 info3 rfl (by decide) (by omega) 0 (ok := fun _ => True) (okp := fun _ => True) rfl (fun _ hk => hk) trivial (of_decide_eq_true (by first | (with_reducible assumption) | assumption)) (Nat.le_trans (Nat.mul_le_mul_right _ (of_decide_eq_true (by first | (with_reducible assumption) | assumption) : t106.toNat ≤ 35184372088832)) (by omega)) (Below.refl _ _) (Nat.le_refl _) ?_; intro v108 w11 ho12 hb hg_ hnew_; clear hg_ hnew_; (first | rw [← Ny107.out] at ho12 | (simp only [Int.reduceToNat] at ho12; rw [← Ny107.out] at ho12)); have n0_ := Aside0.mk (Kd.V_elder' (by (with_reducible repeat (first | apply Kd.V_alloc | apply Kd.V_drewN | apply Kd.V_drew)); (first | exact HO0_2.out | exact R_any HO0_2.out)) (Kd.R_base ho12) hb); have n1_ := Aside0.mk (Kd.R_elder' (rch HO105) (Kd.R_base ho12) hb); have n2_ := Aside0.mk (Kd.R_lower (Kd.R_new' (Kd.R_newM (M := fun k_ => (w.heap.size ≤ k_)) ho12 (below_size (bel HB)) (fun k_ h_ => h_)) (Kd.R_lt (rch HO105))) (below_size (bel HB))); have n3_ := Aside0.mk (blk_below (g := gb101) (o := .cells #[.int .i64 a0_0, .int .i64 a0_1, .slice A0_2 l0_2.length c0_2] 30 (0, 0)) blc hb); have n4_ := Aside0.mk (blk_below (g := gb102) (o := .cells #[.int .i64 0, .int .i64 0, .slice none 0 0] 30 (0, 0)) blc hb); have n5_ := Aside0.mk (below_step (bel HB) hb); clear HO0_2; clear HO105; clear BK101; clear BK102; clear HB; have HO0_2 := n0_; have HO105 := n1_; have HO109 := n2_; have BK101 := n3_; have BK102 := n4_; have HB := n5_; clear n0_ n1_ n2_ n3_ n4_ n5_; clear hb ho12))
   go_loopg [6, 9] k (fun kq v6 v9 w' => ∃ (x6_1 : List Int) (x8_1 : List Int) (x9_1 : Int) (x102000_1 : Int) (x102001_1 : Int) (x102002_1 : List Int) (u102002 : Value), v9 = .int .i64 x9_1 ∧ Aside0 (spec_skTilt.l0 kq a1 x6_1 t106 x8_1 x9_1 x102000_1 x102001_1 x102002_1 = some (r1, r2, r3, r4)) ∧ Aside0 (kq ≤ k) ∧ Aside0 (Kd.R (Kd.int .i64) 3 w' w.heap.size (fun k_ => (w.heap.size ≤ k_) ∧ some k_ ≠ (v108 : Value).ownBlock) v6 x6_1) ∧ Aside0 (Kd.R (Kd.int .i64) 3 w' w.heap.size (fun k_ => (w.heap.size ≤ k_) ∧ some k_ ≠ (v6 : Value).ownBlock) v108 x8_1) ∧ Aside0 (Kd.V (Kd.int .u8) 5 w' w.heap.size (fun k_ => (P0_2_ k_ ∨ w.heap.size ≤ k_) ∧ some k_ ≠ (v6 : Value).ownBlock ∧ some k_ ≠ (v108 : Value).ownBlock ∧ k_ ≠ gb101 ∧ k_ ≠ gb102) u102002 x102002_1) ∧ Aside0 (w'.heap[gb101]? = some (.cells #[.int .i64 x102000_1, .int .i64 x102001_1, u102002] 30 (0, 0))) ∧ Aside0 (w'.heap[gb102]? = some (.cells #[.int .i64 0, .int .i64 0, (.slice none 0 0)] 30 (0, 0))) ∧ Aside0 (Below w.heap.size w w'))
   case atStart => exact ⟨(t103), (y107), (0), (a0_0), (a0_1), (l0_2), (.slice A0_2 l0_2.length c0_2), (by first | rfl | (simp; done) | (simp [*]; done)), H', ⟨Nat.le_refl _⟩, ⟨by (with_reducible repeat (first | apply Kd.R_alloc | apply Kd.R_drewN | apply Kd.R_drew)); exact Kd.R_mono HO105.out (fun _ hk => ⟨hk.1.1, hk.2⟩)⟩, ⟨by (with_reducible repeat (first | apply Kd.R_alloc | apply Kd.R_drewN | apply Kd.R_drew)); exact Kd.R_mono HO109.out (fun _ hk => ⟨hk.1.1, hk.2⟩)⟩, ⟨by (with_reducible repeat (first | apply Kd.V_alloc | apply Kd.V_drewN | apply Kd.V_drew)); exact Kd.V_mono HO0_2.out (fun _ hk => ⟨hk.1.1.1.1, ⟨hk.1.2, ⟨hk.2, ⟨hk.1.1.1.2, hk.1.1.2⟩⟩⟩⟩)⟩, ⟨blc⟩, ⟨blc⟩, ⟨bel HB⟩⟩
   case round =>
    clear H'
    try clear c1
    try clear c2
    try clear p2
    try clear c4
    try clear c4b0
    try clear c4b0y
    try clear c4b1
    try clear c5
    try clear c5b0
    try clear c5b0y
    try clear c5b1
    try clear c8
    try clear c11
    try clear hcz9_0
    try clear hcz9_1
    try clear hcz9_2
    try clear hfz9_0
    try clear hfz9_1
    try clear hfz9_2
    obtain ⟨x6_1, x8_1, x9_1, x102000_1, x102001_1, x102002_1, u102002, rfl, HA, HK1, HO_6, HO_8, HO_102002, BK101, BK102, HB⟩ := hrel
    cases gk with
    | zero => exact absurd HA.out (by simp [spec_skTilt.l0])
    | succ k1 =>
     have H := HA.out;clear HA
     simp only [spec_skTilt.l0] at H
     by_cases c13 : x9_1 < 7
     ·rw [if_pos c13] at H
      have c13b0 : decide (x9_1 < 7) = true := decide_eq_true c13;clear c13;replace H := Option.bind_eq_some_iff.mp H;obtain ⟨⟨t110, t111, t112, t115, t118⟩, A140, H⟩ := H;replace H : (spec_skTilt.l1 k1 a1 t106 x8_1 x9_1 t115 t118 (t118.length : Int) 0 t110 t111 t112) = some (r1, r2, r3, r4) := H;have A14 := Aside0.mk A140;clear A140;have H' := Aside0.mk H;clear H;have hnb15 := NB101_102.out;have hnc15 := NB102_101.out;have hcz16_0 : wr.cell? ⟨gb101, 0, none⟩ = some (.int .i64 x102000_1) := (blk_cell BK101.out 0).trans rfl;have hcz16_1 : wr.cell? ⟨gb101, 1, none⟩ = some (.int .i64 x102001_1) := (blk_cell BK101.out 1).trans rfl;have hcz16_2 : wr.cell? ⟨gb101, 2, none⟩ = some (u102002) := (blk_cell BK101.out 2).trans rfl;have hfz16_0 := blk_frozen BK101.out 0;have hfz16_1 := blk_frozen BK101.out 1;have hfz16_2 := blk_frozen BK101.out 2;obtain ⟨Ao17, co17, eo17⟩ := Kd.V_slice HO_102002.out;subst eo17;obtain ⟨Ao18, co18, eo18⟩ := Kd.R_slice HO_6.out;subst eo18
      go_wp2_with (first | ((with_reducible refine gate_callee (f := 38) rfl ?_); refine gcall (some 31) Tryd.func38 #[.agg #[.int .i64 x102000_1, .int .i64 x102001_1, .slice Ao17 x102002_1.length co17], .slice Ao18 x6_1.length co18, .int .i64 t106, .int .i64 a1] rfl ?_; (with_reducible refine (spec_skMove.calls k1 x102000_1 x102001_1 _ _ x102002_1 _ _ x6_1 t106 a1 t110 t111 t112 t115 t118 _ ?side1 ?side2 ?side3 ?side4 A14.out).mono ?_); (case side1 => repeat (first | exact (Kd.V_reads' HO_102002.out).2.2 | (with_reducible refine Kd.C_alloc ?_ _) | (with_reducible refine Kd.C_drewN ?_ _) | (with_reducible refine Kd.C_drew ?_))); (case side2 => exact (Kd.V_reads' HO_102002.out).2.1); (case side3 => repeat (first | exact (Kd.R_reads' HO_6.out).2.2 | (with_reducible refine Kd.C_alloc ?_ _) | (with_reducible refine Kd.C_drewN ?_ _) | (with_reducible refine Kd.C_drew ?_))); (case side4 => exact (Kd.R_reads' HO_6.out).2.1); rintro e w19 ⟨v113, v116, v119, rfl, ho0, ho1, ho2, hb⟩; refine ⟨_, rfl, ?_⟩; have n0_ := Aside0.mk (Kd.R_elder' (rch HO_6) (Kd.R_base ho1) hb); have n1_ := Aside0.mk (Kd.R_elder' (rch HO_8) (Kd.R_base ho1) hb); have n2_ := Aside0.mk (Kd.V_mono (Kd.V_told (Kd.V_told (Kd.V_told (Kd.V_old (by (with_reducible repeat (first | apply Kd.V_alloc | apply Kd.V_drewN | apply Kd.V_drew)); (first | exact HO_102002.out | exact R_any HO_102002.out)) hb) (Kd.R_base ho0)) (Kd.R_base ho1)) (Kd.R_base ho2)) (fun _ h_ => h_.1)); have n3_ := Aside0.mk (Kd.R_lower (Kd.R_newM (M := fun k_ => (w.heap.size ≤ k_)) ho0 (below_size (bel HB)) (fun k_ h_ => h_)) (below_size (bel HB))); have n4_ := Aside0.mk (Kd.R_lower (Kd.R_new' (Kd.R_new' (Kd.R_newM (M := fun k_ => (w.heap.size ≤ k_)) ho1 (below_size (bel HB)) (fun k_ h_ => h_)) (Kd.R_lt (rch HO_6))) (Kd.R_lt (rch HO_8))) (below_size (bel HB))); have n5_ := Aside0.mk (Kd.R_lower (Kd.R_newM (M := fun k_ => (w.heap.size ≤ k_)) ho2 (below_size (bel HB)) (fun k_ h_ => h_)) (below_size (bel HB))); have n6_ := Aside0.mk (blk_below (g := gb101) (o := .cells #[.int .i64 x102000_1, .int .i64 x102001_1, .slice Ao17 x102002_1.length co17] 30 (0, 0)) blc hb); have n7_ := Aside0.mk (blk_below (g := gb102) (o := .cells #[.int .i64 0, .int .i64 0, .slice none 0 0] 30 (0, 0)) blc hb); have n8_ := Aside0.mk (below_step (bel HB) hb); clear HO_6; clear HO_8; clear HO_102002; clear BK101; clear BK102; clear HB; have HO_6 := n0_; have HO_8 := n1_; have HO_102002 := n2_; have HO114 := n3_; have HO117 := n4_; have HO120 := n5_; have BK101 := n6_; have BK102 := n7_; have HB := n8_; clear n0_ n1_ n2_ n3_ n4_ n5_ n6_ n7_ n8_; (try clear hb); (try clear hb2); (try clear hk); (try clear hi); (try clear ho0); (try clear ho1); (try clear ho2)) | ((with_reducible refine gate_dst (N := 10) rfl ?_); refine boxE (N := 10) (cs := #[.int .i64 0, .int .i64 0, .slice none 0 0]) (t := 30) ?_; intro gb121 hg w20 hbox hb; have n0_ := Aside0.mk (Kd.R_below (rch HO_6) hb); have n1_ := Aside0.mk (Kd.R_below (rch HO_8) hb); have n2_ := Aside0.mk (Kd.V_below (Kd.V_elderB (by (with_reducible repeat (first | apply Kd.V_alloc | apply Kd.V_drewN | apply Kd.V_drew)); (first | exact HO_102002.out | exact R_any HO_102002.out)) gb121 (Nat.le_of_eq hg.symm)) hb); have n3_ := Aside0.mk (Kd.R_below (rch HO114) hb); have n4_ := Aside0.mk (Kd.R_below (rch HO117) hb); have n5_ := Aside0.mk (Kd.R_below (rch HO120) hb); have n6_ := Aside0.mk (blk_below (g := gb101) (o := .cells #[.int .i64 x102000_1, .int .i64 x102001_1, .slice Ao17 x102002_1.length co17] 30 (0, 0)) blc hb); have n7_ := Aside0.mk (blk_below (g := gb102) (o := .cells #[.int .i64 0, .int .i64 0, .slice none 0 0] 30 (0, 0)) blc hb); have n8_ := Aside0.mk (below_step (bel HB) hb); have n9_ := Aside0.mk (hbox); have n10_ := Aside0.mk (gsz hg (bel HB)); have n11_ := Aside0.mk (gsz hg (bel HB)); have n12_ := Aside0.mk ((by rw [hg]; exact Nat.ne_of_lt (blk_lt (g := gb101) (o := .cells #[.int .i64 x102000_1, .int .i64 x102001_1, .slice Ao17 x102002_1.length co17] 30 (0, 0)) blc) : gb101 ≠ gb121)); have n13_ := Aside0.mk ((by rw [hg]; exact Nat.ne_of_gt (blk_lt (g := gb101) (o := .cells #[.int .i64 x102000_1, .int .i64 x102001_1, .slice Ao17 x102002_1.length co17] 30 (0, 0)) blc) : gb121 ≠ gb101)); have n14_ := Aside0.mk ((by rw [hg]; exact Nat.ne_of_lt (blk_lt (g := gb102) (o := .cells #[.int .i64 0, .int .i64 0, .slice none 0 0] 30 (0, 0)) blc) : gb102 ≠ gb121)); have n15_ := Aside0.mk ((by rw [hg]; exact Nat.ne_of_gt (blk_lt (g := gb102) (o := .cells #[.int .i64 0, .int .i64 0, .slice none 0 0] 30 (0, 0)) blc) : gb121 ≠ gb102)); clear HO_6; clear HO_8; clear HO_102002; clear HO114; clear HO117; clear HO120; clear BK101; clear BK102; clear HB; have HO_6 := n0_; have HO_8 := n1_; have HO_102002 := n2_; have HO114 := n3_; have HO117 := n4_; have HO120 := n5_; have BK101 := n6_; have BK102 := n7_; have HB := n8_; have BK121 := n9_; have GW121 := n10_; have GE121 := n11_; have NB101_121 := n12_; have NB121_101 := n13_; have NB102_121 := n14_; have NB121_102 := n15_; clear n0_ n1_ n2_ n3_ n4_ n5_ n6_ n7_ n8_ n9_ n10_ n11_ n12_ n13_ n14_ n15_; clear hb hbox hg; have hnb21 := NB121_101.out; have hnc21 := NB101_121.out; have hnb22 := NB121_102.out; have hnc22 := NB102_121.out; have hcz23_0 : w20.cell? ⟨gb121, 0, none⟩ = some (.int .i64 0) := (blk_cell BK121.out 0).trans rfl; have hcz23_1 : w20.cell? ⟨gb121, 1, none⟩ = some (.int .i64 0) := (blk_cell BK121.out 1).trans rfl; have hcz23_2 : w20.cell? ⟨gb121, 2, none⟩ = some (.slice none 0 0) := (blk_cell BK121.out 2).trans rfl; have hfz23_0 := blk_frozen BK121.out 0; have hfz23_1 := blk_frozen BK121.out 1; have hfz23_2 := blk_frozen BK121.out 2; obtain ⟨Ao24, co24, eo24⟩ := Kd.R_slice HO114.out; subst eo24; obtain ⟨Ao25, co25, eo25⟩ := Kd.R_slice HO120.out; subst eo25))
      go_loopg [37] k1 (fun kq v37 w' => ∃ (x8_2 : List Int) (x37_2 : Int), v37 = .int .i64 x37_2 ∧ Aside0 (spec_skTilt.l1 kq a1 t106 x8_2 x9_1 t115 t118 (t118.length : Int) x37_2 t110 t111 t112 = some (r1, r2, r3, r4)) ∧ Aside0 (kq ≤ k1) ∧ Aside0 (Kd.R (Kd.int .i64) 3 w' w.heap.size (fun k_ => (w.heap.size ≤ k_) ∧ some k_ ≠ (v116 : Value).ownBlock) v108 x8_2) ∧ Aside0 (Kd.R (Kd.int .i64) 3 w' w.heap.size (fun k_ => (w.heap.size ≤ k_) ∧ some k_ ≠ (v108 : Value).ownBlock) v116 t115) ∧ Aside0 (Kd.R Kd.bool 4 w' w.heap.size (fun k_ => (w.heap.size ≤ k_)) (.slice Ao25 t118.length co25) t118) ∧ Aside0 (Kd.V (Kd.int .u8) 5 w' w.heap.size (fun k_ => (P0_2_ k_ ∨ w.heap.size ≤ k_) ∧ some k_ ≠ (v108 : Value).ownBlock ∧ some k_ ≠ (v116 : Value).ownBlock ∧ some k_ ≠ ((.slice Ao25 t118.length co25) : Value).ownBlock ∧ some k_ ≠ ((.slice Ao24 t112.length co24) : Value).ownBlock ∧ k_ ≠ gb101 ∧ k_ ≠ gb102 ∧ k_ ≠ gb121) (.slice Ao17 x102002_1.length co17) x102002_1) ∧ Aside0 (Kd.R (Kd.int .u8) 5 w' w.heap.size (fun k_ => (w.heap.size ≤ k_)) (.slice Ao24 t112.length co24) t112) ∧ Aside0 (w'.heap[gb101]? = some (.cells #[.int .i64 x102000_1, .int .i64 x102001_1, (.slice Ao17 x102002_1.length co17)] 30 (0, 0))) ∧ Aside0 (w'.heap[gb102]? = some (.cells #[.int .i64 0, .int .i64 0, (.slice none 0 0)] 30 (0, 0))) ∧ Aside0 (w'.heap[gb121]? = some (.cells #[.int .i64 t110, .int .i64 t111, (.slice Ao24 t112.length co24)] 30 (0, 0))) ∧ Aside0 (Below w.heap.size w w'))
      case atStart => exact ⟨(x8_1), (0), (by first | rfl | (simp; done) | (simp [*]; done)), H', ⟨Nat.le_refl _⟩, ⟨by (with_reducible repeat (first | apply Kd.R_alloc | apply Kd.R_drewN | apply Kd.R_drew)); exact Kd.R_mono (Kd.R_far (p := ⟨gb121, 2, none⟩) (Kd.R_far (p := ⟨gb121, 1, none⟩) (Kd.R_far (p := ⟨gb121, 0, none⟩) (Kd.R_types HO_8.out BK121.out (by decide)) (fun _ hk => hk.2) (.int .i64 t110)) (fun _ hk => hk.2) (.int .i64 t111)) (fun _ hk => hk.2) (.slice Ao24 t112.length co24)) (fun _ hk => ⟨hk.1.1.1, hk.1.2⟩)⟩, ⟨by (with_reducible repeat (first | apply Kd.R_alloc | apply Kd.R_drewN | apply Kd.R_drew)); exact Kd.R_mono (Kd.R_far (p := ⟨gb121, 2, none⟩) (Kd.R_far (p := ⟨gb121, 1, none⟩) (Kd.R_far (p := ⟨gb121, 0, none⟩) (Kd.R_types HO117.out BK121.out (by decide)) (fun _ hk => hk.2) (.int .i64 t110)) (fun _ hk => hk.2) (.int .i64 t111)) (fun _ hk => hk.2) (.slice Ao24 t112.length co24)) (fun _ hk => ⟨hk.1.1.1.1, hk.1.2⟩)⟩, ⟨by (with_reducible repeat (first | apply Kd.R_alloc | apply Kd.R_drewN | apply Kd.R_drew)); exact Kd.R_mono (Kd.R_far (p := ⟨gb121, 2, none⟩) (Kd.R_far (p := ⟨gb121, 1, none⟩) (Kd.R_far (p := ⟨gb121, 0, none⟩) (Kd.R_types HO120.out BK121.out (by decide)) (fun _ hk => hk.2) (.int .i64 t110)) (fun _ hk => hk.2) (.int .i64 t111)) (fun _ hk => hk.2) (.slice Ao24 t112.length co24)) (fun _ hk => hk.1.1)⟩, ⟨by (with_reducible repeat (first | apply Kd.V_alloc | apply Kd.V_drewN | apply Kd.V_drew)); exact Kd.V_mono (Kd.V_far (p := ⟨gb121, 2, none⟩) (Kd.V_far (p := ⟨gb121, 1, none⟩) (Kd.V_far (p := ⟨gb121, 0, none⟩) (Kd.V_mono HO_102002.out (fun k_ hk => (⟨hk, hk.2⟩ : _ ∧ k_ ≠ gb121))) (fun _ hk => hk.2) (.int .i64 t110)) (fun _ hk => hk.2) (.int .i64 t111)) (fun _ hk => hk.2) (.slice Ao24 t112.length co24)) (fun _ hk => ⟨hk.1.1.1.1.1.1, ⟨hk.1.1.1.1.1.2.2.1, ⟨hk.1.1.1.2, ⟨hk.1.1.2, ⟨hk.1.1.1.1.2, ⟨hk.1.1.1.1.1.2.2.2.1, ⟨hk.1.1.1.1.1.2.2.2.2, hk.1.2⟩⟩⟩⟩⟩⟩⟩)⟩, ⟨by (with_reducible repeat (first | apply Kd.R_alloc | apply Kd.R_drewN | apply Kd.R_drew)); exact Kd.R_mono (Kd.R_far (p := ⟨gb121, 2, none⟩) (Kd.R_far (p := ⟨gb121, 1, none⟩) (Kd.R_far (p := ⟨gb121, 0, none⟩) (Kd.R_types HO114.out BK121.out (by decide)) (fun _ hk => hk.2) (.int .i64 t110)) (fun _ hk => hk.2) (.int .i64 t111)) (fun _ hk => hk.2) (.slice Ao24 t112.length co24)) (fun _ hk => hk.1.1)⟩, ⟨by (with_reducible repeat (first | refine blk_drewN ?_ _ | refine blk_drew ?_ | refine blk_alloc ?_ _)); refine blk_far ?_ NB101_121.out _; (with_reducible repeat (first | refine blk_drewN ?_ _ | refine blk_drew ?_ | refine blk_alloc ?_ _)); refine blk_far ?_ NB101_121.out _; (with_reducible repeat (first | refine blk_drewN ?_ _ | refine blk_drew ?_ | refine blk_alloc ?_ _)); refine blk_far ?_ NB101_121.out _; exact blc⟩, ⟨by (with_reducible repeat (first | refine blk_drewN ?_ _ | refine blk_drew ?_ | refine blk_alloc ?_ _)); refine blk_far ?_ NB102_121.out _; (with_reducible repeat (first | refine blk_drewN ?_ _ | refine blk_drew ?_ | refine blk_alloc ?_ _)); refine blk_far ?_ NB102_121.out _; (with_reducible repeat (first | refine blk_drewN ?_ _ | refine blk_drew ?_ | refine blk_alloc ?_ _)); refine blk_far ?_ NB102_121.out _; exact blc⟩, ⟨by (with_reducible repeat (first | refine blk_drewN ?_ _ | refine blk_drew ?_ | refine blk_alloc ?_ _)); refine blk_put (cs := #[.int .i64 t110, .int .i64 t111, .slice none 0 0]) ?_ 2 _ rfl; (with_reducible repeat (first | refine blk_drewN ?_ _ | refine blk_drew ?_ | refine blk_alloc ?_ _)); refine blk_put (cs := #[.int .i64 t110, .int .i64 0, .slice none 0 0]) ?_ 1 _ rfl; (with_reducible repeat (first | refine blk_drewN ?_ _ | refine blk_drew ?_ | refine blk_alloc ?_ _)); refine blk_put (cs := #[.int .i64 0, .int .i64 0, .slice none 0 0]) ?_ 0 _ rfl; exact blc⟩, ⟨bel HB⟩⟩
      case round =>
       clear H'
       try clear c1
       try clear c2
       try clear p2
       try clear c3
       try clear c4
       try clear c4b0
       try clear c4b0y
       try clear c4b1
       try clear c5
       try clear c5b0
       try clear c5b0y
       try clear c5b1
       try clear c8
       try clear c11
       try clear c13
       try clear c13b0
       try clear c13b0y
       try clear c15
       try clear c21
       try clear c22
       try clear hcz16_0
       try clear hcz16_1
       try clear hcz16_2
       try clear hcz23_0
       try clear hcz23_1
       try clear hcz23_2
       try clear hcz9_0
       try clear hcz9_1
       try clear hcz9_2
       try clear hfz16_0
       try clear hfz16_1
       try clear hfz16_2
       try clear hfz23_0
       try clear hfz23_1
       try clear hfz23_2
       try clear hfz9_0
       try clear hfz9_1
       try clear hfz9_2
       try clear p2
       obtain ⟨x8_2, x37_2, rfl, HA, HK2, HO_8, HO_11, HO_35, HO_102002, HO_122002, BK101, BK102, BK121, HB⟩ := hrel
       cases gk with
       | zero => exact absurd HA.out (by simp [spec_skTilt.l1])
       | succ k2 =>
        have H := HA.out;clear HA
        simp only [spec_skTilt.l1] at H
        by_cases c26 : x37_2 < (t118.length : Int)
        ·rw [if_pos c26] at H
         have c26b0 : decide (x37_2 < (t118.length : Int)) = true := decide_eq_true c26;clear c26
         by_cases c27 : 0 ≤ x37_2
         ·rw [if_pos c27] at H
          have c27b0 : decide (0 ≤ x37_2) = true := decide_eq_true c27;clear c27
          by_cases c28 : x37_2 < (t118.length : Int)
          ·rw [if_pos c28] at H
           have c28b0 : decide (x37_2 < (t118.length : Int)) = true := decide_eq_true c28;clear c28;obtain ⟨bq29, hbq29⟩ : ∃ b_ : Bool, b_ = (rdOf false t118 x37_2) := ⟨_, rfl⟩
           replace H : (if bq29 = true then (if x37_2 < (x8_2.length : Int) then (spec_skTilt.l1 k2 a1 t106 (x8_2.set (x37_2 : Int).toNat (wrap64 ((rd x8_2 x37_2) + 1))) x9_1 t115 t118 (t118.length : Int) (wrap64 (x37_2 + 1)) t110 t111 t112) else (none)) else (spec_skTilt.l1 k2 a1 t106 x8_2 x9_1 t115 t118 (t118.length : Int) (wrap64 (x37_2 + 1)) t110 t111 t112)) = some (r1, r2, r3, r4) := by rw [← hbq29] at H; exact H
           have Nbq29 := Aside0.mk hbq29;clear hbq29
           by_cases c30 : bq29 = true
           ·subst c30
            have H1 : (if x37_2 < (x8_2.length : Int) then (spec_skTilt.l1 k2 a1 t106 (x8_2.set (x37_2 : Int).toNat (wrap64 ((rd x8_2 x37_2) + 1))) x9_1 t115 t118 (t118.length : Int) (wrap64 (x37_2 + 1)) t110 t111 t112) else (none)) = some (r1, r2, r3, r4) := by rw [if_pos rfl] at H; exact H
            clear H;have H := H1;clear H1
            by_cases c31 : x37_2 < (x8_2.length : Int)
            ·rw [if_pos c31] at H
             have c31b0 : decide (x37_2 < (x8_2.length : Int)) = true := decide_eq_true c31;clear c31;obtain ⟨y124, hy124⟩ : ∃ y_ : List Int, y_ = (x8_2.set (x37_2 : Int).toNat (wrap64 ((rd x8_2 x37_2) + 1))) := ⟨_, rfl⟩;replace H : (spec_skTilt.l1 k2 a1 t106 y124 x9_1 t115 t118 (t118.length : Int) (wrap64 (x37_2 + 1)) t110 t111 t112) = some (r1, r2, r3, r4) := rH hy124 H;have Ny124 := Aside0.mk hy124;clear hy124;have H' := Aside0.mk H;clear H;have p122 : 0 ≤ (x37_2 : Int) := of_decide_eq_true (by first | (with_reducible assumption) | assumption);have q122 : x37_2 < (t118.length : Int) := of_decide_eq_true (by first | (with_reducible assumption) | assumption);obtain ⟨ad122, e122, hx122_0⟩ := Kd.at_bool (Kd.R_reads' HO_35.out).2.2 x37_2 p122 q122
             (try rw [← Nbq29.out] at hx122_0)
             cases e122
             replace p122 := eq_true p122;replace q122 := eq_true q122;obtain ⟨Ao33, co33, eo33⟩ := Kd.R_slice HO_8.out;subst eo33;have p123 : 0 ≤ (x37_2 : Int) := of_decide_eq_true (by first | (with_reducible assumption) | assumption);have q123 : x37_2 < (x8_2.length : Int) := of_decide_eq_true (by first | (with_reducible assumption) | assumption);obtain ⟨ad123, e123, hx123_0⟩ := Kd.at_int (Kd.R_reads' HO_8.out).2.2 x37_2 p123 q123
             cases e123
             replace p123 := eq_true p123;replace q123 := eq_true q123;have p32 : 0 ≤ (x37_2 : Int) := of_decide_eq_true (by first | (with_reducible assumption) | assumption);have q32 : (x37_2 : Int) < ((x8_2.length : Int) : Int) := of_decide_eq_true (by first | (with_reducible assumption) | assumption);obtain ⟨go32, co32, eo32, gb32, gl32, cl32, HG32⟩ := Kd.R_form HO_8.out (by omega)
             (first | cases eo32 | (injection eo32 with ea_ en_ ec_; (first | subst ea_ | (injection ea_ with ea_; subst ea_)); subst ec_; clear en_))
             have GB32 := Aside0.mk gb32;have GG32 := Aside0.mk HG32;clear gb32 gl32 HG32
             (first | simp only [add_plain] at hx123_0 | skip)
             obtain ⟨hx32_0, hf32_0⟩ := Kd.R_celln 0 HO_8.out (x37_2 : Int) p32 q32;replace p32 := eq_true p32;replace q32 := eq_true q32;have HP34 := Kd.R_putg HO_8.out (x37_2 : Int) (wrap64 ((rd x8_2 x37_2) + 1))
             go_wp2_with (first | ((with_reducible refine gate_store (t := 3) (p := 48) rfl ?_); refine store_event (t := 3) (p := 48) (v := ?vo_w35) (w1 := (wr.setCell ⟨go32, (x37_2 : Int).toNat, none⟩ (.int .i64 (wrap64 ((rd x8_2 x37_2) + 1))))) ?hg ?ho ?hn ?hr ?_; (case ho => rfl); (case hg => rfl); (case hn => rfl); (case hr => first | (go_simp; done) | (go_simp; rfl)); intro w35 hw; have hg : wr.grownBy w35 (some go32) := (by rw [hw]; exact HP34.2); have hp_ : Kd.R (Kd.int .i64) 3 w35 w.heap.size (fun k_ => (w.heap.size ≤ k_) ∧ some k_ ≠ (v116 : Value).ownBlock) (.slice (some ⟨go32, 0, none⟩) x8_2.length co33) y124 := (by rw [hw, Ny124.out]; (first | exact HP34.1 | exact R_any HP34.1)); clear HP34; have n0_ := Aside0.mk (hp_); have n1_ := Aside0.mk (Kd.R_after (v := (.slice (some ⟨go32, 0, none⟩) x8_2.length co33)) (v1 := (.slice (some ⟨go32, 0, none⟩) x8_2.length co33)) (ok := (fun k_ => (w.heap.size ≤ k_))) (rch HO_11) hg (.inl rfl)); have n2_ := Aside0.mk (Kd.R_over' (v := (.slice (some ⟨go32, 0, none⟩) x8_2.length co33)) (rch HO_35) (Kd.R_typed HO_8.out) (by decide) hg); have n3_ := Aside0.mk (Kd.V_afterv (v := (.slice (some ⟨go32, 0, none⟩) x8_2.length co33)) (v1 := (.slice (some ⟨go32, 0, none⟩) x8_2.length co33)) (ok := (fun k_ => (P0_2_ k_ ∨ w.heap.size ≤ k_) ∧ some k_ ≠ (v116 : Value).ownBlock ∧ some k_ ≠ (.slice (some ad122) t118.length co25 : Value).ownBlock ∧ some k_ ≠ (.slice Ao24 t112.length co24 : Value).ownBlock ∧ k_ ≠ gb101 ∧ k_ ≠ gb102 ∧ k_ ≠ gb121)) (by (with_reducible repeat (first | apply Kd.V_alloc | apply Kd.V_drewN | apply Kd.V_drew)); exact Kd.V_mono HO_102002.out (fun _ hk => ⟨⟨hk.1, ⟨hk.2.2.1, ⟨hk.2.2.2.1, ⟨hk.2.2.2.2.1, ⟨hk.2.2.2.2.2.1, ⟨hk.2.2.2.2.2.2.1, hk.2.2.2.2.2.2.2⟩⟩⟩⟩⟩⟩, hk.2.1⟩)) hg (.inl rfl)); have n4_ := Aside0.mk (Kd.R_over' (v := (.slice (some ⟨go32, 0, none⟩) x8_2.length co33)) (rch HO_122002) (Kd.R_typed HO_8.out) (by decide) hg); have n5_ := Aside0.mk (blk_grown (g := gb101) (o := .cells #[.int .i64 x102000_1, .int .i64 x102001_1, .slice Ao17 x102002_1.length co17] 30 (0, 0)) blc hg (Kd.R_ne HO_8.out BK101.out (by decide))); have n6_ := Aside0.mk (blk_grown (g := gb102) (o := .cells #[.int .i64 0, .int .i64 0, .slice none 0 0] 30 (0, 0)) blc hg (Kd.R_ne HO_8.out BK102.out (by decide))); have n7_ := Aside0.mk (blk_grown (g := gb121) (o := .cells #[.int .i64 t110, .int .i64 t111, .slice Ao24 t112.length co24] 30 (0, 0)) blc hg (Kd.R_ne HO_8.out BK121.out (by decide))); have n8_ := Aside0.mk ((by rw [hw]; exact below_set (HB.out) GB32.out : Below w.heap.size w w35)); clear HO_8; clear HO_11; clear HO_35; clear HO_102002; clear HO_122002; clear BK101; clear BK102; clear BK121; clear HB; have HO_8 := n0_; have HO_11 := n1_; have HO_35 := n2_; have HO_102002 := n3_; have HO_122002 := n4_; have BK101 := n5_; have BK102 := n6_; have BK121 := n7_; have HB := n8_; clear n0_ n1_ n2_ n3_ n4_ n5_ n6_ n7_ n8_; clear hg hw hp_))
             go_roundg k2
             case measure => have := HK1.out; have := HK2.out; omega
             case rel => exact ⟨(y124), (wrap64 (x37_2 + 1)), (by first | rfl | (simp; done) | (simp [*]; done)), H', ⟨by have := HK1.out; have := HK2.out; omega⟩, ⟨rch HO_8⟩, ⟨rch HO_11⟩, ⟨rch HO_35⟩, ⟨by (with_reducible repeat (first | apply Kd.V_alloc | apply Kd.V_drewN | apply Kd.V_drew)); exact Kd.V_mono HO_102002.out (fun _ hk => ⟨hk.1.1, ⟨hk.2, ⟨hk.1.2.1, ⟨hk.1.2.2.1, ⟨hk.1.2.2.2.1, ⟨hk.1.2.2.2.2.1, ⟨hk.1.2.2.2.2.2.1, hk.1.2.2.2.2.2.2⟩⟩⟩⟩⟩⟩⟩)⟩, ⟨rch HO_122002⟩, ⟨blc⟩, ⟨blc⟩, ⟨blc⟩, ⟨bel HB⟩⟩
            ·rw [if_neg c31] at H
             exact absurd H (by simp)
           ·replace c30 := Bool.eq_false_iff.mpr c30
            subst c30
            have H1 : (spec_skTilt.l1 k2 a1 t106 x8_2 x9_1 t115 t118 (t118.length : Int) (wrap64 (x37_2 + 1)) t110 t111 t112) = some (r1, r2, r3, r4) := by rw [if_neg (show ¬ (false = true) by decide)] at H; exact H
            clear H;have H := H1;clear H1;have H' := Aside0.mk H;clear H;have p122 : 0 ≤ (x37_2 : Int) := of_decide_eq_true (by first | (with_reducible assumption) | assumption);have q122 : x37_2 < (t118.length : Int) := of_decide_eq_true (by first | (with_reducible assumption) | assumption);obtain ⟨ad122, e122, hx122_0⟩ := Kd.at_bool (Kd.R_reads' HO_35.out).2.2 x37_2 p122 q122
            (try rw [← Nbq29.out] at hx122_0)
            cases e122
            replace p122 := eq_true p122;replace q122 := eq_true q122
            go_wp2
            go_roundg k2
            case measure => have := HK1.out; have := HK2.out; omega
            case rel => exact ⟨(x8_2), (wrap64 (x37_2 + 1)), (by first | rfl | (simp; done) | (simp [*]; done)), H', ⟨by have := HK1.out; have := HK2.out; omega⟩, ⟨rch HO_8⟩, ⟨rch HO_11⟩, ⟨rch HO_35⟩, ⟨by (with_reducible repeat (first | apply Kd.V_alloc | apply Kd.V_drewN | apply Kd.V_drew)); (first | exact HO_102002.out | exact R_any HO_102002.out)⟩, ⟨rch HO_122002⟩, ⟨blc⟩, ⟨blc⟩, ⟨blc⟩, ⟨bel HB⟩⟩
          ·rw [if_neg c28] at H
           exact absurd H (by simp)
         ·rw [if_neg c27] at H
          exact absurd H (by simp)
        ·rw [if_neg c26] at H
         have c26b0 : decide (x37_2 < (t118.length : Int)) = false := decide_eq_false c26;clear c26;have H' := Aside0.mk H;clear H;have hnb36 := NB121_101.out;have hnc36 := NB101_121.out;have hnb37 := NB121_102.out;have hnc37 := NB102_121.out;have hcz38_0 : wr.cell? ⟨gb121, 0, none⟩ = some (.int .i64 t110) := (blk_cell BK121.out 0).trans rfl;have hcz38_1 : wr.cell? ⟨gb121, 1, none⟩ = some (.int .i64 t111) := (blk_cell BK121.out 1).trans rfl;have hcz38_2 : wr.cell? ⟨gb121, 2, none⟩ = some (.slice Ao24 t112.length co24) := (blk_cell BK121.out 2).trans rfl;have hfz38_0 := blk_frozen BK121.out 0;have hfz38_1 := blk_frozen BK121.out 1;have hfz38_2 := blk_frozen BK121.out 2;have hnb39 := NB101_102.out;have hnc39 := NB102_101.out;have hcz40_0 : wr.cell? ⟨gb101, 0, none⟩ = some (.int .i64 x102000_1) := (blk_cell BK101.out 0).trans rfl;have hcz40_1 : wr.cell? ⟨gb101, 1, none⟩ = some (.int .i64 x102001_1) := (blk_cell BK101.out 1).trans rfl;have hcz40_2 : wr.cell? ⟨gb101, 2, none⟩ = some (.slice Ao17 x102002_1.length co17) := (blk_cell BK101.out 2).trans rfl;have hfz40_0 := blk_frozen BK101.out 0;have hfz40_1 := blk_frozen BK101.out 1;have hfz40_2 := blk_frozen BK101.out 2
         go_wp2
         go_roundg k2
         case measure => have := HK1.out; have := HK2.out; omega
         case rel => exact ⟨(t115), (x8_2), (wrap64 (x9_1 + 1)), (t110), (t111), (t112), (.slice Ao24 t112.length co24), (by first | rfl | (simp; done) | (simp [*]; done)), H', ⟨by have := HK1.out; have := HK2.out; omega⟩, ⟨by (with_reducible repeat (first | apply Kd.R_alloc | apply Kd.R_drewN | apply Kd.R_drew)); exact Kd.R_mono (Kd.R_far (p := ⟨gb101, 2, none⟩) (Kd.R_far (p := ⟨gb101, 1, none⟩) (Kd.R_far (p := ⟨gb101, 0, none⟩) (Kd.R_types HO_11.out BK101.out (by decide)) (fun _ hk => hk.2) (.int .i64 t110)) (fun _ hk => hk.2) (.int .i64 t111)) (fun _ hk => hk.2) (.slice Ao24 t112.length co24)) (fun _ hk => ⟨hk.1.1, hk.1.2⟩)⟩, ⟨by (with_reducible repeat (first | apply Kd.R_alloc | apply Kd.R_drewN | apply Kd.R_drew)); exact Kd.R_mono (Kd.R_far (p := ⟨gb101, 2, none⟩) (Kd.R_far (p := ⟨gb101, 1, none⟩) (Kd.R_far (p := ⟨gb101, 0, none⟩) (Kd.R_types HO_8.out BK101.out (by decide)) (fun _ hk => hk.2) (.int .i64 t110)) (fun _ hk => hk.2) (.int .i64 t111)) (fun _ hk => hk.2) (.slice Ao24 t112.length co24)) (fun _ hk => ⟨hk.1.1, hk.1.2⟩)⟩, ⟨(by first | exact V_orR (by (with_reducible repeat (first | apply Kd.R_alloc | apply Kd.R_drewN | apply Kd.R_drew)); exact Kd.R_mono (Kd.R_far (p := ⟨gb101, 2, none⟩) (Kd.R_far (p := ⟨gb101, 1, none⟩) (Kd.R_far (p := ⟨gb101, 0, none⟩) (Kd.R_types (Kd.R_types (Kd.R_types (Kd.R_apart' (Kd.R_apart' HO_122002.out (Kd.R_typed HO_11.out) (by decide)) (Kd.R_typed HO_8.out) (by decide)) BK101.out (by decide)) BK102.out (by decide)) BK101.out (by decide)) (fun _ hk => hk.2) (.int .i64 t110)) (fun _ hk => hk.2) (.int .i64 t111)) (fun _ hk => hk.2) (.slice Ao24 t112.length co24)) (fun _ hk => ⟨hk.1.1.1.1.1, ⟨hk.1.1.1.1.2, ⟨hk.1.1.1.2, ⟨hk.1.1.2, hk.1.2⟩⟩⟩⟩)) | exact V_orR0 (by (with_reducible repeat (first | apply Kd.R_alloc | apply Kd.R_drewN | apply Kd.R_drew)); exact Kd.R_mono (Kd.R_far (p := ⟨gb101, 2, none⟩) (Kd.R_far (p := ⟨gb101, 1, none⟩) (Kd.R_far (p := ⟨gb101, 0, none⟩) (Kd.R_types (Kd.R_types (Kd.R_types (Kd.R_apart' (Kd.R_apart' HO_122002.out (Kd.R_typed HO_11.out) (by decide)) (Kd.R_typed HO_8.out) (by decide)) BK101.out (by decide)) BK102.out (by decide)) BK101.out (by decide)) (fun _ hk => hk.2) (.int .i64 t110)) (fun _ hk => hk.2) (.int .i64 t111)) (fun _ hk => hk.2) (.slice Ao24 t112.length co24)) (fun _ hk => ⟨hk.1.1.1.1.1, ⟨hk.1.1.1.1.2, ⟨hk.1.1.1.2, ⟨hk.1.1.2, hk.1.2⟩⟩⟩⟩)))⟩, ⟨by (with_reducible repeat (first | refine blk_drewN ?_ _ | refine blk_drew ?_ | refine blk_alloc ?_ _)); refine blk_put (cs := #[.int .i64 t110, .int .i64 t111, .slice Ao17 x102002_1.length co17]) ?_ 2 _ rfl; (with_reducible repeat (first | refine blk_drewN ?_ _ | refine blk_drew ?_ | refine blk_alloc ?_ _)); refine blk_put (cs := #[.int .i64 t110, .int .i64 x102001_1, .slice Ao17 x102002_1.length co17]) ?_ 1 _ rfl; (with_reducible repeat (first | refine blk_drewN ?_ _ | refine blk_drew ?_ | refine blk_alloc ?_ _)); refine blk_put (cs := #[.int .i64 x102000_1, .int .i64 x102001_1, .slice Ao17 x102002_1.length co17]) ?_ 0 _ rfl; exact blc⟩, ⟨by (with_reducible repeat (first | refine blk_drewN ?_ _ | refine blk_drew ?_ | refine blk_alloc ?_ _)); refine blk_far ?_ NB102_101.out _; (with_reducible repeat (first | refine blk_drewN ?_ _ | refine blk_drew ?_ | refine blk_alloc ?_ _)); refine blk_far ?_ NB102_101.out _; (with_reducible repeat (first | refine blk_drewN ?_ _ | refine blk_drew ?_ | refine blk_alloc ?_ _)); refine blk_far ?_ NB102_101.out _; exact blc⟩, ⟨bel HB⟩⟩
     ·rw [if_neg c13] at H
      have c13b0 : decide (x9_1 < 7) = false := decide_eq_false c13;clear c13
      simp only [Option.some.injEq, Prod.mk.injEq] at H
      obtain ⟨rfl, rfl, rfl, rfl⟩ := H;have hnb41 := NB101_102.out;have hnc41 := NB102_101.out;have hcz42_0 : wr.cell? ⟨gb101, 0, none⟩ = some (.int .i64 x102000_1) := (blk_cell BK101.out 0).trans rfl;have hcz42_1 : wr.cell? ⟨gb101, 1, none⟩ = some (.int .i64 x102001_1) := (blk_cell BK101.out 1).trans rfl;have hcz42_2 : wr.cell? ⟨gb101, 2, none⟩ = some (u102002) := (blk_cell BK101.out 2).trans rfl;have hfz42_0 := blk_frozen BK101.out 0;have hfz42_1 := blk_frozen BK101.out 1;have hfz42_2 := blk_frozen BK101.out 2;have hcz43_0 : wr.cell? ⟨gb102, 0, none⟩ = some (.int .i64 0) := (blk_cell BK102.out 0).trans rfl;have hcz43_1 : wr.cell? ⟨gb102, 1, none⟩ = some (.int .i64 0) := (blk_cell BK102.out 1).trans rfl;have hcz43_2 : wr.cell? ⟨gb102, 2, none⟩ = some (.slice none 0 0) := (blk_cell BK102.out 2).trans rfl;have hfz43_0 := blk_frozen BK102.out 0;have hfz43_1 := blk_frozen BK102.out 1;have hfz43_2 := blk_frozen BK102.out 2;obtain ⟨Ao44, co44, eo44⟩ := Kd.V_slice HO_102002.out;subst eo44
      go_wp2
      refine bodyPost_ret (results_ct rfl _ _ gb102 30 #[.int .i64 x102000_1, .int .i64 x102001_1, .slice Ao44 x102002_1.length co44] (0, 0) _ rfl (by (with_reducible repeat (first | refine blk_drewN ?_ _ | refine blk_drew ?_ | refine blk_alloc ?_ _)); refine blk_put (cs := #[.int .i64 x102000_1, .int .i64 x102001_1, .slice none 0 0]) ?_ 2 _ rfl; (with_reducible repeat (first | refine blk_drewN ?_ _ | refine blk_drew ?_ | refine blk_alloc ?_ _)); refine blk_put (cs := #[.int .i64 x102000_1, .int .i64 0, .slice none 0 0]) ?_ 1 _ rfl; (with_reducible repeat (first | refine blk_drewN ?_ _ | refine blk_drew ?_ | refine blk_alloc ?_ _)); refine blk_put (cs := #[.int .i64 0, .int .i64 0, .slice none 0 0]) ?_ 0 _ rfl; exact blc) Tryd.underlying30 rfl (by kernel_rfl)) rfl ?_
      exact ⟨_, _, by first | rfl | (simp [errW_none, errW_some] <;> rfl) | (simp [*, errW_none, errW_some] <;> rfl), by (with_reducible repeat (first | apply Kd.V_alloc | apply Kd.V_drewN | apply Kd.V_drew)); exact Kd.V_mono (Kd.V_far (p := ⟨gb102, 2, none⟩) (Kd.V_far (p := ⟨gb102, 1, none⟩) (Kd.V_far (p := ⟨gb102, 0, none⟩) (Kd.V_mono HO_102002.out (fun k_ hk => (⟨hk, hk.2.2.2.2⟩ : _ ∧ k_ ≠ gb102))) (fun _ hk => hk.2) (.int .i64 x102000_1)) (fun _ hk => hk.2) (.int .i64 x102001_1)) (fun _ hk => hk.2) (.slice Ao44 x102002_1.length co44)) (fun _ hk => ⟨hk.1.1, hk.1.2.2.1⟩), by (with_reducible repeat (first | apply Kd.R_alloc | apply Kd.R_drewN | apply Kd.R_drew)); exact Kd.R_mono (Kd.R_far (p := ⟨gb102, 2, none⟩) (Kd.R_far (p := ⟨gb102, 1, none⟩) (Kd.R_far (p := ⟨gb102, 0, none⟩) (Kd.R_types HO_8.out BK102.out (by decide)) (fun _ hk => hk.2) (.int .i64 x102000_1)) (fun _ hk => hk.2) (.int .i64 x102001_1)) (fun _ hk => hk.2) (.slice Ao44 x102002_1.length co44)) (fun _ hk => hk.1.1), bel HB⟩
  ·rw [if_neg c5] at H
   exact absurd H (by simp)
 ·rw [if_neg c4] at H
  exact absurd H (by simp)
end Go.Proofs.YtkjlfgceodindaaDoor.Q
end
