/- Texts of this claim, joined. -/
import Derived.Test.YtgipkpiddjjhcaaDoorJGreatestPiece01
import Derived.Test.YtgipkpiddjjhcaaDoorJGreatestPiece04
import Derived.Test.YtgipkpiddjjhcaaDoorJGreatestPiece03
import Derived.Maps.OwnOps
import Derived.Maps.OwnSet
import Derived.Maps.Views
import Derived.Maps.RangeWalk
import Derived.Carry
set_option linter.unusedVariables false
set_option linter.unusedSimpArgs false
set_option linter.unusedSectionVars false
section
namespace Go.Proofs.YtgipkpiddjjhcaaDoor.Q
open Go.RowKit Go.Proofs.YtgipkpiddjjhcaaDoorW.PrintWords Go.Proofs.YtgipkpiddjjhcaaDoorW.PrintLast Go.Proofs.YtgipkpiddjjhcaaDoorW.PrintMore
attribute [local go_sem] max2_int min2_int max_two min_two max_three min_three max_four min_four
set_option linter.unusedVariables false
set_option linter.unusedSimpArgs false
mutual
def spec_skMove.l0 : Nat → List Int → Int → Int → List Bool → List Int → Int → Int → Int → Int → List Int → Int → Int → List Int → Option (Int × Int × List Int × List Int × List Bool)
 | 0, _, _, _, _, _, _, _, _, _, _, _, _, _ => none
 | k + 1, x1, x2, x3, x11, x13, x30, x31, x102000, x102001, x102002, x112000, x112001, x112002 => if x31 < x30 then (if 0 ≤ x31 then (if x31 < (x13.length : Int) then (spec_skMove.l0 k x1 x2 x3 x11 (x13.set (x31 : Int).toNat (-1)) x30 (wrap64 (x31 + 1)) x102000 x102001 x102002 x112000 x112001 x112002) else (none)) else (none)) else (if 0 ≤ x2 then (if (x2 : Int).toNat ≤ 281474976710656 then (spec_skMove.l1 k x3 x11 x13 (List.replicate (x2 : Int).toNat false) x1 (x1.length : Int) 0 x102000 x102001 x102002 x112000 x112001 x112002) else (none)) else (none))
def spec_skMove.l1 : Nat → Int → List Bool → List Int → List Bool → List Int → Int → Int → Int → Int → List Int → Int → Int → List Int → Option (Int × Int × List Int × List Int × List Bool)
 | 0, _, _, _, _, _, _, _, _, _, _, _, _, _ => none
 | k + 1, x3, x11, x13, x15, x40, x41, x42, x102000, x102001, x102002, x112000, x112001, x112002 => if x42 < x41 then (if 0 ≤ x42 then (if x42 < (x40.length : Int) then (if (rd x40 x42) < 0 then (spec_skMove.l1 k x3 x11 x13 x15 x40 x41 (wrap64 (x42 + 1)) x102000 x102001 x102002 x112000 x112001 x112002) else (if 0 ≤ (rd x40 x42) then (if (rd x40 x42) < (x11.length : Int) then (if (rdOf false x11 (rd x40 x42) = true) then (if x42 < (x102002.length : Int) then (if x42 < (x112002.length : Int) then (if x42 < (x13.length : Int) then (spec_skMove.l1 k x3 x11 (x13.set (x42 : Int).toNat (rd x40 x42)) x15 x40 x41 (wrap64 (x42 + 1)) x102000 x102001 x102002 x112000 x112001 (x112002.set (x42 : Int).toNat (rd x102002 x42))) else (none)) else (none)) else (none)) else ((spec_tiAhead.f x102000 x102001 x102002 x42 x3).bind fun t124 => (if (rd x40 x42) < (x15.length : Int) then (if x42 < (x102002.length : Int) then (if 0 ≤ t124 then (if t124 < (x112002.length : Int) then (if t124 < (x13.length : Int) then (spec_skMove.l1 k x3 x11 (x13.set (t124 : Int).toNat (rd x40 x42)) (x15.set ((rd x40 x42) : Int).toNat true) x40 x41 (wrap64 (x42 + 1)) x102000 x102001 x102002 x112000 x112001 (x112002.set (t124 : Int).toNat (rd x102002 x42))) else (none)) else (none)) else (none)) else (none)) else (none)))) else (none)) else (none))) else (none)) else (none)) else (some (x112000, x112001, x112002, x13, x15))
end
def spec_skMove.f (k : Nat) (a0_0 : Int) (a0_1 : Int) (l0_2 : List Int) (l1 : List Int) (a2 : Int) (a3 : Int) : Option (Int × Int × List Int × List Int × List Bool) := (spec_skBlocked.f k a0_0 a0_1 l0_2 l1 a2 a3).bind fun t103 => ((spec_tyWalls.f a0_0 a0_1 l0_2).bind fun bt106 => (if 0 ≤ (l1.length : Int) then (if ((l1.length : Int) : Int).toNat ≤ 35184372088832 then ((some (List.replicate ((l1.length : Int) : Int).toNat 0 : List Int)).bind fun y112 => (spec_skMove.l0 k l1 a2 a3 t103 y112 (y112.length : Int) 0 a0_0 a0_1 l0_2 bt106.1 bt106.2.1 bt106.2.2)) else (none)) else (none)))
def spec_skMove.T18 : Bool × List (List Nat × List Nat) := (true, [([], []), ([0], [0]), ([], []), ([], []), ([3], [3]), ([], []), ([4, 5], [4, 5]), ([6], [6]), ([1, 2, 0, 1, 2, 3, 4, 5, 6, 7], [1, 2]), ([8, 7, 0, 1, 2, 3, 4, 5, 6, 7], [7, 8])])
def spec_skMove.B18 : List Nat := [0, 1, 0, 0, 8, 0, 56, 120, 255, 511]
theorem spec_skMove.tab18 : rtab .any (opsOf Tryd.f29 18) = spec_skMove.T18 := by kernel_rfl
theorem spec_skMove.bits18 : waitsOk spec_skMove.T18.2 spec_skMove.B18 = true := by kernel_rfl
set_option maxHeartbeats 8000000 in
set_option maxRecDepth 100000 in
theorem spec_skMove.calls (k : Nat) (a0_0 : Int) (a0_1 : Int) (A0_2 : Option Addr) (c0_2 : Nat) (l0_2 : List Int) (A1 : Option Addr) (c1 : Nat) (l1 : List Int) (a2 : Int) (a3 : Int) (r1 : Int) (r2 : Int) (r3 : List Int) (r4 : List Int) (r5 : List Bool) (w : World) (hr0_2 : Kd.C (Kd.int .u8) w A0_2 l0_2.length l0_2) (hc0_2 : l0_2.length ≤ c0_2) (hr1 : Kd.C (Kd.int .i64) w A1 l1.length l1) (hc1 : l1.length ≤ c1) (h : spec_skMove.f k a0_0 a0_1 l0_2 l1 a2 a3 = some (r1, r2, r3, r4, r5)) :
  Calls Tryd.prog 29 #[.agg #[.int .i64 a0_0, .int .i64 a0_1, .slice A0_2 l0_2.length c0_2], .slice A1 l1.length c1, .int .i64 a2, .int .i64 a3] w fun e w' => ∃ v2_ v3_ v4_ : Value, e = .returned (.tuple #[.agg #[.int .i64 r1, .int .i64 r2, v2_], v3_, v4_]) ∧ Kd.R (Kd.int .u8) 5 w' w.heap.size (fun _ => True) v2_ r3 ∧ Kd.R (Kd.int .i64) 3 w' w.heap.size (fun _ => True) v3_ r4 ∧ Kd.R Kd.bool 4 w' w.heap.size (fun _ => True) v4_ r5 ∧ Below w.heap.size w w' := by
 have hu36 := Tryd.underlying36
 have HR0_2 := Aside0.mk hr0_2
 have HC0_2 := Aside0.mk hc0_2
 clear hr0_2 hc0_2
 have HR1 := Aside0.mk hr1
 have HC1 := Aside0.mk hc1
 clear hr1 hc1
 have HB := Aside0.mk (Below.refl w.heap.size w)
 have H : ((spec_skBlocked.f k a0_0 a0_1 l0_2 l1 a2 a3).bind fun t103 => ((spec_tyWalls.f a0_0 a0_1 l0_2).bind fun bt106 => (if 0 ≤ (l1.length : Int) then (if ((l1.length : Int) : Int).toNat ≤ 35184372088832 then ((some (List.replicate ((l1.length : Int) : Int).toNat 0 : List Int)).bind fun y112 => (spec_skMove.l0 k l1 a2 a3 t103 y112 (y112.length : Int) 0 a0_0 a0_1 l0_2 bt106.1 bt106.2.1 bt106.2.2)) else (none)) else (none)))) = some (r1, r2, r3, r4, r5) := h
 clear h
 replace H := Option.bind_eq_some_iff.mp H
 obtain ⟨t103, A50, H⟩ := H
 replace H : ((spec_tyWalls.f a0_0 a0_1 l0_2).bind fun bt106 => (if 0 ≤ (l1.length : Int) then (if ((l1.length : Int) : Int).toNat ≤ 35184372088832 then ((some (List.replicate ((l1.length : Int) : Int).toNat 0 : List Int)).bind fun y112 => (spec_skMove.l0 k l1 a2 a3 t103 y112 (y112.length : Int) 0 a0_0 a0_1 l0_2 bt106.1 bt106.2.1 bt106.2.2)) else (none)) else (none))) = some (r1, r2, r3, r4, r5) := H
 have A5 := Aside0.mk A50
 clear A50
 replace H := Option.bind_eq_some_iff.mp H
 obtain ⟨⟨t106, t107, t108⟩, A60, H⟩ := H
 replace H : (if 0 ≤ (l1.length : Int) then (if ((l1.length : Int) : Int).toNat ≤ 35184372088832 then ((some (List.replicate ((l1.length : Int) : Int).toNat 0 : List Int)).bind fun y112 => (spec_skMove.l0 k l1 a2 a3 t103 y112 (y112.length : Int) 0 a0_0 a0_1 l0_2 t106 t107 t108)) else (none)) else (none)) = some (r1, r2, r3, r4, r5) := H
 have A6 := Aside0.mk A60
 clear A60
 by_cases c7 : 0 ≤ (l1.length : Int)
 ·rw [if_pos c7] at H
  have c7b0 := eq_true c7
  have c7b1 : decide (0 ≤ (l1.length : Int)) = true := decide_eq_true c7
  clear c7
  by_cases c8 : ((l1.length : Int) : Int).toNat ≤ 35184372088832
  ·rw [if_pos c8] at H
   have c8b0 := eq_true c8
   have c8b1 : decide (((l1.length : Int) : Int).toNat ≤ 35184372088832) = true := decide_eq_true c8
   clear c8
   obtain ⟨y112, hy112⟩ : ∃ y_ : List Int, y_ = (List.replicate ((l1.length : Int) : Int).toNat 0) := ⟨_, rfl⟩
   replace H : (spec_skMove.l0 k l1 a2 a3 t103 y112 (y112.length : Int) 0 a0_0 a0_1 l0_2 t106 t107 t108) = some (r1, r2, r3, r4, r5) := rH hy112 H
   have Ny112 := Aside0.mk hy112
   clear hy112
   have H' := Aside0.mk H
   clear H
   go_enter Tryd.func29, Tryd.ntmps29
   go_wp2_with (first | ((with_reducible refine gate_dst (N := 4) rfl ?_); refine boxE (N := 4) (cs := #[.int .i64 a0_0, .int .i64 a0_1, .slice A0_2 l0_2.length c0_2]) (t := 36) ?_; intro gb101 hg w9 hbox hb; have n0_ := Aside0.mk (below_step (bel HB) hb); have n1_ := Aside0.mk (hbox); have n2_ := Aside0.mk (gsz hg (bel HB)); have n3_ := Aside0.mk (gsz hg (bel HB)); clear HB; have HB := n0_; have BK101 := n1_; have GW101 := n2_; have GE101 := n3_; clear n0_ n1_ n2_ n3_; clear hb hbox hg) | ((with_reducible refine gate_dst (N := 8) rfl ?_); refine boxE (N := 8) (cs := #[.int .i64 0, .int .i64 0, .slice none 0 0]) (t := 36) ?_; intro gb102 hg w10 hbox hb; have n0_ := Aside0.mk (blk_below (g := gb101) (o := .cells #[.int .i64 a0_0, .int .i64 a0_1, .slice A0_2 l0_2.length c0_2] 36 (0, 0)) blc hb); have n1_ := Aside0.mk (below_step (bel HB) hb); have n2_ := Aside0.mk (hbox); have n3_ := Aside0.mk (gsz hg (bel HB)); have n4_ := Aside0.mk (gsz hg (bel HB)); have n5_ := Aside0.mk ((by rw [hg]; exact Nat.ne_of_lt (blk_lt (g := gb101) (o := .cells #[.int .i64 a0_0, .int .i64 a0_1, .slice A0_2 l0_2.length c0_2] 36 (0, 0)) blc) : gb101 ≠ gb102)); have n6_ := Aside0.mk ((by rw [hg]; exact Nat.ne_of_gt (blk_lt (g := gb101) (o := .cells #[.int .i64 a0_0, .int .i64 a0_1, .slice A0_2 l0_2.length c0_2] 36 (0, 0)) blc) : gb102 ≠ gb101)); clear BK101; clear HB; have BK101 := n0_; have HB := n1_; have BK102 := n2_; have GW102 := n3_; have GE102 := n4_; have NB101_102 := n5_; have NB102_101 := n6_; clear n0_ n1_ n2_ n3_ n4_ n5_ n6_; clear hb hbox hg; have hnb11 := NB101_102.out; have hnc11 := NB102_101.out; have hcz12_0 : w10.cell? ⟨gb101, 0, none⟩ = some (.int .i64 a0_0) := (blk_cell BK101.out 0).trans rfl; have hcz12_1 : w10.cell? ⟨gb101, 1, none⟩ = some (.int .i64 a0_1) := (blk_cell BK101.out 1).trans rfl; have hcz12_2 : w10.cell? ⟨gb101, 2, none⟩ = some (.slice A0_2 l0_2.length c0_2) := (blk_cell BK101.out 2).trans rfl; have hfz12_0 := blk_frozen BK101.out 0; have hfz12_1 := blk_frozen BK101.out 1; have hfz12_2 := blk_frozen BK101.out 2) | ((with_reducible refine gate_callee (f := 53) rfl ?_); refine gcall (some 23) Tryd.func53 #[.agg #[.int .i64 a0_0, .int .i64 a0_1, .slice A0_2 l0_2.length c0_2], .slice A1 l1.length c1, .int .i64 a2, .int .i64 a3] rfl ?_; (with_reducible refine (spec_skBlocked.calls k a0_0 a0_1 _ _ l0_2 _ _ l1 a2 a3 t103 _ ?side1 ?side2 ?side3 ?side4 A5.out).mono ?_); (case side1 => repeat (first | exact (Kd.C_below HR0_2.out HB.out) | (with_reducible refine Kd.C_alloc ?_ _) | (with_reducible refine Kd.C_drewN ?_ _) | (with_reducible refine Kd.C_drew ?_))); (case side2 => exact HC0_2.out); (case side3 => repeat (first | exact (Kd.C_below HR1.out HB.out) | (with_reducible refine Kd.C_alloc ?_ _) | (with_reducible refine Kd.C_drewN ?_ _) | (with_reducible refine Kd.C_drew ?_))); (case side4 => exact HC1.out); rintro e w13 ⟨v104, rfl, ho0, hb⟩; refine ⟨_, rfl, ?_⟩; have n0_ := Aside0.mk (Kd.R_lower ho0 (below_size (bel HB))); have n1_ := Aside0.mk (blk_below (g := gb101) (o := .cells #[.int .i64 a0_0, .int .i64 a0_1, .slice A0_2 l0_2.length c0_2] 36 (0, 0)) blc hb); have n2_ := Aside0.mk (blk_below (g := gb102) (o := .cells #[.int .i64 0, .int .i64 0, .slice none 0 0] 36 (0, 0)) blc hb); have n3_ := Aside0.mk (below_step (bel HB) hb); clear BK101; clear BK102; clear HB; have HO105 := n0_; have BK101 := n1_; have BK102 := n2_; have HB := n3_; clear n0_ n1_ n2_ n3_; (try clear hb); (try clear hb2); (try clear hk); (try clear hi); (try clear ho0); have hcz14_0 : w13.cell? ⟨gb101, 0, none⟩ = some (.int .i64 a0_0) := (blk_cell BK101.out 0).trans rfl; have hcz14_1 : w13.cell? ⟨gb101, 1, none⟩ = some (.int .i64 a0_1) := (blk_cell BK101.out 1).trans rfl; have hcz14_2 : w13.cell? ⟨gb101, 2, none⟩ = some (.slice A0_2 l0_2.length c0_2) := (blk_cell BK101.out 2).trans rfl; have hfz14_0 := blk_frozen BK101.out 0; have hfz14_1 := blk_frozen BK101.out 1; have hfz14_2 := blk_frozen BK101.out 2) | ((with_reducible refine gate_callee (f := 54) rfl ?_); refine gcall (some 25) Tryd.func54 #[.agg #[.int .i64 a0_0, .int .i64 a0_1, .slice A0_2 l0_2.length c0_2]] rfl ?_; (with_reducible refine (spec_tyWalls.calls a0_0 a0_1 _ _ l0_2 t106 t107 t108 _ ?side1 ?side2 A6.out).mono ?_); (case side1 => repeat (first | exact (Kd.C_below HR0_2.out HB.out) | (with_reducible refine Kd.C_alloc ?_ _) | (with_reducible refine Kd.C_drewN ?_ _) | (with_reducible refine Kd.C_drew ?_))); (case side2 => exact HC0_2.out); rintro e w15 ⟨v109, rfl, ho0, hb⟩; refine ⟨_, rfl, ?_⟩; have n0_ := Aside0.mk (Kd.R_below (rch HO105) hb); have n1_ := Aside0.mk (Kd.R_lower ho0 (below_size (bel HB))); have n2_ := Aside0.mk (blk_below (g := gb101) (o := .cells #[.int .i64 a0_0, .int .i64 a0_1, .slice A0_2 l0_2.length c0_2] 36 (0, 0)) blc hb); have n3_ := Aside0.mk (blk_below (g := gb102) (o := .cells #[.int .i64 0, .int .i64 0, .slice none 0 0] 36 (0, 0)) blc hb); have n4_ := Aside0.mk (below_step (bel HB) hb); clear HO105; clear BK101; clear BK102; clear HB; have HO105 := n0_; have HO110 := n1_; have BK101 := n2_; have BK102 := n3_; have HB := n4_; clear n0_ n1_ n2_ n3_ n4_; (try clear hb); (try clear hb2); (try clear hk); (try clear hi); (try clear ho0)) | ((with_reducible refine gate_dst (N := 12) rfl ?_); refine boxE (N := 12) (cs := #[.int .i64 0, .int .i64 0, .slice none 0 0]) (t := 36) ?_; intro gb111 hg w16 hbox hb; have n0_ := Aside0.mk (Kd.R_below (rch HO105) hb); have n1_ := Aside0.mk (Kd.R_below (rch HO110) hb); have n2_ := Aside0.mk (blk_below (g := gb101) (o := .cells #[.int .i64 a0_0, .int .i64 a0_1, .slice A0_2 l0_2.length c0_2] 36 (0, 0)) blc hb); have n3_ := Aside0.mk (blk_below (g := gb102) (o := .cells #[.int .i64 0, .int .i64 0, .slice none 0 0] 36 (0, 0)) blc hb); have n4_ := Aside0.mk (below_step (bel HB) hb); have n5_ := Aside0.mk (hbox); have n6_ := Aside0.mk (gsz hg (bel HB)); have n7_ := Aside0.mk (gsz hg (bel HB)); have n8_ := Aside0.mk ((by rw [hg]; exact Nat.ne_of_lt (blk_lt (g := gb101) (o := .cells #[.int .i64 a0_0, .int .i64 a0_1, .slice A0_2 l0_2.length c0_2] 36 (0, 0)) blc) : gb101 ≠ gb111)); have n9_ := Aside0.mk ((by rw [hg]; exact Nat.ne_of_gt (blk_lt (g := gb101) (o := .cells #[.int .i64 a0_0, .int .i64 a0_1, .slice A0_2 l0_2.length c0_2] 36 (0, 0)) blc) : gb111 ≠ gb101)); have n10_ := Aside0.mk ((by rw [hg]; exact Nat.ne_of_lt (blk_lt (g := gb102) (o := .cells #[.int .i64 0, .int .i64 0, .slice none 0 0] 36 (0, 0)) blc) : gb102 ≠ gb111)); have n11_ := Aside0.mk ((by rw [hg]; exact Nat.ne_of_gt (blk_lt (g := gb102) (o := .cells #[.int .i64 0, .int .i64 0, .slice none 0 0] 36 (0, 0)) blc) : gb111 ≠ gb102)); clear HO105; clear HO110; clear BK101; clear BK102; clear HB; have HO105 := n0_; have HO110 := n1_; have BK101 := n2_; have BK102 := n3_; have HB := n4_; have BK111 := n5_; have GW111 := n6_; have GE111 := n7_; have NB101_111 := n8_; have NB111_101 := n9_; have NB102_111 := n10_; have NB111_102 := n11_; clear n0_ n1_ n2_ n3_ n4_ n5_ n6_ n7_ n8_ n9_ n10_ n11_; clear hb hbox hg; have hnb17 := NB111_101.out; have hnc17 := NB101_111.out; have hnb18 := NB111_102.out; have hnc18 := NB102_111.out; have hcz19_0 : w16.cell? ⟨gb111, 0, none⟩ = some (.int .i64 0) := (blk_cell BK111.out 0).trans rfl; have hcz19_1 : w16.cell? ⟨gb111, 1, none⟩ = some (.int .i64 0) := (blk_cell BK111.out 1).trans rfl; have hcz19_2 : w16.cell? ⟨gb111, 2, none⟩ = some (.slice none 0 0) := (blk_cell BK111.out 2).trans rfl; have hfz19_0 := blk_frozen BK111.out 0; have hfz19_1 := blk_frozen BK111.out 1; have hfz19_2 := blk_frozen BK111.out 2; obtain ⟨Ao20, co20, eo20⟩ := Kd.R_slice HO110.out; subst eo20) | ((with_reducible refine gate_dst (N := 28) rfl ?_); refine Kd.R_make (Kd.int .i64) _ 3 rfl (N := 28) rfl 25 _ _ rfl (l1.length : Int) rfl rfl Tryd.underlying25 (.int .i64 0) 8 info3 rfl (by decide) (by omega) 0 (ok := fun _ => True) (okp := fun _ => True) rfl (fun _ hk => hk) trivial (of_decide_eq_true (by first | (with_reducible assumption) | assumption)) (Nat.le_trans (Nat.mul_le_mul_right _ (of_decide_eq_true (by first | (with_reducible assumption) | assumption) : (l1.length : Int).toNat ≤ 35184372088832)) (by omega)) (Below.refl _ _) (Nat.le_refl _) ?_; intro v113 w21 ho22 hb hg_ hnew_; clear hg_ hnew_; (first | rw [← Ny112.out] at ho22 | (simp only [Int.reduceToNat] at ho22; rw [← Ny112.out] at ho22)); have n0_ := Aside0.mk (Kd.R_below (by (with_reducible repeat (first | apply Kd.R_alloc | apply Kd.R_drewN | apply Kd.R_drew)); exact (Kd.R_mono (Kd.R_far (p := ⟨gb111, 2, none⟩) (Kd.R_far (p := ⟨gb111, 1, none⟩) (Kd.R_far (p := ⟨gb111, 0, none⟩) (Kd.R_types HO105.out BK111.out (by decide)) (fun _ hk => hk.2) (.int .i64 t106)) (fun _ hk => hk.2) (.int .i64 t107)) (fun _ hk => hk.2) (.slice Ao20 t108.length co20)) (fun _ h_ => h_.1))) hb); have n1_ := Aside0.mk (Kd.R_below (by (with_reducible repeat (first | apply Kd.R_alloc | apply Kd.R_drewN | apply Kd.R_drew)); exact (Kd.R_mono (Kd.R_far (p := ⟨gb111, 2, none⟩) (Kd.R_far (p := ⟨gb111, 1, none⟩) (Kd.R_far (p := ⟨gb111, 0, none⟩) (Kd.R_types HO110.out BK111.out (by decide)) (fun _ hk => hk.2) (.int .i64 t106)) (fun _ hk => hk.2) (.int .i64 t107)) (fun _ hk => hk.2) (.slice Ao20 t108.length co20)) (fun _ h_ => h_.1))) hb); have n2_ := Aside0.mk (Kd.R_lower ho22 (below_size (bel HB))); have n3_ := Aside0.mk (blk_below (g := gb101) (o := .cells #[.int .i64 a0_0, .int .i64 a0_1, .slice A0_2 l0_2.length c0_2] 36 (0, 0)) (by (with_reducible repeat (first | refine blk_drewN ?_ _ | refine blk_drew ?_ | refine blk_alloc ?_ _)); refine blk_far ?_ NB101_111.out _; (with_reducible repeat (first | refine blk_drewN ?_ _ | refine blk_drew ?_ | refine blk_alloc ?_ _)); refine blk_far ?_ NB101_111.out _; (with_reducible repeat (first | refine blk_drewN ?_ _ | refine blk_drew ?_ | refine blk_alloc ?_ _)); refine blk_far ?_ NB101_111.out _; exact blc) hb); have n4_ := Aside0.mk (blk_below (g := gb102) (o := .cells #[.int .i64 0, .int .i64 0, .slice none 0 0] 36 (0, 0)) (by (with_reducible repeat (first | refine blk_drewN ?_ _ | refine blk_drew ?_ | refine blk_alloc ?_ _)); refine blk_far ?_ NB102_111.out _; (with_reducible repeat (first | refine blk_drewN ?_ _ | refine blk_drew ?_ | refine blk_alloc ?_ _)); refine blk_far ?_ NB102_111.out _; (with_reducible repeat (first | refine blk_drewN ?_ _ | refine blk_drew ?_ | refine blk_alloc ?_ _)); refine blk_far ?_ NB102_111.out _; exact blc) hb); have n5_ := Aside0.mk (blk_below (g := gb111) (o := .cells #[.int .i64 t106, .int .i64 t107, .slice Ao20 t108.length co20] 36 (0, 0)) (by (with_reducible repeat (first | refine blk_drewN ?_ _ | refine blk_drew ?_ | refine blk_alloc ?_ _)); refine blk_put (cs := #[.int .i64 t106, .int .i64 t107, .slice none 0 0]) ?_ 2 _ rfl; (with_reducible repeat (first | refine blk_drewN ?_ _ | refine blk_drew ?_ | refine blk_alloc ?_ _)); refine blk_put (cs := #[.int .i64 t106, .int .i64 0, .slice none 0 0]) ?_ 1 _ rfl; (with_reducible repeat (first | refine blk_drewN ?_ _ | refine blk_drew ?_ | refine blk_alloc ?_ _)); refine blk_put (cs := #[.int .i64 0, .int .i64 0, .slice none 0 0]) ?_ 0 _ rfl; exact blc) hb); have n6_ := Aside0.mk (below_step (bel HB) hb); clear HO105; clear HO110; clear BK101; clear BK102; clear BK111; clear HB; have HO105 := n0_; have HO110 := n1_; have HO114 := n2_; have BK101 := n3_; have BK102 := n4_; have BK111 := n5_; have HB := n6_; clear n0_ n1_ n2_ n3_ n4_ n5_ n6_; clear hb ho22; obtain ⟨Ao23, co23, eo23⟩ := Kd.R_slice HO114.out; subst eo23))
   go_loopg [31] k (fun kq v31 w' => ∃ (x13_1 : List Int) (x31_1 : Int), v31 = .int .i64 x31_1 ∧ Aside0 (spec_skMove.l0 kq l1 a2 a3 t103 x13_1 (y112.length : Int) x31_1 a0_0 a0_1 l0_2 t106 t107 t108 = some (r1, r2, r3, r4, r5)) ∧ Aside0 (kq ≤ k) ∧ Aside0 (Kd.R Kd.bool 4 w' w.heap.size (fun _ => True) v104 t103) ∧ Aside0 (Kd.R (Kd.int .i64) 3 w' w.heap.size (fun _ => True) (.slice Ao23 y112.length co23) x13_1) ∧ Aside0 (Kd.R (Kd.int .u8) 5 w' w.heap.size (fun _ => True) (.slice Ao20 t108.length co20) t108) ∧ Aside0 (w'.heap[gb101]? = some (.cells #[.int .i64 a0_0, .int .i64 a0_1, (.slice A0_2 l0_2.length c0_2)] 36 (0, 0))) ∧ Aside0 (w'.heap[gb102]? = some (.cells #[.int .i64 0, .int .i64 0, (.slice none 0 0)] 36 (0, 0))) ∧ Aside0 (w'.heap[gb111]? = some (.cells #[.int .i64 t106, .int .i64 t107, (.slice Ao20 t108.length co20)] 36 (0, 0))) ∧ Aside0 (Below w.heap.size w w'))
   case atStart => exact ⟨(y112), (0), (by first | rfl | (simp; done) | (simp [*]; done)), H', ⟨Nat.le_refl _⟩, ⟨rch HO105⟩, ⟨rch HO114⟩, ⟨rch HO110⟩, ⟨blc⟩, ⟨blc⟩, ⟨blc⟩, ⟨bel HB⟩⟩
   case round =>
    clear H'
    try clear c1
    try clear c2
    try clear p2
    try clear c5
    try clear c7
    try clear c7b0
    try clear c7b0y
    try clear c7b1
    try clear c8
    try clear c8b0
    try clear c8b0y
    try clear c8b1
    try clear c11
    try clear c17
    try clear c18
    try clear hcz12_0
    try clear hcz12_1
    try clear hcz12_2
    try clear hcz14_0
    try clear hcz14_1
    try clear hcz14_2
    try clear hcz19_0
    try clear hcz19_1
    try clear hcz19_2
    try clear hfz12_0
    try clear hfz12_1
    try clear hfz12_2
    try clear hfz14_0
    try clear hfz14_1
    try clear hfz14_2
    try clear hfz19_0
    try clear hfz19_1
    try clear hfz19_2
    obtain ⟨x13_1, x31_1, rfl, HA, HK1, HO_11, HO_13, HO_112002, BK101, BK102, BK111, HB⟩ := hrel
    have hl13_1 := (Kd.R_reads' HO_13.out).1
    rw [hl13_1] at HO_13
    (try simp only [hl13_1])
    (try simp only [hl13_1] at BK101)
    (try simp only [hl13_1] at BK102)
    (try simp only [hl13_1] at BK111)
    (try simp only [hl13_1] at HO_11)
    (try simp only [hl13_1] at HO_112002)
    cases gk with
    | zero => exact absurd HA.out (by simp [spec_skMove.l0])
    | succ k1 =>
     have H := HA.out
     clear HA
     simp only [spec_skMove.l0] at H
     by_cases c24 : x31_1 < (y112.length : Int)
     ·rw [if_pos c24] at H
      have c24b0 : decide (x31_1 < (y112.length : Int)) = true := decide_eq_true c24
      clear c24
      by_cases c25 : 0 ≤ x31_1
      ·rw [if_pos c25] at H
       have c25b0 : decide (0 ≤ x31_1) = true := decide_eq_true c25
       clear c25
       by_cases c26 : x31_1 < (x13_1.length : Int)
       ·rw [if_pos c26] at H
        have c26b0 : decide (x31_1 < (x13_1.length : Int)) = true := decide_eq_true c26
        clear c26
        obtain ⟨y115, hy115⟩ : ∃ y_ : List Int, y_ = (x13_1.set (x31_1 : Int).toNat (-1)) := ⟨_, rfl⟩
        replace H : (spec_skMove.l0 k1 l1 a2 a3 t103 y115 (y112.length : Int) (wrap64 (x31_1 + 1)) a0_0 a0_1 l0_2 t106 t107 t108) = some (r1, r2, r3, r4, r5) := rH hy115 H
        have Ny115 := Aside0.mk hy115
        clear hy115
        have H' := Aside0.mk H
        clear H
        have p27 : 0 ≤ (x31_1 : Int) := of_decide_eq_true (by first | (with_reducible assumption) | assumption)
        have q27 : (x31_1 : Int) < ((x13_1.length : Int) : Int) := of_decide_eq_true (by first | (with_reducible assumption) | assumption)
        obtain ⟨go27, co27, eo27, gb27, gl27, cl27, HG27⟩ := Kd.R_form HO_13.out (by omega)
        (first | cases eo27 | (injection eo27 with ea_ en_ ec_; (first | subst ea_ | (injection ea_ with ea_; subst ea_)); subst ec_; clear en_))
        have GB27 := Aside0.mk gb27
        have GG27 := Aside0.mk HG27
        clear gb27 gl27 HG27
        obtain ⟨hx27_0, hf27_0⟩ := Kd.R_celln 0 HO_13.out (x31_1 : Int) p27 q27
        replace p27 := eq_true p27
        replace q27 := eq_true q27
        have HP28 := Kd.R_putg HO_13.out (x31_1 : Int) (-1)
        go_wp2_with (first | ((with_reducible refine gate_store (t := 3) (p := 36) rfl ?_); refine store_event (t := 3) (p := 36) (v := ?vo_w29) (w1 := (wr.setCell ⟨go27, (x31_1 : Int).toNat, none⟩ (.int .i64 (-1)))) ?hg ?ho ?hn ?hr ?_; (case ho => rfl); (case hg => rfl); (case hn => rfl); (case hr => first | (go_simp; done) | (go_simp; rfl)); intro w29 hw; have hg : wr.grownBy w29 (some go27) := (by rw [hw]; exact HP28.2); have hp_ : Kd.R (Kd.int .i64) 3 w29 w.heap.size (fun _ => True) (.slice (some ⟨go27, 0, none⟩) x13_1.length co23) y115 := (by rw [hw, Ny115.out]; (first | exact HP28.1 | exact R_any HP28.1)); clear HP28; have n0_ := Aside0.mk (Kd.R_over' (v := (.slice (some ⟨go27, 0, none⟩) x13_1.length co23)) (rch HO_11) (Kd.R_typed HO_13.out) (by decide) hg); have n1_ := Aside0.mk (hp_); have n2_ := Aside0.mk (Kd.R_over' (v := (.slice (some ⟨go27, 0, none⟩) x13_1.length co23)) (rch HO_112002) (Kd.R_typed HO_13.out) (by decide) hg); have n3_ := Aside0.mk (blk_grown (g := gb101) (o := .cells #[.int .i64 a0_0, .int .i64 a0_1, .slice A0_2 l0_2.length c0_2] 36 (0, 0)) blc hg (Kd.R_ne HO_13.out BK101.out (by decide))); have n4_ := Aside0.mk (blk_grown (g := gb102) (o := .cells #[.int .i64 0, .int .i64 0, .slice none 0 0] 36 (0, 0)) blc hg (Kd.R_ne HO_13.out BK102.out (by decide))); have n5_ := Aside0.mk (blk_grown (g := gb111) (o := .cells #[.int .i64 t106, .int .i64 t107, .slice Ao20 t108.length co20] 36 (0, 0)) blc hg (Kd.R_ne HO_13.out BK111.out (by decide))); have n6_ := Aside0.mk ((by rw [hw]; exact below_set (HB.out) GB27.out : Below w.heap.size w w29)); clear HO_11; clear HO_13; clear HO_112002; clear BK101; clear BK102; clear BK111; clear HB; have HO_11 := n0_; have HO_13 := n1_; have HO_112002 := n2_; have BK101 := n3_; have BK102 := n4_; have BK111 := n5_; have HB := n6_; clear n0_ n1_ n2_ n3_ n4_ n5_ n6_; clear hg hw hp_))
        (try simp only [← hl13_1])
        go_roundg k1
        case measure => have := HK1.out; omega
        case rel => exact ⟨(y115), (wrap64 (x31_1 + 1)), (by first | rfl | (simp; done) | (simp [*]; done)), H', ⟨by have := HK1.out; omega⟩, ⟨by (try simp only [hl13_1]); (with_reducible repeat (first | apply Kd.R_alloc | apply Kd.R_drewN | apply Kd.R_drew)); (first | exact HO_11.out | exact R_any HO_11.out)⟩, ⟨by (try simp only [hl13_1]); (with_reducible repeat (first | apply Kd.R_alloc | apply Kd.R_drewN | apply Kd.R_drew)); (first | exact HO_13.out | exact R_any HO_13.out)⟩, ⟨by (try simp only [hl13_1]); (with_reducible repeat (first | apply Kd.R_alloc | apply Kd.R_drewN | apply Kd.R_drew)); (first | exact HO_112002.out | exact R_any HO_112002.out)⟩, ⟨by (try simp only [hl13_1]); exact blc⟩, ⟨by (try simp only [hl13_1]); exact blc⟩, ⟨by (try simp only [hl13_1]); exact blc⟩, ⟨bel HB⟩⟩
       ·rw [if_neg c26] at H
        exact absurd H (by simp)
      ·rw [if_neg c25] at H
       exact absurd H (by simp)
     ·rw [if_neg c24] at H
      have c24b0 : decide (x31_1 < (y112.length : Int)) = false := decide_eq_false c24
      (try (have c24b0y := c24b0; first | rw [hl13_1] at c24b0y))
      clear c24
      by_cases c30 : 0 ≤ a2
      ·rw [if_pos c30] at H
       have c30b0 := eq_true c30
       have c30b1 : decide (0 ≤ a2) = true := decide_eq_true c30
       clear c30
       by_cases c31 : (a2 : Int).toNat ≤ 281474976710656
       ·rw [if_pos c31] at H
        have c31b0 := eq_true c31
        have c31b1 : decide ((a2 : Int).toNat ≤ 281474976710656) = true := decide_eq_true c31
        clear c31
        obtain ⟨y116, hy116⟩ : ∃ y_ : List Bool, y_ = (List.replicate (a2 : Int).toNat false) := ⟨_, rfl⟩
        replace H : (spec_skMove.l1 k1 a3 t103 x13_1 y116 l1 (l1.length : Int) 0 a0_0 a0_1 l0_2 t106 t107 t108) = some (r1, r2, r3, r4, r5) := rH hy116 H
        have Ny116 := Aside0.mk hy116
        clear hy116
        have H' := Aside0.mk H
        clear H
        go_wp2_with (first | ((with_reducible refine gate_dst (N := 39) rfl ?_); refine Kd.R_make Kd.bool _ 4 rfl (N := 39) rfl 41 _ _ rfl a2 rfl rfl Tryd.underlying41 (.bool false) 1 info4 rfl (by decide) (by omega) false (ok := fun _ => True) (okp := fun _ => True) rfl (fun _ hk => hk) trivial (of_decide_eq_true (by first | (with_reducible assumption) | assumption)) (Nat.le_trans (Nat.mul_le_mul_right _ (of_decide_eq_true (by first | (with_reducible assumption) | assumption) : a2.toNat ≤ 281474976710656)) (by omega)) (Below.refl _ _) (Nat.le_refl _) ?_; intro v117 w32 ho33 hb hg_ hnew_; clear hg_ hnew_; (first | rw [← Ny116.out] at ho33 | (simp only [Int.reduceToNat] at ho33; rw [← Ny116.out] at ho33)); have n0_ := Aside0.mk (Kd.R_elder' (rch HO_11) (Kd.R_base ho33) hb); have n1_ := Aside0.mk (Kd.R_below (rch HO_13) hb); have n2_ := Aside0.mk (Kd.R_below (rch HO_112002) hb); have n3_ := Aside0.mk (Kd.R_lower (Kd.R_new' ho33 (Kd.R_lt (rch HO_11))) (below_size (bel HB))); have n4_ := Aside0.mk (blk_below (g := gb101) (o := .cells #[.int .i64 a0_0, .int .i64 a0_1, .slice A0_2 l0_2.length c0_2] 36 (0, 0)) blc hb); have n5_ := Aside0.mk (blk_below (g := gb102) (o := .cells #[.int .i64 0, .int .i64 0, .slice none 0 0] 36 (0, 0)) blc hb); have n6_ := Aside0.mk (blk_below (g := gb111) (o := .cells #[.int .i64 t106, .int .i64 t107, .slice Ao20 t108.length co20] 36 (0, 0)) blc hb); have n7_ := Aside0.mk (below_step (bel HB) hb); clear HO_11; clear HO_13; clear HO_112002; clear BK101; clear BK102; clear BK111; clear HB; have HO_11 := n0_; have HO_13 := n1_; have HO_112002 := n2_; have HO118 := n3_; have BK101 := n4_; have BK102 := n5_; have BK111 := n6_; have HB := n7_; clear n0_ n1_ n2_ n3_ n4_ n5_ n6_ n7_; clear hb ho33))
        go_loopg [42] k1 (fun kq v42 w' => ∃ (x13_2 : List Int) (x15_2 : List Bool) (x42_2 : Int) (x112002_2 : List Int) (u112002 : Value), v42 = .int .i64 x42_2 ∧ Aside0 (spec_skMove.l1 kq a3 t103 x13_2 x15_2 l1 (l1.length : Int) x42_2 a0_0 a0_1 l0_2 t106 t107 x112002_2 = some (r1, r2, r3, r4, r5)) ∧ Aside0 (kq ≤ k1) ∧ Aside0 (Kd.R Kd.bool 4 w' w.heap.size (fun k_ => some k_ ≠ (v117 : Value).ownBlock) v104 t103) ∧ Aside0 (Kd.R (Kd.int .i64) 3 w' w.heap.size (fun _ => True) (.slice Ao23 x13_1.length co23) x13_2) ∧ Aside0 (Kd.R Kd.bool 4 w' w.heap.size (fun k_ => some k_ ≠ (v104 : Value).ownBlock) v117 x15_2) ∧ Aside0 (Kd.R (Kd.int .u8) 5 w' w.heap.size (fun _ => True) u112002 x112002_2) ∧ Aside0 (w'.heap[gb101]? = some (.cells #[.int .i64 a0_0, .int .i64 a0_1, (.slice A0_2 l0_2.length c0_2)] 36 (0, 0))) ∧ Aside0 (w'.heap[gb102]? = some (.cells #[.int .i64 0, .int .i64 0, (.slice none 0 0)] 36 (0, 0))) ∧ Aside0 (w'.heap[gb111]? = some (.cells #[.int .i64 t106, .int .i64 t107, u112002] 36 (0, 0))) ∧ Aside0 (Below w.heap.size w w'))
        case atStart => exact ⟨(x13_1), (y116), (0), (t108), (.slice Ao20 t108.length co20), (by first | rfl | (simp; done) | (simp [*]; done)), H', ⟨Nat.le_refl _⟩, ⟨by (try simp only [hl13_1]); (with_reducible repeat (first | apply Kd.R_alloc | apply Kd.R_drewN | apply Kd.R_drew)); (first | exact Kd.R_mono HO_11.out (fun _ hk => hk.2) | exact HO_11.out | exact R_any HO_11.out)⟩, ⟨by (try simp only [hl13_1]); (with_reducible repeat (first | apply Kd.R_alloc | apply Kd.R_drewN | apply Kd.R_drew)); (first | exact HO_13.out | exact R_any HO_13.out)⟩, ⟨by (try simp only [hl13_1]); (with_reducible repeat (first | apply Kd.R_alloc | apply Kd.R_drewN | apply Kd.R_drew)); (first | exact Kd.R_mono HO118.out (fun _ hk => hk.2) | exact HO118.out | exact R_any HO118.out)⟩, ⟨by (try simp only [hl13_1]); (with_reducible repeat (first | apply Kd.R_alloc | apply Kd.R_drewN | apply Kd.R_drew)); (first | exact HO_112002.out | exact R_any HO_112002.out)⟩, ⟨by (try simp only [hl13_1]); exact blc⟩, ⟨by (try simp only [hl13_1]); exact blc⟩, ⟨by (try simp only [hl13_1]); exact blc⟩, ⟨bel HB⟩⟩
        case round =>
         clear H'
         try clear c1
         try clear c2
         try clear p2
         try clear q2
         try clear hx2
         try clear c3
         try clear c5
         try clear p6
         try clear c7
         try clear c7b0
         try clear c7b0y
         try clear c7b1
         try clear c8
         try clear c8b0
         try clear c8b0y
         try clear c8b1
         try clear c11
         try clear c17
         try clear c18
         try clear c24
         try clear c24b0
         try clear c24b0y
         try clear c25
         try clear c25b0
         try clear c25b0y
         try clear c26
         try clear c26b0
         try clear c26b0y
         try clear p27
         try clear q27
         try clear hx27
         try clear hf27
         try clear c29
         try clear c30
         try clear c30b0
         try clear c30b0y
         try clear c30b1
         try clear c31
         try clear c31b0
         try clear c31b0y
         try clear c31b1
         try clear hcz12_0
         try clear hcz12_1
         try clear hcz12_2
         try clear hcz14_0
         try clear hcz14_1
         try clear hcz14_2
         try clear hcz19_0
         try clear hcz19_1
         try clear hcz19_2
         try clear hfz12_0
         try clear hfz12_1
         try clear hfz12_2
         try clear hfz14_0
         try clear hfz14_1
         try clear hfz14_2
         try clear hfz19_0
         try clear hfz19_1
         try clear hfz19_2
         try clear hx27_0
         try clear p2
         try clear p27
         try clear q27
         obtain ⟨x13_2, x15_2, x42_2, x112002_2, u112002, rfl, HA, HK2, HO_11, HO_13, HO_15, HO_112002, BK101, BK102, BK111, HB⟩ := hrel
         have hl13_2 := (Kd.R_reads' HO_13.out).1
         rw [hl13_2] at HO_13
         (try simp only [hl13_2])
         (try simp only [hl13_2] at BK101)
         (try simp only [hl13_2] at BK102)
         (try simp only [hl13_2] at BK111)
         (try simp only [hl13_2] at HO_11)
         (try simp only [hl13_2] at HO_15)
         (try simp only [hl13_2] at HO_112002)
         cases gk with
         | zero => exact absurd HA.out (by simp [spec_skMove.l1])
         | succ k2 =>
          have H := HA.out
          clear HA
          simp only [spec_skMove.l1] at H
          by_cases c34 : x42_2 < (l1.length : Int)
          ·rw [if_pos c34] at H
           have c34b0 : decide (x42_2 < (l1.length : Int)) = true := decide_eq_true c34
           clear c34
           by_cases c35 : 0 ≤ x42_2
           ·rw [if_pos c35] at H
            have c35b0 : decide (0 ≤ x42_2) = true := decide_eq_true c35
            clear c35
            by_cases c36 : x42_2 < (l1.length : Int)
            ·rw [if_pos c36] at H
             have c36b0 : decide (x42_2 < (l1.length : Int)) = true := decide_eq_true c36
             clear c36
             by_cases c37 : (rd l1 x42_2) < 0
             ·rw [if_pos c37] at H
              have c37b0 : decide ((rd l1 x42_2) < 0) = true := decide_eq_true c37
              clear c37
              have H' := Aside0.mk H
              clear H
              have p119 : 0 ≤ (x42_2 : Int) := of_decide_eq_true (by first | (with_reducible assumption) | assumption)
              have q119 : x42_2 < (l1.length : Int) := of_decide_eq_true (by first | (with_reducible assumption) | assumption)
              obtain ⟨ad119, e119, hx119_0⟩ := Kd.at_int HR1.out x42_2 p119 q119
              cases e119
              (try replace hx119_0 := (HB.out.cell (World.block_lt_of_cell? w _ hx119_0)).trans hx119_0)
              replace p119 := eq_true p119
              replace q119 := eq_true q119
              go_wp2
              (try simp only [← hl13_2])
              go_roundg k2
              case measure => have := HK1.out; have := HK2.out; omega
              case rel => exact ⟨(x13_2), (x15_2), (wrap64 (x42_2 + 1)), (x112002_2), (u112002), (by first | rfl | (simp; done) | (simp [*]; done)), H', ⟨by have := HK1.out; have := HK2.out; omega⟩, ⟨by (try simp only [hl13_1]); (try simp only [hl13_2]); (with_reducible repeat (first | apply Kd.R_alloc | apply Kd.R_drewN | apply Kd.R_drew)); (first | exact HO_11.out | exact R_any HO_11.out)⟩, ⟨by (try simp only [hl13_1]); (try simp only [hl13_2]); (with_reducible repeat (first | apply Kd.R_alloc | apply Kd.R_drewN | apply Kd.R_drew)); (first | exact HO_13.out | exact R_any HO_13.out)⟩, ⟨by (try simp only [hl13_1]); (try simp only [hl13_2]); (with_reducible repeat (first | apply Kd.R_alloc | apply Kd.R_drewN | apply Kd.R_drew)); (first | exact HO_15.out | exact R_any HO_15.out)⟩, ⟨by (try simp only [hl13_1]); (try simp only [hl13_2]); (with_reducible repeat (first | apply Kd.R_alloc | apply Kd.R_drewN | apply Kd.R_drew)); (first | exact HO_112002.out | exact R_any HO_112002.out)⟩, ⟨by (try simp only [hl13_1]); (try simp only [hl13_2]); exact blc⟩, ⟨by (try simp only [hl13_1]); (try simp only [hl13_2]); exact blc⟩, ⟨by (try simp only [hl13_1]); (try simp only [hl13_2]); exact blc⟩, ⟨bel HB⟩⟩
             ·rw [if_neg c37] at H
              have c37b0 : decide ((rd l1 x42_2) < 0) = false := decide_eq_false c37
              clear c37
              by_cases c38 : 0 ≤ (rd l1 x42_2)
              ·rw [if_pos c38] at H
               have c38b0 : decide (0 ≤ (rd l1 x42_2)) = true := decide_eq_true c38
               clear c38
               by_cases c39 : (rd l1 x42_2) < (t103.length : Int)
               ·rw [if_pos c39] at H
                have c39b0 : decide ((rd l1 x42_2) < (t103.length : Int)) = true := decide_eq_true c39
                clear c39
                obtain ⟨bq40, hbq40⟩ : ∃ b_ : Bool, b_ = (rdOf false t103 (rd l1 x42_2)) := ⟨_, rfl⟩
                replace H : (if (bq40 = true) then (if x42_2 < (l0_2.length : Int) then (if x42_2 < (x112002_2.length : Int) then (if x42_2 < (x13_2.length : Int) then (spec_skMove.l1 k2 a3 t103 (x13_2.set (x42_2 : Int).toNat (rd l1 x42_2)) x15_2 l1 (l1.length : Int) (wrap64 (x42_2 + 1)) a0_0 a0_1 l0_2 t106 t107 (x112002_2.set (x42_2 : Int).toNat (rd l0_2 x42_2))) else (none)) else (none)) else (none)) else ((spec_tiAhead.f a0_0 a0_1 l0_2 x42_2 a3).bind fun t124 => (if (rd l1 x42_2) < (x15_2.length : Int) then (if x42_2 < (l0_2.length : Int) then (if 0 ≤ t124 then (if t124 < (x112002_2.length : Int) then (if t124 < (x13_2.length : Int) then (spec_skMove.l1 k2 a3 t103 (x13_2.set (t124 : Int).toNat (rd l1 x42_2)) (x15_2.set ((rd l1 x42_2) : Int).toNat true) l1 (l1.length : Int) (wrap64 (x42_2 + 1)) a0_0 a0_1 l0_2 t106 t107 (x112002_2.set (t124 : Int).toNat (rd l0_2 x42_2))) else (none)) else (none)) else (none)) else (none)) else (none)))) = some (r1, r2, r3, r4, r5) := by rw [← hbq40] at H; exact H
                have Nbq40 := Aside0.mk hbq40
                clear hbq40
                by_cases c41 : (bq40 = true)
                ·subst c41
                 have H1 : (if x42_2 < (l0_2.length : Int) then (if x42_2 < (x112002_2.length : Int) then (if x42_2 < (x13_2.length : Int) then (spec_skMove.l1 k2 a3 t103 (x13_2.set (x42_2 : Int).toNat (rd l1 x42_2)) x15_2 l1 (l1.length : Int) (wrap64 (x42_2 + 1)) a0_0 a0_1 l0_2 t106 t107 (x112002_2.set (x42_2 : Int).toNat (rd l0_2 x42_2))) else (none)) else (none)) else (none)) = some (r1, r2, r3, r4, r5) := by rw [if_pos rfl] at H; exact H
                 clear H
                 have H := H1
                 clear H1
                 by_cases c42 : x42_2 < (l0_2.length : Int)
                 ·rw [if_pos c42] at H
                  have c42b0 : decide (x42_2 < (l0_2.length : Int)) = true := decide_eq_true c42
                  clear c42
                  by_cases c43 : x42_2 < (x112002_2.length : Int)
                  ·rw [if_pos c43] at H
                   have c43b0 : decide (x42_2 < (x112002_2.length : Int)) = true := decide_eq_true c43
                   clear c43
                   obtain ⟨y122, hy122⟩ : ∃ y_ : List Int, y_ = (x112002_2.set (x42_2 : Int).toNat (rd l0_2 x42_2)) := ⟨_, rfl⟩
                   replace H : (if x42_2 < (x13_2.length : Int) then (spec_skMove.l1 k2 a3 t103 (x13_2.set (x42_2 : Int).toNat (rd l1 x42_2)) x15_2 l1 (l1.length : Int) (wrap64 (x42_2 + 1)) a0_0 a0_1 l0_2 t106 t107 y122) else (none)) = some (r1, r2, r3, r4, r5) := rH hy122 H
                   have Ny122 := Aside0.mk hy122
                   clear hy122
                   by_cases c45 : x42_2 < (x13_2.length : Int)
                   ·rw [if_pos c45] at H
                    have c45b0 : decide (x42_2 < (x13_2.length : Int)) = true := decide_eq_true c45
                    clear c45
                    obtain ⟨y123, hy123⟩ : ∃ y_ : List Int, y_ = (x13_2.set (x42_2 : Int).toNat (rd l1 x42_2)) := ⟨_, rfl⟩
                    replace H : (spec_skMove.l1 k2 a3 t103 y123 x15_2 l1 (l1.length : Int) (wrap64 (x42_2 + 1)) a0_0 a0_1 l0_2 t106 t107 y122) = some (r1, r2, r3, r4, r5) := rH hy123 H
                    have Ny123 := Aside0.mk hy123
                    clear hy123
                    have H' := Aside0.mk H
                    clear H
                    have p119 : 0 ≤ (x42_2 : Int) := of_decide_eq_true (by first | (with_reducible assumption) | assumption)
                    have q119 : x42_2 < (l1.length : Int) := of_decide_eq_true (by first | (with_reducible assumption) | assumption)
                    obtain ⟨ad119, e119, hx119_0⟩ := Kd.at_int HR1.out x42_2 p119 q119
                    cases e119
                    (try replace hx119_0 := (HB.out.cell (World.block_lt_of_cell? w _ hx119_0)).trans hx119_0)
                    replace p119 := eq_true p119
                    replace q119 := eq_true q119
                    obtain ⟨Ao47, co47, eo47⟩ := Kd.R_slice HO_11.out
                    subst eo47
                    have p120 : 0 ≤ ((rd l1 x42_2) : Int) := of_decide_eq_true (by first | (with_reducible assumption) | assumption)
                    have q120 : (rd l1 x42_2) < (t103.length : Int) := of_decide_eq_true (by first | (with_reducible assumption) | assumption)
                    obtain ⟨ad120, e120, hx120_0⟩ := Kd.at_bool (Kd.R_reads' HO_11.out).2.2 (rd l1 x42_2) p120 q120
                    (try rw [← Nbq40.out] at hx120_0)
                    cases e120
                    replace p120 := eq_true p120
                    replace q120 := eq_true q120
                    try go_wp2
                    have n0_ := Aside0.mk (Kd.R_drew HO_11.out)
                    have n1_ := Aside0.mk (Kd.R_drew HO_13.out)
                    have n2_ := Aside0.mk (Kd.R_drew HO_15.out)
                    have n3_ := Aside0.mk (Kd.R_drew HO_112002.out)
                    have n4_ := Aside0.mk (blk_drew BK101.out)
                    have n5_ := Aside0.mk (blk_drew BK102.out)
                    have n6_ := Aside0.mk (blk_drew BK111.out)
                    have n7_ := Aside0.mk (below_drew1 HB.out)
                    clear HO_11
                    clear HO_13
                    clear HO_15
                    clear HO_112002
                    clear BK101
                    clear BK102
                    clear BK111
                    clear HB
                    have HO_11 := n0_
                    have HO_13 := n1_
                    have HO_15 := n2_
                    have HO_112002 := n3_
                    have BK101 := n4_
                    have BK102 := n5_
                    have BK111 := n6_
                    have HB := n7_
                    clear n0_ n1_ n2_ n3_ n4_ n5_ n6_ n7_
                    have p121 : 0 ≤ (x42_2 : Int) := of_decide_eq_true (by first | (with_reducible assumption) | assumption)
                    have q121 : x42_2 < (l0_2.length : Int) := of_decide_eq_true (by first | (with_reducible assumption) | assumption)
                    obtain ⟨ad121, e121, hx121_0⟩ := Kd.at_int HR0_2.out x42_2 p121 q121
                    have hw121_0 := hx121_0
                    cases e121
                    (try replace hx121_0 := (HB.out.cell (World.block_lt_of_cell? w _ hx121_0)).trans hx121_0)
                    replace p121 := eq_true p121
                    replace q121 := eq_true q121
                    have p44 : 0 ≤ (x42_2 : Int) := of_decide_eq_true (by first | (with_reducible assumption) | assumption)
                    have q44 : (x42_2 : Int) < ((x112002_2.length : Int) : Int) := of_decide_eq_true (by first | (with_reducible assumption) | assumption)
                    obtain ⟨go44, co44, eo44, gb44, gl44, cl44, HG44⟩ := Kd.R_form HO_112002.out (by omega)
                    (first | cases eo44 | (injection eo44 with ea_ en_ ec_; (first | subst ea_ | (injection ea_ with ea_; subst ea_)); subst ec_; clear en_))
                    have GB44 := Aside0.mk gb44
                    have GG44 := Aside0.mk HG44
                    clear gb44 gl44 HG44
                    obtain ⟨hx44_0, hf44_0⟩ := Kd.R_celln 0 HO_112002.out (x42_2 : Int) p44 q44
                    replace p44 := eq_true p44
                    replace q44 := eq_true q44
                    have HP49 := Kd.R_putn HO_112002.out (x42_2 : Int) (rd l0_2 x42_2)
                    rw [← Ny122.out] at HP49
                    have HQ49 := Aside0.mk HP49
                    clear HP49
                    refine start_ (n := 10) (S := fun w' => w'.cell? ⟨gb111, 0, none⟩ = some (.int .i64 t106) ∧ w'.cell? ⟨gb111, 1, none⟩ = some (.int .i64 t107) ∧ w'.cell? ⟨gb111, 2, none⟩ = some (.slice (some ⟨go44, 0, none⟩) x112002_2.length co44) ∧ w'.cell? ⟨gb101, 0, none⟩ = some (.int .i64 a0_0) ∧ w'.cell? ⟨gb101, 1, none⟩ = some (.int .i64 a0_1) ∧ w'.cell? ⟨gb101, 2, none⟩ = some (.slice (some ad121) l0_2.length c0_2) ∧ w'.cell? (ad121.add (x42_2).toNat) = some (.int .u8 (rd l0_2 x42_2))) (ds := [9]) #[false, false, false, false, false, false, false, false, false, false] (by kernel_rfl) rfl rfl ⟨(blk_cell BK111.out 0).trans rfl, (blk_cell BK111.out 1).trans rfl, (blk_cell BK111.out 2).trans rfl, (blk_cell BK101.out 0).trans rfl, (blk_cell BK101.out 1).trans rfl, (blk_cell BK101.out 2).trans rfl, ((HB.out.cell (World.block_lt_of_cell? w _ hw121_0)).trans hw121_0)⟩ (fun hHeld => ?_); refine with_tabW spec_skMove.tab18 spec_skMove.bits18 (fun HT_ HW_ => ?_)
                    generalize wr.drew = w48 at HO_11 HO_13 HO_15 HO_112002 BK101 BK102 BK111 HB GG44 HQ49 hf44_0 hx121_0 hx44_0 hHeld ⊢
                    refine pure_ (i := 0) (N := some 62) (v := ?_) (a' := ?_) #[true, false, false, false, false, false, false, false, false, false] rfl rfl (any_of HT_.out (by kernel_rfl)) (fun _ _ _ h => h) (Or.inl ⟨by rfl, ?_⟩) ?_ ?_
                    rotate_left
                    ·intro w'
                     go_simp
                     with_reducible rfl
                    rotate_left
                    ·simp only [Act.put, List.setIfInBounds_toArray, List.set_cons_zero, List.set_cons_succ, i64_w, i32_w]
                     rfl
                    refine pure_ (i := 2) (N := some 64) (v := ?_) (a' := ?_) #[true, false, true, false, false, false, false, false, false, false] rfl rfl (any_of HT_.out (by kernel_rfl)) (fun _ _ _ h => h) (Or.inl ⟨by rfl, ?_⟩) ?_ ?_
                    rotate_left
                    ·intro w'
                     go_simp
                     with_reducible rfl
                    rotate_left
                    ·simp only [Act.put, List.setIfInBounds_toArray, List.set_cons_zero, List.set_cons_succ, i64_w, i32_w]
                     rfl
                    refine pure_ (i := 3) (N := some 65) (v := ?_) (a' := ?_) #[true, false, true, true, false, false, false, false, false, false] rfl rfl (any_of HT_.out (by kernel_rfl)) (fun _ _ _ h => h) (Or.inl ⟨by rfl, ?_⟩) ?_ ?_
                    rotate_left
                    ·intro w'
                     go_simp
                     with_reducible rfl
                    rotate_left
                    ·simp only [Act.put, List.setIfInBounds_toArray, List.set_cons_zero, List.set_cons_succ, i64_w, i32_w]
                     rfl
                    refine pure_ (i := 5) (N := some 67) (v := ?_) (a' := ?_) #[true, false, true, true, false, true, false, false, false, false] rfl rfl (any_of HT_.out (by kernel_rfl)) (fun _ _ _ h => h) (Or.inl ⟨by rfl, ?_⟩) ?_ ?_
                    rotate_left
                    ·intro w'
                     go_simp
                     with_reducible rfl
                    rotate_left
                    ·simp only [Act.put, List.setIfInBounds_toArray, List.set_cons_zero, List.set_cons_succ, i64_w, i32_w]
                     rfl
                    refine take_ (i := 1) (N := some 63) (v := ?_) (a' := ?_) #[true, true, true, true, false, true, false, false, false, false] rfl rfl (take_ofW HT_.out HW_.out (by kernel_rfl)) (fun _ _ _ h => h) (Or.inl ⟨by rfl, ?_⟩) hHeld ?_ ?_
                    rotate_left
                    ·rintro w' ⟨s0, s1, s2, s3, s4, s5, s6⟩
                     go_simp
                     with_reducible rfl
                    rotate_left
                    ·simp only [Act.put, List.setIfInBounds_toArray, List.set_cons_zero, List.set_cons_succ, i64_w, i32_w]
                     rfl
                    refine take_ (i := 4) (N := some 66) (v := ?_) (a' := ?_) #[true, true, true, true, true, true, false, false, false, false] rfl rfl (take_ofW HT_.out HW_.out (by kernel_rfl)) (fun _ _ _ h => h) (Or.inl ⟨by rfl, ?_⟩) hHeld ?_ ?_
                    rotate_left
                    ·rintro w' ⟨s0, s1, s2, s3, s4, s5, s6⟩
                     go_simp
                     with_reducible rfl
                    rotate_left
                    ·simp only [Act.put, List.setIfInBounds_toArray, List.set_cons_zero, List.set_cons_succ, i64_w, i32_w]
                     rfl
                    refine pure_ (i := 6) (N := some 68) (v := ?_) (a' := ?_) #[true, true, true, true, true, true, true, false, false, false] rfl rfl (any_of HT_.out (by kernel_rfl)) (fun _ _ _ h => h) (Or.inl ⟨by rfl, ?_⟩) ?_ ?_
                    rotate_left
                    ·intro w'
                     go_simp
                     with_reducible rfl
                    rotate_left
                    ·simp only [Act.put, List.setIfInBounds_toArray, List.set_cons_zero, List.set_cons_succ, i64_w, i32_w]
                     rfl
                    refine take_ (i := 7) (N := some 69) (v := ?_) (a' := ?_) #[true, true, true, true, true, true, true, true, false, false] rfl rfl (take_ofW HT_.out HW_.out (by kernel_rfl)) (fun _ _ _ h => h) (Or.inl ⟨by rfl, ?_⟩) hHeld ?_ ?_
                    rotate_left
                    ·rintro w' ⟨s0, s1, s2, s3, s4, s5, s6⟩
                     go_simp
                     with_reducible rfl
                    rotate_left
                    ·simp only [Act.put, List.setIfInBounds_toArray, List.set_cons_zero, List.set_cons_succ, i64_w, i32_w]
                     rfl
                    refine pure_ (i := 8) (N := some 70) (v := ?_) (a' := ?_) #[true, true, true, true, true, true, true, true, true, false] rfl rfl (any_of HT_.out (by kernel_rfl)) (fun _ _ _ h => h) (Or.inl ⟨by rfl, ?_⟩) ?_ ?_
                    rotate_left
                    ·intro w'
                     go_simp
                     with_reducible rfl
                    rotate_left
                    ·simp only [Act.put, List.setIfInBounds_toArray, List.set_cons_zero, List.set_cons_succ, i64_w, i32_w]
                     rfl
                    refine last_ (i := 9) (N := none) #[true, true, true, true, true, true, true, true, true, true] rfl rfl (one_of HT_.out (by kernel_rfl)) (by decide) (fun K hK => ?_)
                    refine skip_ (w1 := ?_) (by rfl) rfl ?_ ?_
                    rotate_left
                    ·go_simp
                     rfl
                    refine hK.out _ _ ?_
                    clear hK K
                    refine done_ (done_of HT_.out (by kernel_rfl)) ?_
                    have n0_ : Aside0 (Kd.R Kd.bool 4 (w48.setCell ⟨go44, (x42_2 : Int).toNat, none⟩ (.int .u8 (rd l0_2 x42_2))) w.heap.size (fun k_ => some k_ ≠ (v117 : Value).ownBlock) (.slice (some ad120) t103.length co47) t103) := ⟨by (with_reducible repeat (first | apply Kd.R_alloc | apply Kd.R_drewN | apply Kd.R_drew)); exact Kd.R_mono (Kd.R_far (p := ⟨go44, (x42_2 : Int).toNat, none⟩) (Kd.R_types HO_11.out GG44.out (by decide)) (fun _ hk => hk.2) (.int .u8 (rd l0_2 x42_2))) (fun _ hk => hk.1)⟩
                    have n1_ : Aside0 (Kd.R (Kd.int .i64) 3 (w48.setCell ⟨go44, (x42_2 : Int).toNat, none⟩ (.int .u8 (rd l0_2 x42_2))) w.heap.size (fun _ => True) (.slice Ao23 x13_2.length co23) x13_2) := ⟨by (with_reducible repeat (first | apply Kd.R_alloc | apply Kd.R_drewN | apply Kd.R_drew)); exact Kd.R_mono (Kd.R_far (p := ⟨go44, (x42_2 : Int).toNat, none⟩) (Kd.R_types HO_13.out GG44.out (by decide)) (fun _ hk => hk.2) (.int .u8 (rd l0_2 x42_2))) (fun _ hk => trivial)⟩
                    have n2_ : Aside0 (Kd.R Kd.bool 4 (w48.setCell ⟨go44, (x42_2 : Int).toNat, none⟩ (.int .u8 (rd l0_2 x42_2))) w.heap.size (fun k_ => some k_ ≠ (.slice (some ad120) t103.length co47 : Value).ownBlock) v117 x15_2) := ⟨by (with_reducible repeat (first | apply Kd.R_alloc | apply Kd.R_drewN | apply Kd.R_drew)); exact Kd.R_mono (Kd.R_far (p := ⟨go44, (x42_2 : Int).toNat, none⟩) (Kd.R_types HO_15.out GG44.out (by decide)) (fun _ hk => hk.2) (.int .u8 (rd l0_2 x42_2))) (fun _ hk => hk.1)⟩
                    have n3_ : Aside0 (Kd.R (Kd.int .u8) 5 (w48.setCell ⟨go44, (x42_2 : Int).toNat, none⟩ (.int .u8 (rd l0_2 x42_2))) w.heap.size (fun _ => True) (.slice (some ⟨go44, 0, none⟩) x112002_2.length co44) y122) := ⟨by (with_reducible repeat (first | apply Kd.R_alloc | apply Kd.R_drewN | apply Kd.R_drew)); exact HQ49.out⟩
                    have n4_ : Aside0 ((w48.setCell ⟨go44, (x42_2 : Int).toNat, none⟩ (.int .u8 (rd l0_2 x42_2))).heap[gb101]? = some (.cells #[.int .i64 a0_0, .int .i64 a0_1, .slice (some ad121) l0_2.length c0_2] 36 (0, 0))) := ⟨by (with_reducible repeat (first | refine blk_drewN ?_ _ | refine blk_drew ?_ | refine blk_alloc ?_ _)); refine blk_far ?_ (by have h_ := Kd.R_ne HO_112002.out BK101.out (by decide); intro e_; exact h_ (by rw [e_]; rfl)) _; exact blc⟩
                    have n5_ : Aside0 ((w48.setCell ⟨go44, (x42_2 : Int).toNat, none⟩ (.int .u8 (rd l0_2 x42_2))).heap[gb102]? = some (.cells #[.int .i64 0, .int .i64 0, .slice none 0 0] 36 (0, 0))) := ⟨by (with_reducible repeat (first | refine blk_drewN ?_ _ | refine blk_drew ?_ | refine blk_alloc ?_ _)); refine blk_far ?_ (by have h_ := Kd.R_ne HO_112002.out BK102.out (by decide); intro e_; exact h_ (by rw [e_]; rfl)) _; exact blc⟩
                    have n6_ : Aside0 ((w48.setCell ⟨go44, (x42_2 : Int).toNat, none⟩ (.int .u8 (rd l0_2 x42_2))).heap[gb111]? = some (.cells #[.int .i64 t106, .int .i64 t107, .slice (some ⟨go44, 0, none⟩) x112002_2.length co44] 36 (0, 0))) := ⟨by (with_reducible repeat (first | refine blk_drewN ?_ _ | refine blk_drew ?_ | refine blk_alloc ?_ _)); refine blk_far ?_ (by have h_ := Kd.R_ne HO_112002.out BK111.out (by decide); intro e_; exact h_ (by rw [e_]; rfl)) _; exact blc⟩
                    have n7_ : Aside0 (Below w.heap.size w (w48.setCell ⟨go44, (x42_2 : Int).toNat, none⟩ (.int .u8 (rd l0_2 x42_2)))) := ⟨bel HB⟩
                    (try clear HO_11)
                    (try clear HO_13)
                    (try clear HO_15)
                    (try clear HO_112002)
                    (try clear BK101)
                    (try clear BK102)
                    (try clear BK111)
                    (try clear HB)
                    generalize (w48.setCell ⟨go44, (x42_2 : Int).toNat, none⟩ (.int .u8 (rd l0_2 x42_2))) = w50 at n0_ n1_ n2_ n3_ n4_ n5_ n6_ n7_ ⊢
                    have HO_11 := n0_
                    have HO_13 := n1_
                    have HO_15 := n2_
                    have HO_112002 := n3_
                    have BK101 := n4_
                    have BK102 := n5_
                    have BK111 := n6_
                    have HB := n7_
                    clear n0_ n1_ n2_ n3_ n4_ n5_ n6_ n7_
                    have p46 : 0 ≤ (x42_2 : Int) := of_decide_eq_true (by first | (with_reducible assumption) | assumption)
                    have q46 : (x42_2 : Int) < ((x13_2.length : Int) : Int) := of_decide_eq_true (by first | (with_reducible assumption) | assumption)
                    obtain ⟨go46, co46, eo46, gb46, gl46, cl46, HG46⟩ := Kd.R_form HO_13.out (by omega)
                    (first | cases eo46 | (injection eo46 with ea_ en_ ec_; (first | subst ea_ | (injection ea_ with ea_; subst ea_)); subst ec_; clear en_))
                    have GB46 := Aside0.mk gb46
                    have GG46 := Aside0.mk HG46
                    clear gb46 gl46 HG46
                    obtain ⟨hx46_0, hf46_0⟩ := Kd.R_celln 0 HO_13.out (x42_2 : Int) p46 q46
                    replace p46 := eq_true p46
                    replace q46 := eq_true q46
                    obtain ⟨hy51_, hz51_⟩ := Kd.R_celln 0 HO_13.out (x42_2 : Int) (of_decide_eq_true (by first | (with_reducible assumption) | assumption)) (of_decide_eq_true (by first | (with_reducible assumption) | assumption))
                    have HP51 := Kd.R_putg HO_13.out (x42_2 : Int) (rd l1 x42_2)
                    try go_wp2_with (first | ((with_reducible refine gate_store (t := 3) (p := 74) rfl ?_); refine store_event (t := 3) (p := 74) (v := ?vo_w52) (w1 := (w50.setCell ⟨go46, (x42_2 : Int).toNat, none⟩ (.int .i64 (rd l1 x42_2)))) ?hg ?ho ?hn ?hr ?_; (case ho => rfl); (case hg => rfl); (case hn => rfl); (case hr => first | (go_simp; done) | (go_simp; rfl)); intro w52 hw; have hg : w50.grownBy w52 (some go46) := (by rw [hw]; exact HP51.2); have hp_ : Kd.R (Kd.int .i64) 3 w52 w.heap.size (fun _ => True) (.slice (some ⟨go46, 0, none⟩) x13_2.length co23) y123 := (by rw [hw, Ny123.out]; (first | exact HP51.1 | exact R_any HP51.1)); clear HP51; have n0_ := Aside0.mk (Kd.R_over' (v := (.slice (some ⟨go46, 0, none⟩) x13_2.length co23)) (rch HO_11) (Kd.R_typed HO_13.out) (by decide) hg); have n1_ := Aside0.mk (hp_); have n2_ := Aside0.mk (Kd.R_over' (v := (.slice (some ⟨go46, 0, none⟩) x13_2.length co23)) (rch HO_15) (Kd.R_typed HO_13.out) (by decide) hg); have n3_ := Aside0.mk (Kd.R_over' (v := (.slice (some ⟨go46, 0, none⟩) x13_2.length co23)) (rch HO_112002) (Kd.R_typed HO_13.out) (by decide) hg); have n4_ := Aside0.mk (blk_grown (g := gb101) (o := .cells #[.int .i64 a0_0, .int .i64 a0_1, .slice (some ad121) l0_2.length c0_2] 36 (0, 0)) blc hg (Kd.R_ne HO_13.out BK101.out (by decide))); have n5_ := Aside0.mk (blk_grown (g := gb102) (o := .cells #[.int .i64 0, .int .i64 0, .slice none 0 0] 36 (0, 0)) blc hg (Kd.R_ne HO_13.out BK102.out (by decide))); have n6_ := Aside0.mk (blk_grown (g := gb111) (o := .cells #[.int .i64 t106, .int .i64 t107, .slice (some ⟨go44, 0, none⟩) x112002_2.length co44] 36 (0, 0)) blc hg (Kd.R_ne HO_13.out BK111.out (by decide))); have n7_ := Aside0.mk ((by rw [hw]; exact below_set (HB.out) GB46.out : Below w.heap.size w w52)); clear HO_11; clear HO_13; clear HO_15; clear HO_112002; clear BK101; clear BK102; clear BK111; clear HB; have HO_11 := n0_; have HO_13 := n1_; have HO_15 := n2_; have HO_112002 := n3_; have BK101 := n4_; have BK102 := n5_; have BK111 := n6_; have HB := n7_; clear n0_ n1_ n2_ n3_ n4_ n5_ n6_ n7_; clear hg hw hp_))
                    (try simp only [← hl13_2])
                    go_roundg k2
                    case measure => have := HK1.out; have := HK2.out; omega
                    case rel => exact ⟨(y123), (x15_2), (wrap64 (x42_2 + 1)), (y122), (.slice (some ⟨go44, 0, none⟩) x112002_2.length co44), (by first | rfl | (simp; done) | (simp [*]; done)), H', ⟨by have := HK1.out; have := HK2.out; omega⟩, ⟨by (try simp only [hl13_1]); (try simp only [hl13_2]); (with_reducible repeat (first | apply Kd.R_alloc | apply Kd.R_drewN | apply Kd.R_drew)); (first | exact HO_11.out | exact R_any HO_11.out)⟩, ⟨by (try simp only [hl13_1]); (try simp only [hl13_2]); (with_reducible repeat (first | apply Kd.R_alloc | apply Kd.R_drewN | apply Kd.R_drew)); (first | exact HO_13.out | exact R_any HO_13.out)⟩, ⟨by (try simp only [hl13_1]); (try simp only [hl13_2]); (with_reducible repeat (first | apply Kd.R_alloc | apply Kd.R_drewN | apply Kd.R_drew)); (first | exact HO_15.out | exact R_any HO_15.out)⟩, ⟨by (try simp only [hl13_1]); (try simp only [hl13_2]); (with_reducible repeat (first | apply Kd.R_alloc | apply Kd.R_drewN | apply Kd.R_drew)); (first | exact HO_112002.out | exact R_any HO_112002.out)⟩, ⟨by (try simp only [hl13_1]); (try simp only [hl13_2]); exact blc⟩, ⟨by (try simp only [hl13_1]); (try simp only [hl13_2]); exact blc⟩, ⟨by (try simp only [hl13_1]); (try simp only [hl13_2]); exact blc⟩, ⟨bel HB⟩⟩
                   ·rw [if_neg c45] at H
                    exact absurd H (by simp)
                  ·rw [if_neg c43] at H
                   exact absurd H (by simp)
                 ·rw [if_neg c42] at H
                  exact absurd H (by simp)
                ·replace c41 := Bool.eq_false_iff.mpr c41
                 subst c41
                 have H1 : ((spec_tiAhead.f a0_0 a0_1 l0_2 x42_2 a3).bind fun t124 => (if (rd l1 x42_2) < (x15_2.length : Int) then (if x42_2 < (l0_2.length : Int) then (if 0 ≤ t124 then (if t124 < (x112002_2.length : Int) then (if t124 < (x13_2.length : Int) then (spec_skMove.l1 k2 a3 t103 (x13_2.set (t124 : Int).toNat (rd l1 x42_2)) (x15_2.set ((rd l1 x42_2) : Int).toNat true) l1 (l1.length : Int) (wrap64 (x42_2 + 1)) a0_0 a0_1 l0_2 t106 t107 (x112002_2.set (t124 : Int).toNat (rd l0_2 x42_2))) else (none)) else (none)) else (none)) else (none)) else (none))) = some (r1, r2, r3, r4, r5) := by rw [if_neg (show ¬ (false = true) by decide)] at H; exact H
                 clear H
                 have H := H1
                 clear H1
                 replace H := Option.bind_eq_some_iff.mp H
                 obtain ⟨t124, A530, H⟩ := H
                 replace H : (if (rd l1 x42_2) < (x15_2.length : Int) then (if x42_2 < (l0_2.length : Int) then (if 0 ≤ t124 then (if t124 < (x112002_2.length : Int) then (if t124 < (x13_2.length : Int) then (spec_skMove.l1 k2 a3 t103 (x13_2.set (t124 : Int).toNat (rd l1 x42_2)) (x15_2.set ((rd l1 x42_2) : Int).toNat true) l1 (l1.length : Int) (wrap64 (x42_2 + 1)) a0_0 a0_1 l0_2 t106 t107 (x112002_2.set (t124 : Int).toNat (rd l0_2 x42_2))) else (none)) else (none)) else (none)) else (none)) else (none)) = some (r1, r2, r3, r4, r5) := H
                 have A53 := Aside0.mk A530
                 clear A530
                 by_cases c54 : (rd l1 x42_2) < (x15_2.length : Int)
                 ·rw [if_pos c54] at H
                  have c54b0 : decide ((rd l1 x42_2) < (x15_2.length : Int)) = true := decide_eq_true c54
                  clear c54
                  obtain ⟨y125, hy125⟩ : ∃ y_ : List Bool, y_ = (x15_2.set ((rd l1 x42_2) : Int).toNat true) := ⟨_, rfl⟩
                  replace H : (if x42_2 < (l0_2.length : Int) then (if 0 ≤ t124 then (if t124 < (x112002_2.length : Int) then (if t124 < (x13_2.length : Int) then (spec_skMove.l1 k2 a3 t103 (x13_2.set (t124 : Int).toNat (rd l1 x42_2)) y125 l1 (l1.length : Int) (wrap64 (x42_2 + 1)) a0_0 a0_1 l0_2 t106 t107 (x112002_2.set (t124 : Int).toNat (rd l0_2 x42_2))) else (none)) else (none)) else (none)) else (none)) = some (r1, r2, r3, r4, r5) := rH hy125 H
                  have Ny125 := Aside0.mk hy125
                  clear hy125
                  by_cases c56 : x42_2 < (l0_2.length : Int)
                  ·rw [if_pos c56] at H
                   have c56b0 : decide (x42_2 < (l0_2.length : Int)) = true := decide_eq_true c56
                   clear c56
                   by_cases c57 : 0 ≤ t124
                   ·rw [if_pos c57] at H
                    have c57b0 : decide (0 ≤ t124) = true := decide_eq_true c57
                    clear c57
                    by_cases c58 : t124 < (x112002_2.length : Int)
                    ·rw [if_pos c58] at H
                     have c58b0 : decide (t124 < (x112002_2.length : Int)) = true := decide_eq_true c58
                     clear c58
                     obtain ⟨y127, hy127⟩ : ∃ y_ : List Int, y_ = (x112002_2.set (t124 : Int).toNat (rd l0_2 x42_2)) := ⟨_, rfl⟩
                     replace H : (if t124 < (x13_2.length : Int) then (spec_skMove.l1 k2 a3 t103 (x13_2.set (t124 : Int).toNat (rd l1 x42_2)) y125 l1 (l1.length : Int) (wrap64 (x42_2 + 1)) a0_0 a0_1 l0_2 t106 t107 y127) else (none)) = some (r1, r2, r3, r4, r5) := rH hy127 H
                     have Ny127 := Aside0.mk hy127
                     clear hy127
                     by_cases c60 : t124 < (x13_2.length : Int)
                     ·rw [if_pos c60] at H
                      have c60b0 : decide (t124 < (x13_2.length : Int)) = true := decide_eq_true c60
                      clear c60
                      obtain ⟨y128, hy128⟩ : ∃ y_ : List Int, y_ = (x13_2.set (t124 : Int).toNat (rd l1 x42_2)) := ⟨_, rfl⟩
                      replace H : (spec_skMove.l1 k2 a3 t103 y128 y125 l1 (l1.length : Int) (wrap64 (x42_2 + 1)) a0_0 a0_1 l0_2 t106 t107 y127) = some (r1, r2, r3, r4, r5) := rH hy128 H
                      have Ny128 := Aside0.mk hy128
                      clear hy128
                      have H' := Aside0.mk H
                      clear H
                      have p119 : 0 ≤ (x42_2 : Int) := of_decide_eq_true (by first | (with_reducible assumption) | assumption)
                      have q119 : x42_2 < (l1.length : Int) := of_decide_eq_true (by first | (with_reducible assumption) | assumption)
                      obtain ⟨ad119, e119, hx119_0⟩ := Kd.at_int HR1.out x42_2 p119 q119
                      cases e119
                      (try replace hx119_0 := (HB.out.cell (World.block_lt_of_cell? w _ hx119_0)).trans hx119_0)
                      replace p119 := eq_true p119
                      replace q119 := eq_true q119
                      obtain ⟨Ao62, co62, eo62⟩ := Kd.R_slice HO_11.out
                      subst eo62
                      have p120 : 0 ≤ ((rd l1 x42_2) : Int) := of_decide_eq_true (by first | (with_reducible assumption) | assumption)
                      have q120 : (rd l1 x42_2) < (t103.length : Int) := of_decide_eq_true (by first | (with_reducible assumption) | assumption)
                      obtain ⟨ad120, e120, hx120_0⟩ := Kd.at_bool (Kd.R_reads' HO_11.out).2.2 (rd l1 x42_2) p120 q120
                      (try rw [← Nbq40.out] at hx120_0)
                      cases e120
                      replace p120 := eq_true p120
                      replace q120 := eq_true q120
                      have hnb63 := NB101_102.out
                      have hnc63 := NB102_101.out
                      have hnb64 := NB101_111.out
                      have hnc64 := NB111_101.out
                      have hcz65_0 : wr.cell? ⟨gb101, 0, none⟩ = some (.int .i64 a0_0) := (blk_cell BK101.out 0).trans rfl
                      have hcz65_1 : wr.cell? ⟨gb101, 1, none⟩ = some (.int .i64 a0_1) := (blk_cell BK101.out 1).trans rfl
                      have hcz65_2 : wr.cell? ⟨gb101, 2, none⟩ = some (.slice A0_2 l0_2.length c0_2) := (blk_cell BK101.out 2).trans rfl
                      have hfz65_0 := blk_frozen BK101.out 0
                      have hfz65_1 := blk_frozen BK101.out 1
                      have hfz65_2 := blk_frozen BK101.out 2
                      try go_wp2_with (first | ((with_reducible refine gate_callee (f := 55) rfl ?_); refine gcall (some 58) Tryd.func55 #[.agg #[.int .i64 a0_0, .int .i64 a0_1, .slice A0_2 l0_2.length c0_2], .int .i64 x42_2, .int .i64 a3] rfl ?_; (with_reducible refine (spec_tiAhead.calls a0_0 a0_1 _ _ l0_2 x42_2 a3 t124 _ ?side1 ?side2 A53.out).mono ?_); (case side1 => repeat (first | exact (Kd.C_below HR0_2.out HB.out) | (with_reducible refine Kd.C_alloc ?_ _) | (with_reducible refine Kd.C_drewN ?_ _) | (with_reducible refine Kd.C_drew ?_))); (case side2 => exact HC0_2.out); rintro e w66 ⟨rfl, hb⟩; refine ⟨_, rfl, ?_⟩; have n0_ := Aside0.mk (Kd.R_below (rch HO_11) hb); have n1_ := Aside0.mk (Kd.R_below (rch HO_13) hb); have n2_ := Aside0.mk (Kd.R_below (rch HO_15) hb); have n3_ := Aside0.mk (Kd.R_below (rch HO_112002) hb); have n4_ := Aside0.mk (blk_below (g := gb101) (o := .cells #[.int .i64 a0_0, .int .i64 a0_1, .slice A0_2 l0_2.length c0_2] 36 (0, 0)) blc hb); have n5_ := Aside0.mk (blk_below (g := gb102) (o := .cells #[.int .i64 0, .int .i64 0, .slice none 0 0] 36 (0, 0)) blc hb); have n6_ := Aside0.mk (blk_below (g := gb111) (o := .cells #[.int .i64 t106, .int .i64 t107, u112002] 36 (0, 0)) blc hb); have n7_ := Aside0.mk (below_step (bel HB) hb); clear HO_11; clear HO_13; clear HO_15; clear HO_112002; clear BK101; clear BK102; clear BK111; clear HB; have HO_11 := n0_; have HO_13 := n1_; have HO_15 := n2_; have HO_112002 := n3_; have BK101 := n4_; have BK102 := n5_; have BK111 := n6_; have HB := n7_; clear n0_ n1_ n2_ n3_ n4_ n5_ n6_ n7_; (try clear hb); (try clear hb2); (try clear hk); (try clear hi); have p55 : 0 ≤ ((rd l1 x42_2) : Int) := of_decide_eq_true (by first | (with_reducible assumption) | assumption); have q55 : ((rd l1 x42_2) : Int) < ((x15_2.length : Int) : Int) := of_decide_eq_true (by first | (with_reducible assumption) | assumption); obtain ⟨go55, co55, eo55, gb55, gl55, cl55, HG55⟩ := Kd.R_form HO_15.out (by omega); (first | cases eo55 | (injection eo55 with ea_ en_ ec_; (first | subst ea_ | (injection ea_ with ea_; subst ea_)); subst ec_; clear en_)); have GB55 := Aside0.mk gb55; have GG55 := Aside0.mk HG55; clear gb55 gl55 HG55; obtain ⟨hx55_0, hf55_0⟩ := Kd.R_celln false HO_15.out ((rd l1 x42_2) : Int) p55 q55; replace p55 := eq_true p55; replace q55 := eq_true q55; obtain ⟨hy67_, hz67_⟩ := Kd.R_celln false HO_15.out ((rd l1 x42_2) : Int) (of_decide_eq_true (by first | (with_reducible assumption) | assumption)) (of_decide_eq_true (by first | (with_reducible assumption) | assumption)); have HP67 := Kd.R_putg HO_15.out ((rd l1 x42_2) : Int) true) | ((with_reducible refine gate_store (t := 4) (p := 61) rfl ?_); refine store_event (t := 4) (p := 61) (v := ?vo_w68) (w1 := (w66.setCell ⟨go55, ((rd l1 x42_2) : Int).toNat, none⟩ (.bool true))) ?hg ?ho ?hn ?hr ?_; (case ho => rfl); (case hg => rfl); (case hn => rfl); (case hr => first | (go_simp; done) | (go_simp; rfl)); intro w68 hw; have hg : w66.grownBy w68 (some go55) := (by rw [hw]; exact HP67.2); have hp_ : Kd.R Kd.bool 4 w68 w.heap.size (fun k_ => some k_ ≠ (.slice (some ad120) t103.length co62 : Value).ownBlock) (.slice (some ⟨go55, 0, none⟩) x15_2.length co55) y125 := (by rw [hw, Ny125.out]; (first | exact HP67.1 | exact R_any HP67.1)); clear HP67; have n0_ := Aside0.mk (Kd.R_after (v := (.slice (some ⟨go55, 0, none⟩) x15_2.length co55)) (v1 := (.slice (some ⟨go55, 0, none⟩) x15_2.length co55)) (ok := (fun _ => True)) (by (with_reducible repeat (first | apply Kd.R_alloc | apply Kd.R_drewN | apply Kd.R_drew)); exact Kd.R_mono HO_11.out (fun _ hk => ⟨trivial, hk⟩)) hg (.inl rfl)); have n1_ := Aside0.mk (Kd.R_over' (v := (.slice (some ⟨go55, 0, none⟩) x15_2.length co55)) (rch HO_13) (Kd.R_typed HO_15.out) (by decide) hg); have n2_ := Aside0.mk (hp_); have n3_ := Aside0.mk (Kd.R_over' (v := (.slice (some ⟨go55, 0, none⟩) x15_2.length co55)) (rch HO_112002) (Kd.R_typed HO_15.out) (by decide) hg); have n4_ := Aside0.mk (blk_grown (g := gb101) (o := .cells #[.int .i64 a0_0, .int .i64 a0_1, .slice A0_2 l0_2.length c0_2] 36 (0, 0)) blc hg (Kd.R_ne HO_15.out BK101.out (by decide))); have n5_ := Aside0.mk (blk_grown (g := gb102) (o := .cells #[.int .i64 0, .int .i64 0, .slice none 0 0] 36 (0, 0)) blc hg (Kd.R_ne HO_15.out BK102.out (by decide))); have n6_ := Aside0.mk (blk_grown (g := gb111) (o := .cells #[.int .i64 t106, .int .i64 t107, u112002] 36 (0, 0)) blc hg (Kd.R_ne HO_15.out BK111.out (by decide))); have n7_ := Aside0.mk ((by rw [hw]; exact below_set (HB.out) GB55.out : Below w.heap.size w w68)); clear HO_11; clear HO_13; clear HO_15; clear HO_112002; clear BK101; clear BK102; clear BK111; clear HB; have HO_11 := n0_; have HO_13 := n1_; have HO_15 := n2_; have HO_112002 := n3_; have BK101 := n4_; have BK102 := n5_; have BK111 := n6_; have HB := n7_; clear n0_ n1_ n2_ n3_ n4_ n5_ n6_ n7_; clear hg hw hp_))
                      have n0_ := Aside0.mk (Kd.R_drew HO_11.out)
                      have n1_ := Aside0.mk (Kd.R_drew HO_13.out)
                      have n2_ := Aside0.mk (Kd.R_drew HO_15.out)
                      have n3_ := Aside0.mk (Kd.R_drew HO_112002.out)
                      have n4_ := Aside0.mk (blk_drew BK101.out)
                      have n5_ := Aside0.mk (blk_drew BK102.out)
                      have n6_ := Aside0.mk (blk_drew BK111.out)
                      have n7_ := Aside0.mk (below_drew1 HB.out)
                      clear HO_11
                      clear HO_13
                      clear HO_15
                      clear HO_112002
                      clear BK101
                      clear BK102
                      clear BK111
                      clear HB
                      have HO_11 := n0_
                      have HO_13 := n1_
                      have HO_15 := n2_
                      have HO_112002 := n3_
                      have BK101 := n4_
                      have BK102 := n5_
                      have BK111 := n6_
                      have HB := n7_
                      clear n0_ n1_ n2_ n3_ n4_ n5_ n6_ n7_
                      have p126 : 0 ≤ (x42_2 : Int) := of_decide_eq_true (by first | (with_reducible assumption) | assumption)
                      have q126 : x42_2 < (l0_2.length : Int) := of_decide_eq_true (by first | (with_reducible assumption) | assumption)
                      obtain ⟨ad126, e126, hx126_0⟩ := Kd.at_int HR0_2.out x42_2 p126 q126
                      have hw126_0 := hx126_0
                      cases e126
                      (try replace hx126_0 := (HB.out.cell (World.block_lt_of_cell? w _ hx126_0)).trans hx126_0)
                      replace p126 := eq_true p126
                      replace q126 := eq_true q126
                      have p59 : 0 ≤ (t124 : Int) := of_decide_eq_true (by first | (with_reducible assumption) | assumption)
                      have q59 : (t124 : Int) < ((x112002_2.length : Int) : Int) := of_decide_eq_true (by first | (with_reducible assumption) | assumption)
                      obtain ⟨go59, co59, eo59, gb59, gl59, cl59, HG59⟩ := Kd.R_form HO_112002.out (by omega)
                      (first | cases eo59 | (injection eo59 with ea_ en_ ec_; (first | subst ea_ | (injection ea_ with ea_; subst ea_)); subst ec_; clear en_))
                      have GB59 := Aside0.mk gb59
                      have GG59 := Aside0.mk HG59
                      clear gb59 gl59 HG59
                      obtain ⟨hx59_0, hf59_0⟩ := Kd.R_celln 0 HO_112002.out (t124 : Int) p59 q59
                      replace p59 := eq_true p59
                      replace q59 := eq_true q59
                      have HP70 := Kd.R_putn HO_112002.out (t124 : Int) (rd l0_2 x42_2)
                      rw [← Ny127.out] at HP70
                      have HQ70 := Aside0.mk HP70
                      clear HP70
                      refine start_ (n := 10) (S := fun w' => w'.cell? ⟨gb111, 0, none⟩ = some (.int .i64 t106) ∧ w'.cell? ⟨gb111, 1, none⟩ = some (.int .i64 t107) ∧ w'.cell? ⟨gb111, 2, none⟩ = some (.slice (some ⟨go59, 0, none⟩) x112002_2.length co59) ∧ w'.cell? ⟨gb101, 0, none⟩ = some (.int .i64 a0_0) ∧ w'.cell? ⟨gb101, 1, none⟩ = some (.int .i64 a0_1) ∧ w'.cell? ⟨gb101, 2, none⟩ = some (.slice (some ad126) l0_2.length c0_2) ∧ w'.cell? (ad126.add (x42_2).toNat) = some (.int .u8 (rd l0_2 x42_2))) (ds := [9]) #[false, false, false, false, false, false, false, false, false, false] (by kernel_rfl) rfl rfl ⟨(blk_cell BK111.out 0).trans rfl, (blk_cell BK111.out 1).trans rfl, (blk_cell BK111.out 2).trans rfl, (blk_cell BK101.out 0).trans rfl, (blk_cell BK101.out 1).trans rfl, (blk_cell BK101.out 2).trans rfl, ((HB.out.cell (World.block_lt_of_cell? w _ hw126_0)).trans hw126_0)⟩ (fun hHeld => ?_); refine with_tabW spec_skMove.tab18 spec_skMove.bits18 (fun HT_ HW_ => ?_)
                      generalize w68.drew = w69 at HO_11 HO_13 HO_15 HO_112002 BK101 BK102 BK111 HB GG59 HQ70 hf59_0 hx126_0 hx59_0 hHeld ⊢
                      refine pure_ (i := 0) (N := some 62) (v := ?_) (a' := ?_) #[true, false, false, false, false, false, false, false, false, false] rfl rfl (any_of HT_.out (by kernel_rfl)) (fun _ _ _ h => h) (Or.inl ⟨by rfl, ?_⟩) ?_ ?_
                      rotate_left
                      ·intro w'
                       go_simp
                       with_reducible rfl
                      rotate_left
                      ·simp only [Act.put, List.setIfInBounds_toArray, List.set_cons_zero, List.set_cons_succ, i64_w, i32_w]
                       rfl
                      refine pure_ (i := 2) (N := some 64) (v := ?_) (a' := ?_) #[true, false, true, false, false, false, false, false, false, false] rfl rfl (any_of HT_.out (by kernel_rfl)) (fun _ _ _ h => h) (Or.inl ⟨by rfl, ?_⟩) ?_ ?_
                      rotate_left
                      ·intro w'
                       go_simp
                       with_reducible rfl
                      rotate_left
                      ·simp only [Act.put, List.setIfInBounds_toArray, List.set_cons_zero, List.set_cons_succ, i64_w, i32_w]
                       rfl
                      refine pure_ (i := 3) (N := some 65) (v := ?_) (a' := ?_) #[true, false, true, true, false, false, false, false, false, false] rfl rfl (any_of HT_.out (by kernel_rfl)) (fun _ _ _ h => h) (Or.inl ⟨by rfl, ?_⟩) ?_ ?_
                      rotate_left
                      ·intro w'
                       go_simp
                       with_reducible rfl
                      rotate_left
                      ·simp only [Act.put, List.setIfInBounds_toArray, List.set_cons_zero, List.set_cons_succ, i64_w, i32_w]
                       rfl
                      refine pure_ (i := 5) (N := some 67) (v := ?_) (a' := ?_) #[true, false, true, true, false, true, false, false, false, false] rfl rfl (any_of HT_.out (by kernel_rfl)) (fun _ _ _ h => h) (Or.inl ⟨by rfl, ?_⟩) ?_ ?_
                      rotate_left
                      ·intro w'
                       go_simp
                       with_reducible rfl
                      rotate_left
                      ·simp only [Act.put, List.setIfInBounds_toArray, List.set_cons_zero, List.set_cons_succ, i64_w, i32_w]
                       rfl
                      refine take_ (i := 1) (N := some 63) (v := ?_) (a' := ?_) #[true, true, true, true, false, true, false, false, false, false] rfl rfl (take_ofW HT_.out HW_.out (by kernel_rfl)) (fun _ _ _ h => h) (Or.inl ⟨by rfl, ?_⟩) hHeld ?_ ?_
                      rotate_left
                      ·rintro w' ⟨s0, s1, s2, s3, s4, s5, s6⟩
                       go_simp
                       with_reducible rfl
                      rotate_left
                      ·simp only [Act.put, List.setIfInBounds_toArray, List.set_cons_zero, List.set_cons_succ, i64_w, i32_w]
                       rfl
                      refine take_ (i := 4) (N := some 66) (v := ?_) (a' := ?_) #[true, true, true, true, true, true, false, false, false, false] rfl rfl (take_ofW HT_.out HW_.out (by kernel_rfl)) (fun _ _ _ h => h) (Or.inl ⟨by rfl, ?_⟩) hHeld ?_ ?_
                      rotate_left
                      ·rintro w' ⟨s0, s1, s2, s3, s4, s5, s6⟩
                       go_simp
                       with_reducible rfl
                      rotate_left
                      ·simp only [Act.put, List.setIfInBounds_toArray, List.set_cons_zero, List.set_cons_succ, i64_w, i32_w]
                       rfl
                      refine pure_ (i := 6) (N := some 68) (v := ?_) (a' := ?_) #[true, true, true, true, true, true, true, false, false, false] rfl rfl (any_of HT_.out (by kernel_rfl)) (fun _ _ _ h => h) (Or.inl ⟨by rfl, ?_⟩) ?_ ?_
                      rotate_left
                      ·intro w'
                       go_simp
                       with_reducible rfl
                      rotate_left
                      ·simp only [Act.put, List.setIfInBounds_toArray, List.set_cons_zero, List.set_cons_succ, i64_w, i32_w]
                       rfl
                      refine take_ (i := 7) (N := some 69) (v := ?_) (a' := ?_) #[true, true, true, true, true, true, true, true, false, false] rfl rfl (take_ofW HT_.out HW_.out (by kernel_rfl)) (fun _ _ _ h => h) (Or.inl ⟨by rfl, ?_⟩) hHeld ?_ ?_
                      rotate_left
                      ·rintro w' ⟨s0, s1, s2, s3, s4, s5, s6⟩
                       go_simp
                       with_reducible rfl
                      rotate_left
                      ·simp only [Act.put, List.setIfInBounds_toArray, List.set_cons_zero, List.set_cons_succ, i64_w, i32_w]
                       rfl
                      refine pure_ (i := 8) (N := some 70) (v := ?_) (a' := ?_) #[true, true, true, true, true, true, true, true, true, false] rfl rfl (any_of HT_.out (by kernel_rfl)) (fun _ _ _ h => h) (Or.inl ⟨by rfl, ?_⟩) ?_ ?_
                      rotate_left
                      ·intro w'
                       go_simp
                       with_reducible rfl
                      rotate_left
                      ·simp only [Act.put, List.setIfInBounds_toArray, List.set_cons_zero, List.set_cons_succ, i64_w, i32_w]
                       rfl
                      refine last_ (i := 9) (N := none) #[true, true, true, true, true, true, true, true, true, true] rfl rfl (one_of HT_.out (by kernel_rfl)) (by decide) (fun K hK => ?_)
                      refine skip_ (w1 := ?_) (by rfl) rfl ?_ ?_
                      rotate_left
                      ·go_simp
                       rfl
                      refine hK.out _ _ ?_
                      clear hK K
                      refine done_ (done_of HT_.out (by kernel_rfl)) ?_
                      have n0_ : Aside0 (Kd.R Kd.bool 4 (w69.setCell ⟨go59, (t124 : Int).toNat, none⟩ (.int .u8 (rd l0_2 x42_2))) w.heap.size (fun k_ => some k_ ≠ (.slice (some ⟨go55, 0, none⟩) x15_2.length co55 : Value).ownBlock) (.slice (some ad120) t103.length co62) t103) := ⟨by (with_reducible repeat (first | apply Kd.R_alloc | apply Kd.R_drewN | apply Kd.R_drew)); exact Kd.R_mono (Kd.R_far (p := ⟨go59, (t124 : Int).toNat, none⟩) (Kd.R_types HO_11.out GG59.out (by decide)) (fun _ hk => hk.2) (.int .u8 (rd l0_2 x42_2))) (fun _ hk => hk.1.2)⟩
                      have n1_ : Aside0 (Kd.R (Kd.int .i64) 3 (w69.setCell ⟨go59, (t124 : Int).toNat, none⟩ (.int .u8 (rd l0_2 x42_2))) w.heap.size (fun _ => True) (.slice Ao23 x13_2.length co23) x13_2) := ⟨by (with_reducible repeat (first | apply Kd.R_alloc | apply Kd.R_drewN | apply Kd.R_drew)); exact Kd.R_mono (Kd.R_far (p := ⟨go59, (t124 : Int).toNat, none⟩) (Kd.R_types HO_13.out GG59.out (by decide)) (fun _ hk => hk.2) (.int .u8 (rd l0_2 x42_2))) (fun _ hk => trivial)⟩
                      have n2_ : Aside0 (Kd.R Kd.bool 4 (w69.setCell ⟨go59, (t124 : Int).toNat, none⟩ (.int .u8 (rd l0_2 x42_2))) w.heap.size (fun k_ => some k_ ≠ (.slice (some ad120) t103.length co62 : Value).ownBlock) (.slice (some ⟨go55, 0, none⟩) x15_2.length co55) y125) := ⟨by (with_reducible repeat (first | apply Kd.R_alloc | apply Kd.R_drewN | apply Kd.R_drew)); exact Kd.R_mono (Kd.R_far (p := ⟨go59, (t124 : Int).toNat, none⟩) (Kd.R_types HO_15.out GG59.out (by decide)) (fun _ hk => hk.2) (.int .u8 (rd l0_2 x42_2))) (fun _ hk => hk.1)⟩
                      have n3_ : Aside0 (Kd.R (Kd.int .u8) 5 (w69.setCell ⟨go59, (t124 : Int).toNat, none⟩ (.int .u8 (rd l0_2 x42_2))) w.heap.size (fun _ => True) (.slice (some ⟨go59, 0, none⟩) x112002_2.length co59) y127) := ⟨by (with_reducible repeat (first | apply Kd.R_alloc | apply Kd.R_drewN | apply Kd.R_drew)); exact HQ70.out⟩
                      have n4_ : Aside0 ((w69.setCell ⟨go59, (t124 : Int).toNat, none⟩ (.int .u8 (rd l0_2 x42_2))).heap[gb101]? = some (.cells #[.int .i64 a0_0, .int .i64 a0_1, .slice (some ad126) l0_2.length c0_2] 36 (0, 0))) := ⟨by (with_reducible repeat (first | refine blk_drewN ?_ _ | refine blk_drew ?_ | refine blk_alloc ?_ _)); refine blk_far ?_ (by have h_ := Kd.R_ne HO_112002.out BK101.out (by decide); intro e_; exact h_ (by rw [e_]; rfl)) _; exact blc⟩
                      have n5_ : Aside0 ((w69.setCell ⟨go59, (t124 : Int).toNat, none⟩ (.int .u8 (rd l0_2 x42_2))).heap[gb102]? = some (.cells #[.int .i64 0, .int .i64 0, .slice none 0 0] 36 (0, 0))) := ⟨by (with_reducible repeat (first | refine blk_drewN ?_ _ | refine blk_drew ?_ | refine blk_alloc ?_ _)); refine blk_far ?_ (by have h_ := Kd.R_ne HO_112002.out BK102.out (by decide); intro e_; exact h_ (by rw [e_]; rfl)) _; exact blc⟩
                      have n6_ : Aside0 ((w69.setCell ⟨go59, (t124 : Int).toNat, none⟩ (.int .u8 (rd l0_2 x42_2))).heap[gb111]? = some (.cells #[.int .i64 t106, .int .i64 t107, .slice (some ⟨go59, 0, none⟩) x112002_2.length co59] 36 (0, 0))) := ⟨by (with_reducible repeat (first | refine blk_drewN ?_ _ | refine blk_drew ?_ | refine blk_alloc ?_ _)); refine blk_far ?_ (by have h_ := Kd.R_ne HO_112002.out BK111.out (by decide); intro e_; exact h_ (by rw [e_]; rfl)) _; exact blc⟩
                      have n7_ : Aside0 (Below w.heap.size w (w69.setCell ⟨go59, (t124 : Int).toNat, none⟩ (.int .u8 (rd l0_2 x42_2)))) := ⟨bel HB⟩
                      (try clear HO_11)
                      (try clear HO_13)
                      (try clear HO_15)
                      (try clear HO_112002)
                      (try clear BK101)
                      (try clear BK102)
                      (try clear BK111)
                      (try clear HB)
                      generalize (w69.setCell ⟨go59, (t124 : Int).toNat, none⟩ (.int .u8 (rd l0_2 x42_2))) = w71 at n0_ n1_ n2_ n3_ n4_ n5_ n6_ n7_ ⊢
                      have HO_11 := n0_
                      have HO_13 := n1_
                      have HO_15 := n2_
                      have HO_112002 := n3_
                      have BK101 := n4_
                      have BK102 := n5_
                      have BK111 := n6_
                      have HB := n7_
                      clear n0_ n1_ n2_ n3_ n4_ n5_ n6_ n7_
                      have p61 : 0 ≤ (t124 : Int) := of_decide_eq_true (by first | (with_reducible assumption) | assumption)
                      have q61 : (t124 : Int) < ((x13_2.length : Int) : Int) := of_decide_eq_true (by first | (with_reducible assumption) | assumption)
                      obtain ⟨go61, co61, eo61, gb61, gl61, cl61, HG61⟩ := Kd.R_form HO_13.out (by omega)
                      (first | cases eo61 | (injection eo61 with ea_ en_ ec_; (first | subst ea_ | (injection ea_ with ea_; subst ea_)); subst ec_; clear en_))
                      have GB61 := Aside0.mk gb61
                      have GG61 := Aside0.mk HG61
                      clear gb61 gl61 HG61
                      obtain ⟨hx61_0, hf61_0⟩ := Kd.R_celln 0 HO_13.out (t124 : Int) p61 q61
                      replace p61 := eq_true p61
                      replace q61 := eq_true q61
                      obtain ⟨hy72_, hz72_⟩ := Kd.R_celln 0 HO_13.out (t124 : Int) (of_decide_eq_true (by first | (with_reducible assumption) | assumption)) (of_decide_eq_true (by first | (with_reducible assumption) | assumption))
                      have HP72 := Kd.R_putg HO_13.out (t124 : Int) (rd l1 x42_2)
                      try go_wp2_with (first | ((with_reducible refine gate_store (t := 3) (p := 74) rfl ?_); refine store_event (t := 3) (p := 74) (v := ?vo_w73) (w1 := (w71.setCell ⟨go61, (t124 : Int).toNat, none⟩ (.int .i64 (rd l1 x42_2)))) ?hg ?ho ?hn ?hr ?_; (case ho => rfl); (case hg => rfl); (case hn => rfl); (case hr => first | (go_simp; done) | (go_simp; rfl)); intro w73 hw; have hg : w71.grownBy w73 (some go61) := (by rw [hw]; exact HP72.2); have hp_ : Kd.R (Kd.int .i64) 3 w73 w.heap.size (fun _ => True) (.slice (some ⟨go61, 0, none⟩) x13_2.length co23) y128 := (by rw [hw, Ny128.out]; (first | exact HP72.1 | exact R_any HP72.1)); clear HP72; have n0_ := Aside0.mk (Kd.R_over' (v := (.slice (some ⟨go61, 0, none⟩) x13_2.length co23)) (rch HO_11) (Kd.R_typed HO_13.out) (by decide) hg); have n1_ := Aside0.mk (hp_); have n2_ := Aside0.mk (Kd.R_over' (v := (.slice (some ⟨go61, 0, none⟩) x13_2.length co23)) (rch HO_15) (Kd.R_typed HO_13.out) (by decide) hg); have n3_ := Aside0.mk (Kd.R_over' (v := (.slice (some ⟨go61, 0, none⟩) x13_2.length co23)) (rch HO_112002) (Kd.R_typed HO_13.out) (by decide) hg); have n4_ := Aside0.mk (blk_grown (g := gb101) (o := .cells #[.int .i64 a0_0, .int .i64 a0_1, .slice (some ad126) l0_2.length c0_2] 36 (0, 0)) blc hg (Kd.R_ne HO_13.out BK101.out (by decide))); have n5_ := Aside0.mk (blk_grown (g := gb102) (o := .cells #[.int .i64 0, .int .i64 0, .slice none 0 0] 36 (0, 0)) blc hg (Kd.R_ne HO_13.out BK102.out (by decide))); have n6_ := Aside0.mk (blk_grown (g := gb111) (o := .cells #[.int .i64 t106, .int .i64 t107, .slice (some ⟨go59, 0, none⟩) x112002_2.length co59] 36 (0, 0)) blc hg (Kd.R_ne HO_13.out BK111.out (by decide))); have n7_ := Aside0.mk ((by rw [hw]; exact below_set (HB.out) GB61.out : Below w.heap.size w w73)); clear HO_11; clear HO_13; clear HO_15; clear HO_112002; clear BK101; clear BK102; clear BK111; clear HB; have HO_11 := n0_; have HO_13 := n1_; have HO_15 := n2_; have HO_112002 := n3_; have BK101 := n4_; have BK102 := n5_; have BK111 := n6_; have HB := n7_; clear n0_ n1_ n2_ n3_ n4_ n5_ n6_ n7_; clear hg hw hp_))
                      (try simp only [← hl13_2])
                      go_roundg k2
                      case measure => have := HK1.out; have := HK2.out; omega
                      case rel => exact ⟨(y128), (y125), (wrap64 (x42_2 + 1)), (y127), (.slice (some ⟨go59, 0, none⟩) x112002_2.length co59), (by first | rfl | (simp; done) | (simp [*]; done)), H', ⟨by have := HK1.out; have := HK2.out; omega⟩, ⟨by (try simp only [hl13_1]); (try simp only [hl13_2]); (with_reducible repeat (first | apply Kd.R_alloc | apply Kd.R_drewN | apply Kd.R_drew)); (first | exact HO_11.out | exact R_any HO_11.out)⟩, ⟨by (try simp only [hl13_1]); (try simp only [hl13_2]); (with_reducible repeat (first | apply Kd.R_alloc | apply Kd.R_drewN | apply Kd.R_drew)); (first | exact HO_13.out | exact R_any HO_13.out)⟩, ⟨by (try simp only [hl13_1]); (try simp only [hl13_2]); (with_reducible repeat (first | apply Kd.R_alloc | apply Kd.R_drewN | apply Kd.R_drew)); (first | exact HO_15.out | exact R_any HO_15.out)⟩, ⟨by (try simp only [hl13_1]); (try simp only [hl13_2]); (with_reducible repeat (first | apply Kd.R_alloc | apply Kd.R_drewN | apply Kd.R_drew)); (first | exact HO_112002.out | exact R_any HO_112002.out)⟩, ⟨by (try simp only [hl13_1]); (try simp only [hl13_2]); exact blc⟩, ⟨by (try simp only [hl13_1]); (try simp only [hl13_2]); exact blc⟩, ⟨by (try simp only [hl13_1]); (try simp only [hl13_2]); exact blc⟩, ⟨bel HB⟩⟩
                     ·rw [if_neg c60] at H
                      exact absurd H (by simp)
                    ·rw [if_neg c58] at H
                     exact absurd H (by simp)
                   ·rw [if_neg c57] at H
                    exact absurd H (by simp)
                  ·rw [if_neg c56] at H
                   exact absurd H (by simp)
                 ·rw [if_neg c54] at H
                  exact absurd H (by simp)
               ·rw [if_neg c39] at H
                exact absurd H (by simp)
              ·rw [if_neg c38] at H
               exact absurd H (by simp)
            ·rw [if_neg c36] at H
             exact absurd H (by simp)
           ·rw [if_neg c35] at H
            exact absurd H (by simp)
          ·rw [if_neg c34] at H
           have c34b0 : decide (x42_2 < (l1.length : Int)) = false := decide_eq_false c34
           (try (have c34b0y := c34b0; first | rw [hl13_1] at c34b0y | rw [hl13_2] at c34b0y))
           clear c34
           simp only [Option.some.injEq, Prod.mk.injEq] at H
           obtain ⟨rfl, rfl, rfl, rfl, rfl⟩ := H
           have hnb74 := NB111_101.out
           have hnc74 := NB101_111.out
           have hnb75 := NB111_102.out
           have hnc75 := NB102_111.out
           have hcz76_0 : wr.cell? ⟨gb111, 0, none⟩ = some (.int .i64 t106) := (blk_cell BK111.out 0).trans rfl
           have hcz76_1 : wr.cell? ⟨gb111, 1, none⟩ = some (.int .i64 t107) := (blk_cell BK111.out 1).trans rfl
           have hcz76_2 : wr.cell? ⟨gb111, 2, none⟩ = some (u112002) := (blk_cell BK111.out 2).trans rfl
           have hfz76_0 := blk_frozen BK111.out 0
           have hfz76_1 := blk_frozen BK111.out 1
           have hfz76_2 := blk_frozen BK111.out 2
           have hnb77 := NB102_101.out
           have hnc77 := NB101_102.out
           have hcz78_0 : wr.cell? ⟨gb102, 0, none⟩ = some (.int .i64 0) := (blk_cell BK102.out 0).trans rfl
           have hcz78_1 : wr.cell? ⟨gb102, 1, none⟩ = some (.int .i64 0) := (blk_cell BK102.out 1).trans rfl
           have hcz78_2 : wr.cell? ⟨gb102, 2, none⟩ = some (.slice none 0 0) := (blk_cell BK102.out 2).trans rfl
           have hfz78_0 := blk_frozen BK102.out 0
           have hfz78_1 := blk_frozen BK102.out 1
           have hfz78_2 := blk_frozen BK102.out 2
           obtain ⟨Ao79, co79, eo79⟩ := Kd.R_slice HO_112002.out
           subst eo79
           go_wp2
           refine bodyPost_ret (results_ctt rfl _ _ gb102 36 #[.int .i64 t106, .int .i64 t107, .slice Ao79 x112002_2.length co79] (0, 0) _ rfl (by (with_reducible repeat (first | refine blk_drewN ?_ _ | refine blk_drew ?_ | refine blk_alloc ?_ _)); refine blk_put (cs := #[.int .i64 t106, .int .i64 t107, .slice none 0 0]) ?_ 2 _ rfl; (with_reducible repeat (first | refine blk_drewN ?_ _ | refine blk_drew ?_ | refine blk_alloc ?_ _)); refine blk_put (cs := #[.int .i64 t106, .int .i64 0, .slice none 0 0]) ?_ 1 _ rfl; (with_reducible repeat (first | refine blk_drewN ?_ _ | refine blk_drew ?_ | refine blk_alloc ?_ _)); refine blk_put (cs := #[.int .i64 0, .int .i64 0, .slice none 0 0]) ?_ 0 _ rfl; exact blc) Tryd.underlying36 rfl (by kernel_rfl)) rfl ?_
           exact ⟨_, _, _, by first | rfl | (simp [errW_none, errW_some] <;> rfl) | (simp [*, errW_none, errW_some] <;> rfl), by (with_reducible repeat (first | apply Kd.R_alloc | apply Kd.R_drewN | apply Kd.R_drew)); exact Kd.R_mono (Kd.R_far (p := ⟨gb102, 2, none⟩) (Kd.R_far (p := ⟨gb102, 1, none⟩) (Kd.R_far (p := ⟨gb102, 0, none⟩) (Kd.R_types HO_112002.out BK102.out (by decide)) (fun _ hk => hk.2) (.int .i64 t106)) (fun _ hk => hk.2) (.int .i64 t107)) (fun _ hk => hk.2) (.slice Ao79 x112002_2.length co79)) (fun _ hk => trivial), by (with_reducible repeat (first | apply Kd.R_alloc | apply Kd.R_drewN | apply Kd.R_drew)); exact Kd.R_mono (Kd.R_far (p := ⟨gb102, 2, none⟩) (Kd.R_far (p := ⟨gb102, 1, none⟩) (Kd.R_far (p := ⟨gb102, 0, none⟩) (Kd.R_types HO_13.out BK102.out (by decide)) (fun _ hk => hk.2) (.int .i64 t106)) (fun _ hk => hk.2) (.int .i64 t107)) (fun _ hk => hk.2) (.slice Ao79 x112002_2.length co79)) (fun _ hk => trivial), by (with_reducible repeat (first | apply Kd.R_alloc | apply Kd.R_drewN | apply Kd.R_drew)); exact Kd.R_mono (Kd.R_far (p := ⟨gb102, 2, none⟩) (Kd.R_far (p := ⟨gb102, 1, none⟩) (Kd.R_far (p := ⟨gb102, 0, none⟩) (Kd.R_types HO_15.out BK102.out (by decide)) (fun _ hk => hk.2) (.int .i64 t106)) (fun _ hk => hk.2) (.int .i64 t107)) (fun _ hk => hk.2) (.slice Ao79 x112002_2.length co79)) (fun _ hk => trivial), bel HB⟩
       ·rw [if_neg c31] at H
        exact absurd H (by simp)
      ·rw [if_neg c30] at H
       exact absurd H (by simp)
  ·rw [if_neg c8] at H
   exact absurd H (by simp)
 ·rw [if_neg c7] at H
  exact absurd H (by simp)
end Go.Proofs.YtgipkpiddjjhcaaDoor.Q
end
section
namespace Go.Proofs.YtgipkpiddjjhcaaDoor.Q
open Go.RowKit Go.Proofs.YtgipkpiddjjhcaaDoorW.PrintWords Go.Proofs.YtgipkpiddjjhcaaDoorW.PrintLast Go.Proofs.YtgipkpiddjjhcaaDoorW.PrintMore
set_option linter.unusedSectionVars false
open Classical
theorem rd_ext {a b : List Int} (hl : a.length = b.length) (h : ∀ p : Nat, p < b.length → rd a (p : Int) = rd b (p : Int)) : a = b := by
 refine List.ext_getElem hl fun p h1 h2 => ?_
 have := h p h2
 rwa [rd_nat _ p h1, rd_nat _ p h2] at this
def bk (w h : Nat) (cs L : List Int) (d p : Nat) : Prop := Blk (w * h) (lb L) (aA w h cs d) p
noncomputable def stL (w h : Nat) (cs L : List Int) (n d : Nat) : List Bool := blkL (w * h) n (lb L) (aA w h cs d)
theorem stL_len (w h : Nat) (cs L : List Int) (n d : Nat) : (stL w h cs L n d).length = n := by
 unfold stL blkL
 rw [List.length_map, List.length_range]
theorem rdOf_map {n p : Nat} (f : Nat → Bool) (hp : p < n) : rdOf false ((List.range n).map f) (p : Int) = f p := by
 unfold rdOf
 rw [Int.toNat_natCast, List.getD_eq_getElem?_getD, List.getElem?_map, List.getElem?_range hp]
 rfl
theorem stL_at (w h : Nat) (cs L : List Int) {n d p : Nat} (hp : p < n) : rdOf false (stL w h cs L n d) (p : Int) = decide (bk w h cs L d p) := rdOf_map _ hp
noncomputable def mvd (w h : Nat) (cs L : List Int) (n d t : Nat) : List Bool := (List.range n).map fun p : Nat => decide ((∃ i : Nat, i < t ∧ rd L (i : Int) = p) ∧ ¬ bk w h cs L d p)
noncomputable def mvAll (w h : Nat) (cs L : List Int) (n d : Nat) : List Bool := (List.range n).map fun p : Nat => decide (¬ bk w h cs L d p)
theorem mvd_len (w h : Nat) (cs L : List Int) (n d t : Nat) : (mvd w h cs L n d t).length = n := by
 unfold mvd
 rw [List.length_map, List.length_range]
theorem mvd_zero (w h : Nat) (cs L : List Int) (n d : Nat) : mvd w h cs L n d 0 = List.replicate n false := by
 unfold mvd
 refine List.ext_getElem (by simp) fun p h1 h2 => ?_
 rw [List.getElem_map, List.getElem_replicate]
 refine decide_eq_false fun h3 => ?_
 obtain ⟨⟨i, hi, _⟩, _⟩ := h3
 omega
theorem mvd_stay (w h : Nat) (cs L : List Int) (n d t : Nat) (hb : rd L (t : Int) < 0 ∨ ∃ p : Nat, rd L (t : Int) = p ∧ bk w h cs L d p) : mvd w h cs L n d (t + 1) = mvd w h cs L n d t := by
 unfold mvd
 refine List.map_congr_left fun p _ => ?_
 have : ((∃ i : Nat, i < t + 1 ∧ rd L (i : Int) = p) ∧ ¬ bk w h cs L d p) ↔ ((∃ i : Nat, i < t ∧ rd L (i : Int) = p) ∧ ¬ bk w h cs L d p) := by
  constructor
  ·rintro ⟨⟨i, hi, e⟩, h2⟩
   refine ⟨⟨i, ?_, e⟩, h2⟩
   apply Classical.byContradiction
   intro h3
   obtain rfl : i = t := by omega
   rcases hb with h4 | ⟨q, h4, h5⟩
   ·omega
   ·have : q = p := by omega
    subst this
    exact h2 h5
  ·rintro ⟨⟨i, hi, e⟩, h2⟩
   exact ⟨⟨i, by omega, e⟩, h2⟩
 exact decide_eq_decide.2 this
theorem mvd_go (w h : Nat) (cs L : List Int) (n d t p : Nat) (hl : rd L (t : Int) = p) (hb : ¬ bk w h cs L d p) : mvd w h cs L n d (t + 1) = (mvd w h cs L n d t).set p true := by
 unfold mvd
 refine List.ext_getElem (by simp) fun q h1 h2 => ?_
 rw [List.getElem_set, List.getElem_map, List.getElem_map, List.getElem_range]
 by_cases e : p = q
 ·subst e
  rw [if_pos rfl]
  exact decide_eq_true ⟨⟨t, by omega, hl⟩, hb⟩
 ·rw [if_neg e]
  refine decide_eq_decide.2 ?_
  constructor
  ·rintro ⟨⟨i, hi, e2⟩, h2⟩
   refine ⟨⟨i, ?_, e2⟩, h2⟩
   apply Classical.byContradiction
   intro h3
   obtain rfl : i = t := by omega
   omega
  ·rintro ⟨⟨i, hi, e2⟩, h2⟩
   exact ⟨⟨i, by omega, e2⟩, h2⟩
def cameN (t : Nat) (y : Int) : Bool := decide (y < (t : Int))
theorem cameN_succ (t : Nat) : cameN (t + 1) = fun y => cameN t y || decide (y = (t : Int)) := by
 funext y
 unfold cameN
 by_cases h1 : y < (t : Int)
 ·rw [decide_eq_true h1, decide_eq_true (by omega)]
  rfl
 ·by_cases h2 : y = (t : Int)
  ·rw [decide_eq_true h2, decide_eq_true (by omega), Bool.or_true]
  ·rw [decide_eq_false h1, decide_eq_false h2, decide_eq_false (by omega)]
   rfl
theorem laid_zero (cs em : List Int) (f : Int → Option Int) (hl : em.length = cs.length) : laidCells cs em f (cameN 0) = em := by
 refine Eq.trans (laid_congr cs em f f _ (fun _ => false) fun x _ => ⟨rfl, fun _ => ?_⟩) (laid_none cs em f hl)
 unfold cameN
 exact decide_eq_false (by omega)
theorem laid_full (cs em : List Int) (f : Int → Option Int) (t : Nat) (ht : cs.length ≤ t) : laidCells cs em f (cameN t) = laidCells cs em f fun _ => true := by
 refine laid_congr cs em f f _ (fun _ => true) fun x hx => ⟨rfl, fun _ => ?_⟩
 unfold cameN
 exact decide_eq_true (by omega)
theorem fill_set (a b : Int) (t m : Nat) : (List.replicate t a ++ List.replicate (m + 1) b).set t a = List.replicate (t + 1) a ++ List.replicate m b := by
 refine List.ext_getElem (by simp; omega) fun j h1 h2 => ?_
 rw [List.getElem_set]
 simp only [List.getElem_append, List.length_replicate, List.getElem_replicate]
 split <;> split <;> (try split) <;> first | rfl | omega
section
variable {w h : Nat} {cs L : List Int} {n d : Nat} (hw : w ≤ 7) (hh : h ≤ 7) (hs : w * h ≤ 36) (hI : SI w h cs L n) (hd : d < 4) (hn36 : n ≤ 36)
include hw hh hs hI hd hn36
theorem mvd_all : mvd w h cs L n d (w * h) = mvAll w h cs L n d := by
 unfold mvd mvAll
 refine List.map_congr_left fun p hp => decide_eq_decide.2 ⟨fun h1 => h1.2, fun h1 => ⟨?_, h1⟩⟩
 exact hI.full p (List.mem_range.1 hp)
theorem skm_l1 : ∀ (m t : Nat), t + m = w * h → Ev (fun k => spec_skMove.l1 k d (stL w h cs L n d) (laidCells L (List.replicate (w * h) (-1)) (mvF w h cs L d) (cameN t)) (mvd w h cs L n d t) L L.length t w h cs w h (laidCells cs (emptyC cs) (mvF w h cs L d) (cameN t))) (w, h, csN w h cs L d, laN w h cs L d, mvAll w h cs L n d)
 | 0, t, ht => by
  obtain rfl : t = w * h := by omega
  refine Ev.step (Ev.const (o := some ((w : Int), (h : Int), csN w h cs L d, laN w h cs L d, mvAll w h cs L n d)) rfl) fun k => ?_
  rw [spec_skMove.l1, if_neg (by rw [hI.ll]; omega), laid_full _ _ _ _ (by rw [hI.lc]; exact Nat.le_refl _), laid_full _ _ _ _ (by rw [hI.ll]; exact Nat.le_refl _), mvd_all hw hh hs hI hd hn36]
  rfl
 | m + 1, t, ht => by
  have ih := skm_l1 m (t + 1) (by omega)
  have htl : t < w * h := by omega
  have hwt := w64t t (by omega)
  have c0 : (0 : Int) ≤ (t : Int) := Int.natCast_nonneg t
  have c1 : (t : Int) < (L.length : Int) := by rw [hI.ll]; exact Int.ofNat_lt.2 htl
  have c2 : (t : Int) < (cs.length : Int) := by rw [hI.lc]; exact Int.ofNat_lt.2 htl
  have lA : ∀ ca, ((laidCells L (List.replicate (w * h) (-1)) (mvF w h cs L d) ca).length : Int) = ((w * h : Nat) : Int) := fun ca => by rw [laid_len, hI.ll]
  have lB : ∀ ca, ((laidCells cs (emptyC cs) (mvF w h cs L d) ca).length : Int) = ((w * h : Nat) : Int) := fun ca => by rw [laid_len, hI.lc]
  have hfit := mv_fits hw hh hs hI hd
  refine Ev.step ih fun k => ?_
  rw [spec_skMove.l1, if_pos c1, if_pos c0, if_pos c1, hwt]
  by_cases h1 : rd L (t : Int) < 0
  ·rw [if_pos h1, cameN_succ, laid_skip _ _ _ _ _ (mv_none hw hh hs hI hd (by omega)), laid_skip _ _ _ _ _ (mv_none hw hh hs hI hd (by omega)), mvd_stay _ _ _ _ _ _ _ (Or.inl h1)]
  ·have h2 : 0 ≤ rd L (t : Int) := by omega
   have h3 := hI.lt t htl
   obtain ⟨p, hp⟩ : ∃ p : Nat, rd L (t : Int) = p := ⟨(rd L (t : Int)).toNat, by omega⟩
   have hpn : p < n := by omega
   have c3 : rd L (t : Int) < ((stL w h cs L n d).length : Int) := by rw [stL_len]; exact h3
   have hst := stL_at w h cs L (d := d) hpn
   have hmv := mv_some hw hh hs hI hd htl h2
   obtain ⟨y0, y1, y2⟩ := y_at hw hh hs hI hd htl h2
   have hlbt : (lb L t).toNat = p := by unfold lb; omega
   rw [if_neg h1, if_pos h2, if_pos c3]
   have s1 := laid_step cs (emptyC cs) _ (cameN t) (by rw [hI.lc]; exact hfit) _ _ hmv
   have s2 := laid_step L (List.replicate (w * h) (-1)) _ (cameN t) (by rw [hI.ll]; exact hfit) _ _ hmv
   rw [← cameN_succ] at s1 s2
   by_cases hb : bk w h cs L d p
   ·have hy : yC w h cs L d t = t := if_pos (by rw [hlbt]; exact hb)
    rw [hy] at s1 s2
    have c4 : (t : Int) < ((w * h : Nat) : Int) := Int.ofNat_lt.2 htl
    rw [hp, if_pos (hst.trans (decide_eq_true hb)), if_pos c2, if_pos (by rw [lB]; exact c4), if_pos (by rw [lA]; exact c4), s1, s2, mvd_stay _ _ _ _ _ _ _ (Or.inr ⟨p, hp, hb⟩), hp]
   ·have hy : yC w h cs L d t = aA w h cs d t := if_neg (by rw [hlbt]; exact hb)
    rw [hy] at s1 s2 y0 y1
    have c5 : (p : Int) < ((mvd w h cs L n d t).length : Int) := by rw [mvd_len]; exact Int.ofNat_lt.2 hpn
    rw [hp, if_neg (by rw [hst]; simpa using hb), aA_eq hw hh hs hI.lc htl hd, Option.bind_some, if_pos c5, if_pos c2, if_pos y0, if_pos (by rw [lB]; exact y1), if_pos (by rw [lA]; exact y1), s1, s2, mvd_go _ _ _ _ _ _ _ p hp hb, hp]
    rfl
theorem skm_l0 : ∀ (m t : Nat), t + m = w * h → Ev (fun k => spec_skMove.l0 k L n d (stL w h cs L n d) (List.replicate t (-1) ++ List.replicate m 0) ((w * h : Nat) : Int) t w h cs w h (emptyC cs)) (w, h, csN w h cs L d, laN w h cs L d, mvAll w h cs L n d)
 | 0, t, ht => by
  obtain rfl : t = w * h := by omega
  have h1 := skm_l1 hw hh hs hI hd hn36 (w * h) 0 (by omega)
  rw [laid_zero _ _ _ (by rw [hI.ll]; simp), laid_zero _ _ _ (by unfold emptyC; simp), mvd_zero] at h1
  refine Ev.step h1 fun k => ?_
  rw [spec_skMove.l0, if_neg (by omega), if_pos (by omega), if_pos (by omega), List.replicate_zero, List.append_nil, Int.toNat_natCast]
  rfl
 | m + 1, t, ht => by
  have ih := skm_l0 m (t + 1) (by omega)
  refine Ev.step ih fun k => ?_
  rw [spec_skMove.l0, if_pos (by omega), if_pos (by omega), if_pos (by simp; omega), w64t t (by omega), Int.toNat_natCast, fill_set]
theorem skMove_ev (hz : 0 < w * h) : Ev (fun k => spec_skMove.f k w h cs L n d) (w, h, csN w h cs L d, laN w h cs L d, mvAll w h cs L n d) := by
 refine Ev.bind (f := fun k t103 => ((spec_tyWalls.f w h cs).bind fun bt106 => (if 0 ≤ (L.length : Int) then (if ((L.length : Int) : Int).toNat ≤ 35184372088832 then ((some (List.replicate ((L.length : Int) : Int).toNat 0 : List Int)).bind fun y112 => (spec_skMove.l0 k L n d t103 y112 (y112.length : Int) 0 w h cs bt106.1 bt106.2.1 bt106.2.2)) else (none)) else (none)))) (skBlocked_ev hw hh hs hI.lc hd hn36 hI.ll hI.lt) ?_
 refine Ev.congr (skm_l0 hw hh hs hI hd hn36 (w * h) 0 (by omega)) fun k => ?_
 have hc : spec_tyWalls.f w h cs = some ((w : Int), (h : Int), emptyC cs) := if_pos ⟨by rw [hI.lc]; exact hz, by rw [hI.lc]; omega⟩
 rw [hc, Option.bind_some, if_pos (by omega), if_pos (by rw [hI.ll]; omega), Option.bind_some, hI.ll, Int.toNat_natCast, List.length_replicate]
 rfl
end
end Go.Proofs.YtgipkpiddjjhcaaDoor.Q
end
section
namespace Go.Proofs.YtgipkpiddjjhcaaDoor.Q
set_option linter.unusedSectionVars false
open Go.RowKit Go.Proofs.YtgipkpiddjjhcaaDoorW.PrintWords Go.Proofs.YtgipkpiddjjhcaaDoorW.PrintLast Go.Proofs.YtgipkpiddjjhcaaDoorW.PrintMore
noncomputable def PE : Value → Option (DataW Unit × List MemPlace) := plainElem Tryd.prog 3
theorem keyI : Maps.Keyed Tryd.prog 3 := Maps.int_keyed Tryd.underlying3
def lk (x : Int) : Lit := .int .i64 x
theorem lk_wf {x : Int} (h0 : 0 ≤ x) (h1 : x ≤ 1000000) : (Lit.int .i64 x).wf = true := by
 unfold Lit.wf
 rw [Bool.and_eq_true]
 exact ⟨decide_eq_true (Int.le_trans (by decide) h0), decide_eq_true (Int.le_trans h1 (by decide))⟩
theorem lk_key (x : Int) : WideAt.IsKeyLit (lk x) := by simp [WideAt.IsKeyLit, lk]
theorem lk_ne {x y : Int} (h : x ≠ y) : lk x ≠ lk y := fun e => h (by injection e)
structure Holds (D : DataW Unit) (f : Int → Option Int) : Prop where
 map : Maps.IsMap D
 at' : ∀ (x : Int) (z : DataW Unit), D.atKey (lk x) z = match f x with | some c => .lit (lk c) | none => z
 has' : ∀ x : Int, Maps.has D (lk x) = (f x).isSome
theorem Holds.made : Holds (.map []) fun _ => none := ⟨Maps.isMap_empty, fun _ _ => rfl, fun _ => rfl⟩
def upd (f : Int → Option Int) (k v : Int) : Int → Option Int := fun x => if x = k then some v else f x
theorem Holds.put {D : DataW Unit} {f : Int → Option Int} (h : Holds D f) (k v : Int) : Holds (D.put (lk k) (.lit (lk v))) (upd f k v) := by
 refine ⟨h.map.put _ _, fun x z => ?_, fun x => ?_⟩
 ·unfold upd
  by_cases e : x = k
  ·rw [if_pos e, e, Maps.atKey_put_same h.map (lk_key k)]
  ·rw [if_neg e, Maps.atKey_put_other (lk_ne e), h.at']
 ·unfold upd
  by_cases e : x = k
  ·rw [if_pos e, e, Maps.has_put_same h.map (lk_key k)]
   rfl
  ·rw [if_neg e, Maps.has_put_other (lk_ne e), h.has']
def MP (w : World) (b n : Nat) (f : Int → Option Int) : Prop := ∃ D : DataW Unit, w.ownsMap Tryd.prog 3 PE b n D ∧ Holds D f
theorem MP.made (w : World) : MP (w.alloc (.map #[] 0)) w.heap.size 0 fun _ => none := ⟨_, World.ownsMap_made w _ _ _, Holds.made⟩
theorem MP.kept {w w' : World} {b n : Nat} {f : Int → Option Int} {row : Option Nat} (h : MP w b n f) (hg : w.grownBy w' row) (hne : some b ≠ row) : MP w' b n f := by
 obtain ⟨D, h1, h2⟩ := h
 exact ⟨D, h1.kept hg hne, h2⟩
theorem MP.below {w w' : World} {b n : Nat} {f : Int → Option Int} (h : MP w b n f) (hb : Below w.heap.size w w') : MP w' b n f := h.kept (grown_of_below hb none) (by simp)
def NC (w : World) (r : Nat) : Prop := ∀ (c : Array Value) (q : Nat) (z : Nat × Nat), w.heap[r]? ≠ some (.cells c q z)
theorem R_turn {α : Type} {d : Kd α} {e base : Nat} {ok : Nat → Prop} {w w1 : World} {v : Value} {xs : List α} (h : Kd.R d e w base ok v xs) {r : Nat} (hg : w.grownBy w1 (some r)) (hn : NC w r) : Kd.R d e w1 base ok v xs :=
 Kd.R_mono (Kd.R_move (Kd.R_bound h) (fun k hk => hg.block k hk.2.2.1 (by
  rintro e
  cases e
  obtain ⟨_, _, _, q, _, cells, hc⟩ := hk
  exact hn _ _ _ hc))) (fun _ hk => hk.1)
theorem blk_turn {w w1 : World} {g r q : Nat} {c : Array Value} {z : Nat × Nat} (h : w.heap[g]? = some (.cells c q z)) (hg : w.grownBy w1 (some r)) (hn : NC w r) : w1.heap[g]? = some (.cells c q z) := by
 refine blk_grown h hg ?_
 rintro e
 cases e
 exact hn _ _ _ h
theorem MP.nc {w : World} {b n : Nat} {f : Int → Option Int} (h : MP w b n f) : NC w b := by
 obtain ⟨D, ⟨es, clock, hb, _⟩, _⟩ := h
 intro c q z e
 rw [hb] at e
 cases e
theorem ranges_nc {w : World} {b r n cnt : Nat} {D : DataW Unit} {left : Lit → Bool} (h : w.ranges Tryd.prog 3 PE b r n D left cnt) : NC w r := by
 obtain ⟨es, clock, since, seen, c0, hb, _, _, _, hr, _⟩ := h
 intro c q z e
 rw [hr] at e
 cases e
theorem ranges_set {w : World} {b r n cnt : Nat} {D : DataW Unit} {left : Lit → Bool} (h : w.ranges Tryd.prog 3 PE b r n D left cnt) {g : Nat} (h1 : b ≠ g) (h2 : r ≠ g) (i : Nat) (v : Value) : (w.setCell ⟨g, i, none⟩ v).ranges Tryd.prog 3 PE b r n D left cnt := by
 obtain ⟨es, clock, since, seen, c0, hb, F, hs, hD, hr, rest⟩ := h
 exact ⟨es, clock, since, seen, c0, (Below.heap_setCell w ⟨g, i, none⟩ v b h1).trans hb, F, hs, hD, (Below.heap_setCell w ⟨g, i, none⟩ v r h2).trans hr, rest⟩
theorem ranges_drew {w : World} {b r n cnt : Nat} {D : DataW Unit} {left : Lit → Bool} (h : w.ranges Tryd.prog 3 PE b r n D left cnt) : w.drew.ranges Tryd.prog 3 PE b r n D left cnt := h
theorem ranges_mnc {w : World} {b r n cnt : Nat} {D : DataW Unit} {left : Lit → Bool} (h : w.ranges Tryd.prog 3 PE b r n D left cnt) : NC w b := by
 obtain ⟨es, clock, since, seen, c0, hb, _⟩ := h
 intro c q z e
 rw [hb] at e
 cases e
theorem R_nc {α : Type} {d : Kd α} {e base n c : Nat} {ok : Nat → Prop} {w : World} {g : Nat} {xs : List α} (h : Kd.R d e w base ok (.slice (some ⟨g, 0, none⟩) n c) xs) {r : Nat} (hn : NC w r) : r ≠ g := by
 rintro rfl
 obtain ⟨_, _, _, q, _, cells, hc⟩ := (Kd.R_bound h).1 _ rfl
 exact hn _ _ _ hc
theorem below_none {W W1 : World} (hg : W.grownBy W1 none) : Below W.heap.size W W1 := (Below.refl _ W).grown hg (Nat.le_refl _) (fun _ h => by cases h)
theorem pe_int {c : Int} (hw : (Lit.int .i64 c).wf = true) : PE (.int .i64 c) = some (.lit (lk c), []) := plainElem_int Tryd.underlying3 hw
end Go.Proofs.YtgipkpiddjjhcaaDoor.Q
end
section
namespace Go.Proofs.YtgipkpiddjjhcaaDoor.Q
set_option linter.unusedSectionVars false
open Go.RowKit Go.Proofs.YtgipkpiddjjhcaaDoorW.PrintWords Go.Proofs.YtgipkpiddjjhcaaDoorW.PrintLast Go.Proofs.YtgipkpiddjjhcaaDoorW.PrintMore
theorem lk_same (x y : Int) : (lk x).sameKey (lk y) = decide (x = y) := by
 by_cases h : x = y
 ·rw [h, WideAt.sameKey_self (lk_key y)]
  simp
 ·rw [Maps.sameKey_ne (lk_ne h)]
  simp [h]
def cameL (left : Lit → Bool) (x : Int) : Bool := !left (lk x)
theorem came_start {D : DataW Unit} {f : Int → Option Int} (h : Holds D f) (cs em : List Int) (hl : em.length = cs.length) : laidCells cs em f (cameL (Maps.has D)) = em := by
 refine Eq.trans (laid_congr cs em f f _ (fun _ => false) fun x _ => ⟨rfl, fun hx => ?_⟩) (laid_none cs em f hl)
 unfold cameL
 rw [h.has']
 cases e : f (x : Int) with
 | none => exact absurd e hx
 | some c => rfl
theorem came_end (left : Lit → Bool) (h : ∀ kl, left kl = false) : cameL left = fun _ => true := by
 funext x
 unfold cameL
 rw [h]
 rfl
theorem came_step (left : Lit → Bool) (x : Int) : cameL (fun z => left z && !z.sameKey (lk x)) = fun y => cameL left y || decide (y = x) := by
 funext y
 unfold cameL
 show (!(left (lk y) && !(lk y).sameKey (lk x))) = _
 rw [lk_same]
 cases left (lk y) <;> cases decide (y = x) <;> rfl
theorem Holds.some {D : DataW Unit} {f : Int → Option Int} (h : Holds D f) {x c : Int} (ha : ∀ zd, D.atKey (lk x) zd = .lit (lk c)) : f x = some c := by
 have h1 := ha .nil
 rw [h.at'] at h1
 cases e : f x with
 | none =>
  rw [e] at h1
  cases h1
 | some c' =>
  rw [e] at h1
  injection h1 with h2
  injection h2 with h3 h4
  rw [h4]
theorem EM.turn {w W W1 : World} {gr go gb n c : Nat} {a b : Int} {xs : List Int} (h : EM w W gr go gb a b n c xs) {r : Nat} (hg : W.grownBy W1 (some r)) (hr : w.heap.size ≤ r) (hn : NC W r) : EM w W1 gr go gb a b n c xs :=
 ⟨h.below.grown hg h.below.size (fun k e => by cases e; exact hr), blk_turn h.res hg hn, blk_turn h.out hg hn, R_turn h.row hg hn, h.gr0, h.go0, h.gb0, h.ne, h.len⟩
set_option maxHeartbeats 16000000 in
set_option maxRecDepth 100000 in
theorem carried_calls (a0_0 a0_1 : Int) (A0_2 : Option Addr) (c0_2 : Nat) (l0_2 : List Int) (bm n : Nat) (f : Int → Option Int) (w : World) (hr0_2 : Kd.C (Kd.int .u8) w A0_2 l0_2.length l0_2) (hc0_2 : l0_2.length ≤ c0_2) (hl : 0 < l0_2.length ∧ l0_2.length ≤ 1000) (hm : MP w bm n f) (hf : Fits f l0_2.length) :
  Calls Tryd.prog 61 #[.agg #[.int .i64 a0_0, .int .i64 a0_1, .slice A0_2 l0_2.length c0_2], .map (some bm)] w fun e w' => ∃ v2_ : Value, e = .returned (.agg #[.int .i64 a0_0, .int .i64 a0_1, v2_]) ∧ Kd.R (Kd.int .u8) 5 w' w.heap.size (fun _ => True) v2_ (laidCells l0_2 (emptyC l0_2) f fun _ => true) ∧ Below w.heap.size w w' := by
 have hu := Tryd.underlying46
 have HR := Aside0.mk hr0_2
 have HC := Aside0.mk hc0_2
 have HL := Aside0.mk hl
 have HF := Aside0.mk hf
 have HV := Aside0.mk (show impl_tray_emptied.f a0_0 a0_1 l0_2 = some (a0_0, a0_1, emptyC l0_2) from if_pos hl)
 have hel : (emptyC l0_2).length = l0_2.length := by unfold emptyC; rw [List.length_map]
 obtain ⟨D, hown, hh⟩ := hm
 have MPD := Aside0.mk hown
 have HH := Aside0.mk hh
 obtain ⟨ad, ead, _⟩ := Kd.at_int hr0_2 0 (by omega) (by omega)
 cases ead
 generalize hem : emptyC l0_2 = em at HV hel ⊢
 have HEL := Aside0.mk hel
 clear hr0_2 hc0_2 hl hown hh hf hem hel
 go_enter Tryd.func61, Tryd.ntmps61
 go_wp2_with (first
  | ((with_reducible refine gate_dst (N := 2) rfl ?_); refine box_event ?hg (N := 2) ?hd (cs := #[.int .i64 a0_0, .int .i64 a0_1, .slice (some ad) l0_2.length c0_2]) (t := 46) ?hr ?_; (case hd => rfl); (case hg => rfl); (case hr => first | (go_simp; done) | (go_simp; rfl)); intro gt hg w1 hbox hb; (have HB1 := Aside0.mk hb); (have HT := Aside0.mk hbox); clear hbox hb hg)
  | ((with_reducible refine gate_dst (N := 4) rfl ?_); refine box_event ?hg (N := 4) ?hd (cs := #[.int .i64 0, .int .i64 0, .slice none 0 0]) (t := 46) ?hr ?_; (case hd => rfl); (case hg => rfl); (case hr => first | (go_simp; done) | (go_simp; rfl)); intro gr hg w2 hbox hb; (have HG2 := Aside0.mk (show w.heap.size ≤ gr by rw [hg]; exact HB1.out.size)); (have HB2 := Aside0.mk (below_then HB1.out HB1.out.size hb)); (have HT2 := Aside0.mk ((hb.block gt (blk_lt HT.out)).trans HT.out)); (have HRS := Aside0.mk hbox); (have z0 := (blk_cell HT2.out 0).trans rfl); (have z1 := (blk_cell HT2.out 1).trans rfl); (have z2 := (blk_cell HT2.out 2).trans rfl); clear hbox hb hg HT HB1))
 refine (impl_tray_emptied.calls a0_0 a0_1 _ c0_2 l0_2 a0_0 a0_1 em _ (Kd.C_below HR.out HB2.out) HC.out HV.out).mono ?_
 rintro e w3 ⟨v2, rfl, ho, hb3⟩
 have hen : em.length = l0_2.length := HEL.out
 obtain ⟨gb, c, rfl, hgb, hlb, cl, hcl⟩ := Kd.R_form ho (by have := HL.out; omega)
 rw [hen] at ho
 have HB3 := Aside0.mk (below_then HB2.out HB2.out.size hb3)
 have HRS3 := Aside0.mk ((hb3.block gr (blk_lt HRS.out)).trans HRS.out)
 have HT3 := Aside0.mk ((hb3.block gt (blk_lt HT2.out)).trans HT2.out)
 have HO3 := Aside0.mk (Kd.R_lower ho HB2.out.size)
 have HGB := Aside0.mk (Nat.le_trans HB2.out.size hgb)
 clear z0 z1 z2 HT2 HRS HB2 ho hb3 hgb hlb hcl
 have HEMR := Aside0.mk (came_start HH.out l0_2 em hen)
 go_wp2_with (first
  | ((with_reducible refine gate_dst (N := 5) rfl ?_); refine box_event ?hg (N := 5) ?hd (cs := #[.int .i64 0, .int .i64 0, .slice none 0 0]) (t := 46) ?hr ?_; (case hd => rfl); (case hg => rfl); (case hr => first | (go_simp; done) | (go_simp; rfl)); intro go hg w4 hbox hb; (have HGO := Aside0.mk (show w.heap.size ≤ go by rw [hg]; exact HB3.out.size)); (have HNE := Aside0.mk (show gr ≠ go by rw [hg]; exact Nat.ne_of_lt (blk_lt HRS3.out))); (have HNT := Aside0.mk (show gt ≠ go by rw [hg]; exact Nat.ne_of_lt (blk_lt HT3.out))); (have HB4 := Aside0.mk (below_then HB3.out HB3.out.size hb)); (have HRS4 := Aside0.mk ((hb.block gr (blk_lt HRS3.out)).trans HRS3.out)); (have HT4 := Aside0.mk ((hb.block gt (blk_lt HT3.out)).trans HT3.out)); (have HO4 := Aside0.mk (Kd.R_below HO3.out hb)); (have HU := Aside0.mk hbox); (have y0 := (blk_cell HU.out 0).trans rfl); (have y1 := (blk_cell HU.out 1).trans rfl); (have y2 := (blk_cell HU.out 2).trans rfl); (have f0 := blk_frozen HU.out 0); (have f1 := blk_frozen HU.out 1); (have f2 := blk_frozen HU.out 2); clear hbox hb hg HB3 HRS3 HT3 HO3)
  | ((with_reducible refine gate_store (t := 46) (p := 5) rfl ?_); refine store_event (t := 46) (p := 5) (v := ?vo) (w1 := (((w4.setCell ⟨go, 0, none⟩ (.int .i64 a0_0)).setCell ⟨go, 1, none⟩ (.int .i64 a0_1)).setCell ⟨go, 2, none⟩ (.slice (some ⟨gb, 0, none⟩) l0_2.length c))) ?hg ?ho ?hn ?hr ?_; (case ho => rfl); (case hg => rfl); (case hn => rfl); (case hr => first | (go_simp; done) | (go_simp; rfl)); intro w5 hw; (have HE := Aside0.mk (show EM w w5 gr go gb a0_0 a0_1 l0_2.length c em from by rw [hw]; exact ⟨below_set (below_set (below_set HB4.out HGO.out) HGO.out) HGO.out, blk_far (blk_far (blk_far HRS4.out HNE.out _) HNE.out _) HNE.out _, (by refine blk_put (cs := #[.int .i64 a0_0, .int .i64 a0_1, .slice none 0 0]) ?_ 2 _ rfl; refine blk_put (cs := #[.int .i64 a0_0, .int .i64 0, .slice none 0 0]) ?_ 1 _ rfl; refine blk_put (cs := #[.int .i64 0, .int .i64 0, .slice none 0 0]) ?_ 0 _ rfl; exact HU.out), Kd.R_mono (Kd.R_far (p := ⟨go, 2, none⟩) (Kd.R_far (p := ⟨go, 1, none⟩) (Kd.R_far (p := ⟨go, 0, none⟩) (Kd.R_types HO4.out HU.out (by decide)) (fun _ hk => hk.2) (.int .i64 a0_0)) (fun _ hk => hk.2) (.int .i64 a0_1)) (fun _ hk => hk.2) (.slice (some ⟨gb, 0, none⟩) l0_2.length c)) (fun _ _ => trivial), HG2.out, HGO.out, HGB.out, HNE.out, HEL.out⟩)); (have HT5 := Aside0.mk (show w5.heap[gt]? = some (.cells #[.int .i64 a0_0, .int .i64 a0_1, .slice (some ad) l0_2.length c0_2] 46 (0, 0)) from by rw [hw]; exact blk_far (blk_far (blk_far HT4.out HNT.out _) HNT.out _) HNT.out _)); clear hw HU HO4 HRS4 HT4 HB4 y0 y1 y2 f0 f1 f2)
  | (at_range; refine wpList_range_own _ rfl _ 76 rfl 3 3 keyI Tryd.underlying76 PE bm n D rfl (MPD.out.kept (grown_of_below HE.out.below none) (by simp)) ?_; intro w6 hrg hg6 hs6; (have HRG := Aside0.mk hrg); (have HE6 := Aside0.mk (HE.out.step (below_none hg6))); (have HT6 := Aside0.mk (((below_none hg6).block gt (blk_lt HT5.out)).trans HT5.out)); (have HRB := Aside0.mk HE.out.below.size); clear hrg hg6 hs6 HE HT5))
 go_frame
 generalize w5.heap.size = ri at HRG HRB ⊢
 have HE7 := Aside0.mk (show EM w w6 gr go gb a0_0 a0_1 l0_2.length c (laidCells l0_2 em f (cameL (Maps.has D))) by rw [HEMR.out]; exact HE6.out)
 have HLL := Aside0.mk (show ∀ ca, (laidCells l0_2 em f ca).length = l0_2.length from fun ca => laid_len _ _ _ _)
 clear HE6 HEMR
 go_loopg [] (Maps.size D) (fun gg wr => ∃ (left : Lit → Bool) (cnt : Nat), Aside0 (cnt ≤ gg) ∧ Aside0 (wr.ranges Tryd.prog 3 PE bm ri n D left cnt) ∧ Aside0 (EM w wr gr go gb a0_0 a0_1 l0_2.length c (laidCells l0_2 em f (cameL left))) ∧ Aside0 (wr.heap[gt]? = some (.cells #[.int .i64 a0_0, .int .i64 a0_1, .slice (some ad) l0_2.length c0_2] 46 (0, 0))))
 case atStart => exact ⟨_, _, ⟨Nat.le_refl _⟩, HRG, HE7, HT6⟩
 case round =>
  clear HRG HE7 HT6
  obtain ⟨left, cnt, HCN, HRG, HE, HT⟩ := hrel
  go_wp2_with (first
   | (at_next; refine wpList_next_ranges_ii _ rfl _ rfl 3 3 .i64 .i64 keyI Tryd.underlying3 Tryd.underlying3 bm ri n _ _ _ rfl HRG.out ?_ ?_))
  ·intro _ hl0
   have HE2 := Aside0.mk (show EM w wr gr go gb a0_0 a0_1 l0_2.length c (laidCells l0_2 em f fun _ => true) by rw [← came_end left hl0]; exact HE.out)
   clear HE HCN HRG hl0 HT
   have y0 := (blk_cell HE2.out.out 0).trans rfl
   have y1 := (blk_cell HE2.out.out 1).trans rfl
   have y2 := (blk_cell HE2.out.out 2).trans rfl
   have r0 := (blk_cell HE2.out.res 0).trans rfl
   have r1 := (blk_cell HE2.out.res 1).trans rfl
   have r2 := (blk_cell HE2.out.res 2).trans rfl
   have g0 := blk_frozen HE2.out.res 0
   have g1 := blk_frozen HE2.out.res 1
   have g2 := blk_frozen HE2.out.res 2
   go_wp2_with fail
   refine bodyPost_ret (results_cell_row rfl _ _ gr 46 #[.int .i64 a0_0, .int .i64 a0_1, .slice (some ⟨gb, 0, none⟩) l0_2.length c] (0, 0) _ rfl (by refine blk_put (cs := #[.int .i64 a0_0, .int .i64 a0_1, .slice none 0 0]) ?_ 2 _ rfl; refine blk_put (cs := #[.int .i64 a0_0, .int .i64 0, .slice none 0 0]) ?_ 1 _ rfl; refine blk_put (cs := #[.int .i64 0, .int .i64 0, .slice none 0 0]) ?_ 0 _ rfl; exact HE2.out.res) Tryd.underlying46 rfl (by kernel_rfl)) rfl ?_
   exact ⟨_, rfl, Kd.R_mono (Kd.R_far (p := ⟨gr, 2, none⟩) (Kd.R_far (p := ⟨gr, 1, none⟩) (Kd.R_far (p := ⟨gr, 0, none⟩) (Kd.R_types HE2.out.row HE2.out.res (by decide)) (fun _ hk => hk.2) (.int .i64 a0_0)) (fun _ hk => hk.2) (.int .i64 a0_1)) (fun _ hk => hk.2) (.slice (some ⟨gb, 0, none⟩) l0_2.length c)) (fun _ _ => trivial), below_set (below_set (below_set HE2.out.below HE2.out.gr0) HE2.out.gr0) HE2.out.gr0⟩
  ·intro x cx w7 cnt1 hwx hwc hlx hat hrg1 hlt hg1 hs1 hen1
   have hfx := HH.out.some hat
   obtain ⟨x0, x1, cx0, cx1⟩ := HF.out.dom x cx hfx
   have HE7 := Aside0.mk (HE.out.turn hg1 HRB.out (ranges_nc HRG.out))
   have HT7 := Aside0.mk (blk_turn HT.out hg1 (ranges_nc HRG.out))
   have HRG7 := Aside0.mk hrg1
   have HCN7 := Aside0.mk (show cnt1 < gk by have := HCN.out; omega)
   have hst := laid_step l0_2 em f (cameL left) HF.out x cx hfx
   rw [← came_step left x] at hst
   have HST := Aside0.mk (show laidCells l0_2 em f (cameL fun z => left z && !z.sameKey (.int .i64 x)) = (laidCells l0_2 em f (cameL left)).set cx.toNat (rd l0_2 x) from hst)
   have HTB := Aside0.mk (show gt ≠ gb from fun e => Kd.R_ne HE7.out.row HT7.out (by decide) (by rw [e]; rfl))
   clear hst hfx hat hrg1 hlt hg1 hs1 HE HT HRG HCN hlx hwx hwc
   have y0 := (blk_cell HE7.out.out 0).trans rfl
   have y1 := (blk_cell HE7.out.out 1).trans rfl
   have y2 := (blk_cell HE7.out.out 2).trans rfl
   have z0 := (blk_cell HT7.out 0).trans rfl
   have z1 := (blk_cell HT7.out 1).trans rfl
   have z2 := (blk_cell HT7.out 2).trans rfl
   have p1 : (0 ≤ x) = True := eq_true x0
   have p2 : (x < (l0_2.length : Int)) = True := eq_true x1
   have p3 : (0 ≤ cx) = True := eq_true cx0
   have p4 : (cx < (l0_2.length : Int)) = True := eq_true cx1
   obtain ⟨ad7, ead7, hx7⟩ := Kd.at_int (Kd.C_below HR.out HE7.out.below) x x0 x1
   cases ead7
   obtain ⟨_, fz⟩ := Kd.R_celln 0 HE7.out.row cx cx0 (by have e := HLL.out (cameL left); omega)
   go_wp2
   go_region
   go_wp2
   go_roundg cnt1
   case measure => exact HCN7.out
   case rel =>
    refine ⟨_, cnt1, ⟨Nat.le_refl _⟩, ⟨ranges_drew (ranges_set HRG7.out (R_nc HE7.out.row (ranges_mnc HRG7.out)) (R_nc HE7.out.row (ranges_nc HRG7.out)) _ _)⟩, ?_, ⟨blk_far HT7.out HTB.out _⟩⟩
    rw [HST.out]
    exact ⟨(HE7.out.set cx (rd l0_2 x)).step (Below.drew (Below.refl _ _))⟩
end Go.Proofs.YtgipkpiddjjhcaaDoor.Q
end
section
namespace Go.Proofs.YtgipkpiddjjhcaaDoor.Q
set_option linter.unusedSectionVars false
open Go.RowKit Go.Proofs.YtgipkpiddjjhcaaDoorW.PrintWords Go.Proofs.YtgipkpiddjjhcaaDoorW.PrintLast Go.Proofs.YtgipkpiddjjhcaaDoorW.PrintMore
def asF : List (Int × Int) → Int → Option Int
 | [] => fun _ => none
 | (k, v) :: l => upd (asF l) k v
def fitsB (m : List (Int × Int)) (n : Nat) : Bool := m.all (fun p => decide (0 ≤ p.1) && decide (p.1 < (n : Int)) && decide (0 ≤ p.2) && decide (p.2 < (n : Int))) && m.all (fun p => m.all fun q => !decide (p.2 = q.2) || decide (p.1 = q.1))
theorem asF_mem : ∀ (m : List (Int × Int)) (x c : Int), asF m x = some c → (x, c) ∈ m
 | [], x, c, h => by cases h
 | (k, v) :: m, x, c, h => by
  unfold asF upd at h
  by_cases e : x = k
  ·rw [if_pos e] at h
   rw [e, ← Option.some.inj h]
   exact List.mem_cons_self
  ·rw [if_neg e] at h
   exact List.mem_cons_of_mem _ (asF_mem m x c h)
theorem wpList_put {P : Program} {ops : Array Oper} {rest : List Oper} {o : Oper} {a : Act} {Q : Exit → Act → World → Prop} (hP : P = Tryd.prog) (w : World) (hg : o.guard = none) (m x v : Operand) (t : TypeId) (hop : o.op = .mapUpdate t m x v) (ht : Tryd.prog.underlying t = some (.map 3 3))
  (b n : Nat) (f : Int → Option Int) (h : MP w b n f) (hn : n < 1000000) (kx c : Int) (hm : a.eval m = .map (some b)) (hx : a.eval x = .int .i64 kx) (hv : a.eval v = .int .i64 c) (hb : 0 ≤ kx ∧ kx ≤ 1000000 ∧ 0 ≤ c ∧ c ≤ 1000000)
  (hK : ∀ w', MP w' b (n + 1) (upd f kx c) → w.grownBy w' (some b) → wpList P ops Q rest (a.put o.dst undef) w') : wpList P ops Q (o :: rest) a w := by
 subst hP
 obtain ⟨D, hown, hh⟩ := h
 exact wpList_mapUpdate_own w hg m x v t hop 3 3 keyI ht PE b n D hm hown (by unfold maxLen; omega) _ _ (lk kx) hx hv (Maps.keyOf_int_mk Tryd.underlying3 (lk_wf hb.1 hb.2.1)) (.lit (lk c)) [] (pe_int (lk_wf hb.2.2.1 hb.2.2.2)) fun w' h1 h2 => hK w' ⟨_, h1, hh.put kx c⟩ h2
section
variable {α : Type} {d : Kd α} {e base b n : Nat} {ok : Nat → Prop} {w w1 : World} {v : Value} {xs : List α} {f : Int → Option Int}
theorem S_turn (h : Kd.S d e w base ok v xs) {r : Nat} (hg : w.grownBy w1 (some r)) (hn : NC w r) : Kd.S d e w1 base ok v xs := by
 obtain ⟨g, h⟩ := h
 exact ⟨g, R_turn h hg hn⟩
theorem S_blw (h : Kd.S d e w base ok v xs) (hb : Below w.heap.size w w1) : Kd.S d e w1 base ok v xs := by
 obtain ⟨g, h⟩ := h
 exact ⟨g, Kd.R_below h hb⟩
theorem S_fr (h : Kd.S d e w base ok v xs) {p : Addr} (hok : ∀ k, ok k → k ≠ p.block) (u : Value) : Kd.S d e (w.setCell p u) base ok v xs := by
 obtain ⟨g, h⟩ := h
 exact ⟨g, Kd.R_far h hok u⟩
theorem S_tys (h : Kd.S d e w base ok v xs) {g t : Nat} {cells : Array Value} (hb : w.heap[g]? = some (.cells cells t (0, 0))) (ht : ∀ q, q ∈ e :: d.E → q ≠ t) : Kd.S d e w base (fun k => ok k ∧ k ≠ g) v xs := by
 obtain ⟨f, h⟩ := h
 exact ⟨f, Kd.R_types h hb ht⟩
theorem MP.row (h : MP w b n f) (hr : Kd.R d e w base ok v xs) (hg : w.grownBy w1 v.ownBlock) : MP w1 b n f :=
 h.kept hg fun he => by
  obtain ⟨_, _, _, q, _, cells, hc⟩ := (Kd.R_bound hr).1 b he.symm
  exact h.nc _ _ _ hc
end
end Go.Proofs.YtgipkpiddjjhcaaDoor.Q
end
section
namespace Go.Proofs.YtgipkpiddjjhcaaDoor.Q
set_option linter.unusedSectionVars false
open Go.RowKit Go.Proofs.YtgipkpiddjjhcaaDoorW.PrintWords Go.Proofs.YtgipkpiddjjhcaaDoorW.PrintLast Go.Proofs.YtgipkpiddjjhcaaDoorW.PrintMore
def ssC (w h : Int) (cs : List Int) (dir : Int) (st : Bool) : List Int → List Int → List (Int × Int) → Option (List Int × List (Int × Int))
 | [], own, m => some (own, m)
 | x :: l, own, m => (if st = true then some x else impl_tray_ahead.f 1 w h cs x dir).bind fun nx => if 0 ≤ x ∧ x ≤ 1000000 ∧ 0 ≤ nx ∧ nx ≤ 1000000 ∧ m.length < 1000000 ∧ own.length < 1000000 then ssC w h cs dir st l (own ++ [nx]) ((x, nx) :: m) else none
def ssP (w h : Int) (cs : List Int) (dir : Int) (stop : List Bool) : List (List Int) → Nat → List (List Int) → List (Int × Int) → Bool → Option (List (List Int) × List (Int × Int) × Bool)
 | [], _, out, m, mv => some (out, m, mv)
 | p :: P, i, out, m, mv => if i < stop.length ∧ out.length < 1000000 then (ssC w h cs dir (rdOf false stop i) p [] m).bind fun r => ssP w h cs dir stop P (i + 1) (out ++ [r.1]) r.2 (mv || !rdOf false stop i) else none
def impl_tray_stuckStep.f (w h : Int) (cs : List Int) (P : List (List Int)) (dir : Int) : Option (Int × Int × List Int × List (List Int) × Bool) :=
 (impl_tray_blocked.f w h cs P dir).bind fun stop => (ssP w h cs dir stop P 0 [] [] false).bind fun r => if (0 < cs.length ∧ cs.length ≤ 1000) ∧ fitsB r.2.1 cs.length = true then some (w, h, laidCells cs (emptyC cs) (asF r.2.1) (fun _ => true), r.1, r.2.2) else none
theorem fits_of {m : List (Int × Int)} {n : Nat} (h : fitsB m n = true) : Fits (asF m) n := by
 unfold fitsB at h
 rw [Bool.and_eq_true, List.all_eq_true, List.all_eq_true] at h
 refine ⟨fun x c hx => ?_, fun x y c hx hy => ?_⟩
 ·have h1 := h.1 _ (asF_mem m x c hx)
  simp only [Bool.and_eq_true, decide_eq_true_eq] at h1
  omega
 ·have h1 := List.all_eq_true.1 (h.2 _ (asF_mem m x c hx)) _ (asF_mem m y c hy)
  simpa using h1
set_option maxHeartbeats 16000000 in
set_option maxRecDepth 100000 in
theorem impl_tray_stuckStep.calls (a0_0 a0_1 : Int) (A0_2 : Option Addr) (c0_2 : Nat) (l0_2 : List Int) (A1 : Option Addr) (c1 : Nat) (l1 : List (List Int)) (a2 : Int) (r1 r2 : Int) (r3 : List Int) (r4 : List (List Int)) (r5 : Bool) (w : World) (hr0_2 : Kd.C (Kd.int .u8) w A0_2 l0_2.length l0_2) (hc0_2 : l0_2.length ≤ c0_2)
  (hr1 : Kd.C (Kd.slice 3 (Kd.int .i64)) w A1 l1.length l1) (hc1 : l1.length ≤ c1) (h : impl_tray_stuckStep.f a0_0 a0_1 l0_2 l1 a2 = some (r1, r2, r3, r4, r5)) :
  Calls Tryd.prog 33 #[.agg #[.int .i64 a0_0, .int .i64 a0_1, .slice A0_2 l0_2.length c0_2], .slice A1 l1.length c1, .int .u8 a2] w fun e w' => ∃ v2_ v3_ : Value, e = .returned (.tuple #[.agg #[.int .i64 r1, .int .i64 r2, v2_], v3_, .bool r5]) ∧ Kd.R (Kd.int .u8) 5 w' w.heap.size (fun _ => True) v2_ r3 ∧ Kd.S (Kd.slice 3 (Kd.int .i64)) 25 w' w.heap.size (fun _ => True) v3_ r4 ∧ Below w.heap.size w w' := by
 unfold impl_tray_stuckStep.f at h
 obtain ⟨stop, hstop, h⟩ := Option.bind_eq_some_iff.1 h
 obtain ⟨⟨out, m, mv⟩, hss, h⟩ := Option.bind_eq_some_iff.1 h
 split at h
 case isFalse => cases h
 rename_i hcond
 simp only [Option.some.injEq, Prod.mk.injEq] at h
 obtain ⟨rfl, rfl, rfl, rfl, rfl⟩ := h
 have hsm : smallP l1 = true := by
  have h1 := hstop
  unfold impl_tray_blocked.f at h1
  split at h1
  ·rename_i h2
   exact h2
  ·cases h1
 simp only [smallP, Bool.and_eq_true, decide_eq_true_eq, List.all_eq_true] at hsm
 have HSMP := Aside0.mk hsm
 clear hsm
 have HR := Aside0.mk hr0_2
 have HC := Aside0.mk hc0_2
 have HR1 := Aside0.mk hr1
 have HC1 := Aside0.mk hc1
 have HST := Aside0.mk hstop
 have HSS := Aside0.mk hss
 have HCD := Aside0.mk hcond
 have hu := Tryd.underlying46
 clear hr0_2 hc0_2 hr1 hc1 hstop hss hcond
 go_enter Tryd.func33, Tryd.ntmps33
 go_wp2_with (first
  | ((with_reducible refine gate_dst (N := 3) rfl ?_); refine box_event ?hg (N := 3) ?hd (cs := #[.int .i64 a0_0, .int .i64 a0_1, .slice A0_2 l0_2.length c0_2]) (t := 46) ?hr ?_; (case hd => rfl); (case hg => rfl); (case hr => first | (go_simp; done) | (go_simp; rfl)); intro gt hg w1 hbox hb; (have HB1 := Aside0.mk hb); (have HT := Aside0.mk hbox); clear hbox hb hg)
  | ((with_reducible refine gate_dst (N := 6) rfl ?_); refine box_event ?hg (N := 6) ?hd (cs := #[.int .i64 0, .int .i64 0, .slice none 0 0]) (t := 46) ?hr ?_; (case hd => rfl); (case hg => rfl); (case hr => first | (go_simp; done) | (go_simp; rfl)); intro gr hg w2 hbox hb; (have HG2 := Aside0.mk (show w.heap.size ≤ gr by rw [hg]; exact HB1.out.size)); (have HB2 := Aside0.mk (below_then HB1.out HB1.out.size hb)); (have HT2 := Aside0.mk ((hb.block gt (blk_lt HT.out)).trans HT.out)); (have HRS := Aside0.mk hbox); (have z0 := (blk_cell HT2.out 0).trans rfl); (have z1 := (blk_cell HT2.out 1).trans rfl); (have z2 := (blk_cell HT2.out 2).trans rfl); clear hbox hb hg HT HB1))
 refine (impl_tray_blocked.calls a0_0 a0_1 A0_2 c0_2 l0_2 A1 c1 l1 a2 stop _ (Kd.C_below HR.out HB2.out) HC.out (Kd.C_below HR1.out HB2.out) HC1.out HST.out).mono ?_
 rintro e w3 ⟨v0, rfl, hS, hb3⟩
 obtain ⟨As, cs, rfl, hls, hCs⟩ := Kd.R_reads hS
 have HB3 := Aside0.mk (below_then HB2.out HB2.out.size hb3)
 have HX := Aside0.mk (show Bx w3 gt a0_0 a0_1 A0_2 c0_2 l0_2 from ⟨(blk_cell ((hb3.block gt (blk_lt HT2.out)).trans HT2.out) 0).trans rfl, (blk_cell ((hb3.block gt (blk_lt HT2.out)).trans HT2.out) 1).trans rfl, (blk_cell ((hb3.block gt (blk_lt HT2.out)).trans HT2.out) 2).trans rfl, blk_lt ((hb3.block gt (blk_lt HT2.out)).trans HT2.out), Kd.C_below HR.out HB3.out⟩)
 have HRS3 := Aside0.mk ((hb3.block gr (blk_lt HRS.out)).trans HRS.out)
 have HP3 := Aside0.mk (Kd.C_below HR1.out HB3.out)
 have HSC := Aside0.mk hCs
 clear z0 z1 z2 HT2 HRS HB2 hS hb3 hls hCs HST HR HR1
 have hmm := run_makeMap (P := Tryd.prog) 76 w3
 go_wp2_with (first
  | ((with_reducible refine gate_dst (N := 24) rfl ?_); refine Kd.S_lit (Kd.slice 3 (Kd.int .i64)) (w0 := w3) w3.heap.size 25 ?hg (N := 24) ?hd (xs := ([] : List (List Int))) (inner := []) (ok := fun _ => True) (okp := fun _ => True) ?hr ?hp (fun _ hk => hk) trivial (below_alloc (Below.refl _ _) _) (below_alloc (Below.refl _ _) _).size (by simp) ?_; (case hd => rfl); (case hg => rfl); (case hr => first | (go_simp; done) | (go_simp; rfl)); (case hp => exact (Reps.none _ _)); intro vo w4 ho hb hg_ hnew_; (have HM4 := Aside0.mk ((MP.made w3).below (below_none hg_))); (have HB4 := Aside0.mk hb); (have HO4 := Aside0.mk ho); clear ho hb hg_ hnew_))
 clear hmm
 generalize hbm : w3.heap.size = bm at HM4 ⊢
 have HBM := Aside0.mk (show w3.heap.size ≤ bm by rw [hbm]; exact Nat.le_refl _)
 clear hbm
 go_loopg [11, 12, 27] l1.length (fun gg v11 v12 v27 wr => ∃ (i : Nat) (o1 : List (List Int)) (m1 : List (Int × Int)) (b1 : Bool), v12 = .bool b1 ∧ v27 = .int .i64 i ∧ Aside0 (i ≤ l1.length ∧ l1.length - i ≤ gg ∧ ssP a0_0 a0_1 l0_2 a2 stop (l1.drop i) i o1 m1 b1 = some (out, m, mv)) ∧ Aside0 (MP wr bm m1.length (asF m1)) ∧ Aside0 (Kd.S (Kd.slice 3 (Kd.int .i64)) 25 wr w3.heap.size (fun _ => True) v11 o1) ∧ Aside0 (Below w3.heap.size w3 wr))
 case atStart => exact ⟨0, [], [], false, rfl, rfl, ⟨Nat.zero_le _, Nat.le_refl _, by rw [List.drop_zero]; exact HSS.out⟩, HM4, HO4, HB4⟩
 case round =>
  clear HM4 HO4 HB4 HSS
  obtain ⟨i, o1, m1, b1, rfl, rfl, HA, HM, HO, HB⟩ := hrel
  by_cases hli : i < l1.length
  ·have c2 : decide ((i : Int) < (l1.length : Int)) = true := decide_eq_true (by omega)
   have p1 : (0 ≤ (i : Int)) = True := eq_true (by omega)
   have p2 : ((i : Int) < (l1.length : Int)) = True := eq_true (by omega)
   have hsp := HA.out.2.2
   rw [drop_get l1 [] i hli] at hsp
   obtain ⟨hcnd, hsp⟩ : (i < stop.length ∧ o1.length < 1000000) ∧ ((ssC a0_0 a0_1 l0_2 a2 (rdOf false stop i) (l1.getD i []) [] m1).bind fun r => ssP a0_0 a0_1 l0_2 a2 stop (l1.drop (i + 1)) (i + 1) (o1 ++ [r.1]) r.2 (b1 || !rdOf false stop i)) = some (out, m, mv) := by
    unfold ssP at hsp
    split at hsp
    ·rename_i hc
     exact ⟨hc, hsp⟩
    ·cases hsp
   obtain ⟨⟨own, m2⟩, hsc, hsp⟩ := Option.bind_eq_some_iff.1 hsp
   have HSP := Aside0.mk hsp
   have HSC1 := Aside0.mk hsc
   have HCN := Aside0.mk hcnd
   obtain ⟨ad, Ap, cp, e1, hx4, hlp, hCp⟩ := at_sl HP3.out i hli
   cases e1
   have hx := (HB.out.cell (World.block_lt_of_cell? _ _ hx4)).trans hx4
   have hpm : (l1.getD i []).length ≤ 1000 := by
    refine HSMP.out.2 _ ?_
    rw [List.getD_eq_getElem?_getD, List.getElem?_eq_getElem hli]
    exact List.getElem_mem hli
   generalize l1.getD i [] = pc at hx hCp HSC1 hx4 hlp hsc hpm
   have HPM := Aside0.mk hpm
   clear hpm
   have HCp := Aside0.mk hCp
   have HGK2 := Aside0.mk (show l1.length - i ≤ gk ∧ i < l1.length from ⟨HA.out.2.1, hli⟩)
   clear hsp hsc hlp hCp HA hli hx4 hcnd
   go_wp2_with (first
    | ((with_reducible refine gate_dst (N := 32) rfl ?_); refine Kd.R_lit (Kd.int .i64) (w0 := w3) w3.heap.size 3 ?hg (N := 32) ?hd (xs := ([] : List Int)) (inner := []) (ok := fun _ => True) (okp := fun _ => True) ?hr ?hp (fun _ hk => hk) trivial HB.out HB.out.size (by simp) ?_; (case hd => rfl); (case hg => rfl); (case hr => first | (go_simp; done) | (go_simp; rfl)); (case hp => exact (Reps.none _ _)); intro vw w5 ho hb hg_ hnew_; (have HM5 := Aside0.mk (HM.out.below (below_none hg_))); (have HO5 := Aside0.mk (Kd.S_elder' HO.out (v := vw) (by obtain ⟨b_, e_, h_⟩ := hnew_; intro k_ hk_; rw [e_] at hk_; cases hk_; exact h_) (below_none hg_))); (have HW5 := Aside0.mk ho); (have HB5 := Aside0.mk hb); clear ho hb hg_ hnew_))
   go_loopg [15, 35] pc.length (fun gg v15 v35 wr => ∃ (u : Nat) (ow : List Int) (m3 : List (Int × Int)), v35 = .int .i64 u ∧ Aside0 (u ≤ pc.length ∧ pc.length - u ≤ gg ∧ ssC a0_0 a0_1 l0_2 a2 (rdOf false stop i) (pc.drop u) ow m3 = some (own, m2)) ∧ Aside0 (MP wr bm m3.length (asF m3)) ∧ Aside0 (Kd.S (Kd.slice 3 (Kd.int .i64)) 25 wr w3.heap.size (fun k_ => some k_ ≠ (v15 : Value).ownBlock) u11 o1) ∧ Aside0 (Kd.R (Kd.int .i64) 3 wr w3.heap.size (fun _ => True) v15 ow) ∧ Aside0 (Below w3.heap.size w3 wr))
   case atStart => exact ⟨0, [], m1, rfl, ⟨Nat.zero_le _, by omega, by rw [List.drop_zero]; exact HSC1.out⟩, HM5, ⟨Kd.S_mono HO5.out (fun _ hk => hk.2)⟩, HW5, HB5⟩
   case round =>
    clear HSC1 HM5 HO5 HW5 HB5 hx c2 HM HO HB p1 p2
    obtain ⟨u, ow, m3, rfl, HA3, HMX, HOX, HWX, HBX⟩ := hrel
    have hin : i < stop.length := HCN.out.1
    have p1 : (0 ≤ (i : Int)) = True := eq_true (by omega)
    have p2 : ((i : Int) < (stop.length : Int)) = True := eq_true (by omega)
    by_cases hlu : u < pc.length
    ·have c3 : decide ((u : Int) < (pc.length : Int)) = true := decide_eq_true (by omega)
     have p3 : (0 ≤ (u : Int)) = True := eq_true (by omega)
     have p4 : ((u : Int) < (pc.length : Int)) = True := eq_true (by omega)
     have hbq := HA3.out.2.2
     rw [drop_get pc 0 u hlu] at hbq
     obtain ⟨nx, hnx, hb8⟩ := Option.bind_eq_some_iff.1 (show (if rdOf false stop i = true then some (pc.getD u 0) else impl_tray_ahead.f 1 a0_0 a0_1 l0_2 (pc.getD u 0) a2).bind (fun nx => if 0 ≤ pc.getD u 0 ∧ pc.getD u 0 ≤ 1000000 ∧ 0 ≤ nx ∧ nx ≤ 1000000 ∧ m3.length < 1000000 ∧ ow.length < 1000000 then ssC a0_0 a0_1 l0_2 a2 (rdOf false stop i) (pc.drop (u + 1)) (ow ++ [nx]) ((pc.getD u 0, nx) :: m3) else none) = some (own, m2) from hbq)
     obtain ⟨ad3, e3, hx3⟩ := Kd.at_int (Kd.C_below HCp.out HBX.out) (u : Int) (by omega) (by omega)
     cases e3
     rw [Int.toNat_natCast] at hx3
     rw [show rd pc (u : Int) = pc.getD u 0 from by unfold rd; rw [Int.toNat_natCast]] at hx3
     generalize pc.getD u 0 = x at hx3 hnx hb8
     obtain ⟨ad4, e4, hx4⟩ := Kd.at_bool (Kd.C_below HSC.out HBX.out) (i : Int) (by omega) (by omega)
     cases e4
     rw [Int.toNat_natCast] at hx4
     split at hb8
     case isFalse => cases hb8
     rename_i hchk
     have HGK3 := Aside0.mk (show pc.length - u ≤ gk ∧ u < pc.length from ⟨HA3.out.2.1, hlu⟩)
     have HLM := Aside0.mk (show m3.length < 1000000 ∧ ow.length < 1000000 ∧ 0 ≤ x ∧ x ≤ 1000000 ∧ 0 ≤ nx ∧ nx ≤ 1000000 from by omega)
     have HNXT := Aside0.mk hb8
     have HNX := Aside0.mk hnx
     obtain ⟨z0, z1, z2, _, _⟩ := HX.out.below HBX.out
     clear hbq hb8 HA3 hlu hchk hnx
     cases hst : rdOf false stop (i : Int) with
     | true =>
      rw [hst] at hx4
      have hnx := HNX.out
      rw [hst, if_pos rfl] at hnx
      obtain rfl := Option.some.inj hnx
      have HST2 := Aside0.mk hst
      clear hnx HNX hst
      go_wp2_with (first
       | (at_mapUpdate; go_loud (refine wpList_put rfl _ rfl _ _ _ 76 rfl Tryd.underlying76 bm m3.length (asF m3) HMX.out HLM.out.1 x x rfl rfl rfl HLM.out.2.2 ?_; intro w8 hm8 hg8; (have HM8 := Aside0.mk hm8); (have HW8 := Aside0.mk (R_turn HWX.out hg8 HMX.out.nc)); (have HO8 := Aside0.mk (S_turn HOX.out hg8 HMX.out.nc)); (have HB8 := Aside0.mk (HBX.out.grown hg8 HBX.out.size (fun k e => by cases e; exact HBM.out))); clear HMX HWX HOX HBX hm8 hg8))
       | ((with_reducible refine gate_builtin (b := .append) (xs := #[.tmp 52, .tmp 54]) rfl ?_); at_builtin; refine Kd.R_append (Kd.int .i64) (w0 := w3) w3.heap.size rfl (.tmp 52) (.tmp 54) 25 3 (.int .i64 0) 8 rfl Tryd.underlying25 info3 rfl (by decide) (by omega) u15 ow x [.int .i64 x] (fun _ => True) (fun _ => False) rfl rfl ?aP (fun _ hk => hk.elim) ?aF ?aO ?aB ?aS ?aL ?_; (case aP => exact rfl); (case aB => exact HB8.out); (case aF => exact (fun _ _ => trivial)); (case aO => exact HW8.out); (case aS => exact HB8.out.size); (case aL => have := HLM.out; omega); intro v9 w9 ho hb hg hat; (have HM9 := Aside0.mk (HM8.out.row HW8.out hg)); (have HO9 := Aside0.mk (Kd.S_after (ok := (fun _ => True)) (Kd.S_mono HO8.out (fun _ hk => ⟨trivial, hk⟩)) hg hat)); (have HB9 := Aside0.mk hb); (have HW9 := Aside0.mk ho); clear HM8 HO8 HB8 HW8 ho hb hg hat))
      go_roundg (pc.length - (u + 1))
      case measure => have := HGK3.out; omega
      case rel => exact ⟨u + 1, _, (x, x) :: m3, by first | rfl | rw [wrap64_small u (by have := HGK3.out; have := HPM.out; omega)] | simp, ⟨by have := HGK3.out; omega, Nat.le_refl _, HNXT.out⟩, HM9, ⟨Kd.S_mono HO9.out (fun _ hk => hk.2)⟩, HW9, HB9⟩
     | false =>
      rw [hst] at hx4
      have hnx := HNX.out
      rw [hst, if_neg (by decide)] at hnx
      have HNX2 := Aside0.mk hnx
      have HST2 := Aside0.mk hst
      clear hnx HNX hst
      go_wp2_with (first
       | (go_at_call 60; refine (impl_tray_ahead.calls 1 a0_0 a0_1 _ c0_2 l0_2 x a2 nx _ (Kd.C_below HX.out.reads HBX.out) HC.out HNX2.out).mono ?_; rintro e w6 ⟨rfl, hb9⟩; (have HM6 := Aside0.mk (HMX.out.below hb9)); (have HW6 := Aside0.mk (Kd.R_below HWX.out hb9)); (have HO6 := Aside0.mk (S_blw HOX.out hb9)); (have HB6 := Aside0.mk (below_then HBX.out HBX.out.size hb9)); clear HMX HWX HOX HBX hb9 hx3 hx4 z0 z1 z2; (have HMX := HM6); (have HWX := HW6); (have HOX := HO6); (have HBX := HB6); clear HM6 HW6 HO6 HB6)
       | (at_mapUpdate; go_loud (refine wpList_put rfl _ rfl _ _ _ 76 rfl Tryd.underlying76 bm m3.length (asF m3) HMX.out HLM.out.1 x nx rfl rfl rfl HLM.out.2.2 ?_; intro w8 hm8 hg8; (have HM8 := Aside0.mk hm8); (have HW8 := Aside0.mk (R_turn HWX.out hg8 HMX.out.nc)); (have HO8 := Aside0.mk (S_turn HOX.out hg8 HMX.out.nc)); (have HB8 := Aside0.mk (HBX.out.grown hg8 HBX.out.size (fun k e => by cases e; exact HBM.out))); clear HMX HWX HOX HBX hm8 hg8))
       | ((with_reducible refine gate_builtin (b := .append) (xs := #[.tmp 52, .tmp 54]) rfl ?_); at_builtin; refine Kd.R_append (Kd.int .i64) (w0 := w3) w3.heap.size rfl (.tmp 52) (.tmp 54) 25 3 (.int .i64 0) 8 rfl Tryd.underlying25 info3 rfl (by decide) (by omega) u15 ow nx [.int .i64 nx] (fun _ => True) (fun _ => False) rfl rfl ?aP (fun _ hk => hk.elim) ?aF ?aO ?aB ?aS ?aL ?_; (case aP => exact rfl); (case aB => exact HB8.out); (case aF => exact (fun _ _ => trivial)); (case aO => exact HW8.out); (case aS => exact HB8.out.size); (case aL => have := HLM.out; omega); intro v9 w9 ho hb hg hat; (have HM9 := Aside0.mk (HM8.out.row HW8.out hg)); (have HO9 := Aside0.mk (Kd.S_after (ok := (fun _ => True)) (Kd.S_mono HO8.out (fun _ hk => ⟨trivial, hk⟩)) hg hat)); (have HB9 := Aside0.mk hb); (have HW9 := Aside0.mk ho); clear HM8 HO8 HB8 HW8 ho hb hg hat))
      go_roundg (pc.length - (u + 1))
      case measure => have := HGK3.out; omega
      case rel => exact ⟨u + 1, _, (x, nx) :: m3, by first | rfl | rw [wrap64_small u (by have := HGK3.out; have := HPM.out; omega)] | simp, ⟨by have := HGK3.out; omega, Nat.le_refl _, HNXT.out⟩, HM9, ⟨Kd.S_mono HO9.out (fun _ hk => hk.2)⟩, HW9, HB9⟩
    ·obtain rfl : u = pc.length := by have := HA3.out.1; omega
     have c3 : decide ((pc.length : Int) < (pc.length : Int)) = false := decide_eq_false (by omega)
     have he := HA3.out.2.2
     rw [List.drop_length] at he
     obtain ⟨rfl, rfl⟩ : ow = own ∧ m3 = m2 := by
      have h1 := Option.some.inj he
      exact ⟨congrArg Prod.fst h1, congrArg Prod.snd h1⟩
     obtain ⟨ad4, e4, hx4⟩ := Kd.at_bool (Kd.C_below HSC.out HBX.out) (i : Int) (by omega) (by omega)
     cases e4
     rw [Int.toNat_natCast] at hx4
     obtain ⟨Ao, co, eo⟩ := Kd.R_slice HWX.out
     subst eo
     clear he HA3 hlu
     cases hst : rdOf false stop (i : Int) <;> cases b1 <;> (
      rw [hst] at hx4
      have HSTq := Aside0.mk hst
      clear hst
      go_wp2_with (first
       | ((with_reducible refine gate_builtin (b := .append) (xs := #[.tmp 65, .tmp 67]) rfl ?_); at_builtin; refine Kd.S_append (Kd.slice 3 (Kd.int .i64)) (w0 := w3) w3.heap.size rfl (.tmp 65) (.tmp 67) 48 25 (.slice none 0 0) 24 rfl Tryd.underlying48 info25 rfl (by decide) (by omega) u11 o1 ow [.slice Ao ow.length co] (fun _ => True) (fun k_ => some k_ = (.slice Ao ow.length co : Value).ownBlock) rfl rfl ?aP (fun k_ hk_ => ((Kd.R_mono (ok' := fun k_ => True ∧ some k_ ≠ (u11 : Value).ownBlock) (Kd.R_apart' (HWX.out) (Kd.S_typed HOX.out) (by decide)) (fun k_ hk => ⟨trivial, hk.2⟩))).1 k_ hk_.symm) ?aF ?aO ?aB ?aS ?aL ?_; (case aP => exact Kd.M_row (Kd.R_mono (Kd.R_tight rfl (Kd.R_mono (ok' := fun k_ => True ∧ some k_ ≠ (u11 : Value).ownBlock) (Kd.R_apart' (HWX.out) (Kd.S_typed HOX.out) (by decide)) (fun k_ hk => ⟨trivial, hk.2⟩))) (fun _ h_ => h_))); (case aB => exact HBX.out); (case aF => exact (fun _ _ => trivial)); (case aO => exact Kd.S_mono HOX.out (fun k_ hk => ⟨trivial, fun e_ => hk e_⟩)); (case aS => exact HBX.out.size); (case aL => have := HCN.out; omega); intro v9 w9 ho hb hg hat; (have HM9 := Aside0.mk (HMX.out.row (Kd.S_R HOX.out) hg)); (have HB9 := Aside0.mk hb); (have HO9 := Aside0.mk ho); clear HMX HOX HBX HWX ho hb hg hat))
      go_roundg (l1.length - (i + 1))
      case measure => have := HGK2.out; omega
      case rel => exact ⟨i + 1, _, _, _, by first | rfl | simp, by first | rfl | rw [wrap64_small i (by have := HGK2.out; have := HSMP.out.1; omega)] | simp, ⟨by have := HGK2.out; omega, Nat.le_refl _, by have h1 := HSP.out; rw [HSTq.out] at h1; exact h1⟩, HM9, HO9, HB9⟩)
  ·obtain rfl : i = l1.length := by have := HA.out.1; omega
   have c2 : decide ((l1.length : Int) < (l1.length : Int)) = false := decide_eq_false (by omega)
   have he := HA.out.2.2
   rw [List.drop_length] at he
   obtain ⟨rfl, rfl, rfl⟩ : o1 = out ∧ m1 = m ∧ b1 = mv := by
    have h1 := Option.some.inj he
    exact ⟨congrArg Prod.fst h1, congrArg (fun z => z.2.1) h1, congrArg (fun z => z.2.2) h1⟩
   obtain ⟨z0, z1, z2, _, _⟩ := HX.out.below HB.out
   have HRd := Aside0.mk (Kd.C_below HX.out.reads HB.out)
   clear he HA hli
   go_wp2_with fail
   refine (carried_calls a0_0 a0_1 A0_2 c0_2 l0_2 bm m1.length (asF m1) _ HRd.out HC.out HCD.out.1 HM.out (fits_of HCD.out.2)).mono ?_
   rintro e w9 ⟨v2, rfl, hr, hb9⟩
   have HO9 := Aside0.mk (Kd.S_mono (S_blw HO.out hb9) (fun _ _ => trivial))
   have HR9 := Aside0.mk (Kd.R_lower hr (Nat.le_trans HB3.out.size HB.out.size))
   have HG9 := Aside0.mk ((hb9.block gr (Nat.lt_of_lt_of_le (blk_lt HRS3.out) HB.out.size)).trans ((HB.out.block gr (blk_lt HRS3.out)).trans HRS3.out))
   have HB9 := Aside0.mk (below_then HB3.out HB3.out.size (below_then HB.out HB.out.size hb9))
   obtain ⟨Ar, cr, rfl⟩ := Kd.R_slice HR9.out
   have hll : (laidCells l0_2 (emptyC l0_2) (asF m1) fun _ => true).length = l0_2.length := laid_len _ _ _ _
   generalize hcr : (laidCells l0_2 (emptyC l0_2) (asF m1) fun _ => true) = lr at HR9 hll ⊢
   have HCR := Aside0.mk hcr
   clear hr hb9 HO HM HB z0 z1 z2 hcr hll
   have g0 := blk_frozen HG9.out 0
   have g1 := blk_frozen HG9.out 1
   have g2 := blk_frozen HG9.out 2
   have r0 := (blk_cell HG9.out 0).trans rfl
   have r1 := (blk_cell HG9.out 1).trans rfl
   have r2 := (blk_cell HG9.out 2).trans rfl
   go_wp2_with fail
   refine bodyPost_ret (results_ctt rfl _ _ gr 46 #[.int .i64 a0_0, .int .i64 a0_1, .slice Ar lr.length cr] (0, 0) _ rfl (by refine blk_put (cs := #[.int .i64 a0_0, .int .i64 a0_1, .slice none 0 0]) ?_ 2 _ rfl; refine blk_put (cs := #[.int .i64 a0_0, .int .i64 0, .slice none 0 0]) ?_ 1 _ rfl; refine blk_put (cs := #[.int .i64 0, .int .i64 0, .slice none 0 0]) ?_ 0 _ rfl; exact HG9.out) Tryd.underlying46 rfl (by kernel_rfl)) rfl ?_
   exact ⟨_, _, rfl, by rw [HCR.out]; exact Kd.R_mono (Kd.R_far (p := ⟨gr, 2, none⟩) (Kd.R_far (p := ⟨gr, 1, none⟩) (Kd.R_far (p := ⟨gr, 0, none⟩) (Kd.R_types HR9.out HG9.out (by decide)) (fun _ hk => hk.2) (.int .i64 a0_0)) (fun _ hk => hk.2) (.int .i64 a0_1)) (fun _ hk => hk.2) (.slice Ar lr.length cr)) (fun _ _ => trivial), Kd.S_mono (S_fr (p := ⟨gr, 2, none⟩) (S_fr (p := ⟨gr, 1, none⟩) (S_fr (p := ⟨gr, 0, none⟩) (S_tys (Kd.S_lower HO9.out HB3.out.size) HG9.out (by decide)) (fun _ hk => hk.2) (.int .i64 a0_0)) (fun _ hk => hk.2) (.int .i64 a0_1)) (fun _ hk => hk.2) (.slice Ar lr.length cr)) (fun _ _ => trivial), below_set (below_set (below_set HB9.out HG2.out) HG2.out) HG2.out⟩
end Go.Proofs.YtgipkpiddjjhcaaDoor.Q
end
section
namespace Go.Proofs.YtgipkpiddjjhcaaDoor.Q
open Go.RowKit Go.Proofs.YtgipkpiddjjhcaaDoorW.PrintWords Go.Proofs.YtgipkpiddjjhcaaDoorW.PrintLast Go.Proofs.YtgipkpiddjjhcaaDoorW.PrintMore
set_option linter.unusedSectionVars false
open Classical
structure PM (w h : Nat) (L : List Int) (n : Nat) (P : List (List Int)) : Prop where
 len : P.length = n
 mem : ∀ (j : Nat) (q : List Int), P[j]? = some q → ∀ x : Int, x ∈ q ↔ 0 ≤ x ∧ x < ((w * h : Nat) : Int) ∧ rd L x = j
 short : ∀ q ∈ P, q.length ≤ 36
noncomputable def yv (w h : Nat) (cs L : List Int) (d : Nat) (x : Int) : Int := yC w h cs L d x.toNat
noncomputable def anyM (w h : Nat) (cs L : List Int) (n d : Nat) : Bool := decide (∃ p : Nat, p < n ∧ ¬ bk w h cs L d p)
theorem asF_eq (g : Int → Option Int) : ∀ m : List (Int × Int), (∀ x c, (x, c) ∈ m → g x = some c) → ∀ x, (g x ≠ none → ∃ c, (x, c) ∈ m) → asF m x = g x
 | [], _, x, hx => by
  cases e : g x with
  | none => rfl
  | some c =>
   obtain ⟨c', hc⟩ := hx (by rw [e]; simp)
   cases hc
 | (k, v) :: m, hm, x, hx => by
  show (if x = k then some v else asF m x) = g x
  by_cases e : x = k
  ·rw [if_pos e, e, hm k v List.mem_cons_self]
  ·rw [if_neg e]
   refine asF_eq g m (fun y c hy => hm y c (List.mem_cons_of_mem _ hy)) x fun h1 => ?_
   obtain ⟨c, hc⟩ := hx h1
   rcases List.mem_cons.1 hc with h2 | h2
   ·injection h2 with h3 h4
    exact absurd h3 e
   ·exact ⟨c, h2⟩
theorem fitsB_of {g : Int → Option Int} {n : Nat} (hf : Fits g n) {m : List (Int × Int)} (hm : ∀ x c, (x, c) ∈ m → g x = some c) : fitsB m n = true := by
 unfold fitsB
 rw [Bool.and_eq_true, List.all_eq_true, List.all_eq_true]
 refine ⟨fun p hp => ?_, fun p hp => List.all_eq_true.2 fun q hq => ?_⟩
 ·have h1 := hf.dom p.1 p.2 (hm _ _ hp)
  simp only [Bool.and_eq_true, decide_eq_true_eq]
  omega
 ·by_cases e : p.2 = q.2
  ·have h1 := hf.inj p.1 q.1 p.2 (hm _ _ hp) (by rw [e]; exact hm _ _ hq)
   rw [decide_eq_true h1, Bool.or_true]
  ·rw [decide_eq_false e]
   rfl
section
variable {w h : Nat} {cs L : List Int} {n d : Nat} (hw : w ≤ 7) (hh : h ≤ 7) (hs : w * h ≤ 36) (hI : SI w h cs L n) (hd : d < 4) (hn36 : n ≤ 36)
include hw hh hs hI hd hn36
theorem PM.idx {P : List (List Int)} (hP : PM w h L n P) (v : Int) (h0 : 0 ≤ v) (h1 : v < ((w * h : Nat) : Int)) : idxOf v P = if 0 ≤ rd L v then rd L v else -1 := by
 have hmem : ∀ j : Nat, j < n → (v ∈ P.getD j [] ↔ rd L v = j) := by
  intro j hj
  have hj2 : j < P.length := by rw [hP.len]; exact hj
  rw [List.getD_eq_getElem?_getD, List.getElem?_eq_getElem hj2]
  exact (hP.mem j _ (List.getElem?_eq_getElem hj2) v).trans ⟨fun h => h.2.2, fun h => ⟨h0, h1, h⟩⟩
 by_cases h2 : 0 ≤ rd L v
 ·rw [if_pos h2]
  have h3 := hI.lt v.toNat (by omega)
  rw [Int.toNat_of_nonneg h0] at h3
  have h4 := idxOf_hit v P (rd L v).toNat (by rw [hP.len]; omega) ((hmem _ (by omega)).2 (by omega)) (fun j hj h5 => by have := (hmem j (by omega)).1 h5; omega)
  rw [h4]
  omega
 ·rw [if_neg h2]
  exact idxOf_miss v _ fun j hj h5 => by
   rw [hP.len] at hj
   have := (hmem j hj).1 h5
   omega
theorem blocked_pm {P : List (List Int)} (hP : PM w h L n P) : impl_tray_blocked.f w h cs P (dirC d) = some (stL w h cs L n d) := by
 have hsm : smallP P = true := by
  unfold smallP
  rw [Bool.and_eq_true, decide_eq_true_eq, List.all_eq_true]
  exact ⟨by rw [hP.len]; omega, fun p hp => decide_eq_true (by have := hP.short p hp; omega)⟩
 have hl : ∀ (j : Nat) (q : List Int), P[j]? = some q → ∀ x ∈ q, 0 ≤ x ∧ x < ((w * h : Nat) : Int) ∧ rd L x = ((0 + j : Nat) : Int) := by
  intro j q hq x hx
  obtain ⟨a, b, c⟩ := (hP.mem j q hq x).1 hx
  exact ⟨a, b, by rw [Nat.zero_add]; exact c⟩
 have hlab : ∀ i : Nat, i < w * h → lb L i < (n : Int) := hI.lt
 unfold impl_tray_blocked.f
 rw [if_pos hsm, brn_eq hw hh hs hI.lc hd (hP.idx hw hh hs hI hd hn36) hlab hl _ _ (by rw [List.length_replicate]; exact hP.len)]
 congr 1
 refine runs_end _ (fun i hi => ?_) (fun i hi h0 => ?_) _ _ (by rw [List.length_replicate]; exact hP.len) (fun p hp => ?_) (by rw [hP.len]; omega)
 ·obtain ⟨x, hx, rfl⟩ := List.mem_map.1 hi
  obtain ⟨q, hq, hxq⟩ := List.mem_flatten.1 hx
  obtain ⟨j, hj⟩ := List.getElem?_of_mem hq
  obtain ⟨h0, h1, _⟩ := hl j q hj x hxq
  exact ⟨by omega, hlab _ (by omega)⟩
 ·have h1 := hlab i hi
  unfold lb at h0 h1
  have hj : (rd L (i : Int)).toNat < P.length := by rw [hP.len]; omega
  refine List.mem_map.2 ⟨(i : Int), List.mem_flatten.2 ⟨P[(rd L (i : Int)).toNat], List.getElem_mem hj, ?_⟩, by simp⟩
  exact (hP.mem _ _ (List.getElem?_eq_getElem hj) _).2 ⟨by omega, by omega, by omega⟩
 ·rw [rdOf_rep hw hh hs hI.lc] at hp
  cases hp
theorem ssC_eq (p : Nat) (hp : p < n) : ∀ (q own : List Int) (m : List (Int × Int)), (∀ x ∈ q, 0 ≤ x ∧ x < ((w * h : Nat) : Int) ∧ rd L x = p) → own.length + q.length < 1000000 → m.length + q.length < 1000000 →
  ssC w h cs (dirC d) (rdOf false (stL w h cs L n d) (p : Int)) q own m = some (own ++ q.map (yv w h cs L d), (q.map fun x => (x, yv w h cs L d x)).reverse ++ m)
 | [], own, m, _, _, _ => by simp [ssC]
 | x :: q, own, m, hq, h1, h2 => by
  obtain ⟨x0, x1, x2⟩ := hq x List.mem_cons_self
  obtain ⟨i, rfl⟩ := Int.eq_ofNat_of_zero_le x0
  have hi : i < w * h := by omega
  have hli : 0 ≤ rd L (i : Int) := by omega
  have hlb : (lb L i).toNat = p := by unfold lb; omega
  simp only [List.length_cons] at h1 h2
  have hnx : (if rdOf false (stL w h cs L n d) (p : Int) = true then some (i : Int) else impl_tray_ahead.f 1 w h cs i (dirC d)) = some (yv w h cs L d i) := by
   rw [stL_at w h cs L hp]
   unfold yv
   rw [Int.toNat_natCast]
   by_cases hb : bk w h cs L d p
   ·rw [if_pos (decide_eq_true hb)]
    have hy : yC w h cs L d i = i := if_pos (by rw [hlb]; exact hb)
    rw [hy]
   ·rw [if_neg (by simpa using hb)]
    have hb2 : ¬ Blk (w * h) (lb L) (aA w h cs d) (lb L i).toNat := by rw [hlb]; exact hb
    have hy : yC w h cs L d i = aA w h cs d i := if_neg hb2
    have hah := (ah_all ⟨w, by omega⟩ ⟨h, by omega⟩ ⟨i, by omega⟩ ⟨d, hd⟩ hi).1
    simp only at hah
    rw [ahead_l, hah, hy, (free_at hw hh hs hI hd hi hli hb2).2.2.1]
  obtain ⟨y0, y1, _⟩ := y_at hw hh hs hI hd hi hli
  have hyv : yv w h cs L d (i : Int) = yC w h cs L d i := by unfold yv; rw [Int.toNat_natCast]
  rw [ssC, hnx, Option.bind_some, if_pos (by rw [hyv]; omega), ssC_eq p hp q _ _ (fun x hx => hq x (List.mem_cons_of_mem _ hx)) (by rw [List.length_append, List.length_singleton]; omega) (by rw [List.length_cons]; omega)]
  simp
theorem ssP_eq : ∀ (Q : List (List Int)) (i : Nat) (out : List (List Int)) (m : List (Int × Int)) (mv : Bool), i + Q.length = n → out.length = i → (∀ (j : Nat) (q : List Int), Q[j]? = some q → (∀ x ∈ q, 0 ≤ x ∧ x < ((w * h : Nat) : Int) ∧ rd L x = ((i + j : Nat) : Int)) ∧ q.length ≤ 36) → m.length + 36 * Q.length < 1000000 →
  ∃ mv', ssP w h cs (dirC d) (stL w h cs L n d) Q i out m mv = some (out ++ Q.map (fun q => q.map (yv w h cs L d)), (Q.flatten.map fun x => (x, yv w h cs L d x)).reverse ++ m, mv') ∧ (mv' = true ↔ mv = true ∨ ∃ p, i ≤ p ∧ p < n ∧ ¬ bk w h cs L d p)
 | [], i, out, m, mv, hi, _, _, _ => ⟨mv, by simp [ssP], ⟨fun h1 => Or.inl h1, fun h1 => h1.resolve_right fun ⟨p, h2, h3, _⟩ => by simp at hi; omega⟩⟩
 | q :: Q, i, out, m, mv, hi, ho, hq, hm => by
  simp only [List.length_cons] at hi hm
  have hin : i < n := by omega
  obtain ⟨hq0, hq1⟩ := hq 0 q rfl
  have h1 := ssC_eq hw hh hs hI hd hn36 i hin q [] m hq0 (by simp; omega) (by omega)
  obtain ⟨mv', h2, h3⟩ := ssP_eq Q (i + 1) (out ++ [q.map (yv w h cs L d)]) ((q.map fun x => (x, yv w h cs L d x)).reverse ++ m) (mv || !rdOf false (stL w h cs L n d) i) (by omega) (by rw [List.length_append, List.length_singleton]; omega)
   (fun j q' hq' => by rw [show i + 1 + j = i + (j + 1) by omega]; exact hq (j + 1) q' hq') (by simp; omega)
  refine ⟨mv', ?_, h3.trans ?_⟩
  ·rw [ssP, if_pos ⟨by rw [stL_len]; exact hin, by omega⟩, h1, Option.bind_some, List.nil_append, h2]
   simp
  ·rw [stL_at w h cs L hin, Bool.or_eq_true, Bool.not_eq_true', decide_eq_false_iff_not]
   constructor
   ·rintro ((h4 | h4) | ⟨p, h5, h6, h7⟩)
    ·exact Or.inl h4
    ·exact Or.inr ⟨i, Nat.le_refl _, hin, h4⟩
    ·exact Or.inr ⟨p, by omega, h6, h7⟩
   ·rintro (h4 | ⟨p, h5, h6, h7⟩)
    ·exact Or.inl (Or.inl h4)
    ·by_cases e : p = i
     ·subst e
      exact Or.inl (Or.inr h7)
     ·exact Or.inr ⟨p, by omega, h6, h7⟩
theorem stuckStep_eq (hz : 0 < w * h) {P : List (List Int)} (hP : PM w h L n P) : impl_tray_stuckStep.f w h cs P (dirC d) = some ((w : Int), (h : Int), csN w h cs L d, P.map (fun q => q.map (yv w h cs L d)), anyM w h cs L n d) := by
 obtain ⟨mv', h1, h2⟩ := ssP_eq hw hh hs hI hd hn36 P 0 [] [] false (by rw [hP.len]; omega) rfl (fun j q hq => ⟨fun x hx => by rw [Nat.zero_add]; exact (hP.mem j q hq x).1 hx, hP.short q (List.mem_of_getElem? hq)⟩) (by rw [hP.len]; simp; omega)
 have hmv : mv' = anyM w h cs L n d := by
  unfold anyM
  have h3 : mv' = true ↔ ∃ p, p < n ∧ ¬ bk w h cs L d p := by
   rw [h2]
   constructor
   ·rintro (h4 | ⟨p, _, h5, h6⟩)
    ·cases h4
    ·exact ⟨p, h5, h6⟩
   ·rintro ⟨p, h5, h6⟩
    exact Or.inr ⟨p, Nat.zero_le _, h5, h6⟩
  cases hm : mv' with
  | true => exact (decide_eq_true (h3.1 hm)).symm
  | false => exact (decide_eq_false fun h4 => by rw [h3.2 h4] at hm; cases hm).symm
 rw [List.nil_append, List.append_nil] at h1
 have hfit := mv_fits hw hh hs hI hd
 have hmm : ∀ x c, (x, c) ∈ (P.flatten.map fun x => (x, yv w h cs L d x)).reverse → mvF w h cs L d x = some c := by
  intro x c hx
  rw [List.mem_reverse, List.mem_map] at hx
  obtain ⟨y, hy, e⟩ := hx
  injection e with e1 e2
  subst e1 e2
  obtain ⟨q, hq, hyq⟩ := List.mem_flatten.1 hy
  obtain ⟨j, hj⟩ := List.getElem?_of_mem hq
  obtain ⟨a, b, c⟩ := (hP.mem j q hj y).1 hyq
  unfold mvF yv
  rw [if_pos ⟨a, b, by omega⟩]
 have has : asF (P.flatten.map fun x => (x, yv w h cs L d x)).reverse = mvF w h cs L d := by
  funext x
  refine asF_eq _ _ hmm x fun h3 => ⟨yv w h cs L d x, ?_⟩
  rw [List.mem_reverse, List.mem_map]
  have h4 : 0 ≤ x ∧ x < ((w * h : Nat) : Int) ∧ 0 ≤ rd L x := by
   apply Classical.byContradiction
   intro h5
   exact h3 (if_neg h5)
  have h6 := hI.lt x.toNat (by omega)
  rw [Int.toNat_of_nonneg h4.1] at h6
  have hj : (rd L x).toNat < P.length := by rw [hP.len]; omega
  exact ⟨x, List.mem_flatten.2 ⟨P[(rd L x).toNat], List.getElem_mem hj, (hP.mem _ _ (List.getElem?_eq_getElem hj) _).2 ⟨h4.1, h4.2.1, by omega⟩⟩, rfl⟩
 unfold impl_tray_stuckStep.f
 rw [blocked_pm hw hh hs hI hd hn36 hP, Option.bind_some, h1, Option.bind_some, if_pos ⟨⟨by rw [hI.lc]; exact hz, by rw [hI.lc]; omega⟩, by rw [hI.lc]; exact fitsB_of hfit hmm⟩]
 simp only [has, hmv]
 rfl
theorem pm_next {P : List (List Int)} (hP : PM w h L n P) : PM w h (laN w h cs L d) n (P.map fun q => q.map (yv w h cs L d)) := by
 refine ⟨by rw [List.length_map]; exact hP.len, fun j q hq x => ?_, fun q hq => ?_⟩
 ·rw [List.getElem?_map] at hq
  obtain ⟨q0, hq0, rfl⟩ := Option.map_eq_some_iff.1 hq
  have hj : j < n := by
   have := (List.getElem?_eq_some_iff.1 hq0).1
   rw [hP.len] at this
   exact this
  rw [List.mem_map]
  constructor
  ·rintro ⟨i, hi, rfl⟩
   obtain ⟨a, b, c⟩ := (hP.mem j q0 hq0 i).1 hi
   obtain ⟨i, rfl⟩ := Int.eq_ofNat_of_zero_le a
   have hi2 : i < w * h := by omega
   obtain ⟨y0, y1, _⟩ := y_at hw hh hs hI hd hi2 (by omega)
   have h1 := (at_hit hw hh hs hI hd hi2 (by omega)).2
   unfold yv
   rw [Int.toNat_natCast]
   exact ⟨y0, y1, h1.trans c⟩
  ·rintro ⟨a, b, c⟩
   obtain ⟨x, rfl⟩ := Int.eq_ofNat_of_zero_le a
   rcases hit_or hw hh hs hI hd x with ⟨i, hi, hl, e⟩ | hx
   ·have h1 := (at_hit hw hh hs hI hd hi hl).2
    rw [e] at h1
    refine ⟨(i : Int), (hP.mem j q0 hq0 i).2 ⟨by omega, by omega, by omega⟩, ?_⟩
    unfold yv
    rw [Int.toNat_natCast]
    exact e
   ·have h1 := (at_off hw hh hs hI hd (by omega) hx).2
    omega
 ·obtain ⟨q0, hq0, rfl⟩ := List.mem_map.1 hq
  rw [List.length_map]
  exact hP.short q0 hq0
end
section
variable {w h : Nat} {cs : List Int} (hw : w ≤ 7) (hh : h ≤ 7) (hs : w * h ≤ 36) (hn : cs.length = w * h)
include hw hh hs hn
theorem si_start {L : List Int} (ho : OI w h cs L (w * h)) : SI w h cs L (mins w h cs (w * h)).length := by
 refine ⟨hn, ho.len, fun i hi => lab_lt hw hh hs hn ho i hi, fun i hi => OI.ball hw hh hs ho (by omega) (by omega), fun i hi h1 => ho.low i (by omega) (by omega) h1, fun p hp => ?_⟩
 have hm : (mins w h cs (w * h))[p] ∈ mins w h cs (w * h) := List.getElem_mem hp
 have hm2 := List.mem_filter.1 hm
 have hmin : isMin w h cs (mins w h cs (w * h))[p] := of_decide_eq_true hm2.2
 have hmr := List.mem_range.1 hm2.1
 have h1 := parts_get hw hh hs hn ho p hp
 unfold parts at h1
 rw [List.getElem?_map, List.getElem?_eq_getElem hp] at h1
 have h2 := Option.some.inj h1
 have h3 := ((comp_head hw hh hs _ hmr).2 hmin)
 have h4 : (mins w h cs (w * h))[p] < w * h := hmr
 have h5 : ((mins w h cs (w * h))[p] : Int) ∈ idxs L (p : Int) L.length := by
  rw [← h2]
  have h6 := h3.2
  unfold rd at h6
  rw [Int.toNat_zero, List.getD_eq_getElem?_getD, List.getElem?_eq_getElem h3.1] at h6
  rw [← h6]
  exact List.getElem_mem h3.1
 rw [mem_idxs] at h5
 exact ⟨_, hmr, h5.2.2⟩
theorem pm_start {L : List Int} (ho : OI w h cs L (w * h)) : PM w h L (mins w h cs (w * h)).length (parts w h cs (w * h)) := by
 refine ⟨by unfold parts; rw [List.length_map], fun j q hq x => ?_, fun q hq => ?_⟩
 ·have hj : j < (mins w h cs (w * h)).length := by
   have := (List.getElem?_eq_some_iff.1 hq).1
   unfold parts at this
   rw [List.length_map] at this
   exact this
  rw [parts_get hw hh hs hn ho j hj] at hq
  obtain rfl := Option.some.inj hq
  rw [mem_idxs, ho.len]
 ·unfold parts at hq
  obtain ⟨m, _, rfl⟩ := List.mem_map.1 hq
  have := comp_len w h cs (w * h) m
  omega
end
end Go.Proofs.YtgipkpiddjjhcaaDoor.Q
end
