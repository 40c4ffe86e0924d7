/- Texts of this claim, joined. -/
import Derived.Test.YtgipkpiddjjhcaaDoorJStickStill01
import Derived.Test.YtgipkpiddjjhcaaDoorJStickStill03
import Derived.Test.YtgipkpiddjjhcaaDoorJStickStill05
import Derived.Test.YtgipkpiddjjhcaaDoorJStickStill02
import Derived.Test.YtgipkpiddjjhcaaDoorJStickStill04
import Derived.Laws.AppendOwn
set_option linter.unusedVariables false
set_option linter.unusedSimpArgs false
set_option linter.unusedSectionVars false
section
namespace Go.Proofs.YtgipkpiddjjhcaaDoor.Q
open Go.RowKit Go.Proofs.YtgipkpiddjjhcaaDoorW.PrintWords Go.Proofs.YtgipkpiddjjhcaaDoorW.PrintLast Go.Proofs.YtgipkpiddjjhcaaDoorW.PrintMore
attribute [local go_sem] max2_int min2_int max_two min_two max_three min_three max_four min_four
set_option linter.unusedVariables false
set_option linter.unusedSimpArgs false
mutual
def spec_skTilt.l0 : Nat → Int → List Int → Int → List Int → Int → Int → Int → List Int → Option (Int × Int × List Int × List Int)
 | 0, _, _, _, _, _, _, _, _ => none
 | k + 1, x1, x6, x7, x8, x9, x102000, x102001, x102002 => if x9 < 7 then ((spec_skMove.f k x102000 x102001 x102002 x6 x7 x1).bind fun bt110 => (spec_skTilt.l1 k x1 x7 x8 x9 bt110.2.2.2.1 bt110.2.2.2.2 (bt110.2.2.2.2.length : Int) 0 bt110.1 bt110.2.1 bt110.2.2.1)) else (some (x102000, x102001, x102002, x8))
def spec_skTilt.l1 : Nat → Int → Int → List Int → Int → List Int → List Bool → Int → Int → Int → Int → List Int → Option (Int × Int × List Int × List Int)
 | 0, _, _, _, _, _, _, _, _, _, _, _ => none
 | k + 1, x1, x7, x8, x9, x11, x35, x36, x37, x122000, x122001, x122002 => if x37 < x36 then (if 0 ≤ x37 then (if x37 < (x35.length : Int) then (if rdOf false x35 x37 = true then (if x37 < (x8.length : Int) then (spec_skTilt.l1 k x1 x7 (x8.set (x37 : Int).toNat (wrap64 ((rd x8 x37) + 1))) x9 x11 x35 x36 (wrap64 (x37 + 1)) x122000 x122001 x122002) else (none)) else (spec_skTilt.l1 k x1 x7 x8 x9 x11 x35 x36 (wrap64 (x37 + 1)) x122000 x122001 x122002)) else (none)) else (none)) else (spec_skTilt.l0 k x1 x11 x7 x8 (wrap64 (x9 + 1)) x122000 x122001 x122002)
end
def spec_skTilt.f (k : Nat) (a0_0 : Int) (a0_1 : Int) (l0_2 : List Int) (a1 : Int) : Option (Int × Int × List Int × List Int) := (spec_skPieces.f k a0_0 a0_1 l0_2).bind fun bt103 => (if 0 ≤ bt103.2 then (if (bt103.2 : Int).toNat ≤ 35184372088832 then (spec_skTilt.l0 k a1 bt103.1 bt103.2 (List.replicate (bt103.2 : Int).toNat 0) 0 a0_0 a0_1 l0_2) else (none)) else (none))
set_option maxHeartbeats 8000000 in
set_option maxRecDepth 100000 in
theorem spec_skTilt.calls (k : Nat) (a0_0 : Int) (a0_1 : Int) (P0_2_ : Nat → Prop) (A0_2 : Option Addr) (c0_2 : Nat) (l0_2 : List Int) (a1 : Int) (r1 : Int) (r2 : Int) (r3 : List Int) (r4 : List Int) (w : World) (hs0_2 : Kd.V (Kd.int .u8) 5 w w.heap.size (fun k_ => P0_2_ k_) (.slice A0_2 l0_2.length c0_2) l0_2) (h : spec_skTilt.f k a0_0 a0_1 l0_2 a1 = some (r1, r2, r3, r4)) :
  Calls Tryd.prog 36 #[.agg #[.int .i64 a0_0, .int .i64 a0_1, .slice A0_2 l0_2.length c0_2], .int .i64 a1] w fun e w' => ∃ v2_ v3_ : Value, e = .returned (.tuple #[.agg #[.int .i64 r1, .int .i64 r2, v2_], v3_]) ∧ Kd.V (Kd.int .u8) 5 w' w.heap.size (fun k_ => (P0_2_ k_ ∨ w.heap.size ≤ k_) ∧ some k_ ≠ (v3_ : Value).ownBlock) v2_ r3 ∧ Kd.R (Kd.int .i64) 3 w' w.heap.size (fun k_ => (w.heap.size ≤ k_)) v3_ r4 ∧ Below w.heap.size w w' := by
 have hu36 := Tryd.underlying36
 have HO0_2 := Aside0.mk (show Kd.V (Kd.int .u8) 5 w w.heap.size (fun k_ => (P0_2_ k_ ∨ w.heap.size ≤ k_)) (.slice A0_2 l0_2.length c0_2) l0_2 from Kd.V_mono hs0_2 (fun k_ hk => .inl hk))
 have HB := Aside0.mk (Below.refl w.heap.size w)
 have H : ((spec_skPieces.f k a0_0 a0_1 l0_2).bind fun bt103 => (if 0 ≤ bt103.2 then (if (bt103.2 : Int).toNat ≤ 35184372088832 then (spec_skTilt.l0 k a1 bt103.1 bt103.2 (List.replicate (bt103.2 : Int).toNat 0) 0 a0_0 a0_1 l0_2) else (none)) else (none))) = some (r1, r2, r3, r4) := h
 clear h
 replace H := Option.bind_eq_some_iff.mp H
 obtain ⟨⟨t103, t106⟩, A30, H⟩ := H
 replace H : (if 0 ≤ t106 then (if (t106 : Int).toNat ≤ 35184372088832 then (spec_skTilt.l0 k a1 t103 t106 (List.replicate (t106 : Int).toNat 0) 0 a0_0 a0_1 l0_2) else (none)) else (none)) = some (r1, r2, r3, r4) := H
 have A3 := Aside0.mk A30
 clear A30
 by_cases c4 : 0 ≤ t106
 ·rw [if_pos c4] at H
  have c4b0 := eq_true c4
  have c4b1 : decide (0 ≤ t106) = true := decide_eq_true c4
  clear c4
  by_cases c5 : (t106 : Int).toNat ≤ 35184372088832
  ·rw [if_pos c5] at H
   have c5b0 := eq_true c5
   have c5b1 : decide ((t106 : Int).toNat ≤ 35184372088832) = true := decide_eq_true c5
   clear c5
   obtain ⟨y107, hy107⟩ : ∃ y_ : List Int, y_ = (List.replicate (t106 : Int).toNat 0) := ⟨_, rfl⟩
   replace H : (spec_skTilt.l0 k a1 t103 t106 y107 0 a0_0 a0_1 l0_2) = some (r1, r2, r3, r4) := rH hy107 H
   have Ny107 := Aside0.mk hy107
   clear hy107
   have H' := Aside0.mk H
   clear H
   go_enter Tryd.func36, Tryd.ntmps36
   go_wp2_with (first | ((with_reducible refine gate_dst (N := 2) rfl ?_); refine boxE (N := 2) (cs := #[.int .i64 a0_0, .int .i64 a0_1, .slice A0_2 l0_2.length c0_2]) (t := 36) ?_; intro gb101 hg w6 hbox hb; have n0_ := Aside0.mk (Kd.V_below (Kd.V_elderB (by (with_reducible repeat (first | apply Kd.V_alloc | apply Kd.V_drewN | apply Kd.V_drew)); (first | exact HO0_2.out | exact R_any HO0_2.out)) gb101 (Nat.le_of_eq hg.symm)) hb); have n1_ := Aside0.mk (below_step (bel HB) hb); have n2_ := Aside0.mk (hbox); have n3_ := Aside0.mk (gsz hg (bel HB)); have n4_ := Aside0.mk (gsz hg (bel HB)); clear HO0_2; clear HB; have HO0_2 := n0_; have HB := n1_; have BK101 := n2_; have GW101 := n3_; have GE101 := n4_; clear n0_ n1_ n2_ n3_ n4_; clear hb hbox hg) | ((with_reducible refine gate_dst (N := 4) rfl ?_); refine boxE (N := 4) (cs := #[.int .i64 0, .int .i64 0, .slice none 0 0]) (t := 36) ?_; intro gb102 hg w7 hbox hb; have n0_ := Aside0.mk (Kd.V_below (Kd.V_elderB (by (with_reducible repeat (first | apply Kd.V_alloc | apply Kd.V_drewN | apply Kd.V_drew)); (first | exact HO0_2.out | exact R_any HO0_2.out)) gb102 (Nat.le_of_eq hg.symm)) hb); have n1_ := Aside0.mk (blk_below (g := gb101) (o := .cells #[.int .i64 a0_0, .int .i64 a0_1, .slice A0_2 l0_2.length c0_2] 36 (0, 0)) blc hb); have n2_ := Aside0.mk (below_step (bel HB) hb); have n3_ := Aside0.mk (hbox); have n4_ := Aside0.mk (gsz hg (bel HB)); have n5_ := Aside0.mk (gsz hg (bel HB)); have n6_ := Aside0.mk ((by rw [hg]; exact Nat.ne_of_lt (blk_lt (g := gb101) (o := .cells #[.int .i64 a0_0, .int .i64 a0_1, .slice A0_2 l0_2.length c0_2] 36 (0, 0)) blc) : gb101 ≠ gb102)); have n7_ := Aside0.mk ((by rw [hg]; exact Nat.ne_of_gt (blk_lt (g := gb101) (o := .cells #[.int .i64 a0_0, .int .i64 a0_1, .slice A0_2 l0_2.length c0_2] 36 (0, 0)) blc) : gb102 ≠ gb101)); clear HO0_2; clear BK101; clear HB; have HO0_2 := n0_; have BK101 := n1_; have HB := n2_; have BK102 := n3_; have GW102 := n4_; have GE102 := n5_; have NB101_102 := n6_; have NB102_101 := n7_; clear n0_ n1_ n2_ n3_ n4_ n5_ n6_ n7_; clear hb hbox hg; have hnb8 := NB101_102.out; have hnc8 := NB102_101.out; have hcz9_0 : w7.cell? ⟨gb101, 0, none⟩ = some (.int .i64 a0_0) := (blk_cell BK101.out 0).trans rfl; have hcz9_1 : w7.cell? ⟨gb101, 1, none⟩ = some (.int .i64 a0_1) := (blk_cell BK101.out 1).trans rfl; have hcz9_2 : w7.cell? ⟨gb101, 2, none⟩ = some (.slice A0_2 l0_2.length c0_2) := (blk_cell BK101.out 2).trans rfl; have hfz9_0 := blk_frozen BK101.out 0; have hfz9_1 := blk_frozen BK101.out 1; have hfz9_2 := blk_frozen BK101.out 2) | ((with_reducible refine gate_callee (f := 28) rfl ?_); refine gcall (some 17) Tryd.func28 #[.agg #[.int .i64 a0_0, .int .i64 a0_1, .slice A0_2 l0_2.length c0_2]] rfl ?_; (with_reducible refine (spec_skPieces.calls k a0_0 a0_1 _ _ l0_2 t103 t106 _ ?side1 ?side2 A3.out).mono ?_); (case side1 => repeat (first | exact (Kd.V_reads' HO0_2.out).2.2 | (with_reducible refine Kd.C_alloc ?_ _) | (with_reducible refine Kd.C_drewN ?_ _) | (with_reducible refine Kd.C_drew ?_))); (case side2 => exact (Kd.V_reads' HO0_2.out).2.1); rintro e w10 ⟨v104, rfl, ho0, hb⟩; refine ⟨_, rfl, ?_⟩; have n0_ := Aside0.mk (Kd.V_elder' (by (with_reducible repeat (first | apply Kd.V_alloc | apply Kd.V_drewN | apply Kd.V_drew)); (first | exact HO0_2.out | exact R_any HO0_2.out)) (Kd.R_base ho0) hb); have n1_ := Aside0.mk (Kd.R_lower (Kd.R_newM (M := fun k_ => (w.heap.size ≤ k_)) ho0 (below_size (bel HB)) (fun k_ h_ => h_)) (below_size (bel HB))); have n2_ := Aside0.mk (blk_below (g := gb101) (o := .cells #[.int .i64 a0_0, .int .i64 a0_1, .slice A0_2 l0_2.length c0_2] 36 (0, 0)) blc hb); have n3_ := Aside0.mk (blk_below (g := gb102) (o := .cells #[.int .i64 0, .int .i64 0, .slice none 0 0] 36 (0, 0)) blc hb); have n4_ := Aside0.mk (below_step (bel HB) hb); clear HO0_2; clear BK101; clear BK102; clear HB; have HO0_2 := n0_; have HO105 := n1_; have BK101 := n2_; have BK102 := n3_; have HB := n4_; clear n0_ n1_ n2_ n3_ n4_; (try clear hb); (try clear hb2); (try clear hk); (try clear hi); (try clear ho0)) | ((with_reducible refine gate_dst (N := 21) rfl ?_); refine Kd.R_make (Kd.int .i64) _ 3 rfl (N := 21) rfl 25 _ _ rfl t106 rfl rfl Tryd.underlying25 (.int .i64 0) 8 info3 rfl (by decide) (by omega) 0 (ok := fun _ => True) (okp := fun _ => True) rfl (fun _ hk => hk) trivial (of_decide_eq_true (by first | (with_reducible assumption) | assumption)) (Nat.le_trans (Nat.mul_le_mul_right _ (of_decide_eq_true (by first | (with_reducible assumption) | assumption) : t106.toNat ≤ 35184372088832)) (by omega)) (Below.refl _ _) (Nat.le_refl _) ?_; intro v108 w11 ho12 hb hg_ hnew_; clear hg_ hnew_; (first | rw [← Ny107.out] at ho12 | (simp only [Int.reduceToNat] at ho12; rw [← Ny107.out] at ho12)); have n0_ := Aside0.mk (Kd.V_elder' (by (with_reducible repeat (first | apply Kd.V_alloc | apply Kd.V_drewN | apply Kd.V_drew)); (first | exact HO0_2.out | exact R_any HO0_2.out)) (Kd.R_base ho12) hb); have n1_ := Aside0.mk (Kd.R_elder' (rch HO105) (Kd.R_base ho12) hb); have n2_ := Aside0.mk (Kd.R_lower (Kd.R_new' (Kd.R_newM (M := fun k_ => (w.heap.size ≤ k_)) ho12 (below_size (bel HB)) (fun k_ h_ => h_)) (Kd.R_lt (rch HO105))) (below_size (bel HB))); have n3_ := Aside0.mk (blk_below (g := gb101) (o := .cells #[.int .i64 a0_0, .int .i64 a0_1, .slice A0_2 l0_2.length c0_2] 36 (0, 0)) blc hb); have n4_ := Aside0.mk (blk_below (g := gb102) (o := .cells #[.int .i64 0, .int .i64 0, .slice none 0 0] 36 (0, 0)) blc hb); have n5_ := Aside0.mk (below_step (bel HB) hb); clear HO0_2; clear HO105; clear BK101; clear BK102; clear HB; have HO0_2 := n0_; have HO105 := n1_; have HO109 := n2_; have BK101 := n3_; have BK102 := n4_; have HB := n5_; clear n0_ n1_ n2_ n3_ n4_ n5_; clear hb ho12))
   go_loopg [6, 9] k (fun kq v6 v9 w' => ∃ (x6_1 : List Int) (x8_1 : List Int) (x9_1 : Int) (x102000_1 : Int) (x102001_1 : Int) (x102002_1 : List Int) (u102002 : Value), v9 = .int .i64 x9_1 ∧ Aside0 (spec_skTilt.l0 kq a1 x6_1 t106 x8_1 x9_1 x102000_1 x102001_1 x102002_1 = some (r1, r2, r3, r4)) ∧ Aside0 (kq ≤ k) ∧ Aside0 (Kd.R (Kd.int .i64) 3 w' w.heap.size (fun k_ => (w.heap.size ≤ k_) ∧ some k_ ≠ (v108 : Value).ownBlock) v6 x6_1) ∧ Aside0 (Kd.R (Kd.int .i64) 3 w' w.heap.size (fun k_ => (w.heap.size ≤ k_) ∧ some k_ ≠ (v6 : Value).ownBlock) v108 x8_1) ∧ Aside0 (Kd.V (Kd.int .u8) 5 w' w.heap.size (fun k_ => (P0_2_ k_ ∨ w.heap.size ≤ k_) ∧ some k_ ≠ (v6 : Value).ownBlock ∧ some k_ ≠ (v108 : Value).ownBlock ∧ k_ ≠ gb101 ∧ k_ ≠ gb102) u102002 x102002_1) ∧ Aside0 (w'.heap[gb101]? = some (.cells #[.int .i64 x102000_1, .int .i64 x102001_1, u102002] 36 (0, 0))) ∧ Aside0 (w'.heap[gb102]? = some (.cells #[.int .i64 0, .int .i64 0, (.slice none 0 0)] 36 (0, 0))) ∧ Aside0 (Below w.heap.size w w'))
   case atStart => exact ⟨(t103), (y107), (0), (a0_0), (a0_1), (l0_2), (.slice A0_2 l0_2.length c0_2), (by first | rfl | (simp; done) | (simp [*]; done)), H', ⟨Nat.le_refl _⟩, ⟨by (with_reducible repeat (first | apply Kd.R_alloc | apply Kd.R_drewN | apply Kd.R_drew)); exact Kd.R_mono HO105.out (fun _ hk => ⟨hk.1.1, hk.2⟩)⟩, ⟨by (with_reducible repeat (first | apply Kd.R_alloc | apply Kd.R_drewN | apply Kd.R_drew)); exact Kd.R_mono HO109.out (fun _ hk => ⟨hk.1.1, hk.2⟩)⟩, ⟨by (with_reducible repeat (first | apply Kd.V_alloc | apply Kd.V_drewN | apply Kd.V_drew)); exact Kd.V_mono HO0_2.out (fun _ hk => ⟨hk.1.1.1.1, ⟨hk.1.2, ⟨hk.2, ⟨hk.1.1.1.2, hk.1.1.2⟩⟩⟩⟩)⟩, ⟨blc⟩, ⟨blc⟩, ⟨bel HB⟩⟩
   case round =>
    clear H'
    try clear c2
    try clear p2
    try clear c3
    try clear c4
    try clear c4b0
    try clear c4b0y
    try clear c4b1
    try clear c5
    try clear c5b0
    try clear c5b0y
    try clear c5b1
    try clear c8
    try clear hcz9_0
    try clear hcz9_1
    try clear hcz9_2
    try clear hfz9_0
    try clear hfz9_1
    try clear hfz9_2
    obtain ⟨x6_1, x8_1, x9_1, x102000_1, x102001_1, x102002_1, u102002, rfl, HA, HK1, HO_6, HO_8, HO_102002, BK101, BK102, HB⟩ := hrel
    cases gk with
    | zero => exact absurd HA.out (by simp [spec_skTilt.l0])
    | succ k1 =>
     have H := HA.out
     clear HA
     simp only [spec_skTilt.l0] at H
     by_cases c13 : x9_1 < 7
     ·rw [if_pos c13] at H
      have c13b0 : decide (x9_1 < 7) = true := decide_eq_true c13
      clear c13
      replace H := Option.bind_eq_some_iff.mp H
      obtain ⟨⟨t110, t111, t112, t115, t118⟩, A140, H⟩ := H
      replace H : (spec_skTilt.l1 k1 a1 t106 x8_1 x9_1 t115 t118 (t118.length : Int) 0 t110 t111 t112) = some (r1, r2, r3, r4) := H
      have A14 := Aside0.mk A140
      clear A140
      have H' := Aside0.mk H
      clear H
      have hnb15 := NB101_102.out
      have hnc15 := NB102_101.out
      have hcz16_0 : wr.cell? ⟨gb101, 0, none⟩ = some (.int .i64 x102000_1) := (blk_cell BK101.out 0).trans rfl
      have hcz16_1 : wr.cell? ⟨gb101, 1, none⟩ = some (.int .i64 x102001_1) := (blk_cell BK101.out 1).trans rfl
      have hcz16_2 : wr.cell? ⟨gb101, 2, none⟩ = some (u102002) := (blk_cell BK101.out 2).trans rfl
      have hfz16_0 := blk_frozen BK101.out 0
      have hfz16_1 := blk_frozen BK101.out 1
      have hfz16_2 := blk_frozen BK101.out 2
      obtain ⟨Ao17, co17, eo17⟩ := Kd.V_slice HO_102002.out
      subst eo17
      obtain ⟨Ao18, co18, eo18⟩ := Kd.R_slice HO_6.out
      subst eo18
      go_wp2_with (first | ((with_reducible refine gate_callee (f := 29) rfl ?_); refine gcall (some 31) Tryd.func29 #[.agg #[.int .i64 x102000_1, .int .i64 x102001_1, .slice Ao17 x102002_1.length co17], .slice Ao18 x6_1.length co18, .int .i64 t106, .int .i64 a1] rfl ?_; (with_reducible refine (spec_skMove.calls k1 x102000_1 x102001_1 _ _ x102002_1 _ _ x6_1 t106 a1 t110 t111 t112 t115 t118 _ ?side1 ?side2 ?side3 ?side4 A14.out).mono ?_); (case side1 => repeat (first | exact (Kd.V_reads' HO_102002.out).2.2 | (with_reducible refine Kd.C_alloc ?_ _) | (with_reducible refine Kd.C_drewN ?_ _) | (with_reducible refine Kd.C_drew ?_))); (case side2 => exact (Kd.V_reads' HO_102002.out).2.1); (case side3 => repeat (first | exact (Kd.R_reads' HO_6.out).2.2 | (with_reducible refine Kd.C_alloc ?_ _) | (with_reducible refine Kd.C_drewN ?_ _) | (with_reducible refine Kd.C_drew ?_))); (case side4 => exact (Kd.R_reads' HO_6.out).2.1); rintro e w19 ⟨v113, v116, v119, rfl, ho0, ho1, ho2, hb⟩; refine ⟨_, rfl, ?_⟩; have n0_ := Aside0.mk (Kd.R_elder' (rch HO_6) (Kd.R_base ho1) hb); have n1_ := Aside0.mk (Kd.R_elder' (rch HO_8) (Kd.R_base ho1) hb); have n2_ := Aside0.mk (Kd.V_mono (Kd.V_told (Kd.V_told (Kd.V_told (Kd.V_old (by (with_reducible repeat (first | apply Kd.V_alloc | apply Kd.V_drewN | apply Kd.V_drew)); (first | exact HO_102002.out | exact R_any HO_102002.out)) hb) (Kd.R_base ho0)) (Kd.R_base ho1)) (Kd.R_base ho2)) (fun _ h_ => h_.1)); have n3_ := Aside0.mk (Kd.R_lower (Kd.R_newM (M := fun k_ => (w.heap.size ≤ k_)) ho0 (below_size (bel HB)) (fun k_ h_ => h_)) (below_size (bel HB))); have n4_ := Aside0.mk (Kd.R_lower (Kd.R_new' (Kd.R_new' (Kd.R_newM (M := fun k_ => (w.heap.size ≤ k_)) ho1 (below_size (bel HB)) (fun k_ h_ => h_)) (Kd.R_lt (rch HO_6))) (Kd.R_lt (rch HO_8))) (below_size (bel HB))); have n5_ := Aside0.mk (Kd.R_lower (Kd.R_newM (M := fun k_ => (w.heap.size ≤ k_)) ho2 (below_size (bel HB)) (fun k_ h_ => h_)) (below_size (bel HB))); have n6_ := Aside0.mk (blk_below (g := gb101) (o := .cells #[.int .i64 x102000_1, .int .i64 x102001_1, .slice Ao17 x102002_1.length co17] 36 (0, 0)) blc hb); have n7_ := Aside0.mk (blk_below (g := gb102) (o := .cells #[.int .i64 0, .int .i64 0, .slice none 0 0] 36 (0, 0)) blc hb); have n8_ := Aside0.mk (below_step (bel HB) hb); clear HO_6; clear HO_8; clear HO_102002; clear BK101; clear BK102; clear HB; have HO_6 := n0_; have HO_8 := n1_; have HO_102002 := n2_; have HO114 := n3_; have HO117 := n4_; have HO120 := n5_; have BK101 := n6_; have BK102 := n7_; have HB := n8_; clear n0_ n1_ n2_ n3_ n4_ n5_ n6_ n7_ n8_; (try clear hb); (try clear hb2); (try clear hk); (try clear hi); (try clear ho0); (try clear ho1); (try clear ho2)) | ((with_reducible refine gate_dst (N := 10) rfl ?_); refine boxE (N := 10) (cs := #[.int .i64 0, .int .i64 0, .slice none 0 0]) (t := 36) ?_; intro gb121 hg w20 hbox hb; have n0_ := Aside0.mk (Kd.R_below (rch HO_6) hb); have n1_ := Aside0.mk (Kd.R_below (rch HO_8) hb); have n2_ := Aside0.mk (Kd.V_below (Kd.V_elderB (by (with_reducible repeat (first | apply Kd.V_alloc | apply Kd.V_drewN | apply Kd.V_drew)); (first | exact HO_102002.out | exact R_any HO_102002.out)) gb121 (Nat.le_of_eq hg.symm)) hb); have n3_ := Aside0.mk (Kd.R_below (rch HO114) hb); have n4_ := Aside0.mk (Kd.R_below (rch HO117) hb); have n5_ := Aside0.mk (Kd.R_below (rch HO120) hb); have n6_ := Aside0.mk (blk_below (g := gb101) (o := .cells #[.int .i64 x102000_1, .int .i64 x102001_1, .slice Ao17 x102002_1.length co17] 36 (0, 0)) blc hb); have n7_ := Aside0.mk (blk_below (g := gb102) (o := .cells #[.int .i64 0, .int .i64 0, .slice none 0 0] 36 (0, 0)) blc hb); have n8_ := Aside0.mk (below_step (bel HB) hb); have n9_ := Aside0.mk (hbox); have n10_ := Aside0.mk (gsz hg (bel HB)); have n11_ := Aside0.mk (gsz hg (bel HB)); have n12_ := Aside0.mk ((by rw [hg]; exact Nat.ne_of_lt (blk_lt (g := gb101) (o := .cells #[.int .i64 x102000_1, .int .i64 x102001_1, .slice Ao17 x102002_1.length co17] 36 (0, 0)) blc) : gb101 ≠ gb121)); have n13_ := Aside0.mk ((by rw [hg]; exact Nat.ne_of_gt (blk_lt (g := gb101) (o := .cells #[.int .i64 x102000_1, .int .i64 x102001_1, .slice Ao17 x102002_1.length co17] 36 (0, 0)) blc) : gb121 ≠ gb101)); have n14_ := Aside0.mk ((by rw [hg]; exact Nat.ne_of_lt (blk_lt (g := gb102) (o := .cells #[.int .i64 0, .int .i64 0, .slice none 0 0] 36 (0, 0)) blc) : gb102 ≠ gb121)); have n15_ := Aside0.mk ((by rw [hg]; exact Nat.ne_of_gt (blk_lt (g := gb102) (o := .cells #[.int .i64 0, .int .i64 0, .slice none 0 0] 36 (0, 0)) blc) : gb121 ≠ gb102)); clear HO_6; clear HO_8; clear HO_102002; clear HO114; clear HO117; clear HO120; clear BK101; clear BK102; clear HB; have HO_6 := n0_; have HO_8 := n1_; have HO_102002 := n2_; have HO114 := n3_; have HO117 := n4_; have HO120 := n5_; have BK101 := n6_; have BK102 := n7_; have HB := n8_; have BK121 := n9_; have GW121 := n10_; have GE121 := n11_; have NB101_121 := n12_; have NB121_101 := n13_; have NB102_121 := n14_; have NB121_102 := n15_; clear n0_ n1_ n2_ n3_ n4_ n5_ n6_ n7_ n8_ n9_ n10_ n11_ n12_ n13_ n14_ n15_; clear hb hbox hg; have hnb21 := NB121_101.out; have hnc21 := NB101_121.out; have hnb22 := NB121_102.out; have hnc22 := NB102_121.out; have hcz23_0 : w20.cell? ⟨gb121, 0, none⟩ = some (.int .i64 0) := (blk_cell BK121.out 0).trans rfl; have hcz23_1 : w20.cell? ⟨gb121, 1, none⟩ = some (.int .i64 0) := (blk_cell BK121.out 1).trans rfl; have hcz23_2 : w20.cell? ⟨gb121, 2, none⟩ = some (.slice none 0 0) := (blk_cell BK121.out 2).trans rfl; have hfz23_0 := blk_frozen BK121.out 0; have hfz23_1 := blk_frozen BK121.out 1; have hfz23_2 := blk_frozen BK121.out 2; obtain ⟨Ao24, co24, eo24⟩ := Kd.R_slice HO114.out; subst eo24; obtain ⟨Ao25, co25, eo25⟩ := Kd.R_slice HO120.out; subst eo25))
      go_loopg [37] k1 (fun kq v37 w' => ∃ (x8_2 : List Int) (x37_2 : Int), v37 = .int .i64 x37_2 ∧ Aside0 (spec_skTilt.l1 kq a1 t106 x8_2 x9_1 t115 t118 (t118.length : Int) x37_2 t110 t111 t112 = some (r1, r2, r3, r4)) ∧ Aside0 (kq ≤ k1) ∧ Aside0 (Kd.R (Kd.int .i64) 3 w' w.heap.size (fun k_ => (w.heap.size ≤ k_) ∧ some k_ ≠ (v116 : Value).ownBlock) v108 x8_2) ∧ Aside0 (Kd.R (Kd.int .i64) 3 w' w.heap.size (fun k_ => (w.heap.size ≤ k_) ∧ some k_ ≠ (v108 : Value).ownBlock) v116 t115) ∧ Aside0 (Kd.R Kd.bool 4 w' w.heap.size (fun k_ => (w.heap.size ≤ k_)) (.slice Ao25 t118.length co25) t118) ∧ Aside0 (Kd.V (Kd.int .u8) 5 w' w.heap.size (fun k_ => (P0_2_ k_ ∨ w.heap.size ≤ k_) ∧ some k_ ≠ (v108 : Value).ownBlock ∧ some k_ ≠ (v116 : Value).ownBlock ∧ some k_ ≠ ((.slice Ao25 t118.length co25) : Value).ownBlock ∧ some k_ ≠ ((.slice Ao24 t112.length co24) : Value).ownBlock ∧ k_ ≠ gb101 ∧ k_ ≠ gb102 ∧ k_ ≠ gb121) (.slice Ao17 x102002_1.length co17) x102002_1) ∧ Aside0 (Kd.R (Kd.int .u8) 5 w' w.heap.size (fun k_ => (w.heap.size ≤ k_)) (.slice Ao24 t112.length co24) t112) ∧ Aside0 (w'.heap[gb101]? = some (.cells #[.int .i64 x102000_1, .int .i64 x102001_1, (.slice Ao17 x102002_1.length co17)] 36 (0, 0))) ∧ Aside0 (w'.heap[gb102]? = some (.cells #[.int .i64 0, .int .i64 0, (.slice none 0 0)] 36 (0, 0))) ∧ Aside0 (w'.heap[gb121]? = some (.cells #[.int .i64 t110, .int .i64 t111, (.slice Ao24 t112.length co24)] 36 (0, 0))) ∧ Aside0 (Below w.heap.size w w'))
      case atStart => exact ⟨(x8_1), (0), (by first | rfl | (simp; done) | (simp [*]; done)), H', ⟨Nat.le_refl _⟩, ⟨by (with_reducible repeat (first | apply Kd.R_alloc | apply Kd.R_drewN | apply Kd.R_drew)); exact Kd.R_mono (Kd.R_far (p := ⟨gb121, 2, none⟩) (Kd.R_far (p := ⟨gb121, 1, none⟩) (Kd.R_far (p := ⟨gb121, 0, none⟩) (Kd.R_types HO_8.out BK121.out (by decide)) (fun _ hk => hk.2) (.int .i64 t110)) (fun _ hk => hk.2) (.int .i64 t111)) (fun _ hk => hk.2) (.slice Ao24 t112.length co24)) (fun _ hk => ⟨hk.1.1.1, hk.1.2⟩)⟩, ⟨by (with_reducible repeat (first | apply Kd.R_alloc | apply Kd.R_drewN | apply Kd.R_drew)); exact Kd.R_mono (Kd.R_far (p := ⟨gb121, 2, none⟩) (Kd.R_far (p := ⟨gb121, 1, none⟩) (Kd.R_far (p := ⟨gb121, 0, none⟩) (Kd.R_types HO117.out BK121.out (by decide)) (fun _ hk => hk.2) (.int .i64 t110)) (fun _ hk => hk.2) (.int .i64 t111)) (fun _ hk => hk.2) (.slice Ao24 t112.length co24)) (fun _ hk => ⟨hk.1.1.1.1, hk.1.2⟩)⟩, ⟨by (with_reducible repeat (first | apply Kd.R_alloc | apply Kd.R_drewN | apply Kd.R_drew)); exact Kd.R_mono (Kd.R_far (p := ⟨gb121, 2, none⟩) (Kd.R_far (p := ⟨gb121, 1, none⟩) (Kd.R_far (p := ⟨gb121, 0, none⟩) (Kd.R_types HO120.out BK121.out (by decide)) (fun _ hk => hk.2) (.int .i64 t110)) (fun _ hk => hk.2) (.int .i64 t111)) (fun _ hk => hk.2) (.slice Ao24 t112.length co24)) (fun _ hk => hk.1.1)⟩, ⟨by (with_reducible repeat (first | apply Kd.V_alloc | apply Kd.V_drewN | apply Kd.V_drew)); exact Kd.V_mono (Kd.V_far (p := ⟨gb121, 2, none⟩) (Kd.V_far (p := ⟨gb121, 1, none⟩) (Kd.V_far (p := ⟨gb121, 0, none⟩) (Kd.V_mono HO_102002.out (fun k_ hk => (⟨hk, hk.2⟩ : _ ∧ k_ ≠ gb121))) (fun _ hk => hk.2) (.int .i64 t110)) (fun _ hk => hk.2) (.int .i64 t111)) (fun _ hk => hk.2) (.slice Ao24 t112.length co24)) (fun _ hk => ⟨hk.1.1.1.1.1.1, ⟨hk.1.1.1.1.1.2.2.1, ⟨hk.1.1.1.2, ⟨hk.1.1.2, ⟨hk.1.1.1.1.2, ⟨hk.1.1.1.1.1.2.2.2.1, ⟨hk.1.1.1.1.1.2.2.2.2, hk.1.2⟩⟩⟩⟩⟩⟩⟩)⟩, ⟨by (with_reducible repeat (first | apply Kd.R_alloc | apply Kd.R_drewN | apply Kd.R_drew)); exact Kd.R_mono (Kd.R_far (p := ⟨gb121, 2, none⟩) (Kd.R_far (p := ⟨gb121, 1, none⟩) (Kd.R_far (p := ⟨gb121, 0, none⟩) (Kd.R_types HO114.out BK121.out (by decide)) (fun _ hk => hk.2) (.int .i64 t110)) (fun _ hk => hk.2) (.int .i64 t111)) (fun _ hk => hk.2) (.slice Ao24 t112.length co24)) (fun _ hk => hk.1.1)⟩, ⟨by (with_reducible repeat (first | refine blk_drewN ?_ _ | refine blk_drew ?_ | refine blk_alloc ?_ _)); refine blk_far ?_ NB101_121.out _; (with_reducible repeat (first | refine blk_drewN ?_ _ | refine blk_drew ?_ | refine blk_alloc ?_ _)); refine blk_far ?_ NB101_121.out _; (with_reducible repeat (first | refine blk_drewN ?_ _ | refine blk_drew ?_ | refine blk_alloc ?_ _)); refine blk_far ?_ NB101_121.out _; exact blc⟩, ⟨by (with_reducible repeat (first | refine blk_drewN ?_ _ | refine blk_drew ?_ | refine blk_alloc ?_ _)); refine blk_far ?_ NB102_121.out _; (with_reducible repeat (first | refine blk_drewN ?_ _ | refine blk_drew ?_ | refine blk_alloc ?_ _)); refine blk_far ?_ NB102_121.out _; (with_reducible repeat (first | refine blk_drewN ?_ _ | refine blk_drew ?_ | refine blk_alloc ?_ _)); refine blk_far ?_ NB102_121.out _; exact blc⟩, ⟨by (with_reducible repeat (first | refine blk_drewN ?_ _ | refine blk_drew ?_ | refine blk_alloc ?_ _)); refine blk_put (cs := #[.int .i64 t110, .int .i64 t111, .slice none 0 0]) ?_ 2 _ rfl; (with_reducible repeat (first | refine blk_drewN ?_ _ | refine blk_drew ?_ | refine blk_alloc ?_ _)); refine blk_put (cs := #[.int .i64 t110, .int .i64 0, .slice none 0 0]) ?_ 1 _ rfl; (with_reducible repeat (first | refine blk_drewN ?_ _ | refine blk_drew ?_ | refine blk_alloc ?_ _)); refine blk_put (cs := #[.int .i64 0, .int .i64 0, .slice none 0 0]) ?_ 0 _ rfl; exact blc⟩, ⟨bel HB⟩⟩
      case round =>
       clear H'
       try clear c1
       try clear c2
       try clear p2
       try clear c3
       try clear c4
       try clear c4b0
       try clear c4b0y
       try clear c4b1
       try clear c5
       try clear c5b0
       try clear c5b0y
       try clear c5b1
       try clear c8
       try clear c13
       try clear c13b0
       try clear c13b0y
       try clear c15
       try clear c21
       try clear c22
       try clear hcz16_0
       try clear hcz16_1
       try clear hcz16_2
       try clear hcz23_0
       try clear hcz23_1
       try clear hcz23_2
       try clear hcz9_0
       try clear hcz9_1
       try clear hcz9_2
       try clear hfz16_0
       try clear hfz16_1
       try clear hfz16_2
       try clear hfz23_0
       try clear hfz23_1
       try clear hfz23_2
       try clear hfz9_0
       try clear hfz9_1
       try clear hfz9_2
       try clear p2
       obtain ⟨x8_2, x37_2, rfl, HA, HK2, HO_8, HO_11, HO_35, HO_102002, HO_122002, BK101, BK102, BK121, HB⟩ := hrel
       cases gk with
       | zero => exact absurd HA.out (by simp [spec_skTilt.l1])
       | succ k2 =>
        have H := HA.out
        clear HA
        simp only [spec_skTilt.l1] at H
        by_cases c26 : x37_2 < (t118.length : Int)
        ·rw [if_pos c26] at H
         have c26b0 : decide (x37_2 < (t118.length : Int)) = true := decide_eq_true c26
         clear c26
         by_cases c27 : 0 ≤ x37_2
         ·rw [if_pos c27] at H
          have c27b0 : decide (0 ≤ x37_2) = true := decide_eq_true c27
          clear c27
          by_cases c28 : x37_2 < (t118.length : Int)
          ·rw [if_pos c28] at H
           have c28b0 : decide (x37_2 < (t118.length : Int)) = true := decide_eq_true c28
           clear c28
           obtain ⟨bq29, hbq29⟩ : ∃ b_ : Bool, b_ = (rdOf false t118 x37_2) := ⟨_, rfl⟩
           replace H : (if bq29 = true then (if x37_2 < (x8_2.length : Int) then (spec_skTilt.l1 k2 a1 t106 (x8_2.set (x37_2 : Int).toNat (wrap64 ((rd x8_2 x37_2) + 1))) x9_1 t115 t118 (t118.length : Int) (wrap64 (x37_2 + 1)) t110 t111 t112) else (none)) else (spec_skTilt.l1 k2 a1 t106 x8_2 x9_1 t115 t118 (t118.length : Int) (wrap64 (x37_2 + 1)) t110 t111 t112)) = some (r1, r2, r3, r4) := by rw [← hbq29] at H; exact H
           have Nbq29 := Aside0.mk hbq29
           clear hbq29
           by_cases c30 : bq29 = true
           ·subst c30
            have H1 : (if x37_2 < (x8_2.length : Int) then (spec_skTilt.l1 k2 a1 t106 (x8_2.set (x37_2 : Int).toNat (wrap64 ((rd x8_2 x37_2) + 1))) x9_1 t115 t118 (t118.length : Int) (wrap64 (x37_2 + 1)) t110 t111 t112) else (none)) = some (r1, r2, r3, r4) := by rw [if_pos rfl] at H; exact H
            clear H
            have H := H1
            clear H1
            by_cases c31 : x37_2 < (x8_2.length : Int)
            ·rw [if_pos c31] at H
             have c31b0 : decide (x37_2 < (x8_2.length : Int)) = true := decide_eq_true c31
             clear c31
             obtain ⟨y124, hy124⟩ : ∃ y_ : List Int, y_ = (x8_2.set (x37_2 : Int).toNat (wrap64 ((rd x8_2 x37_2) + 1))) := ⟨_, rfl⟩
             replace H : (spec_skTilt.l1 k2 a1 t106 y124 x9_1 t115 t118 (t118.length : Int) (wrap64 (x37_2 + 1)) t110 t111 t112) = some (r1, r2, r3, r4) := rH hy124 H
             have Ny124 := Aside0.mk hy124
             clear hy124
             have H' := Aside0.mk H
             clear H
             have p122 : 0 ≤ (x37_2 : Int) := of_decide_eq_true (by first | (with_reducible assumption) | assumption)
             have q122 : x37_2 < (t118.length : Int) := of_decide_eq_true (by first | (with_reducible assumption) | assumption)
             obtain ⟨ad122, e122, hx122_0⟩ := Kd.at_bool (Kd.R_reads' HO_35.out).2.2 x37_2 p122 q122
             (try rw [← Nbq29.out] at hx122_0)
             cases e122
             replace p122 := eq_true p122
             replace q122 := eq_true q122
             obtain ⟨Ao33, co33, eo33⟩ := Kd.R_slice HO_8.out
             subst eo33
             have p123 : 0 ≤ (x37_2 : Int) := of_decide_eq_true (by first | (with_reducible assumption) | assumption)
             have q123 : x37_2 < (x8_2.length : Int) := of_decide_eq_true (by first | (with_reducible assumption) | assumption)
             obtain ⟨ad123, e123, hx123_0⟩ := Kd.at_int (Kd.R_reads' HO_8.out).2.2 x37_2 p123 q123
             cases e123
             replace p123 := eq_true p123
             replace q123 := eq_true q123
             have p32 : 0 ≤ (x37_2 : Int) := of_decide_eq_true (by first | (with_reducible assumption) | assumption)
             have q32 : (x37_2 : Int) < ((x8_2.length : Int) : Int) := of_decide_eq_true (by first | (with_reducible assumption) | assumption)
             obtain ⟨go32, co32, eo32, gb32, gl32, cl32, HG32⟩ := Kd.R_form HO_8.out (by omega)
             (first | cases eo32 | (injection eo32 with ea_ en_ ec_; (first | subst ea_ | (injection ea_ with ea_; subst ea_)); subst ec_; clear en_))
             have GB32 := Aside0.mk gb32
             have GG32 := Aside0.mk HG32
             clear gb32 gl32 HG32
             (first | simp only [add_plain] at hx123_0 | skip)
             obtain ⟨hx32_0, hf32_0⟩ := Kd.R_celln 0 HO_8.out (x37_2 : Int) p32 q32
             replace p32 := eq_true p32
             replace q32 := eq_true q32
             have HP34 := Kd.R_putg HO_8.out (x37_2 : Int) (wrap64 ((rd x8_2 x37_2) + 1))
             go_wp2_with (first | ((with_reducible refine gate_store (t := 3) (p := 48) rfl ?_); refine store_event (t := 3) (p := 48) (v := ?vo_w35) (w1 := (wr.setCell ⟨go32, (x37_2 : Int).toNat, none⟩ (.int .i64 (wrap64 ((rd x8_2 x37_2) + 1))))) ?hg ?ho ?hn ?hr ?_; (case ho => rfl); (case hg => rfl); (case hn => rfl); (case hr => first | (go_simp; done) | (go_simp; rfl)); intro w35 hw; have hg : wr.grownBy w35 (some go32) := (by rw [hw]; exact HP34.2); have hp_ : Kd.R (Kd.int .i64) 3 w35 w.heap.size (fun k_ => (w.heap.size ≤ k_) ∧ some k_ ≠ (v116 : Value).ownBlock) (.slice (some ⟨go32, 0, none⟩) x8_2.length co33) y124 := (by rw [hw, Ny124.out]; (first | exact HP34.1 | exact R_any HP34.1)); clear HP34; have n0_ := Aside0.mk (hp_); have n1_ := Aside0.mk (Kd.R_after (v := (.slice (some ⟨go32, 0, none⟩) x8_2.length co33)) (v1 := (.slice (some ⟨go32, 0, none⟩) x8_2.length co33)) (ok := (fun k_ => (w.heap.size ≤ k_))) (rch HO_11) hg (.inl rfl)); have n2_ := Aside0.mk (Kd.R_over' (v := (.slice (some ⟨go32, 0, none⟩) x8_2.length co33)) (rch HO_35) (Kd.R_typed HO_8.out) (by decide) hg); have n3_ := Aside0.mk (Kd.V_afterv (v := (.slice (some ⟨go32, 0, none⟩) x8_2.length co33)) (v1 := (.slice (some ⟨go32, 0, none⟩) x8_2.length co33)) (ok := (fun k_ => (P0_2_ k_ ∨ w.heap.size ≤ k_) ∧ some k_ ≠ (v116 : Value).ownBlock ∧ some k_ ≠ (.slice (some ad122) t118.length co25 : Value).ownBlock ∧ some k_ ≠ (.slice Ao24 t112.length co24 : Value).ownBlock ∧ k_ ≠ gb101 ∧ k_ ≠ gb102 ∧ k_ ≠ gb121)) (by (with_reducible repeat (first | apply Kd.V_alloc | apply Kd.V_drewN | apply Kd.V_drew)); exact Kd.V_mono HO_102002.out (fun _ hk => ⟨⟨hk.1, ⟨hk.2.2.1, ⟨hk.2.2.2.1, ⟨hk.2.2.2.2.1, ⟨hk.2.2.2.2.2.1, ⟨hk.2.2.2.2.2.2.1, hk.2.2.2.2.2.2.2⟩⟩⟩⟩⟩⟩, hk.2.1⟩)) hg (.inl rfl)); have n4_ := Aside0.mk (Kd.R_over' (v := (.slice (some ⟨go32, 0, none⟩) x8_2.length co33)) (rch HO_122002) (Kd.R_typed HO_8.out) (by decide) hg); have n5_ := Aside0.mk (blk_grown (g := gb101) (o := .cells #[.int .i64 x102000_1, .int .i64 x102001_1, .slice Ao17 x102002_1.length co17] 36 (0, 0)) blc hg (Kd.R_ne HO_8.out BK101.out (by decide))); have n6_ := Aside0.mk (blk_grown (g := gb102) (o := .cells #[.int .i64 0, .int .i64 0, .slice none 0 0] 36 (0, 0)) blc hg (Kd.R_ne HO_8.out BK102.out (by decide))); have n7_ := Aside0.mk (blk_grown (g := gb121) (o := .cells #[.int .i64 t110, .int .i64 t111, .slice Ao24 t112.length co24] 36 (0, 0)) blc hg (Kd.R_ne HO_8.out BK121.out (by decide))); have n8_ := Aside0.mk ((by rw [hw]; exact below_set (HB.out) GB32.out : Below w.heap.size w w35)); clear HO_8; clear HO_11; clear HO_35; clear HO_102002; clear HO_122002; clear BK101; clear BK102; clear BK121; clear HB; have HO_8 := n0_; have HO_11 := n1_; have HO_35 := n2_; have HO_102002 := n3_; have HO_122002 := n4_; have BK101 := n5_; have BK102 := n6_; have BK121 := n7_; have HB := n8_; clear n0_ n1_ n2_ n3_ n4_ n5_ n6_ n7_ n8_; clear hg hw hp_))
             go_roundg k2
             case measure => have := HK1.out; have := HK2.out; omega
             case rel => exact ⟨(y124), (wrap64 (x37_2 + 1)), (by first | rfl | (simp; done) | (simp [*]; done)), H', ⟨by have := HK1.out; have := HK2.out; omega⟩, ⟨rch HO_8⟩, ⟨rch HO_11⟩, ⟨rch HO_35⟩, ⟨by (with_reducible repeat (first | apply Kd.V_alloc | apply Kd.V_drewN | apply Kd.V_drew)); exact Kd.V_mono HO_102002.out (fun _ hk => ⟨hk.1.1, ⟨hk.2, ⟨hk.1.2.1, ⟨hk.1.2.2.1, ⟨hk.1.2.2.2.1, ⟨hk.1.2.2.2.2.1, ⟨hk.1.2.2.2.2.2.1, hk.1.2.2.2.2.2.2⟩⟩⟩⟩⟩⟩⟩)⟩, ⟨rch HO_122002⟩, ⟨blc⟩, ⟨blc⟩, ⟨blc⟩, ⟨bel HB⟩⟩
            ·rw [if_neg c31] at H
             exact absurd H (by simp)
           ·replace c30 := Bool.eq_false_iff.mpr c30
            subst c30
            have H1 : (spec_skTilt.l1 k2 a1 t106 x8_2 x9_1 t115 t118 (t118.length : Int) (wrap64 (x37_2 + 1)) t110 t111 t112) = some (r1, r2, r3, r4) := by rw [if_neg (show ¬ (false = true) by decide)] at H; exact H
            clear H
            have H := H1
            clear H1
            have H' := Aside0.mk H
            clear H
            have p122 : 0 ≤ (x37_2 : Int) := of_decide_eq_true (by first | (with_reducible assumption) | assumption)
            have q122 : x37_2 < (t118.length : Int) := of_decide_eq_true (by first | (with_reducible assumption) | assumption)
            obtain ⟨ad122, e122, hx122_0⟩ := Kd.at_bool (Kd.R_reads' HO_35.out).2.2 x37_2 p122 q122
            (try rw [← Nbq29.out] at hx122_0)
            cases e122
            replace p122 := eq_true p122
            replace q122 := eq_true q122
            go_wp2
            go_roundg k2
            case measure => have := HK1.out; have := HK2.out; omega
            case rel => exact ⟨(x8_2), (wrap64 (x37_2 + 1)), (by first | rfl | (simp; done) | (simp [*]; done)), H', ⟨by have := HK1.out; have := HK2.out; omega⟩, ⟨rch HO_8⟩, ⟨rch HO_11⟩, ⟨rch HO_35⟩, ⟨by (with_reducible repeat (first | apply Kd.V_alloc | apply Kd.V_drewN | apply Kd.V_drew)); (first | exact HO_102002.out | exact R_any HO_102002.out)⟩, ⟨rch HO_122002⟩, ⟨blc⟩, ⟨blc⟩, ⟨blc⟩, ⟨bel HB⟩⟩
          ·rw [if_neg c28] at H
           exact absurd H (by simp)
         ·rw [if_neg c27] at H
          exact absurd H (by simp)
        ·rw [if_neg c26] at H
         have c26b0 : decide (x37_2 < (t118.length : Int)) = false := decide_eq_false c26
         clear c26
         have H' := Aside0.mk H
         clear H
         have hnb36 := NB121_101.out
         have hnc36 := NB101_121.out
         have hnb37 := NB121_102.out
         have hnc37 := NB102_121.out
         have hcz38_0 : wr.cell? ⟨gb121, 0, none⟩ = some (.int .i64 t110) := (blk_cell BK121.out 0).trans rfl
         have hcz38_1 : wr.cell? ⟨gb121, 1, none⟩ = some (.int .i64 t111) := (blk_cell BK121.out 1).trans rfl
         have hcz38_2 : wr.cell? ⟨gb121, 2, none⟩ = some (.slice Ao24 t112.length co24) := (blk_cell BK121.out 2).trans rfl
         have hfz38_0 := blk_frozen BK121.out 0
         have hfz38_1 := blk_frozen BK121.out 1
         have hfz38_2 := blk_frozen BK121.out 2
         have hnb39 := NB101_102.out
         have hnc39 := NB102_101.out
         have hcz40_0 : wr.cell? ⟨gb101, 0, none⟩ = some (.int .i64 x102000_1) := (blk_cell BK101.out 0).trans rfl
         have hcz40_1 : wr.cell? ⟨gb101, 1, none⟩ = some (.int .i64 x102001_1) := (blk_cell BK101.out 1).trans rfl
         have hcz40_2 : wr.cell? ⟨gb101, 2, none⟩ = some (.slice Ao17 x102002_1.length co17) := (blk_cell BK101.out 2).trans rfl
         have hfz40_0 := blk_frozen BK101.out 0
         have hfz40_1 := blk_frozen BK101.out 1
         have hfz40_2 := blk_frozen BK101.out 2
         go_wp2
         go_roundg k2
         case measure => have := HK1.out; have := HK2.out; omega
         case rel => exact ⟨(t115), (x8_2), (wrap64 (x9_1 + 1)), (t110), (t111), (t112), (.slice Ao24 t112.length co24), (by first | rfl | (simp; done) | (simp [*]; done)), H', ⟨by have := HK1.out; have := HK2.out; omega⟩, ⟨by (with_reducible repeat (first | apply Kd.R_alloc | apply Kd.R_drewN | apply Kd.R_drew)); exact Kd.R_mono (Kd.R_far (p := ⟨gb101, 2, none⟩) (Kd.R_far (p := ⟨gb101, 1, none⟩) (Kd.R_far (p := ⟨gb101, 0, none⟩) (Kd.R_types HO_11.out BK101.out (by decide)) (fun _ hk => hk.2) (.int .i64 t110)) (fun _ hk => hk.2) (.int .i64 t111)) (fun _ hk => hk.2) (.slice Ao24 t112.length co24)) (fun _ hk => ⟨hk.1.1, hk.1.2⟩)⟩, ⟨by (with_reducible repeat (first | apply Kd.R_alloc | apply Kd.R_drewN | apply Kd.R_drew)); exact Kd.R_mono (Kd.R_far (p := ⟨gb101, 2, none⟩) (Kd.R_far (p := ⟨gb101, 1, none⟩) (Kd.R_far (p := ⟨gb101, 0, none⟩) (Kd.R_types HO_8.out BK101.out (by decide)) (fun _ hk => hk.2) (.int .i64 t110)) (fun _ hk => hk.2) (.int .i64 t111)) (fun _ hk => hk.2) (.slice Ao24 t112.length co24)) (fun _ hk => ⟨hk.1.1, hk.1.2⟩)⟩, ⟨(by first | exact V_orR (by (with_reducible repeat (first | apply Kd.R_alloc | apply Kd.R_drewN | apply Kd.R_drew)); exact Kd.R_mono (Kd.R_far (p := ⟨gb101, 2, none⟩) (Kd.R_far (p := ⟨gb101, 1, none⟩) (Kd.R_far (p := ⟨gb101, 0, none⟩) (Kd.R_types (Kd.R_types (Kd.R_types (Kd.R_apart' (Kd.R_apart' HO_122002.out (Kd.R_typed HO_11.out) (by decide)) (Kd.R_typed HO_8.out) (by decide)) BK101.out (by decide)) BK102.out (by decide)) BK101.out (by decide)) (fun _ hk => hk.2) (.int .i64 t110)) (fun _ hk => hk.2) (.int .i64 t111)) (fun _ hk => hk.2) (.slice Ao24 t112.length co24)) (fun _ hk => ⟨hk.1.1.1.1.1, ⟨hk.1.1.1.1.2, ⟨hk.1.1.1.2, ⟨hk.1.1.2, hk.1.2⟩⟩⟩⟩)) | exact V_orR0 (by (with_reducible repeat (first | apply Kd.R_alloc | apply Kd.R_drewN | apply Kd.R_drew)); exact Kd.R_mono (Kd.R_far (p := ⟨gb101, 2, none⟩) (Kd.R_far (p := ⟨gb101, 1, none⟩) (Kd.R_far (p := ⟨gb101, 0, none⟩) (Kd.R_types (Kd.R_types (Kd.R_types (Kd.R_apart' (Kd.R_apart' HO_122002.out (Kd.R_typed HO_11.out) (by decide)) (Kd.R_typed HO_8.out) (by decide)) BK101.out (by decide)) BK102.out (by decide)) BK101.out (by decide)) (fun _ hk => hk.2) (.int .i64 t110)) (fun _ hk => hk.2) (.int .i64 t111)) (fun _ hk => hk.2) (.slice Ao24 t112.length co24)) (fun _ hk => ⟨hk.1.1.1.1.1, ⟨hk.1.1.1.1.2, ⟨hk.1.1.1.2, ⟨hk.1.1.2, hk.1.2⟩⟩⟩⟩)))⟩, ⟨by (with_reducible repeat (first | refine blk_drewN ?_ _ | refine blk_drew ?_ | refine blk_alloc ?_ _)); refine blk_put (cs := #[.int .i64 t110, .int .i64 t111, .slice Ao17 x102002_1.length co17]) ?_ 2 _ rfl; (with_reducible repeat (first | refine blk_drewN ?_ _ | refine blk_drew ?_ | refine blk_alloc ?_ _)); refine blk_put (cs := #[.int .i64 t110, .int .i64 x102001_1, .slice Ao17 x102002_1.length co17]) ?_ 1 _ rfl; (with_reducible repeat (first | refine blk_drewN ?_ _ | refine blk_drew ?_ | refine blk_alloc ?_ _)); refine blk_put (cs := #[.int .i64 x102000_1, .int .i64 x102001_1, .slice Ao17 x102002_1.length co17]) ?_ 0 _ rfl; exact blc⟩, ⟨by (with_reducible repeat (first | refine blk_drewN ?_ _ | refine blk_drew ?_ | refine blk_alloc ?_ _)); refine blk_far ?_ NB102_101.out _; (with_reducible repeat (first | refine blk_drewN ?_ _ | refine blk_drew ?_ | refine blk_alloc ?_ _)); refine blk_far ?_ NB102_101.out _; (with_reducible repeat (first | refine blk_drewN ?_ _ | refine blk_drew ?_ | refine blk_alloc ?_ _)); refine blk_far ?_ NB102_101.out _; exact blc⟩, ⟨bel HB⟩⟩
     ·rw [if_neg c13] at H
      have c13b0 : decide (x9_1 < 7) = false := decide_eq_false c13
      clear c13
      simp only [Option.some.injEq, Prod.mk.injEq] at H
      obtain ⟨rfl, rfl, rfl, rfl⟩ := H
      have hnb41 := NB101_102.out
      have hnc41 := NB102_101.out
      have hcz42_0 : wr.cell? ⟨gb101, 0, none⟩ = some (.int .i64 x102000_1) := (blk_cell BK101.out 0).trans rfl
      have hcz42_1 : wr.cell? ⟨gb101, 1, none⟩ = some (.int .i64 x102001_1) := (blk_cell BK101.out 1).trans rfl
      have hcz42_2 : wr.cell? ⟨gb101, 2, none⟩ = some (u102002) := (blk_cell BK101.out 2).trans rfl
      have hfz42_0 := blk_frozen BK101.out 0
      have hfz42_1 := blk_frozen BK101.out 1
      have hfz42_2 := blk_frozen BK101.out 2
      have hcz43_0 : wr.cell? ⟨gb102, 0, none⟩ = some (.int .i64 0) := (blk_cell BK102.out 0).trans rfl
      have hcz43_1 : wr.cell? ⟨gb102, 1, none⟩ = some (.int .i64 0) := (blk_cell BK102.out 1).trans rfl
      have hcz43_2 : wr.cell? ⟨gb102, 2, none⟩ = some (.slice none 0 0) := (blk_cell BK102.out 2).trans rfl
      have hfz43_0 := blk_frozen BK102.out 0
      have hfz43_1 := blk_frozen BK102.out 1
      have hfz43_2 := blk_frozen BK102.out 2
      obtain ⟨Ao44, co44, eo44⟩ := Kd.V_slice HO_102002.out
      subst eo44
      go_wp2
      refine bodyPost_ret (results_ct rfl _ _ gb102 36 #[.int .i64 x102000_1, .int .i64 x102001_1, .slice Ao44 x102002_1.length co44] (0, 0) _ rfl (by (with_reducible repeat (first | refine blk_drewN ?_ _ | refine blk_drew ?_ | refine blk_alloc ?_ _)); refine blk_put (cs := #[.int .i64 x102000_1, .int .i64 x102001_1, .slice none 0 0]) ?_ 2 _ rfl; (with_reducible repeat (first | refine blk_drewN ?_ _ | refine blk_drew ?_ | refine blk_alloc ?_ _)); refine blk_put (cs := #[.int .i64 x102000_1, .int .i64 0, .slice none 0 0]) ?_ 1 _ rfl; (with_reducible repeat (first | refine blk_drewN ?_ _ | refine blk_drew ?_ | refine blk_alloc ?_ _)); refine blk_put (cs := #[.int .i64 0, .int .i64 0, .slice none 0 0]) ?_ 0 _ rfl; exact blc) Tryd.underlying36 rfl (by kernel_rfl)) rfl ?_
      exact ⟨_, _, by first | rfl | (simp [errW_none, errW_some] <;> rfl) | (simp [*, errW_none, errW_some] <;> rfl), by (with_reducible repeat (first | apply Kd.V_alloc | apply Kd.V_drewN | apply Kd.V_drew)); exact Kd.V_mono (Kd.V_far (p := ⟨gb102, 2, none⟩) (Kd.V_far (p := ⟨gb102, 1, none⟩) (Kd.V_far (p := ⟨gb102, 0, none⟩) (Kd.V_mono HO_102002.out (fun k_ hk => (⟨hk, hk.2.2.2.2⟩ : _ ∧ k_ ≠ gb102))) (fun _ hk => hk.2) (.int .i64 x102000_1)) (fun _ hk => hk.2) (.int .i64 x102001_1)) (fun _ hk => hk.2) (.slice Ao44 x102002_1.length co44)) (fun _ hk => ⟨hk.1.1, hk.1.2.2.1⟩), by (with_reducible repeat (first | apply Kd.R_alloc | apply Kd.R_drewN | apply Kd.R_drew)); exact Kd.R_mono (Kd.R_far (p := ⟨gb102, 2, none⟩) (Kd.R_far (p := ⟨gb102, 1, none⟩) (Kd.R_far (p := ⟨gb102, 0, none⟩) (Kd.R_types HO_8.out BK102.out (by decide)) (fun _ hk => hk.2) (.int .i64 x102000_1)) (fun _ hk => hk.2) (.int .i64 x102001_1)) (fun _ hk => hk.2) (.slice Ao44 x102002_1.length co44)) (fun _ hk => hk.1.1), bel HB⟩
  ·rw [if_neg c5] at H
   exact absurd H (by simp)
 ·rw [if_neg c4] at H
  exact absurd H (by simp)
end Go.Proofs.YtgipkpiddjjhcaaDoor.Q
end
section
namespace Go.Proofs.YtgipkpiddjjhcaaDoor.Q
open Go.RowKit Go.Proofs.YtgipkpiddjjhcaaDoorW.PrintWords Go.Proofs.YtgipkpiddjjhcaaDoorW.PrintLast Go.Proofs.YtgipkpiddjjhcaaDoorW.PrintMore
attribute [local go_sem] max2_int min2_int max_two min_two max_three min_three max_four min_four
set_option linter.unusedVariables false
set_option linter.unusedSimpArgs false
def impl_bit.f (a0 : Bool) : Option (Int) := if a0 = true then (some 1) else (some 0)
set_option maxHeartbeats 8000000 in
set_option maxRecDepth 100000 in
theorem impl_bit.calls (a0 : Bool) (r : Int) (w : World) (h : impl_bit.f a0 = some r) :
  Calls Tryd.prog 65 #[.bool a0] w fun e w' => e = .returned (.int .i64 r) ∧ Drawn0 w w' := by
 have H : (if a0 = true then (some 1) else (some 0)) = some r := h
 clear h
 by_cases c2 : a0 = true
 ·subst c2
  have H1 : (some 1) = some r := by rw [if_pos rfl] at H; exact H
  clear H
  have H := H1
  clear H1
  obtain rfl := Option.some.inj H
  go_enter Tryd.func65, Tryd.ntmps65
  go_wp2
  go_ret
  exact ⟨by first | rfl | (simp; done) | (simp [*]; done), by repeat (first | exact Drawn0.refl _ | apply Drawn0.step)⟩
 ·replace c2 := Bool.eq_false_iff.mpr c2
  subst c2
  have H1 : (some 0) = some r := by rw [if_neg (show ¬ (false = true) by decide)] at H; exact H
  clear H
  have H := H1
  clear H1
  obtain rfl := Option.some.inj H
  go_enter Tryd.func65, Tryd.ntmps65
  go_wp2
  go_ret
  exact ⟨by first | rfl | (simp; done) | (simp [*]; done), by repeat (first | exact Drawn0.refl _ | apply Drawn0.step)⟩
end Go.Proofs.YtgipkpiddjjhcaaDoor.Q
end
section
namespace Go.Proofs.YtgipkpiddjjhcaaDoor.Q
open Go.RowKit Go.Proofs.YtgipkpiddjjhcaaDoorW.PrintWords Go.Proofs.YtgipkpiddjjhcaaDoorW.PrintLast Go.Proofs.YtgipkpiddjjhcaaDoorW.PrintMore
attribute [local go_sem] max2_int min2_int max_two min_two max_three min_three max_four min_four
set_option linter.unusedVariables false
set_option linter.unusedSimpArgs false
mutual
def impl_tray_stuck.l0 : Nat → Int → List (List Int) → List Int → Int → Int → List Int → Option (Int × Int × List Int × List Int)
 | 0, _, _, _, _, _, _ => none
 | k + 1, x1, x6, x7, x102000, x102001, x102002 => (impl_tray_blocked.f x102000 x102001 x102002 x6 x1).bind fun t109 => ((impl_tray_stuckStep.f x102000 x102001 x102002 x6 x1).bind fun bt112 => (if bt112.2.2.2.2 = true then (impl_tray_stuck.l1 k x1 x7 t109 bt112.2.2.2.1 (x6.length : Int) 0 bt112.1 bt112.2.1 bt112.2.2.1) else (some (x102000, x102001, x102002, x7))))
def impl_tray_stuck.l1 : Nat → Int → List Int → List Bool → List (List Int) → Int → Int → Int → Int → List Int → Option (Int × Int × List Int × List Int)
 | 0, _, _, _, _, _, _, _, _, _ => none
 | k + 1, x1, x7, x8, x10, x35, x36, x122000, x122001, x122002 => if x36 < x35 then (if 0 ≤ x36 then (if x36 < (x7.length : Int) then (if x36 < (x8.length : Int) then ((impl_bit.f (!(rdOf false x8 x36))).bind fun t124 => (impl_tray_stuck.l1 k x1 (x7.set (x36 : Int).toNat (wrap64 ((rd x7 x36) + t124))) x8 x10 x35 (wrap64 (x36 + 1)) x122000 x122001 x122002)) else (none)) else (none)) else (none)) else (impl_tray_stuck.l0 k x1 x10 x7 x122000 x122001 x122002)
end
def impl_tray_stuck.f (k : Nat) (a0_0 : Int) (a0_1 : Int) (l0_2 : List Int) (a1 : Int) : Option (Int × Int × List Int × List Int) := (impl_tray_pieces.f k a0_0 a0_1 l0_2).bind fun t103 => (if 0 ≤ (t103.length : Int) then (if ((t103.length : Int) : Int).toNat ≤ 35184372088832 then (impl_tray_stuck.l0 k a1 t103 (List.replicate ((t103.length : Int) : Int).toNat 0) a0_0 a0_1 l0_2) else (none)) else (none))
def impl_tray_stuck.T10 : Bool × List (List Nat × List Nat) := (true, [([], []), ([], []), ([0, 1], [0, 1]), ([2], [2]), ([], []), ([], []), ([4, 5], [4, 5]), ([6], [6]), ([7], [7]), ([8], [8]), ([3, 9], [3, 9]), ([0, 1, 0, 1, 2, 3, 4, 5, 6, 7, 8, 9, 10], [0, 1]), ([11, 10, 9, 0, 1, 2, 3, 4, 5, 6, 7, 8, 9, 10], [10, 11])])
def impl_tray_stuck.B10 : List Nat := [0, 0, 3, 7, 0, 0, 48, 112, 240, 496, 1023, 2047, 4095]
theorem impl_tray_stuck.tab10 : rtab .any (opsOf Tryd.f37 10) = impl_tray_stuck.T10 := by kernel_rfl
theorem impl_tray_stuck.bits10 : waitsOk impl_tray_stuck.T10.2 impl_tray_stuck.B10 = true := by kernel_rfl
set_option maxHeartbeats 8000000 in
set_option maxRecDepth 100000 in
theorem impl_tray_stuck.calls (k : Nat) (a0_0 : Int) (a0_1 : Int) (P0_2_ : Nat → Prop) (A0_2 : Option Addr) (c0_2 : Nat) (l0_2 : List Int) (a1 : Int) (r1 : Int) (r2 : Int) (r3 : List Int) (r4 : List Int) (w : World) (hs0_2 : Kd.V (Kd.int .u8) 5 w w.heap.size (fun k_ => P0_2_ k_) (.slice A0_2 l0_2.length c0_2) l0_2) (h : impl_tray_stuck.f k a0_0 a0_1 l0_2 a1 = some (r1, r2, r3, r4)) :
  Calls Tryd.prog 37 #[.agg #[.int .i64 a0_0, .int .i64 a0_1, .slice A0_2 l0_2.length c0_2], .int .u8 a1] w fun e w' => ∃ v2_ v3_ : Value, e = .returned (.tuple #[.agg #[.int .i64 r1, .int .i64 r2, v2_], v3_]) ∧ Kd.V (Kd.int .u8) 5 w' w.heap.size (fun k_ => (P0_2_ k_ ∨ w.heap.size ≤ k_) ∧ some k_ ≠ (v3_ : Value).ownBlock) v2_ r3 ∧ Kd.R (Kd.int .i64) 3 w' w.heap.size (fun k_ => (w.heap.size ≤ k_)) v3_ r4 ∧ Below w.heap.size w w' := by
 have hu46 := Tryd.underlying46
 have HO0_2 := Aside0.mk (show Kd.V (Kd.int .u8) 5 w w.heap.size (fun k_ => (P0_2_ k_ ∨ w.heap.size ≤ k_)) (.slice A0_2 l0_2.length c0_2) l0_2 from Kd.V_mono hs0_2 (fun k_ hk => .inl hk))
 have HB := Aside0.mk (Below.refl w.heap.size w)
 have H : ((impl_tray_pieces.f k a0_0 a0_1 l0_2).bind fun t103 => (if 0 ≤ (t103.length : Int) then (if ((t103.length : Int) : Int).toNat ≤ 35184372088832 then (impl_tray_stuck.l0 k a1 t103 (List.replicate ((t103.length : Int) : Int).toNat 0) a0_0 a0_1 l0_2) else (none)) else (none))) = some (r1, r2, r3, r4) := h
 clear h
 replace H := Option.bind_eq_some_iff.mp H
 obtain ⟨t103, A30, H⟩ := H
 replace H : (if 0 ≤ (t103.length : Int) then (if ((t103.length : Int) : Int).toNat ≤ 35184372088832 then (impl_tray_stuck.l0 k a1 t103 (List.replicate ((t103.length : Int) : Int).toNat 0) a0_0 a0_1 l0_2) else (none)) else (none)) = some (r1, r2, r3, r4) := H
 have A3 := Aside0.mk A30
 clear A30
 by_cases c4 : 0 ≤ (t103.length : Int)
 ·rw [if_pos c4] at H
  have c4b0 := eq_true c4
  have c4b1 : decide (0 ≤ (t103.length : Int)) = true := decide_eq_true c4
  clear c4
  by_cases c5 : ((t103.length : Int) : Int).toNat ≤ 35184372088832
  ·rw [if_pos c5] at H
   have c5b0 := eq_true c5
   have c5b1 : decide (((t103.length : Int) : Int).toNat ≤ 35184372088832) = true := decide_eq_true c5
   clear c5
   obtain ⟨y106, hy106⟩ : ∃ y_ : List Int, y_ = (List.replicate ((t103.length : Int) : Int).toNat 0) := ⟨_, rfl⟩
   replace H : (impl_tray_stuck.l0 k a1 t103 y106 a0_0 a0_1 l0_2) = some (r1, r2, r3, r4) := rH hy106 H
   have Ny106 := Aside0.mk hy106
   clear hy106
   have H' := Aside0.mk H
   clear H
   go_enter Tryd.func37, Tryd.ntmps37
   go_wp2_with (first | ((with_reducible refine gate_dst (N := 2) rfl ?_); refine boxE (N := 2) (cs := #[.int .i64 a0_0, .int .i64 a0_1, .slice A0_2 l0_2.length c0_2]) (t := 46) ?_; intro gb101 hg w6 hbox hb; have n0_ := Aside0.mk (Kd.V_below (Kd.V_elderB (by (with_reducible repeat (first | apply Kd.V_alloc | apply Kd.V_drewN | apply Kd.V_drew)); (first | exact HO0_2.out | exact R_any HO0_2.out)) gb101 (Nat.le_of_eq hg.symm)) hb); have n1_ := Aside0.mk (below_step (bel HB) hb); have n2_ := Aside0.mk (hbox); have n3_ := Aside0.mk (gsz hg (bel HB)); have n4_ := Aside0.mk (gsz hg (bel HB)); clear HO0_2; clear HB; have HO0_2 := n0_; have HB := n1_; have BK101 := n2_; have GW101 := n3_; have GE101 := n4_; clear n0_ n1_ n2_ n3_ n4_; clear hb hbox hg) | ((with_reducible refine gate_dst (N := 4) rfl ?_); refine boxE (N := 4) (cs := #[.int .i64 0, .int .i64 0, .slice none 0 0]) (t := 46) ?_; intro gb102 hg w7 hbox hb; have n0_ := Aside0.mk (Kd.V_below (Kd.V_elderB (by (with_reducible repeat (first | apply Kd.V_alloc | apply Kd.V_drewN | apply Kd.V_drew)); (first | exact HO0_2.out | exact R_any HO0_2.out)) gb102 (Nat.le_of_eq hg.symm)) hb); have n1_ := Aside0.mk (blk_below (g := gb101) (o := .cells #[.int .i64 a0_0, .int .i64 a0_1, .slice A0_2 l0_2.length c0_2] 46 (0, 0)) blc hb); have n2_ := Aside0.mk (below_step (bel HB) hb); have n3_ := Aside0.mk (hbox); have n4_ := Aside0.mk (gsz hg (bel HB)); have n5_ := Aside0.mk (gsz hg (bel HB)); have n6_ := Aside0.mk ((by rw [hg]; exact Nat.ne_of_lt (blk_lt (g := gb101) (o := .cells #[.int .i64 a0_0, .int .i64 a0_1, .slice A0_2 l0_2.length c0_2] 46 (0, 0)) blc) : gb101 ≠ gb102)); have n7_ := Aside0.mk ((by rw [hg]; exact Nat.ne_of_gt (blk_lt (g := gb101) (o := .cells #[.int .i64 a0_0, .int .i64 a0_1, .slice A0_2 l0_2.length c0_2] 46 (0, 0)) blc) : gb102 ≠ gb101)); clear HO0_2; clear BK101; clear HB; have HO0_2 := n0_; have BK101 := n1_; have HB := n2_; have BK102 := n3_; have GW102 := n4_; have GE102 := n5_; have NB101_102 := n6_; have NB102_101 := n7_; clear n0_ n1_ n2_ n3_ n4_ n5_ n6_ n7_; clear hb hbox hg; have hnb8 := NB101_102.out; have hnc8 := NB102_101.out; have hcz9_0 : w7.cell? ⟨gb101, 0, none⟩ = some (.int .i64 a0_0) := (blk_cell BK101.out 0).trans rfl; have hcz9_1 : w7.cell? ⟨gb101, 1, none⟩ = some (.int .i64 a0_1) := (blk_cell BK101.out 1).trans rfl; have hcz9_2 : w7.cell? ⟨gb101, 2, none⟩ = some (.slice A0_2 l0_2.length c0_2) := (blk_cell BK101.out 2).trans rfl; have hfz9_0 := blk_frozen BK101.out 0; have hfz9_1 := blk_frozen BK101.out 1; have hfz9_2 := blk_frozen BK101.out 2) | ((with_reducible refine gate_callee (f := 34) rfl ?_); refine gcall (some 14) Tryd.func34 #[.agg #[.int .i64 a0_0, .int .i64 a0_1, .slice A0_2 l0_2.length c0_2]] rfl ?_; (with_reducible refine (impl_tray_pieces.calls k a0_0 a0_1 _ _ l0_2 t103 _ ?side1 ?side2 A3.out).mono ?_); (case side1 => repeat (first | exact (Kd.V_reads' HO0_2.out).2.2 | (with_reducible refine Kd.C_alloc ?_ _) | (with_reducible refine Kd.C_drewN ?_ _) | (with_reducible refine Kd.C_drew ?_))); (case side2 => exact (Kd.V_reads' HO0_2.out).2.1); rintro e w10 ⟨v104, rfl, ho0, hb⟩; refine ⟨_, rfl, ?_⟩; have n0_ := Aside0.mk (Kd.V_elder' (by (with_reducible repeat (first | apply Kd.V_alloc | apply Kd.V_drewN | apply Kd.V_drew)); (first | exact HO0_2.out | exact R_any HO0_2.out)) (Kd.S_base ho0) hb); have n1_ := Aside0.mk (Kd.S_lower (Kd.S_newM (M := fun k_ => (w.heap.size ≤ k_)) ho0 (below_size (bel HB)) (fun k_ h_ => h_)) (below_size (bel HB))); have n2_ := Aside0.mk (blk_below (g := gb101) (o := .cells #[.int .i64 a0_0, .int .i64 a0_1, .slice A0_2 l0_2.length c0_2] 46 (0, 0)) blc hb); have n3_ := Aside0.mk (blk_below (g := gb102) (o := .cells #[.int .i64 0, .int .i64 0, .slice none 0 0] 46 (0, 0)) blc hb); have n4_ := Aside0.mk (below_step (bel HB) hb); clear HO0_2; clear BK101; clear BK102; clear HB; have HO0_2 := n0_; have HO105 := n1_; have BK101 := n2_; have BK102 := n3_; have HB := n4_; clear n0_ n1_ n2_ n3_ n4_; (try clear hb); (try clear hb2); (try clear hk); (try clear hi); (try clear ho0); obtain ⟨Ao11, co11, eo11⟩ := Kd.S_slice HO105.out; subst eo11) | ((with_reducible refine gate_dst (N := 17) rfl ?_); refine Kd.R_make (Kd.int .i64) _ 3 rfl (N := 17) rfl 25 _ _ rfl (t103.length : Int) rfl rfl Tryd.underlying25 (.int .i64 0) 8 info3 rfl (by decide) (by omega) 0 (ok := fun _ => True) (okp := fun _ => True) rfl (fun _ hk => hk) trivial (of_decide_eq_true (by first | (with_reducible assumption) | assumption)) (Nat.le_trans (Nat.mul_le_mul_right _ (of_decide_eq_true (by first | (with_reducible assumption) | assumption) : (t103.length : Int).toNat ≤ 35184372088832)) (by omega)) (Below.refl _ _) (Nat.le_refl _) ?_; intro v107 w12 ho13 hb hg_ hnew_; clear hg_ hnew_; (first | rw [← Ny106.out] at ho13 | (simp only [Int.reduceToNat] at ho13; rw [← Ny106.out] at ho13)); have n0_ := Aside0.mk (Kd.V_elder' (by (with_reducible repeat (first | apply Kd.V_alloc | apply Kd.V_drewN | apply Kd.V_drew)); (first | exact HO0_2.out | exact R_any HO0_2.out)) (Kd.R_base ho13) hb); have n1_ := Aside0.mk (Kd.S_elder' (by (with_reducible repeat (first | apply Kd.S_alloc | apply Kd.S_drewN | apply Kd.S_drew)); (first | exact HO105.out | exact R_any HO105.out)) (Kd.R_base ho13) hb); have n2_ := Aside0.mk (Kd.R_lower (Kd.R_newM (M := fun k_ => (w.heap.size ≤ k_)) ho13 (below_size (bel HB)) (fun k_ h_ => h_)) (below_size (bel HB))); have n3_ := Aside0.mk (blk_below (g := gb101) (o := .cells #[.int .i64 a0_0, .int .i64 a0_1, .slice A0_2 l0_2.length c0_2] 46 (0, 0)) blc hb); have n4_ := Aside0.mk (blk_below (g := gb102) (o := .cells #[.int .i64 0, .int .i64 0, .slice none 0 0] 46 (0, 0)) blc hb); have n5_ := Aside0.mk (below_step (bel HB) hb); clear HO0_2; clear HO105; clear BK101; clear BK102; clear HB; have HO0_2 := n0_; have HO105 := n1_; have HO108 := n2_; have BK101 := n3_; have BK102 := n4_; have HB := n5_; clear n0_ n1_ n2_ n3_ n4_ n5_; clear hb ho13))
   go_loopg [6] k (fun kq v6 w' => ∃ (x6_1 : List (List Int)) (x7_1 : List Int) (x102000_1 : Int) (x102001_1 : Int) (x102002_1 : List Int) (x103000_1 : Int) (x103001_1 : Int) (u102002 : Value), Aside0 (impl_tray_stuck.l0 kq a1 x6_1 x7_1 x102000_1 x102001_1 x102002_1 = some (r1, r2, r3, r4)) ∧ Aside0 (kq ≤ k) ∧ Aside0 (Kd.S (Kd.slice 3 (Kd.int .i64)) 25 w' w.heap.size (fun k_ => (w.heap.size ≤ k_) ∧ some k_ ≠ (v107 : Value).ownBlock) v6 x6_1) ∧ Aside0 (Kd.R (Kd.int .i64) 3 w' w.heap.size (fun k_ => (w.heap.size ≤ k_)) v107 x7_1) ∧ Aside0 (Kd.V (Kd.int .u8) 5 w' w.heap.size (fun k_ => (P0_2_ k_ ∨ w.heap.size ≤ k_) ∧ some k_ ≠ (v6 : Value).ownBlock ∧ some k_ ≠ (v107 : Value).ownBlock ∧ k_ ≠ gb101 ∧ k_ ≠ gb102) u102002 x102002_1) ∧ Aside0 (w'.heap[gb101]? = some (.cells #[.int .i64 x102000_1, .int .i64 x102001_1, u102002] 46 (0, 0))) ∧ Aside0 (w'.heap[gb102]? = some (.cells #[.int .i64 x103000_1, .int .i64 x103001_1, (.slice none 0 0)] 46 (0, 0))) ∧ Aside0 (Below w.heap.size w w'))
   case atStart => exact ⟨(t103), (y106), (a0_0), (a0_1), (l0_2), (0), (0), (.slice A0_2 l0_2.length c0_2), H', ⟨Nat.le_refl _⟩, ⟨by (with_reducible repeat (first | apply Kd.S_alloc | apply Kd.S_drewN | apply Kd.S_drew)); exact Kd.S_mono HO105.out (fun _ hk => ⟨hk.1.1, hk.2⟩)⟩, ⟨by (with_reducible repeat (first | apply Kd.R_alloc | apply Kd.R_drewN | apply Kd.R_drew)); exact Kd.R_mono HO108.out (fun _ hk => hk.1)⟩, ⟨by (with_reducible repeat (first | apply Kd.V_alloc | apply Kd.V_drewN | apply Kd.V_drew)); exact Kd.V_mono HO0_2.out (fun _ hk => ⟨hk.1.1.1.1, ⟨hk.1.2, ⟨hk.2, ⟨hk.1.1.1.2, hk.1.1.2⟩⟩⟩⟩)⟩, ⟨blc⟩, ⟨blc⟩, ⟨bel HB⟩⟩
   case round =>
    clear H'
    try clear p2
    try clear c3
    try clear c4
    try clear c4b0
    try clear c4b0y
    try clear c4b1
    try clear c5
    try clear c5b0
    try clear c5b0y
    try clear c5b1
    try clear c8
    try clear hcz9_0
    try clear hcz9_1
    try clear hcz9_2
    try clear hfz9_0
    try clear hfz9_1
    try clear hfz9_2
    obtain ⟨x6_1, x7_1, x102000_1, x102001_1, x102002_1, x103000_1, x103001_1, u102002, HA, HK1, HO_6, HO_7, HO_102002, BK101, BK102, HB⟩ := hrel
    cases gk with
    | zero => exact absurd HA.out (by simp [impl_tray_stuck.l0])
    | succ k1 =>
     have H := HA.out
     clear HA
     simp only [impl_tray_stuck.l0] at H
     replace H := Option.bind_eq_some_iff.mp H
     obtain ⟨t109, A140, H⟩ := H
     replace H : ((impl_tray_stuckStep.f x102000_1 x102001_1 x102002_1 x6_1 a1).bind fun bt112 => (if bt112.2.2.2.2 = true then (impl_tray_stuck.l1 k1 a1 x7_1 t109 bt112.2.2.2.1 (x6_1.length : Int) 0 bt112.1 bt112.2.1 bt112.2.2.1) else (some (x102000_1, x102001_1, x102002_1, x7_1)))) = some (r1, r2, r3, r4) := H
     have A14 := Aside0.mk A140
     clear A140
     replace H := Option.bind_eq_some_iff.mp H
     obtain ⟨⟨t112, t113, t114, t117, t120⟩, A150, H⟩ := H
     replace H : (if t120 = true then (impl_tray_stuck.l1 k1 a1 x7_1 t109 t117 (x6_1.length : Int) 0 t112 t113 t114) else (some (x102000_1, x102001_1, x102002_1, x7_1))) = some (r1, r2, r3, r4) := H
     have A15 := Aside0.mk A150
     clear A150
     by_cases c16 : t120 = true
     ·subst c16
      have H1 : (impl_tray_stuck.l1 k1 a1 x7_1 t109 t117 (x6_1.length : Int) 0 t112 t113 t114) = some (r1, r2, r3, r4) := by rw [if_pos rfl] at H; exact H
      clear H
      have H := H1
      clear H1
      have H' := Aside0.mk H
      clear H
      have hnb17 := NB101_102.out
      have hnc17 := NB102_101.out
      have hcz18_0 : wr.cell? ⟨gb101, 0, none⟩ = some (.int .i64 x102000_1) := (blk_cell BK101.out 0).trans rfl
      have hcz18_1 : wr.cell? ⟨gb101, 1, none⟩ = some (.int .i64 x102001_1) := (blk_cell BK101.out 1).trans rfl
      have hcz18_2 : wr.cell? ⟨gb101, 2, none⟩ = some (u102002) := (blk_cell BK101.out 2).trans rfl
      have hfz18_0 := blk_frozen BK101.out 0
      have hfz18_1 := blk_frozen BK101.out 1
      have hfz18_2 := blk_frozen BK101.out 2
      obtain ⟨Ao19, co19, eo19⟩ := Kd.V_slice HO_102002.out
      subst eo19
      obtain ⟨Ao20, co20, eo20⟩ := Kd.S_slice HO_6.out
      subst eo20
      go_wp2_with (first | ((with_reducible refine gate_callee (f := 59) rfl ?_); refine gcall (some 21) Tryd.func59 #[.agg #[.int .i64 x102000_1, .int .i64 x102001_1, .slice Ao19 x102002_1.length co19], .slice Ao20 x6_1.length co20, .int .u8 a1] rfl ?_; (with_reducible refine (impl_tray_blocked.calls x102000_1 x102001_1 _ _ x102002_1 _ _ x6_1 a1 t109 _ ?side1 ?side2 ?side3 ?side4 A14.out).mono ?_); (case side1 => repeat (first | exact (Kd.V_reads' HO_102002.out).2.2 | (with_reducible refine Kd.C_alloc ?_ _) | (with_reducible refine Kd.C_drewN ?_ _) | (with_reducible refine Kd.C_drew ?_))); (case side2 => exact (Kd.V_reads' HO_102002.out).2.1); (case side3 => repeat (first | exact (Kd.S_reads' HO_6.out).2.2 | (with_reducible refine Kd.C_alloc ?_ _) | (with_reducible refine Kd.C_drewN ?_ _) | (with_reducible refine Kd.C_drew ?_))); (case side4 => exact (Kd.S_reads' HO_6.out).2.1); rintro e w21 ⟨v110, rfl, ho0, hb⟩; refine ⟨_, rfl, ?_⟩; have n0_ := Aside0.mk (Kd.S_below (by (with_reducible repeat (first | apply Kd.S_alloc | apply Kd.S_drewN | apply Kd.S_drew)); (first | exact HO_6.out | exact R_any HO_6.out)) hb); have n1_ := Aside0.mk (Kd.R_below (rch HO_7) hb); have n2_ := Aside0.mk (Kd.V_elder' (by (with_reducible repeat (first | apply Kd.V_alloc | apply Kd.V_drewN | apply Kd.V_drew)); (first | exact HO_102002.out | exact R_any HO_102002.out)) (Kd.R_base ho0) hb); have n3_ := Aside0.mk (Kd.R_lower (Kd.R_newM (M := fun k_ => (w.heap.size ≤ k_)) ho0 (below_size (bel HB)) (fun k_ h_ => h_)) (below_size (bel HB))); have n4_ := Aside0.mk (blk_below (g := gb101) (o := .cells #[.int .i64 x102000_1, .int .i64 x102001_1, .slice Ao19 x102002_1.length co19] 46 (0, 0)) blc hb); have n5_ := Aside0.mk (blk_below (g := gb102) (o := .cells #[.int .i64 x103000_1, .int .i64 x103001_1, .slice none 0 0] 46 (0, 0)) blc hb); have n6_ := Aside0.mk (below_step (bel HB) hb); clear HO_6; clear HO_7; clear HO_102002; clear BK101; clear BK102; clear HB; have HO_6 := n0_; have HO_7 := n1_; have HO_102002 := n2_; have HO111 := n3_; have BK101 := n4_; have BK102 := n5_; have HB := n6_; clear n0_ n1_ n2_ n3_ n4_ n5_ n6_; (try clear hb); (try clear hb2); (try clear hk); (try clear hi); (try clear ho0); have hcz22_0 : w21.cell? ⟨gb101, 0, none⟩ = some (.int .i64 x102000_1) := (blk_cell BK101.out 0).trans rfl; have hcz22_1 : w21.cell? ⟨gb101, 1, none⟩ = some (.int .i64 x102001_1) := (blk_cell BK101.out 1).trans rfl; have hcz22_2 : w21.cell? ⟨gb101, 2, none⟩ = some (.slice Ao19 x102002_1.length co19) := (blk_cell BK101.out 2).trans rfl; have hfz22_0 := blk_frozen BK101.out 0; have hfz22_1 := blk_frozen BK101.out 1; have hfz22_2 := blk_frozen BK101.out 2) | ((with_reducible refine gate_callee (f := 33) rfl ?_); refine gcall (some 26) Tryd.func33 #[.agg #[.int .i64 x102000_1, .int .i64 x102001_1, .slice Ao19 x102002_1.length co19], .slice Ao20 x6_1.length co20, .int .u8 a1] rfl ?_; (with_reducible refine (impl_tray_stuckStep.calls x102000_1 x102001_1 _ _ x102002_1 _ _ x6_1 a1 t112 t113 t114 t117 true _ ?side1 ?side2 ?side3 ?side4 A15.out).mono ?_); (case side1 => repeat (first | exact (Kd.V_reads' HO_102002.out).2.2 | (with_reducible refine Kd.C_alloc ?_ _) | (with_reducible refine Kd.C_drewN ?_ _) | (with_reducible refine Kd.C_drew ?_))); (case side2 => exact (Kd.V_reads' HO_102002.out).2.1); (case side3 => repeat (first | exact (Kd.S_reads' HO_6.out).2.2 | (with_reducible refine Kd.C_alloc ?_ _) | (with_reducible refine Kd.C_drewN ?_ _) | (with_reducible refine Kd.C_drew ?_))); (case side4 => exact (Kd.S_reads' HO_6.out).2.1); rintro e w23 ⟨v115, v118, rfl, ho0, ho1, hb⟩; refine ⟨_, rfl, ?_⟩; have n0_ := Aside0.mk (Kd.S_elder' (by (with_reducible repeat (first | apply Kd.S_alloc | apply Kd.S_drewN | apply Kd.S_drew)); (first | exact HO_6.out | exact R_any HO_6.out)) (Kd.S_base ho1) hb); have n1_ := Aside0.mk (Kd.R_below (rch HO_7) hb); have n2_ := Aside0.mk (Kd.V_mono (Kd.V_told (Kd.V_told (Kd.V_old (by (with_reducible repeat (first | apply Kd.V_alloc | apply Kd.V_drewN | apply Kd.V_drew)); (first | exact HO_102002.out | exact R_any HO_102002.out)) hb) (Kd.R_base ho0)) (Kd.S_base ho1)) (fun _ h_ => h_.1)); have n3_ := Aside0.mk (Kd.R_below (rch HO111) hb); have n4_ := Aside0.mk (Kd.R_lower (Kd.R_newM (M := fun k_ => (w.heap.size ≤ k_)) ho0 (below_size (bel HB)) (fun k_ h_ => h_)) (below_size (bel HB))); have n5_ := Aside0.mk (Kd.S_lower (Kd.S_new' (Kd.S_new' (Kd.S_newM (M := fun k_ => (w.heap.size ≤ k_)) ho1 (below_size (bel HB)) (fun k_ h_ => h_)) (Kd.S_lt (by (with_reducible repeat (first | apply Kd.S_alloc | apply Kd.S_drewN | apply Kd.S_drew)); (first | exact HO_6.out | exact R_any HO_6.out)))) (Kd.R_lt (rch HO_7))) (below_size (bel HB))); have n6_ := Aside0.mk (blk_below (g := gb101) (o := .cells #[.int .i64 x102000_1, .int .i64 x102001_1, .slice Ao19 x102002_1.length co19] 46 (0, 0)) blc hb); have n7_ := Aside0.mk (blk_below (g := gb102) (o := .cells #[.int .i64 x103000_1, .int .i64 x103001_1, .slice none 0 0] 46 (0, 0)) blc hb); have n8_ := Aside0.mk (below_step (bel HB) hb); clear HO_6; clear HO_7; clear HO_102002; clear HO111; clear BK101; clear BK102; clear HB; have HO_6 := n0_; have HO_7 := n1_; have HO_102002 := n2_; have HO111 := n3_; have HO116 := n4_; have HO119 := n5_; have BK101 := n6_; have BK102 := n7_; have HB := n8_; clear n0_ n1_ n2_ n3_ n4_ n5_ n6_ n7_ n8_; (try clear hb); (try clear hb2); (try clear hk); (try clear hi); (try clear ho0); (try clear ho1)) | ((with_reducible refine gate_dst (N := 9) rfl ?_); refine boxE (N := 9) (cs := #[.int .i64 0, .int .i64 0, .slice none 0 0]) (t := 46) ?_; intro gb121 hg w24 hbox hb; have n0_ := Aside0.mk (Kd.S_below (by (with_reducible repeat (first | apply Kd.S_alloc | apply Kd.S_drewN | apply Kd.S_drew)); (first | exact HO_6.out | exact R_any HO_6.out)) hb); have n1_ := Aside0.mk (Kd.R_below (rch HO_7) hb); have n2_ := Aside0.mk (Kd.V_below (Kd.V_elderB (by (with_reducible repeat (first | apply Kd.V_alloc | apply Kd.V_drewN | apply Kd.V_drew)); (first | exact HO_102002.out | exact R_any HO_102002.out)) gb121 (Nat.le_of_eq hg.symm)) hb); have n3_ := Aside0.mk (Kd.R_below (rch HO111) hb); have n4_ := Aside0.mk (Kd.R_below (rch HO116) hb); have n5_ := Aside0.mk (Kd.S_below (by (with_reducible repeat (first | apply Kd.S_alloc | apply Kd.S_drewN | apply Kd.S_drew)); (first | exact HO119.out | exact R_any HO119.out)) hb); have n6_ := Aside0.mk (blk_below (g := gb101) (o := .cells #[.int .i64 x102000_1, .int .i64 x102001_1, .slice Ao19 x102002_1.length co19] 46 (0, 0)) blc hb); have n7_ := Aside0.mk (blk_below (g := gb102) (o := .cells #[.int .i64 x103000_1, .int .i64 x103001_1, .slice none 0 0] 46 (0, 0)) blc hb); have n8_ := Aside0.mk (below_step (bel HB) hb); have n9_ := Aside0.mk (hbox); have n10_ := Aside0.mk (gsz hg (bel HB)); have n11_ := Aside0.mk (gsz hg (bel HB)); have n12_ := Aside0.mk ((by rw [hg]; exact Nat.ne_of_lt (blk_lt (g := gb101) (o := .cells #[.int .i64 x102000_1, .int .i64 x102001_1, .slice Ao19 x102002_1.length co19] 46 (0, 0)) blc) : gb101 ≠ gb121)); have n13_ := Aside0.mk ((by rw [hg]; exact Nat.ne_of_gt (blk_lt (g := gb101) (o := .cells #[.int .i64 x102000_1, .int .i64 x102001_1, .slice Ao19 x102002_1.length co19] 46 (0, 0)) blc) : gb121 ≠ gb101)); have n14_ := Aside0.mk ((by rw [hg]; exact Nat.ne_of_lt (blk_lt (g := gb102) (o := .cells #[.int .i64 x103000_1, .int .i64 x103001_1, .slice none 0 0] 46 (0, 0)) blc) : gb102 ≠ gb121)); have n15_ := Aside0.mk ((by rw [hg]; exact Nat.ne_of_gt (blk_lt (g := gb102) (o := .cells #[.int .i64 x103000_1, .int .i64 x103001_1, .slice none 0 0] 46 (0, 0)) blc) : gb121 ≠ gb102)); clear HO_6; clear HO_7; clear HO_102002; clear HO111; clear HO116; clear HO119; clear BK101; clear BK102; clear HB; have HO_6 := n0_; have HO_7 := n1_; have HO_102002 := n2_; have HO111 := n3_; have HO116 := n4_; have HO119 := n5_; have BK101 := n6_; have BK102 := n7_; have HB := n8_; have BK121 := n9_; have GW121 := n10_; have GE121 := n11_; have NB101_121 := n12_; have NB121_101 := n13_; have NB102_121 := n14_; have NB121_102 := n15_; clear n0_ n1_ n2_ n3_ n4_ n5_ n6_ n7_ n8_ n9_ n10_ n11_ n12_ n13_ n14_ n15_; clear hb hbox hg; have hnb25 := NB121_101.out; have hnc25 := NB101_121.out; have hnb26 := NB121_102.out; have hnc26 := NB102_121.out; have hcz27_0 : w24.cell? ⟨gb121, 0, none⟩ = some (.int .i64 0) := (blk_cell BK121.out 0).trans rfl; have hcz27_1 : w24.cell? ⟨gb121, 1, none⟩ = some (.int .i64 0) := (blk_cell BK121.out 1).trans rfl; have hcz27_2 : w24.cell? ⟨gb121, 2, none⟩ = some (.slice none 0 0) := (blk_cell BK121.out 2).trans rfl; have hfz27_0 := blk_frozen BK121.out 0; have hfz27_1 := blk_frozen BK121.out 1; have hfz27_2 := blk_frozen BK121.out 2; obtain ⟨Ao28, co28, eo28⟩ := Kd.R_slice HO116.out; subst eo28))
      go_loopg [36] k1 (fun kq v36 w' => ∃ (x7_2 : List Int) (x36_2 : Int), v36 = .int .i64 x36_2 ∧ Aside0 (impl_tray_stuck.l1 kq a1 x7_2 t109 t117 (x6_1.length : Int) x36_2 t112 t113 t114 = some (r1, r2, r3, r4)) ∧ Aside0 (kq ≤ k1) ∧ Aside0 (Kd.R (Kd.int .i64) 3 w' w.heap.size (fun k_ => (w.heap.size ≤ k_)) v107 x7_2) ∧ Aside0 (Kd.R Kd.bool 4 w' w.heap.size (fun k_ => (w.heap.size ≤ k_)) v110 t109) ∧ Aside0 (Kd.S (Kd.slice 3 (Kd.int .i64)) 25 w' w.heap.size (fun k_ => (w.heap.size ≤ k_) ∧ some k_ ≠ (v107 : Value).ownBlock) v118 t117) ∧ Aside0 (Kd.V (Kd.int .u8) 5 w' w.heap.size (fun k_ => (P0_2_ k_ ∨ w.heap.size ≤ k_) ∧ some k_ ≠ (v107 : Value).ownBlock ∧ some k_ ≠ (v110 : Value).ownBlock ∧ some k_ ≠ (v118 : Value).ownBlock ∧ some k_ ≠ ((.slice Ao28 t114.length co28) : Value).ownBlock ∧ k_ ≠ gb101 ∧ k_ ≠ gb102 ∧ k_ ≠ gb121) (.slice Ao19 x102002_1.length co19) x102002_1) ∧ Aside0 (Kd.R (Kd.int .u8) 5 w' w.heap.size (fun k_ => (w.heap.size ≤ k_)) (.slice Ao28 t114.length co28) t114) ∧ Aside0 (w'.heap[gb101]? = some (.cells #[.int .i64 x102000_1, .int .i64 x102001_1, (.slice Ao19 x102002_1.length co19)] 46 (0, 0))) ∧ Aside0 (w'.heap[gb102]? = some (.cells #[.int .i64 x103000_1, .int .i64 x103001_1, (.slice none 0 0)] 46 (0, 0))) ∧ Aside0 (w'.heap[gb121]? = some (.cells #[.int .i64 t112, .int .i64 t113, (.slice Ao28 t114.length co28)] 46 (0, 0))) ∧ Aside0 (Below w.heap.size w w'))
      case atStart => exact ⟨(x7_1), (0), (by first | rfl | (simp; done) | (simp [*]; done)), H', ⟨Nat.le_refl _⟩, ⟨by (with_reducible repeat (first | apply Kd.R_alloc | apply Kd.R_drewN | apply Kd.R_drew)); exact Kd.R_mono (Kd.R_far (p := ⟨gb121, 2, none⟩) (Kd.R_far (p := ⟨gb121, 1, none⟩) (Kd.R_far (p := ⟨gb121, 0, none⟩) (Kd.R_types HO_7.out BK121.out (by decide)) (fun _ hk => hk.2) (.int .i64 t112)) (fun _ hk => hk.2) (.int .i64 t113)) (fun _ hk => hk.2) (.slice Ao28 t114.length co28)) (fun _ hk => hk.1)⟩, ⟨by (with_reducible repeat (first | apply Kd.R_alloc | apply Kd.R_drewN | apply Kd.R_drew)); exact Kd.R_mono (Kd.R_far (p := ⟨gb121, 2, none⟩) (Kd.R_far (p := ⟨gb121, 1, none⟩) (Kd.R_far (p := ⟨gb121, 0, none⟩) (Kd.R_types HO111.out BK121.out (by decide)) (fun _ hk => hk.2) (.int .i64 t112)) (fun _ hk => hk.2) (.int .i64 t113)) (fun _ hk => hk.2) (.slice Ao28 t114.length co28)) (fun _ hk => hk.1.1)⟩, ⟨by (with_reducible repeat (first | apply Kd.S_alloc | apply Kd.S_drewN | apply Kd.S_drew)); exact Kd.S_mono (Kd.S_far (p := ⟨gb121, 2, none⟩) (Kd.S_far (p := ⟨gb121, 1, none⟩) (Kd.S_far (p := ⟨gb121, 0, none⟩) (Kd.S_types HO119.out BK121.out (by decide)) (fun _ hk => hk.2) (.int .i64 t112)) (fun _ hk => hk.2) (.int .i64 t113)) (fun _ hk => hk.2) (.slice Ao28 t114.length co28)) (fun _ hk => ⟨hk.1.1.1.1, hk.1.2⟩)⟩, ⟨by (with_reducible repeat (first | apply Kd.V_alloc | apply Kd.V_drewN | apply Kd.V_drew)); exact Kd.V_mono (Kd.V_far (p := ⟨gb121, 2, none⟩) (Kd.V_far (p := ⟨gb121, 1, none⟩) (Kd.V_far (p := ⟨gb121, 0, none⟩) (Kd.V_mono HO_102002.out (fun k_ hk => (⟨hk, hk.2⟩ : _ ∧ k_ ≠ gb121))) (fun _ hk => hk.2) (.int .i64 t112)) (fun _ hk => hk.2) (.int .i64 t113)) (fun _ hk => hk.2) (.slice Ao28 t114.length co28)) (fun _ hk => ⟨hk.1.1.1.1.1.1, ⟨hk.1.1.1.1.1.2.2.1, ⟨hk.1.1.1.1.2, ⟨hk.1.1.2, ⟨hk.1.1.1.2, ⟨hk.1.1.1.1.1.2.2.2.1, ⟨hk.1.1.1.1.1.2.2.2.2, hk.1.2⟩⟩⟩⟩⟩⟩⟩)⟩, ⟨by (with_reducible repeat (first | apply Kd.R_alloc | apply Kd.R_drewN | apply Kd.R_drew)); exact Kd.R_mono (Kd.R_far (p := ⟨gb121, 2, none⟩) (Kd.R_far (p := ⟨gb121, 1, none⟩) (Kd.R_far (p := ⟨gb121, 0, none⟩) (Kd.R_types HO116.out BK121.out (by decide)) (fun _ hk => hk.2) (.int .i64 t112)) (fun _ hk => hk.2) (.int .i64 t113)) (fun _ hk => hk.2) (.slice Ao28 t114.length co28)) (fun _ hk => hk.1.1)⟩, ⟨by (with_reducible repeat (first | refine blk_drewN ?_ _ | refine blk_drew ?_ | refine blk_alloc ?_ _)); refine blk_far ?_ NB101_121.out _; (with_reducible repeat (first | refine blk_drewN ?_ _ | refine blk_drew ?_ | refine blk_alloc ?_ _)); refine blk_far ?_ NB101_121.out _; (with_reducible repeat (first | refine blk_drewN ?_ _ | refine blk_drew ?_ | refine blk_alloc ?_ _)); refine blk_far ?_ NB101_121.out _; exact blc⟩, ⟨by (with_reducible repeat (first | refine blk_drewN ?_ _ | refine blk_drew ?_ | refine blk_alloc ?_ _)); refine blk_far ?_ NB102_121.out _; (with_reducible repeat (first | refine blk_drewN ?_ _ | refine blk_drew ?_ | refine blk_alloc ?_ _)); refine blk_far ?_ NB102_121.out _; (with_reducible repeat (first | refine blk_drewN ?_ _ | refine blk_drew ?_ | refine blk_alloc ?_ _)); refine blk_far ?_ NB102_121.out _; exact blc⟩, ⟨by (with_reducible repeat (first | refine blk_drewN ?_ _ | refine blk_drew ?_ | refine blk_alloc ?_ _)); refine blk_put (cs := #[.int .i64 t112, .int .i64 t113, .slice none 0 0]) ?_ 2 _ rfl; (with_reducible repeat (first | refine blk_drewN ?_ _ | refine blk_drew ?_ | refine blk_alloc ?_ _)); refine blk_put (cs := #[.int .i64 t112, .int .i64 0, .slice none 0 0]) ?_ 1 _ rfl; (with_reducible repeat (first | refine blk_drewN ?_ _ | refine blk_drew ?_ | refine blk_alloc ?_ _)); refine blk_put (cs := #[.int .i64 0, .int .i64 0, .slice none 0 0]) ?_ 0 _ rfl; exact blc⟩, ⟨bel HB⟩⟩
      case round =>
       clear H'
       try clear c1
       try clear c2
       try clear p2
       try clear c3
       try clear c4
       try clear c4b0
       try clear c4b0y
       try clear c4b1
       try clear c5
       try clear c5b0
       try clear c5b0y
       try clear c5b1
       try clear c8
       try clear c16
       try clear c17
       try clear c25
       try clear c26
       try clear hcz18_0
       try clear hcz18_1
       try clear hcz18_2
       try clear hcz22_0
       try clear hcz22_1
       try clear hcz22_2
       try clear hcz27_0
       try clear hcz27_1
       try clear hcz27_2
       try clear hcz9_0
       try clear hcz9_1
       try clear hcz9_2
       try clear hfz18_0
       try clear hfz18_1
       try clear hfz18_2
       try clear hfz22_0
       try clear hfz22_1
       try clear hfz22_2
       try clear hfz27_0
       try clear hfz27_1
       try clear hfz27_2
       try clear hfz9_0
       try clear hfz9_1
       try clear hfz9_2
       try clear p2
       obtain ⟨x7_2, x36_2, rfl, HA, HK2, HO_7, HO_8, HO_10, HO_102002, HO_122002, BK101, BK102, BK121, HB⟩ := hrel
       cases gk with
       | zero => exact absurd HA.out (by simp [impl_tray_stuck.l1])
       | succ k2 =>
        have H := HA.out
        clear HA
        simp only [impl_tray_stuck.l1] at H
        by_cases c29 : x36_2 < (x6_1.length : Int)
        ·rw [if_pos c29] at H
         have c29b0 : decide (x36_2 < (x6_1.length : Int)) = true := decide_eq_true c29
         clear c29
         by_cases c30 : 0 ≤ x36_2
         ·rw [if_pos c30] at H
          have c30b0 : decide (0 ≤ x36_2) = true := decide_eq_true c30
          clear c30
          by_cases c31 : x36_2 < (x7_2.length : Int)
          ·rw [if_pos c31] at H
           have c31b0 : decide (x36_2 < (x7_2.length : Int)) = true := decide_eq_true c31
           clear c31
           by_cases c32 : x36_2 < (t109.length : Int)
           ·rw [if_pos c32] at H
            have c32b0 : decide (x36_2 < (t109.length : Int)) = true := decide_eq_true c32
            clear c32
            replace H := Option.bind_eq_some_iff.mp H
            obtain ⟨t124, A330, H⟩ := H
            replace H : (impl_tray_stuck.l1 k2 a1 (x7_2.set (x36_2 : Int).toNat (wrap64 ((rd x7_2 x36_2) + t124))) t109 t117 (x6_1.length : Int) (wrap64 (x36_2 + 1)) t112 t113 t114) = some (r1, r2, r3, r4) := H
            have A33 := Aside0.mk A330
            clear A330
            obtain ⟨y125, hy125⟩ : ∃ y_ : List Int, y_ = (x7_2.set (x36_2 : Int).toNat (wrap64 ((rd x7_2 x36_2) + t124))) := ⟨_, rfl⟩
            replace H : (impl_tray_stuck.l1 k2 a1 y125 t109 t117 (x6_1.length : Int) (wrap64 (x36_2 + 1)) t112 t113 t114) = some (r1, r2, r3, r4) := rH hy125 H
            have Ny125 := Aside0.mk hy125
            clear hy125
            have H' := Aside0.mk H
            clear H
            try go_wp2
            have n0_ := Aside0.mk (Kd.R_drew HO_7.out)
            have n1_ := Aside0.mk (Kd.R_drew HO_8.out)
            have n2_ := Aside0.mk (Kd.S_drew HO_10.out)
            have n3_ := Aside0.mk (Kd.V_drew HO_102002.out)
            have n4_ := Aside0.mk (Kd.R_drew HO_122002.out)
            have n5_ := Aside0.mk (blk_drew BK101.out)
            have n6_ := Aside0.mk (blk_drew BK102.out)
            have n7_ := Aside0.mk (blk_drew BK121.out)
            have n8_ := Aside0.mk (below_drew1 HB.out)
            clear HO_7
            clear HO_8
            clear HO_10
            clear HO_102002
            clear HO_122002
            clear BK101
            clear BK102
            clear BK121
            clear HB
            have HO_7 := n0_
            have HO_8 := n1_
            have HO_10 := n2_
            have HO_102002 := n3_
            have HO_122002 := n4_
            have BK101 := n5_
            have BK102 := n6_
            have BK121 := n7_
            have HB := n8_
            clear n0_ n1_ n2_ n3_ n4_ n5_ n6_ n7_ n8_
            obtain ⟨Ao36, co36, eo36⟩ := Kd.R_slice HO_7.out
            (first | subst eo36 | (injection eo36 with f1_ f2_ f3_; have f4_ := f1_.symm; have f5_ := f3_.symm; clear f1_ f2_ f3_; subst f4_; subst f5_))
            have p122 : 0 ≤ (x36_2 : Int) := of_decide_eq_true (by first | (with_reducible assumption) | assumption)
            have q122 : x36_2 < (x7_2.length : Int) := of_decide_eq_true (by first | (with_reducible assumption) | assumption)
            obtain ⟨ad122, e122, hx122_0⟩ := Kd.at_int (Kd.R_reads' HO_7.out).2.2 x36_2 p122 q122
            cases e122
            replace p122 := eq_true p122
            replace q122 := eq_true q122
            obtain ⟨Ao37, co37, eo37⟩ := Kd.R_slice HO_8.out
            (first | subst eo37 | (injection eo37 with f1_ f2_ f3_; have f4_ := f1_.symm; have f5_ := f3_.symm; clear f1_ f2_ f3_; subst f4_; subst f5_))
            have p123 : 0 ≤ (x36_2 : Int) := of_decide_eq_true (by first | (with_reducible assumption) | assumption)
            have q123 : x36_2 < (t109.length : Int) := of_decide_eq_true (by first | (with_reducible assumption) | assumption)
            obtain ⟨ad123, e123, hx123_0⟩ := Kd.at_bool (Kd.R_reads' HO_8.out).2.2 x36_2 p123 q123
            cases e123
            replace p123 := eq_true p123
            replace q123 := eq_true q123
            refine start_ (n := 13) (S := fun w' => w'.cell? (ad122.add (x36_2).toNat) = some (.int .i64 (rd x7_2 x36_2)) ∧ w'.cell? (ad123.add (x36_2).toNat) = some (.bool (rdOf false t109 x36_2))) (ds := [12]) #[false, false, false, false, false, false, false, false, false, false, false, false, false] (by kernel_rfl) rfl rfl ⟨hx122_0, hx123_0⟩ (fun hHeld => ?_); refine with_tabW impl_tray_stuck.tab10 impl_tray_stuck.bits10 (fun HT_ HW_ => ?_)
            generalize wr.drew = w35 at HO_7 HO_8 HO_10 HO_102002 HO_122002 BK101 BK102 BK121 HB hx122_0 hx123_0 hHeld ⊢
            refine pure_ (i := 0) (N := some 39) (v := ?_) (a' := ?_) #[true, false, false, false, false, false, false, false, false, false, false, false, false] rfl rfl (any_of HT_.out (by kernel_rfl)) (fun _ _ _ h => h) (Or.inl ⟨by rfl, ?_⟩) ?_ ?_
            rotate_left
            ·intro w'
             go_simp
             with_reducible rfl
            rotate_left
            ·simp only [Act.put, List.setIfInBounds_toArray, List.set_cons_zero, List.set_cons_succ, i64_w, i32_w]
             rfl
            refine pure_ (i := 1) (N := some 40) (v := ?_) (a' := ?_) #[true, true, false, false, false, false, false, false, false, false, false, false, false] rfl rfl (any_of HT_.out (by kernel_rfl)) (fun _ _ _ h => h) (Or.inl ⟨by rfl, ?_⟩) ?_ ?_
            rotate_left
            ·intro w'
             go_simp
             with_reducible rfl
            rotate_left
            ·simp only [Act.put, List.setIfInBounds_toArray, List.set_cons_zero, List.set_cons_succ, i64_w, i32_w]
             rfl
            refine pure_ (i := 2) (N := some 41) (v := ?_) (a' := ?_) #[true, true, true, false, false, false, false, false, false, false, false, false, false] rfl rfl (any_of HT_.out (by kernel_rfl)) (fun _ _ _ h => h) (Or.inl ⟨by rfl, ?_⟩) ?_ ?_
            rotate_left
            ·intro w'
             go_simp
             with_reducible rfl
            rotate_left
            ·simp only [Act.put, List.setIfInBounds_toArray, List.set_cons_zero, List.set_cons_succ, i64_w, i32_w]
             rfl
            refine pure_ (i := 4) (N := some 43) (v := ?_) (a' := ?_) #[true, true, true, false, true, false, false, false, false, false, false, false, false] rfl rfl (any_of HT_.out (by kernel_rfl)) (fun _ _ _ h => h) (Or.inl ⟨by rfl, ?_⟩) ?_ ?_
            rotate_left
            ·intro w'
             go_simp
             with_reducible rfl
            rotate_left
            ·simp only [Act.put, List.setIfInBounds_toArray, List.set_cons_zero, List.set_cons_succ, i64_w, i32_w]
             rfl
            refine pure_ (i := 5) (N := some 44) (v := ?_) (a' := ?_) #[true, true, true, false, true, true, false, false, false, false, false, false, false] rfl rfl (any_of HT_.out (by kernel_rfl)) (fun _ _ _ h => h) (Or.inl ⟨by rfl, ?_⟩) ?_ ?_
            rotate_left
            ·intro w'
             go_simp
             with_reducible rfl
            rotate_left
            ·simp only [Act.put, List.setIfInBounds_toArray, List.set_cons_zero, List.set_cons_succ, i64_w, i32_w]
             rfl
            refine pure_ (i := 6) (N := some 45) (v := ?_) (a' := ?_) #[true, true, true, false, true, true, true, false, false, false, false, false, false] rfl rfl (any_of HT_.out (by kernel_rfl)) (fun _ _ _ h => h) (Or.inl ⟨by rfl, ?_⟩) ?_ ?_
            rotate_left
            ·intro w'
             go_simp
             with_reducible rfl
            rotate_left
            ·simp only [Act.put, List.setIfInBounds_toArray, List.set_cons_zero, List.set_cons_succ, i64_w, i32_w]
             rfl
            refine take_ (i := 3) (N := some 42) (v := ?_) (a' := ?_) #[true, true, true, true, true, true, true, false, false, false, false, false, false] rfl rfl (take_ofW HT_.out HW_.out (by kernel_rfl)) (fun _ _ _ h => h) (Or.inl ⟨by rfl, ?_⟩) hHeld ?_ ?_
            rotate_left
            ·rintro w' ⟨s0, s1⟩
             go_simp
             with_reducible rfl
            rotate_left
            ·simp only [Act.put, List.setIfInBounds_toArray, List.set_cons_zero, List.set_cons_succ, i64_w, i32_w]
             rfl
            refine take_ (i := 7) (N := some 46) (v := ?_) (a' := ?_) #[true, true, true, true, true, true, true, true, false, false, false, false, false] rfl rfl (take_ofW HT_.out HW_.out (by kernel_rfl)) (fun _ _ _ h => h) (Or.inl ⟨by rfl, ?_⟩) hHeld ?_ ?_
            rotate_left
            ·rintro w' ⟨s0, s1⟩
             go_simp
             with_reducible rfl
            rotate_left
            ·simp only [Act.put, List.setIfInBounds_toArray, List.set_cons_zero, List.set_cons_succ, i64_w, i32_w]
             rfl
            refine pure_ (i := 8) (N := some 47) (v := ?_) (a' := ?_) #[true, true, true, true, true, true, true, true, true, false, false, false, false] rfl rfl (any_of HT_.out (by kernel_rfl)) (fun _ _ _ h => h) (Or.inl ⟨by rfl, ?_⟩) ?_ ?_
            rotate_left
            ·intro w'
             go_simp
             with_reducible rfl
            rotate_left
            ·simp only [Act.put, List.setIfInBounds_toArray, List.set_cons_zero, List.set_cons_succ, i64_w, i32_w]
             rfl
            refine one_ (i := 9) (N := some 48) #[true, true, true, true, true, true, true, true, true, true, false, false, false] rfl rfl (one_of HT_.out (by kernel_rfl)) (by decide) (fun K hK => ?_)
            refine goes_ Tryd.func65 (by kernel_rfl) rfl #[.bool (!(rdOf false t109 x36_2))] (by rfl) rfl rfl (by (try simp only [List.map_toArray, List.map_cons, List.map_nil]); first | done | rfl | (simp only [List.length_drop, List.length_take]; rfl)) ?_
            with_reducible refine (impl_bit.calls (!(rdOf false t109 x36_2)) t124 _ A33.out).mono ?_
            rintro e w' ⟨rfl, ⟨nd, rfl⟩⟩
            refine ⟨_, rfl, ?_⟩
            have p34 : 0 ≤ (x36_2 : Int) := of_decide_eq_true (by first | (with_reducible assumption) | assumption)
            have q34 : (x36_2 : Int) < ((x7_2.length : Int) : Int) := of_decide_eq_true (by first | (with_reducible assumption) | assumption)
            obtain ⟨go34, co34, eo34, gb34, gl34, cl34, HG34⟩ := Kd.R_form HO_7.out (by omega)
            (first | cases eo34 | (injection eo34 with ea_ en_ ec_; (first | subst ea_ | (injection ea_ with ea_; subst ea_)); subst ec_; clear en_))
            have GB34 := Aside0.mk gb34
            have GG34 := Aside0.mk HG34
            clear gb34 gl34 HG34
            (first | simp only [add_plain] at hx122_0 | skip)
            obtain ⟨hx34_0, hf34_0⟩ := Kd.R_celln 0 HO_7.out (x36_2 : Int) p34 q34
            replace p34 := eq_true p34
            replace q34 := eq_true q34
            have HP38 := Kd.R_putn HO_7.out (x36_2 : Int) (wrap64 ((rd x7_2 x36_2) + t124))
            rw [← Ny125.out] at HP38
            have HQ38 := Aside0.mk HP38
            clear HP38
            refine hK.out _ _ ⟨hHeld.1, hHeld.2⟩ (fun hHeld => ?_)
            clear hK K
            refine norm_ (a' := ?_) ?_ ?_
            rotate_left
            ·show Act.put _ (some 48) _ = _
             simp only [Act.put, List.setIfInBounds_toArray, List.set_cons_zero, List.set_cons_succ, i64_w, i32_w]
             rfl
            refine pure_ (i := 10) (N := some 49) (v := ?_) (a' := ?_) #[true, true, true, true, true, true, true, true, true, true, true, false, false] rfl rfl (any_of HT_.out (by kernel_rfl)) (fun _ _ _ h => h) (Or.inl ⟨by rfl, ?_⟩) ?_ ?_
            rotate_left
            ·intro w'
             go_simp
             with_reducible rfl
            rotate_left
            ·simp only [Act.put, List.setIfInBounds_toArray, List.set_cons_zero, List.set_cons_succ, i64_w, i32_w]
             rfl
            refine pure_ (i := 11) (N := some 50) (v := ?_) (a' := ?_) #[true, true, true, true, true, true, true, true, true, true, true, true, false] rfl rfl (any_of HT_.out (by kernel_rfl)) (fun _ _ _ h => h) (Or.inl ⟨by rfl, ?_⟩) ?_ ?_
            rotate_left
            ·intro w'
             go_simp
             with_reducible rfl
            rotate_left
            ·simp only [Act.put, List.setIfInBounds_toArray, List.set_cons_zero, List.set_cons_succ, i64_w, i32_w]
             rfl
            refine last_ (i := 12) (N := none) #[true, true, true, true, true, true, true, true, true, true, true, true, true] rfl rfl (one_of HT_.out (by kernel_rfl)) (by decide) (fun K hK => ?_)
            refine skip_ (w1 := ?_) (by rfl) rfl ?_ ?_
            rotate_left
            ·go_simp
             rfl
            refine hK.out _ _ ?_
            clear hK K
            refine done_ (done_of HT_.out (by kernel_rfl)) ?_
            try go_wp2
            go_roundg k2
            case measure => have := HK1.out; have := HK2.out; omega
            case rel => exact ⟨(y125), (wrap64 (x36_2 + 1)), (by first | rfl | (simp; done) | (simp [*]; done)), H', ⟨by have := HK1.out; have := HK2.out; omega⟩, ⟨by (with_reducible repeat (first | apply Kd.R_alloc | apply Kd.R_drewN | apply Kd.R_drew)); exact HQ38.out⟩, ⟨by (with_reducible repeat (first | apply Kd.R_alloc | apply Kd.R_drewN | apply Kd.R_drew)); exact Kd.R_mono (Kd.R_far (p := ⟨go34, (x36_2 : Int).toNat, none⟩) (Kd.R_types HO_8.out GG34.out (by decide)) (fun _ hk => hk.2) (.int .i64 (wrap64 ((rd x7_2 x36_2) + t124)))) (fun _ hk => hk.1)⟩, ⟨by (with_reducible repeat (first | apply Kd.S_alloc | apply Kd.S_drewN | apply Kd.S_drew)); exact Kd.S_mono (Kd.S_far (p := ⟨go34, (x36_2 : Int).toNat, none⟩) (Kd.S_mono HO_10.out (fun k_ hk => (⟨hk, fun e_ => hk.2 (by rw [e_]; rfl)⟩ : _ ∧ k_ ≠ go34))) (fun _ hk => hk.2) (.int .i64 (wrap64 ((rd x7_2 x36_2) + t124)))) (fun _ hk => ⟨hk.1.1, hk.1.2⟩)⟩, ⟨by (with_reducible repeat (first | apply Kd.V_alloc | apply Kd.V_drewN | apply Kd.V_drew)); exact Kd.V_mono (Kd.V_far (p := ⟨go34, (x36_2 : Int).toNat, none⟩) (Kd.V_mono HO_102002.out (fun k_ hk => (⟨hk, fun e_ => hk.2.1 (by rw [e_]; rfl)⟩ : _ ∧ k_ ≠ go34))) (fun _ hk => hk.2) (.int .i64 (wrap64 ((rd x7_2 x36_2) + t124)))) (fun _ hk => ⟨hk.1.1, ⟨hk.1.2.1, ⟨hk.1.2.2.1, ⟨hk.1.2.2.2.1, ⟨hk.1.2.2.2.2.1, ⟨hk.1.2.2.2.2.2.1, ⟨hk.1.2.2.2.2.2.2.1, hk.1.2.2.2.2.2.2.2⟩⟩⟩⟩⟩⟩⟩)⟩, ⟨by (with_reducible repeat (first | apply Kd.R_alloc | apply Kd.R_drewN | apply Kd.R_drew)); exact Kd.R_mono (Kd.R_far (p := ⟨go34, (x36_2 : Int).toNat, none⟩) (Kd.R_types HO_122002.out GG34.out (by decide)) (fun _ hk => hk.2) (.int .i64 (wrap64 ((rd x7_2 x36_2) + t124)))) (fun _ hk => hk.1)⟩, ⟨by (with_reducible repeat (first | refine blk_drewN ?_ _ | refine blk_drew ?_ | refine blk_alloc ?_ _)); refine blk_far ?_ (by have h_ := Kd.R_ne HO_7.out BK101.out (by decide); intro e_; exact h_ (by rw [e_]; rfl)) _; exact blc⟩, ⟨by (with_reducible repeat (first | refine blk_drewN ?_ _ | refine blk_drew ?_ | refine blk_alloc ?_ _)); refine blk_far ?_ (by have h_ := Kd.R_ne HO_7.out BK102.out (by decide); intro e_; exact h_ (by rw [e_]; rfl)) _; exact blc⟩, ⟨by (with_reducible repeat (first | refine blk_drewN ?_ _ | refine blk_drew ?_ | refine blk_alloc ?_ _)); refine blk_far ?_ (by have h_ := Kd.R_ne HO_7.out BK121.out (by decide); intro e_; exact h_ (by rw [e_]; rfl)) _; exact blc⟩, ⟨bel HB⟩⟩
           ·rw [if_neg c32] at H
            exact absurd H (by simp)
          ·rw [if_neg c31] at H
           exact absurd H (by simp)
         ·rw [if_neg c30] at H
          exact absurd H (by simp)
        ·rw [if_neg c29] at H
         have c29b0 : decide (x36_2 < (x6_1.length : Int)) = false := decide_eq_false c29
         clear c29
         have H' := Aside0.mk H
         clear H
         have hnb39 := NB121_101.out
         have hnc39 := NB101_121.out
         have hnb40 := NB121_102.out
         have hnc40 := NB102_121.out
         have hcz41_0 : wr.cell? ⟨gb121, 0, none⟩ = some (.int .i64 t112) := (blk_cell BK121.out 0).trans rfl
         have hcz41_1 : wr.cell? ⟨gb121, 1, none⟩ = some (.int .i64 t113) := (blk_cell BK121.out 1).trans rfl
         have hcz41_2 : wr.cell? ⟨gb121, 2, none⟩ = some (.slice Ao28 t114.length co28) := (blk_cell BK121.out 2).trans rfl
         have hfz41_0 := blk_frozen BK121.out 0
         have hfz41_1 := blk_frozen BK121.out 1
         have hfz41_2 := blk_frozen BK121.out 2
         have hnb42 := NB101_102.out
         have hnc42 := NB102_101.out
         have hcz43_0 : wr.cell? ⟨gb101, 0, none⟩ = some (.int .i64 x102000_1) := (blk_cell BK101.out 0).trans rfl
         have hcz43_1 : wr.cell? ⟨gb101, 1, none⟩ = some (.int .i64 x102001_1) := (blk_cell BK101.out 1).trans rfl
         have hcz43_2 : wr.cell? ⟨gb101, 2, none⟩ = some (.slice Ao19 x102002_1.length co19) := (blk_cell BK101.out 2).trans rfl
         have hfz43_0 := blk_frozen BK101.out 0
         have hfz43_1 := blk_frozen BK101.out 1
         have hfz43_2 := blk_frozen BK101.out 2
         go_wp2
         go_roundg k2
         case measure => have := HK1.out; have := HK2.out; omega
         case rel => exact ⟨(t117), (x7_2), (t112), (t113), (t114), (x103000_1), (x103001_1), (.slice Ao28 t114.length co28), H', ⟨by have := HK1.out; have := HK2.out; omega⟩, ⟨by (with_reducible repeat (first | apply Kd.S_alloc | apply Kd.S_drewN | apply Kd.S_drew)); exact Kd.S_mono (Kd.S_far (p := ⟨gb101, 2, none⟩) (Kd.S_far (p := ⟨gb101, 1, none⟩) (Kd.S_far (p := ⟨gb101, 0, none⟩) (Kd.S_types HO_10.out BK101.out (by decide)) (fun _ hk => hk.2) (.int .i64 t112)) (fun _ hk => hk.2) (.int .i64 t113)) (fun _ hk => hk.2) (.slice Ao28 t114.length co28)) (fun _ hk => ⟨hk.1.1, hk.1.2⟩)⟩, ⟨by (with_reducible repeat (first | apply Kd.R_alloc | apply Kd.R_drewN | apply Kd.R_drew)); exact Kd.R_mono (Kd.R_far (p := ⟨gb101, 2, none⟩) (Kd.R_far (p := ⟨gb101, 1, none⟩) (Kd.R_far (p := ⟨gb101, 0, none⟩) (Kd.R_types HO_7.out BK101.out (by decide)) (fun _ hk => hk.2) (.int .i64 t112)) (fun _ hk => hk.2) (.int .i64 t113)) (fun _ hk => hk.2) (.slice Ao28 t114.length co28)) (fun _ hk => hk.1)⟩, ⟨(by first | exact V_orR (by (with_reducible repeat (first | apply Kd.R_alloc | apply Kd.R_drewN | apply Kd.R_drew)); exact Kd.R_mono (Kd.R_far (p := ⟨gb101, 2, none⟩) (Kd.R_far (p := ⟨gb101, 1, none⟩) (Kd.R_far (p := ⟨gb101, 0, none⟩) (Kd.R_types (Kd.R_types (Kd.R_types (Kd.R_apart' (Kd.R_apart' HO_122002.out (Kd.S_typed HO_10.out) (by decide)) (Kd.R_typed HO_7.out) (by decide)) BK101.out (by decide)) BK102.out (by decide)) BK101.out (by decide)) (fun _ hk => hk.2) (.int .i64 t112)) (fun _ hk => hk.2) (.int .i64 t113)) (fun _ hk => hk.2) (.slice Ao28 t114.length co28)) (fun _ hk => ⟨hk.1.1.1.1.1, ⟨hk.1.1.1.1.2, ⟨hk.1.1.1.2, ⟨hk.1.1.2, hk.1.2⟩⟩⟩⟩)) | exact V_orR0 (by (with_reducible repeat (first | apply Kd.R_alloc | apply Kd.R_drewN | apply Kd.R_drew)); exact Kd.R_mono (Kd.R_far (p := ⟨gb101, 2, none⟩) (Kd.R_far (p := ⟨gb101, 1, none⟩) (Kd.R_far (p := ⟨gb101, 0, none⟩) (Kd.R_types (Kd.R_types (Kd.R_types (Kd.R_apart' (Kd.R_apart' HO_122002.out (Kd.S_typed HO_10.out) (by decide)) (Kd.R_typed HO_7.out) (by decide)) BK101.out (by decide)) BK102.out (by decide)) BK101.out (by decide)) (fun _ hk => hk.2) (.int .i64 t112)) (fun _ hk => hk.2) (.int .i64 t113)) (fun _ hk => hk.2) (.slice Ao28 t114.length co28)) (fun _ hk => ⟨hk.1.1.1.1.1, ⟨hk.1.1.1.1.2, ⟨hk.1.1.1.2, ⟨hk.1.1.2, hk.1.2⟩⟩⟩⟩)))⟩, ⟨by (with_reducible repeat (first | refine blk_drewN ?_ _ | refine blk_drew ?_ | refine blk_alloc ?_ _)); refine blk_put (cs := #[.int .i64 t112, .int .i64 t113, .slice Ao19 x102002_1.length co19]) ?_ 2 _ rfl; (with_reducible repeat (first | refine blk_drewN ?_ _ | refine blk_drew ?_ | refine blk_alloc ?_ _)); refine blk_put (cs := #[.int .i64 t112, .int .i64 x102001_1, .slice Ao19 x102002_1.length co19]) ?_ 1 _ rfl; (with_reducible repeat (first | refine blk_drewN ?_ _ | refine blk_drew ?_ | refine blk_alloc ?_ _)); refine blk_put (cs := #[.int .i64 x102000_1, .int .i64 x102001_1, .slice Ao19 x102002_1.length co19]) ?_ 0 _ rfl; exact blc⟩, ⟨by (with_reducible repeat (first | refine blk_drewN ?_ _ | refine blk_drew ?_ | refine blk_alloc ?_ _)); refine blk_far ?_ NB102_101.out _; (with_reducible repeat (first | refine blk_drewN ?_ _ | refine blk_drew ?_ | refine blk_alloc ?_ _)); refine blk_far ?_ NB102_101.out _; (with_reducible repeat (first | refine blk_drewN ?_ _ | refine blk_drew ?_ | refine blk_alloc ?_ _)); refine blk_far ?_ NB102_101.out _; exact blc⟩, ⟨bel HB⟩⟩
     ·replace c16 := Bool.eq_false_iff.mpr c16
      subst c16
      have H1 : (some (x102000_1, x102001_1, x102002_1, x7_1)) = some (r1, r2, r3, r4) := by rw [if_neg (show ¬ (false = true) by decide)] at H; exact H
      clear H
      have H := H1
      clear H1
      simp only [Option.some.injEq, Prod.mk.injEq] at H
      obtain ⟨rfl, rfl, rfl, rfl⟩ := H
      have hnb44 := NB101_102.out
      have hnc44 := NB102_101.out
      have hcz45_0 : wr.cell? ⟨gb101, 0, none⟩ = some (.int .i64 x102000_1) := (blk_cell BK101.out 0).trans rfl
      have hcz45_1 : wr.cell? ⟨gb101, 1, none⟩ = some (.int .i64 x102001_1) := (blk_cell BK101.out 1).trans rfl
      have hcz45_2 : wr.cell? ⟨gb101, 2, none⟩ = some (u102002) := (blk_cell BK101.out 2).trans rfl
      have hfz45_0 := blk_frozen BK101.out 0
      have hfz45_1 := blk_frozen BK101.out 1
      have hfz45_2 := blk_frozen BK101.out 2
      obtain ⟨Ao46, co46, eo46⟩ := Kd.V_slice HO_102002.out
      subst eo46
      obtain ⟨Ao47, co47, eo47⟩ := Kd.S_slice HO_6.out
      subst eo47
      go_wp2_with (first | ((with_reducible refine gate_callee (f := 59) rfl ?_); refine gcall (some 21) Tryd.func59 #[.agg #[.int .i64 x102000_1, .int .i64 x102001_1, .slice Ao46 x102002_1.length co46], .slice Ao47 x6_1.length co47, .int .u8 a1] rfl ?_; (with_reducible refine (impl_tray_blocked.calls x102000_1 x102001_1 _ _ x102002_1 _ _ x6_1 a1 t109 _ ?side1 ?side2 ?side3 ?side4 A14.out).mono ?_); (case side1 => repeat (first | exact (Kd.V_reads' HO_102002.out).2.2 | (with_reducible refine Kd.C_alloc ?_ _) | (with_reducible refine Kd.C_drewN ?_ _) | (with_reducible refine Kd.C_drew ?_))); (case side2 => exact (Kd.V_reads' HO_102002.out).2.1); (case side3 => repeat (first | exact (Kd.S_reads' HO_6.out).2.2 | (with_reducible refine Kd.C_alloc ?_ _) | (with_reducible refine Kd.C_drewN ?_ _) | (with_reducible refine Kd.C_drew ?_))); (case side4 => exact (Kd.S_reads' HO_6.out).2.1); rintro e w48 ⟨v110, rfl, ho0, hb⟩; refine ⟨_, rfl, ?_⟩; have n0_ := Aside0.mk (Kd.S_below (by (with_reducible repeat (first | apply Kd.S_alloc | apply Kd.S_drewN | apply Kd.S_drew)); (first | exact HO_6.out | exact R_any HO_6.out)) hb); have n1_ := Aside0.mk (Kd.R_below (rch HO_7) hb); have n2_ := Aside0.mk (Kd.V_elder' (by (with_reducible repeat (first | apply Kd.V_alloc | apply Kd.V_drewN | apply Kd.V_drew)); (first | exact HO_102002.out | exact R_any HO_102002.out)) (Kd.R_base ho0) hb); have n3_ := Aside0.mk (Kd.R_lower (Kd.R_newM (M := fun k_ => (w.heap.size ≤ k_)) ho0 (below_size (bel HB)) (fun k_ h_ => h_)) (below_size (bel HB))); have n4_ := Aside0.mk (blk_below (g := gb101) (o := .cells #[.int .i64 x102000_1, .int .i64 x102001_1, .slice Ao46 x102002_1.length co46] 46 (0, 0)) blc hb); have n5_ := Aside0.mk (blk_below (g := gb102) (o := .cells #[.int .i64 x103000_1, .int .i64 x103001_1, .slice none 0 0] 46 (0, 0)) blc hb); have n6_ := Aside0.mk (below_step (bel HB) hb); clear HO_6; clear HO_7; clear HO_102002; clear BK101; clear BK102; clear HB; have HO_6 := n0_; have HO_7 := n1_; have HO_102002 := n2_; have HO111 := n3_; have BK101 := n4_; have BK102 := n5_; have HB := n6_; clear n0_ n1_ n2_ n3_ n4_ n5_ n6_; (try clear hb); (try clear hb2); (try clear hk); (try clear hi); (try clear ho0); have hcz49_0 : w48.cell? ⟨gb101, 0, none⟩ = some (.int .i64 x102000_1) := (blk_cell BK101.out 0).trans rfl; have hcz49_1 : w48.cell? ⟨gb101, 1, none⟩ = some (.int .i64 x102001_1) := (blk_cell BK101.out 1).trans rfl; have hcz49_2 : w48.cell? ⟨gb101, 2, none⟩ = some (.slice Ao46 x102002_1.length co46) := (blk_cell BK101.out 2).trans rfl; have hfz49_0 := blk_frozen BK101.out 0; have hfz49_1 := blk_frozen BK101.out 1; have hfz49_2 := blk_frozen BK101.out 2) | ((with_reducible refine gate_callee (f := 33) rfl ?_); refine gcall (some 26) Tryd.func33 #[.agg #[.int .i64 x102000_1, .int .i64 x102001_1, .slice Ao46 x102002_1.length co46], .slice Ao47 x6_1.length co47, .int .u8 a1] rfl ?_; (with_reducible refine (impl_tray_stuckStep.calls x102000_1 x102001_1 _ _ x102002_1 _ _ x6_1 a1 t112 t113 t114 t117 false _ ?side1 ?side2 ?side3 ?side4 A15.out).mono ?_); (case side1 => repeat (first | exact (Kd.V_reads' HO_102002.out).2.2 | (with_reducible refine Kd.C_alloc ?_ _) | (with_reducible refine Kd.C_drewN ?_ _) | (with_reducible refine Kd.C_drew ?_))); (case side2 => exact (Kd.V_reads' HO_102002.out).2.1); (case side3 => repeat (first | exact (Kd.S_reads' HO_6.out).2.2 | (with_reducible refine Kd.C_alloc ?_ _) | (with_reducible refine Kd.C_drewN ?_ _) | (with_reducible refine Kd.C_drew ?_))); (case side4 => exact (Kd.S_reads' HO_6.out).2.1); rintro e w50 ⟨v115, v118, rfl, ho0, ho1, hb⟩; refine ⟨_, rfl, ?_⟩; have n0_ := Aside0.mk (Kd.S_elder' (by (with_reducible repeat (first | apply Kd.S_alloc | apply Kd.S_drewN | apply Kd.S_drew)); (first | exact HO_6.out | exact R_any HO_6.out)) (Kd.S_base ho1) hb); have n1_ := Aside0.mk (Kd.R_below (rch HO_7) hb); have n2_ := Aside0.mk (Kd.V_mono (Kd.V_told (Kd.V_told (Kd.V_old (by (with_reducible repeat (first | apply Kd.V_alloc | apply Kd.V_drewN | apply Kd.V_drew)); (first | exact HO_102002.out | exact R_any HO_102002.out)) hb) (Kd.R_base ho0)) (Kd.S_base ho1)) (fun _ h_ => h_.1)); have n3_ := Aside0.mk (Kd.R_below (rch HO111) hb); have n4_ := Aside0.mk (Kd.R_lower (Kd.R_newM (M := fun k_ => (w.heap.size ≤ k_)) ho0 (below_size (bel HB)) (fun k_ h_ => h_)) (below_size (bel HB))); have n5_ := Aside0.mk (Kd.S_lower (Kd.S_new' (Kd.S_new' (Kd.S_newM (M := fun k_ => (w.heap.size ≤ k_)) ho1 (below_size (bel HB)) (fun k_ h_ => h_)) (Kd.S_lt (by (with_reducible repeat (first | apply Kd.S_alloc | apply Kd.S_drewN | apply Kd.S_drew)); (first | exact HO_6.out | exact R_any HO_6.out)))) (Kd.R_lt (rch HO_7))) (below_size (bel HB))); have n6_ := Aside0.mk (blk_below (g := gb101) (o := .cells #[.int .i64 x102000_1, .int .i64 x102001_1, .slice Ao46 x102002_1.length co46] 46 (0, 0)) blc hb); have n7_ := Aside0.mk (blk_below (g := gb102) (o := .cells #[.int .i64 x103000_1, .int .i64 x103001_1, .slice none 0 0] 46 (0, 0)) blc hb); have n8_ := Aside0.mk (below_step (bel HB) hb); clear HO_6; clear HO_7; clear HO_102002; clear HO111; clear BK101; clear BK102; clear HB; have HO_6 := n0_; have HO_7 := n1_; have HO_102002 := n2_; have HO111 := n3_; have HO116 := n4_; have HO119 := n5_; have BK101 := n6_; have BK102 := n7_; have HB := n8_; clear n0_ n1_ n2_ n3_ n4_ n5_ n6_ n7_ n8_; (try clear hb); (try clear hb2); (try clear hk); (try clear hi); (try clear ho0); (try clear ho1)) | ((with_reducible refine gate_dst (N := 9) rfl ?_); refine boxE (N := 9) (cs := #[.int .i64 0, .int .i64 0, .slice none 0 0]) (t := 46) ?_; intro gb121 hg w51 hbox hb; have n0_ := Aside0.mk (Kd.S_below (by (with_reducible repeat (first | apply Kd.S_alloc | apply Kd.S_drewN | apply Kd.S_drew)); (first | exact HO_6.out | exact R_any HO_6.out)) hb); have n1_ := Aside0.mk (Kd.R_below (rch HO_7) hb); have n2_ := Aside0.mk (Kd.V_below (Kd.V_elderB (by (with_reducible repeat (first | apply Kd.V_alloc | apply Kd.V_drewN | apply Kd.V_drew)); (first | exact HO_102002.out | exact R_any HO_102002.out)) gb121 (Nat.le_of_eq hg.symm)) hb); have n3_ := Aside0.mk (Kd.R_below (rch HO111) hb); have n4_ := Aside0.mk (Kd.R_below (rch HO116) hb); have n5_ := Aside0.mk (Kd.S_below (by (with_reducible repeat (first | apply Kd.S_alloc | apply Kd.S_drewN | apply Kd.S_drew)); (first | exact HO119.out | exact R_any HO119.out)) hb); have n6_ := Aside0.mk (blk_below (g := gb101) (o := .cells #[.int .i64 x102000_1, .int .i64 x102001_1, .slice Ao46 x102002_1.length co46] 46 (0, 0)) blc hb); have n7_ := Aside0.mk (blk_below (g := gb102) (o := .cells #[.int .i64 x103000_1, .int .i64 x103001_1, .slice none 0 0] 46 (0, 0)) blc hb); have n8_ := Aside0.mk (below_step (bel HB) hb); have n9_ := Aside0.mk (hbox); have n10_ := Aside0.mk (gsz hg (bel HB)); have n11_ := Aside0.mk (gsz hg (bel HB)); have n12_ := Aside0.mk ((by rw [hg]; exact Nat.ne_of_lt (blk_lt (g := gb101) (o := .cells #[.int .i64 x102000_1, .int .i64 x102001_1, .slice Ao46 x102002_1.length co46] 46 (0, 0)) blc) : gb101 ≠ gb121)); have n13_ := Aside0.mk ((by rw [hg]; exact Nat.ne_of_gt (blk_lt (g := gb101) (o := .cells #[.int .i64 x102000_1, .int .i64 x102001_1, .slice Ao46 x102002_1.length co46] 46 (0, 0)) blc) : gb121 ≠ gb101)); have n14_ := Aside0.mk ((by rw [hg]; exact Nat.ne_of_lt (blk_lt (g := gb102) (o := .cells #[.int .i64 x103000_1, .int .i64 x103001_1, .slice none 0 0] 46 (0, 0)) blc) : gb102 ≠ gb121)); have n15_ := Aside0.mk ((by rw [hg]; exact Nat.ne_of_gt (blk_lt (g := gb102) (o := .cells #[.int .i64 x103000_1, .int .i64 x103001_1, .slice none 0 0] 46 (0, 0)) blc) : gb121 ≠ gb102)); clear HO_6; clear HO_7; clear HO_102002; clear HO111; clear HO116; clear HO119; clear BK101; clear BK102; clear HB; have HO_6 := n0_; have HO_7 := n1_; have HO_102002 := n2_; have HO111 := n3_; have HO116 := n4_; have HO119 := n5_; have BK101 := n6_; have BK102 := n7_; have HB := n8_; have BK121 := n9_; have GW121 := n10_; have GE121 := n11_; have NB101_121 := n12_; have NB121_101 := n13_; have NB102_121 := n14_; have NB121_102 := n15_; clear n0_ n1_ n2_ n3_ n4_ n5_ n6_ n7_ n8_ n9_ n10_ n11_ n12_ n13_ n14_ n15_; clear hb hbox hg; have hnb52 := NB121_101.out; have hnc52 := NB101_121.out; have hnb53 := NB121_102.out; have hnc53 := NB102_121.out; have hcz54_0 : w51.cell? ⟨gb121, 0, none⟩ = some (.int .i64 0) := (blk_cell BK121.out 0).trans rfl; have hcz54_1 : w51.cell? ⟨gb121, 1, none⟩ = some (.int .i64 0) := (blk_cell BK121.out 1).trans rfl; have hcz54_2 : w51.cell? ⟨gb121, 2, none⟩ = some (.slice none 0 0) := (blk_cell BK121.out 2).trans rfl; have hfz54_0 := blk_frozen BK121.out 0; have hfz54_1 := blk_frozen BK121.out 1; have hfz54_2 := blk_frozen BK121.out 2; obtain ⟨Ao55, co55, eo55⟩ := Kd.R_slice HO116.out; subst eo55; have hcz56_0 : w51.cell? ⟨gb101, 0, none⟩ = some (.int .i64 x102000_1) := (blk_cell BK101.out 0).trans rfl; have hcz56_1 : w51.cell? ⟨gb101, 1, none⟩ = some (.int .i64 x102001_1) := (blk_cell BK101.out 1).trans rfl; have hcz56_2 : w51.cell? ⟨gb101, 2, none⟩ = some (.slice Ao46 x102002_1.length co46) := (blk_cell BK101.out 2).trans rfl; have hfz56_0 := blk_frozen BK101.out 0; have hfz56_1 := blk_frozen BK101.out 1; have hfz56_2 := blk_frozen BK101.out 2; have hcz57_0 : w51.cell? ⟨gb102, 0, none⟩ = some (.int .i64 x103000_1) := (blk_cell BK102.out 0).trans rfl; have hcz57_1 : w51.cell? ⟨gb102, 1, none⟩ = some (.int .i64 x103001_1) := (blk_cell BK102.out 1).trans rfl; have hcz57_2 : w51.cell? ⟨gb102, 2, none⟩ = some (.slice none 0 0) := (blk_cell BK102.out 2).trans rfl; have hfz57_0 := blk_frozen BK102.out 0; have hfz57_1 := blk_frozen BK102.out 1; have hfz57_2 := blk_frozen BK102.out 2))
      refine bodyPost_ret (results_ct rfl _ _ gb102 46 #[.int .i64 x102000_1, .int .i64 x102001_1, .slice Ao46 x102002_1.length co46] (0, 0) _ rfl (by (with_reducible repeat (first | refine blk_drewN ?_ _ | refine blk_drew ?_ | refine blk_alloc ?_ _)); refine blk_put (cs := #[.int .i64 x102000_1, .int .i64 x102001_1, .slice none 0 0]) ?_ 2 _ rfl; (with_reducible repeat (first | refine blk_drewN ?_ _ | refine blk_drew ?_ | refine blk_alloc ?_ _)); refine blk_put (cs := #[.int .i64 x102000_1, .int .i64 x103001_1, .slice none 0 0]) ?_ 1 _ rfl; (with_reducible repeat (first | refine blk_drewN ?_ _ | refine blk_drew ?_ | refine blk_alloc ?_ _)); refine blk_put (cs := #[.int .i64 x103000_1, .int .i64 x103001_1, .slice none 0 0]) ?_ 0 _ rfl; (with_reducible repeat (first | refine blk_drewN ?_ _ | refine blk_drew ?_ | refine blk_alloc ?_ _)); refine blk_far ?_ NB102_121.out _; (with_reducible repeat (first | refine blk_drewN ?_ _ | refine blk_drew ?_ | refine blk_alloc ?_ _)); refine blk_far ?_ NB102_121.out _; (with_reducible repeat (first | refine blk_drewN ?_ _ | refine blk_drew ?_ | refine blk_alloc ?_ _)); refine blk_far ?_ NB102_121.out _; exact blc) Tryd.underlying46 rfl (by kernel_rfl)) rfl ?_
      exact ⟨_, _, by first | rfl | (simp [errW_none, errW_some] <;> rfl) | (simp [*, errW_none, errW_some] <;> rfl), by (with_reducible repeat (first | apply Kd.V_alloc | apply Kd.V_drewN | apply Kd.V_drew)); exact Kd.V_mono (Kd.V_far (p := ⟨gb102, 2, none⟩) (Kd.V_far (p := ⟨gb102, 1, none⟩) (Kd.V_far (p := ⟨gb102, 0, none⟩) (Kd.V_far (p := ⟨gb121, 2, none⟩) (Kd.V_far (p := ⟨gb121, 1, none⟩) (Kd.V_far (p := ⟨gb121, 0, none⟩) (Kd.V_mono (Kd.V_mono HO_102002.out (fun k_ hk => (⟨hk, hk.2⟩ : _ ∧ k_ ≠ gb121))) (fun k_ hk => (⟨hk, hk.1.1.1.1.1.2.2.2.2⟩ : _ ∧ k_ ≠ gb102))) (fun _ hk => hk.1.2) (.int .i64 t112)) (fun _ hk => hk.1.2) (.int .i64 t113)) (fun _ hk => hk.1.2) (.slice Ao55 t114.length co55)) (fun _ hk => hk.2) (.int .i64 x102000_1)) (fun _ hk => hk.2) (.int .i64 x102001_1)) (fun _ hk => hk.2) (.slice Ao46 x102002_1.length co46)) (fun _ hk => ⟨hk.1.1.1.1.1.1.1, hk.1.1.1.1.1.1.2.2.1⟩), by (with_reducible repeat (first | apply Kd.R_alloc | apply Kd.R_drewN | apply Kd.R_drew)); exact Kd.R_mono (Kd.R_far (p := ⟨gb102, 2, none⟩) (Kd.R_far (p := ⟨gb102, 1, none⟩) (Kd.R_far (p := ⟨gb102, 0, none⟩) (Kd.R_far (p := ⟨gb121, 2, none⟩) (Kd.R_far (p := ⟨gb121, 1, none⟩) (Kd.R_far (p := ⟨gb121, 0, none⟩) (Kd.R_types (Kd.R_types HO_7.out BK121.out (by decide)) BK102.out (by decide)) (fun _ hk => hk.1.2) (.int .i64 t112)) (fun _ hk => hk.1.2) (.int .i64 t113)) (fun _ hk => hk.1.2) (.slice Ao55 t114.length co55)) (fun _ hk => hk.2) (.int .i64 x102000_1)) (fun _ hk => hk.2) (.int .i64 x102001_1)) (fun _ hk => hk.2) (.slice Ao46 x102002_1.length co46)) (fun _ hk => hk.1.1), bel HB⟩
  ·rw [if_neg c5] at H
   exact absurd H (by simp)
 ·rw [if_neg c4] at H
  exact absurd H (by simp)
end Go.Proofs.YtgipkpiddjjhcaaDoor.Q
end
section
namespace Go.Proofs.YtgipkpiddjjhcaaDoor.Q
open Go.RowKit Go.Proofs.YtgipkpiddjjhcaaDoorW.PrintWords Go.Proofs.YtgipkpiddjjhcaaDoorW.PrintLast Go.Proofs.YtgipkpiddjjhcaaDoorW.PrintMore
set_option linter.unusedSectionVars false
open Classical
def upF (far : List Int) (mv : List Bool) (t : Nat) : List Int := (List.range far.length).map fun p : Nat => if p < t ∧ rdOf false mv (p : Int) = true then rd far (p : Int) + 1 else rd far (p : Int)
theorem upF_len (far : List Int) (mv : List Bool) (t : Nat) : (upF far mv t).length = far.length := by
 unfold upF
 rw [List.length_map, List.length_range]
theorem upF_rd (far : List Int) (mv : List Bool) (t p : Nat) (hp : p < far.length) : rd (upF far mv t) (p : Int) = if p < t ∧ rdOf false mv (p : Int) = true then rd far (p : Int) + 1 else rd far (p : Int) := by
 rw [rd_nat _ p (by rw [upF_len]; exact hp)]
 unfold upF
 rw [List.getElem_map, List.getElem_range]
theorem upF_zero (far : List Int) (mv : List Bool) : upF far mv 0 = far := by
 refine rd_ext (upF_len _ _ _) fun p hp => ?_
 rw [upF_rd _ _ _ _ hp, if_neg (fun h => by omega)]
theorem upF_go (far : List Int) (mv : List Bool) (t : Nat) (ht : t < far.length) (hm : rdOf false mv (t : Int) = true) : upF far mv (t + 1) = (upF far mv t).set t (rd far (t : Int) + 1) := by
 refine rd_ext (by rw [upF_len, List.length_set, upF_len]) fun p hp => ?_
 rw [List.length_set, upF_len] at hp
 have h1 := rd_set (upF far mv t) (t : Int) (p : Int) (rd far (t : Int) + 1) (by omega) (by rw [upF_len]; omega) (by omega)
 rw [Int.toNat_natCast] at h1
 rw [h1, upF_rd _ _ _ _ hp, upF_rd _ _ _ _ hp]
 by_cases e : p = t
 ·subst e
  rw [if_pos ⟨by omega, hm⟩, if_pos rfl]
 ·rw [if_neg (show ¬ (p : Int) = (t : Int) by omega)]
  refine ite_iff ?_
  constructor
  ·exact fun h2 => ⟨by omega, h2.2⟩
  ·exact fun h2 => ⟨by omega, h2.2⟩
theorem upF_stay (far : List Int) (mv : List Bool) (t : Nat) (ht : t < far.length) (hm : rdOf false mv (t : Int) = false) : upF far mv (t + 1) = upF far mv t := by
 refine rd_ext (by rw [upF_len, upF_len]) fun p hp => ?_
 rw [upF_len] at hp
 rw [upF_rd _ _ _ _ hp, upF_rd _ _ _ _ hp]
 by_cases e : p = t
 ·subst e
  rw [if_neg (by rw [hm]; simp), if_neg (by rw [hm]; simp)]
 ·refine ite_iff ?_
  constructor
  ·exact fun h2 => ⟨by omega, h2.2⟩
  ·exact fun h2 => ⟨by omega, h2.2⟩
theorem upF_at (far : List Int) (mv : List Bool) (t : Nat) (ht : t < far.length) : rd (upF far mv t) (t : Int) = rd far (t : Int) := by
 rw [upF_rd _ _ _ _ ht, if_neg (fun h => by omega)]
theorem upF_none (far : List Int) (mv : List Bool) (t : Nat) (hm : ∀ p : Nat, p < far.length → rdOf false mv (p : Int) = false) : upF far mv t = far := by
 refine rd_ext (upF_len _ _ _) fun p hp => ?_
 rw [upF_rd _ _ _ _ hp, if_neg (by rw [hm p hp]; simp)]
noncomputable def stStep (w h n d : Nat) (s : List Int × List Int × List Int) : List Int × List Int × List Int := (csN w h s.1 s.2.1 d, laN w h s.1 s.2.1 d, upF s.2.2 (mvAll w h s.1 s.2.1 n d) n)
noncomputable def stIt (w h n d : Nat) : Nat → List Int × List Int × List Int → List Int × List Int × List Int
 | 0, s => s
 | m + 1, s => stIt w h n d m (stStep w h n d s)
theorem mvAll_len (w h : Nat) (cs L : List Int) (n d : Nat) : (mvAll w h cs L n d).length = n := by
 unfold mvAll
 rw [List.length_map, List.length_range]
theorem mvAll_at (w h : Nat) (cs L : List Int) {n d p : Nat} (hp : p < n) : rdOf false (mvAll w h cs L n d) (p : Int) = decide (¬ bk w h cs L d p) := rdOf_map _ hp
structure TI (w h n : Nat) (s : List Int × List Int × List Int) (b : Nat) : Prop where
 si : SI w h s.1 s.2.1 n
 len : s.2.2.length = n
 small : ∀ p : Nat, p < n → 0 ≤ rd s.2.2 (p : Int) ∧ rd s.2.2 (p : Int) ≤ b
section
variable {w h : Nat} {n d : Nat} (hw : w ≤ 7) (hh : h ≤ 7) (hs : w * h ≤ 36) (hd : d < 4) (hn36 : n ≤ 36)
include hw hh hs hd hn36
theorem TI.next {s : List Int × List Int × List Int} {b : Nat} (hT : TI w h n s b) : TI w h n (stStep w h n d s) (b + 1) := by
 refine ⟨si_next hw hh hs hT.si hd, (upF_len _ _ _).trans hT.len, fun p hp => ?_⟩
 have h1 := hT.small p hp
 show 0 ≤ rd (upF s.2.2 _ n) (p : Int) ∧ rd (upF s.2.2 _ n) (p : Int) ≤ _
 rw [upF_rd _ _ _ _ (by rw [hT.len]; exact hp)]
 split <;> omega
theorem st_still {s : List Int × List Int × List Int} {b : Nat} (hT : TI w h n s b) (hb : ∀ p : Nat, p < n → bk w h s.1 s.2.1 d p) : ∀ m, stIt w h n d m s = s := by
 have h1 : stStep w h n d s = s := by
  obtain ⟨e1, e2⟩ := still_next hw hh hs hT.si hd hb
  unfold stStep
  rw [e1, e2, upF_none _ _ _ fun p hp => by
   rw [hT.len] at hp
   rw [mvAll_at w h s.1 s.2.1 hp]
   exact decide_eq_false (by simpa using hb p hp)]
 intro m
 induction m with
 | zero => rfl
 | succ m ih =>
  show stIt w h n d m (stStep w h n d s) = s
  rw [h1]
  exact ih
theorem skt_l1 {far csx La : List Int} {mv : List Bool} {i : Int} {b : Nat} (hb : b ≤ 7) (hf : far.length = n) (hm : mv.length = n) (hsm : ∀ p : Nat, p < n → 0 ≤ rd far (p : Int) ∧ rd far (p : Int) ≤ b) (K : Int × Int × List Int × List Int) : ∀ (m t : Nat), t + m = n → Ev (fun k => spec_skTilt.l0 k d La n (upF far mv n) (wrap64 (i + 1)) w h csx) K → Ev (fun k => spec_skTilt.l1 k d n (upF far mv t) i La mv mv.length t w h csx) K
 | 0, t, ht, hK => by
  obtain rfl : t = n := by omega
  refine Ev.step hK fun k => ?_
  rw [spec_skTilt.l1, if_neg (by omega)]
 | m + 1, t, ht, hK => by
  have ih := skt_l1 hb hf hm hsm K m (t + 1) (by omega) hK
  have htn : t < n := by omega
  have h1 := hsm t htn
  refine Ev.step ih fun k => ?_
  rw [spec_skTilt.l1, if_pos (by omega), if_pos (by omega), if_pos (by omega), w64t t (by omega)]
  cases hq : rdOf false mv (t : Int) with
  | true => rw [if_pos rfl, if_pos (by rw [upF_len]; omega), upF_at _ _ _ (by omega), Int.toNat_natCast, w64 (by omega) (by omega), upF_go _ _ _ (by omega) hq]
  | false => rw [if_neg (by decide), upF_stay _ _ _ (by omega) hq]
theorem skt_l0 (hz : 0 < w * h) : ∀ (m i : Nat) (s : List Int × List Int × List Int), i + m = 7 → TI w h n s i → Ev (fun k => spec_skTilt.l0 k d s.2.1 n s.2.2 i w h s.1) (w, h, (stIt w h n d m s).1, (stIt w h n d m s).2.2)
 | 0, i, s, hi, hT => by
  refine Ev.step (Ev.const (o := some ((w : Int), (h : Int), s.1, s.2.2)) rfl) fun k => ?_
  rw [spec_skTilt.l0, if_neg (by omega)]
 | m + 1, i, s, hi, hT => by
  have ih := skt_l0 hz m (i + 1) (stStep w h n d s) (by omega) (hT.next hw hh hs hd hn36)
  have hmv := skMove_ev hw hh hs hT.si hd hn36 hz
  have h1 := skt_l1 hw hh hs hd hn36 (far := s.2.2) (csx := csN w h s.1 s.2.1 d) (La := laN w h s.1 s.2.1 d) (mv := mvAll w h s.1 s.2.1 n d) (i := i) (b := i) (by omega) hT.len (mvAll_len _ _ _ _ _ _) hT.small _ n 0 (by omega) (by rw [w64t i (by omega)]; exact ih)
  rw [upF_zero] at h1
  refine Ev.step (Ev.bind (f := fun k (bt110 : Int × Int × List Int × List Int × List Bool) => spec_skTilt.l1 k d n s.2.2 i bt110.2.2.2.1 bt110.2.2.2.2 (bt110.2.2.2.2.length : Int) 0 bt110.1 bt110.2.1 bt110.2.2.1) hmv h1) fun k => ?_
  rw [spec_skTilt.l0, if_pos (by omega)]
theorem skp_l1 {far csx : List Int} {P P' : List (List Int)} {st mv : List Bool} {b : Nat} (hb : b ≤ 7) (hf : far.length = n) (hP : P.length = n) (hst : st.length = n) (hmv : ∀ p : Nat, p < n → rdOf false mv (p : Int) = !rdOf false st (p : Int)) (hsm : ∀ p : Nat, p < n → 0 ≤ rd far (p : Int) ∧ rd far (p : Int) ≤ b) (K : Int × Int × List Int × List Int) : ∀ (m t : Nat), t + m = n → Ev (fun k => impl_tray_stuck.l0 k (dirC d) P' (upF far mv n) w h csx) K → Ev (fun k => impl_tray_stuck.l1 k (dirC d) (upF far mv t) st P' P.length t w h csx) K
 | 0, t, ht, hK => by
  obtain rfl : t = n := by omega
  refine Ev.step hK fun k => ?_
  rw [impl_tray_stuck.l1, if_neg (by omega)]
 | m + 1, t, ht, hK => by
  have ih := skp_l1 hb hf hP hst hmv hsm K m (t + 1) (by omega) hK
  have htn : t < n := by omega
  have h1 := hsm t htn
  have h2 := hmv t htn
  refine Ev.step ih fun k => ?_
  rw [impl_tray_stuck.l1, if_pos (by omega), if_pos (by omega), if_pos (by rw [upF_len]; omega), if_pos (by omega), w64t t (by omega), upF_at _ _ _ (by omega), Int.toNat_natCast, ← h2]
  cases hq : rdOf false mv (t : Int) with
  | true =>
   rw [show impl_bit.f true = some 1 from rfl, Option.bind_some, w64 (by omega) (by omega), upF_go _ _ _ (by omega) hq]
  | false =>
   rw [show impl_bit.f false = some 0 from rfl, Option.bind_some, w64 (by omega) (by omega), upF_stay _ _ _ (by omega) hq]
   congr 1
   refine rd_ext (by rw [List.length_set]) fun p hp => ?_
   have h3 := rd_set (upF far mv t) (t : Int) (p : Int) (rd far (t : Int) + 0) (by omega) (by rw [upF_len]; omega) (by omega)
   rw [Int.toNat_natCast] at h3
   rw [h3]
   split
   ·rename_i e
    obtain rfl : p = t := by omega
    rw [upF_at _ _ _ (by omega)]
    omega
   ·rfl
theorem skp_l0 (hz : 0 < w * h) : ∀ (m b : Nat) (s : List Int × List Int × List Int) (P : List (List Int)), b + m = 7 → TI w h n s b → PM w h s.2.1 n P → Room w h s.1 s.2.1 n d m → Ev (fun k => impl_tray_stuck.l0 k (dirC d) P s.2.2 w h s.1) (w, h, (stIt w h n d m s).1, (stIt w h n d m s).2.2)
 | m, b, s, P, hbm, hT, hP, hR => by
  have h1 := blocked_pm hw hh hs hT.si hd hn36 hP
  have h2 := stuckStep_eq hw hh hs hT.si hd hn36 hz hP
  by_cases ha : ∃ p : Nat, p < n ∧ ¬ bk w h s.1 s.2.1 d p
  ·have ham : anyM w h s.1 s.2.1 n d = true := decide_eq_true ha
   obtain ⟨m, rfl⟩ : ∃ m', m = m' + 1 := by
    refine ⟨m - 1, ?_⟩
    obtain ⟨p, hp, hb⟩ := ha
    obtain ⟨i, _, _, hl⟩ := hR p hp hb
    omega
   have hpn := pm_next hw hh hs hT.si hd hn36 hP
   have ih := skp_l0 hz m (b + 1) (stStep w h n d s) _ (by omega) (hT.next hw hh hs hd hn36) hpn (room_next hw hh hs hT.si hd hR)
   have h3 := skp_l1 hw hh hs hd hn36 (far := s.2.2) (csx := csN w h s.1 s.2.1 d) (P := P) (P' := P.map fun q => q.map (yv w h s.1 s.2.1 d)) (st := stL w h s.1 s.2.1 n d) (mv := mvAll w h s.1 s.2.1 n d) (b := b) (by omega) hT.len hP.len (stL_len _ _ _ _ _ _) (fun p hp => by
    rw [mvAll_at w h s.1 s.2.1 hp, stL_at w h s.1 s.2.1 hp, decide_not]) hT.small _ n 0 (by omega) ih
   rw [upF_zero] at h3
   refine Ev.step h3 fun k => ?_
   rw [impl_tray_stuck.l0, h1, Option.bind_some, h2, Option.bind_some, if_pos ham]
   rfl
  ·have ham : anyM w h s.1 s.2.1 n d = false := decide_eq_false ha
   rw [st_still hw hh hs hd hn36 hT fun p hp => by
    apply Classical.byContradiction
    intro h3
    exact ha ⟨p, hp, h3⟩]
   refine Ev.step (Ev.const (o := some ((w : Int), (h : Int), s.1, s.2.2)) rfl) fun k => ?_
   have hcs : csN w h s.1 s.2.1 d = s.1 := (still_next hw hh hs hT.si hd fun p hp => by
    apply Classical.byContradiction
    intro h3
    exact ha ⟨p, hp, h3⟩).1
   rw [impl_tray_stuck.l0, h1, Option.bind_some, h2, Option.bind_some, if_neg (show ¬ anyM w h s.1 s.2.1 n d = true by rw [ham]; decide)]
end
structure Tilts (w h : Nat) (cs : List Int) (d : Nat) (R : List Int × List Int) : Prop where
 spec : Ev (fun k => spec_skTilt.f k w h cs d) (w, h, R.1, R.2)
 impl : Ev (fun k => impl_tray_stuck.f k w h cs (dirC d)) (w, h, R.1, R.2)
 len : R.1.length = w * h
 far : R.2.length ≤ 36
theorem it_ti {w h n d : Nat} (hw : w ≤ 7) (hh : h ≤ 7) (hs : w * h ≤ 36) (hd : d < 4) (hn36 : n ≤ 36) : ∀ (m b : Nat) (s : List Int × List Int × List Int), TI w h n s b → TI w h n (stIt w h n d m s) (b + m)
 | 0, _, _, hT => hT
 | m + 1, b, s, hT => by
  have := it_ti hw hh hs hd hn36 m (b + 1) _ (hT.next hw hh hs hd hn36 (d := d))
  rw [show b + (m + 1) = b + 1 + m by omega]
  exact this
theorem tilts {w h : Nat} {cs : List Int} (hw : w ≤ 7) (hh : h ≤ 7) (hs : w * h ≤ 36) (hn : cs.length = w * h) (hz : 0 < w * h) {d : Nat} (hd : d < 4) : ∃ R, Tilts w h cs d R := by
 obtain ⟨L, ho, hp⟩ := pieces_ev hw hh hs hn
 have hml := Nat.le_trans (mins_len w h cs (w * h)) hs
 have hsi := si_start hw hh hs hn ho
 have hpm := pm_start hw hh hs hn ho
 generalize hnn : (mins w h cs (w * h)).length = n at hp hml hsi hpm
 have hT : TI w h n (cs, L, List.replicate n 0) 0 := ⟨hsi, by simp, fun p hp => by
  show 0 ≤ rd (List.replicate n 0) (p : Int) ∧ rd (List.replicate n 0) (p : Int) ≤ _
  rw [rd_nat _ p (by simpa using hp), List.getElem_replicate]
  omega⟩
 have e1 := skt_l0 hw hh hs hd hml hz 7 0 _ (by omega) hT
 have e2 := skp_l0 hw hh hs hd hml hz 7 0 _ (parts w h cs (w * h)) (by omega) hT hpm (room_start hw hh hs hsi hd)
 have e3 := it_ti hw hh hs hd hml 7 0 _ hT
 generalize stIt w h n d 7 (cs, L, List.replicate n 0) = s7 at e1 e2 e3
 refine ⟨(s7.1, s7.2.2), ?_, ?_, e3.si.lc, by rw [e3.len]; exact hml⟩
 ·refine Ev.bind (f := fun k (bt103 : List Int × Int) => (if 0 ≤ bt103.2 then (if (bt103.2 : Int).toNat ≤ 35184372088832 then (spec_skTilt.l0 k d bt103.1 bt103.2 (List.replicate (bt103.2 : Int).toNat 0) 0 w h cs) else (none)) else (none))) hp ?_
  refine Ev.congr e1 fun k => ?_
  show (if 0 ≤ (n : Int) then _ else _ : Option (Int × Int × List Int × List Int)) = _
  rw [if_pos (by omega), if_pos (by omega), Int.toNat_natCast]
  rfl
 ·refine Ev.bind (f := fun k (t103 : List (List Int)) => (if 0 ≤ (t103.length : Int) then (if ((t103.length : Int) : Int).toNat ≤ 35184372088832 then (impl_tray_stuck.l0 k (dirC d) t103 (List.replicate ((t103.length : Int) : Int).toNat 0) w h cs) else (none)) else (none))) (parts_ev hw hh hs hn) ?_
  refine Ev.congr e2 fun k => ?_
  rw [hpm.len, if_pos (by omega), if_pos (by omega), Int.toNat_natCast]
end Go.Proofs.YtgipkpiddjjhcaaDoor.Q
end
section
namespace Go.Proofs.YtgipkpiddjjhcaaDoor.Q
open Go.RowKit Go.Proofs.YtgipkpiddjjhcaaDoorW.PrintWords Go.Proofs.YtgipkpiddjjhcaaDoorW.PrintLast Go.Proofs.YtgipkpiddjjhcaaDoorW.PrintMore
theorem dw_nil {α : Type} (p : α → Bool) : ∀ l : List α, l.dropWhile p = [] ↔ ∀ b ∈ l, p b = true
 | [] => by simp
 | b :: l => by
  rw [List.dropWhile_cons]
  by_cases h : p b = true
  ·rw [if_pos h, dw_nil p l]
   simp [h]
  ·rw [if_neg h]
   simp [h]
theorem dw_all {α : Type} (p : α → Bool) : ∀ l : List α, (∀ b ∈ l.dropWhile p, p b = true) → ∀ b ∈ l, p b = true
 | [], _ => by simp
 | b :: l, h => by
  rw [List.dropWhile_cons] at h
  by_cases hb : p b = true
  ·rw [if_pos hb] at h
   have ih := dw_all p l h
   simpa [hb] using ih
  ·rw [if_neg hb] at h
   exact h
theorem trimS_nil (l cs : List UInt8) : Lib.trimS l cs = [] ↔ ∀ b ∈ l, cs.contains b = true := by
 unfold Lib.trimS Lib.trimLeftS Lib.trimRightS
 rw [dw_nil]
 constructor
 ·intro h
  have h2 := dw_all (cs.contains ·) l.reverse (fun b hb => h b (by simpa using hb))
  exact fun b hb => h2 b (by simpa using hb)
 ·intro h b hb
  rw [List.mem_reverse] at hb
  exact h b (by simpa using (List.dropWhile_sublist _).subset hb)
theorem trim_tell (s cut : ByteArray) (hs : s.size ≤ 1048576) (hc : cut.size < 100) (ha : asciiB cut.data.toList = true) :
  ∃ t, strings_Trim.f s cut = some t ∧ (t.toList = [] ↔ ∀ b ∈ s.data.toList, cut.data.toList.contains b = true) := by
 refine ⟨_, if_pos ⟨by omega, by omega, ha⟩, ?_⟩
 rw [← trimS_nil]
 generalize Lib.trimS s.data.toList cut.data.toList = l
 have e : (⟨l.toArray⟩ : ByteArray).toList = l := ByteArray.toList_mk l
 rw [e]
theorem encode_name : ∀ n : Fin 6, Utf8.encode (97 + (n.val : Int)) = ⟨#[UInt8.ofNat (97 + n.val)]⟩ := by decide +kernel
theorem count_name (s : ByteArray) (n : Nat) (h1 : 97 ≤ n) (h2 : n ≤ 102) : (runeS.f (n : Int)).bind (fun t => strings_Count.f s t) = some ((s.data.toList.count (UInt8.ofNat n) : Nat) : Int) := by
 have h := encode_name ⟨n - 97, by omega⟩
 simp only [show (97 + ((n - 97 : Nat) : Int)) = (n : Int) by omega, show 97 + (n - 97) = n by omega] at h
 unfold runeS.f
 rw [Option.bind_some, h]
 rfl
theorem it_l1 (s : ByteArray) : ∀ (m n : Nat), 97 ≤ n → n + m = 103 → ∀ R : Bool, (R = true ↔ ∀ c : Nat, n ≤ c → c ≤ 102 → s.data.toList.count (UInt8.ofNat c) ≤ 1) → Ev (fun k => impl_IsTray.l1 k s n) R
 | 0, n, h1, h2, R, hR => by
  obtain rfl : R = true := hR.2 fun c h3 h4 => by omega
  refine Ev.step (Ev.const (o := some true) rfl) fun k => ?_
  rw [impl_IsTray.l1, if_neg (by omega)]
 | m + 1, n, h1, h2, R, hR => by
  have hc := count_name s n h1 (by omega)
  obtain ⟨t, e1, e2⟩ := Option.bind_eq_some_iff.1 hc
  have hw : wrap32 ((n : Int) + 1) = ((n + 1 : Nat) : Int) := by unfold wrap32; omega
  by_cases hn : s.data.toList.count (UInt8.ofNat n) ≤ 1
  ·have ih := it_l1 s m (n + 1) (by omega) (by omega) R (hR.trans ⟨fun h c h3 h4 => h c (by omega) h4, fun h c h3 h4 => by
    by_cases h5 : n = c
    ·rw [← h5]; exact hn
    ·exact h c (by omega) h4⟩)
   refine Ev.step ih fun k => ?_
   rw [impl_IsTray.l1, if_pos (by omega), e1, Option.bind_some, e2, Option.bind_some, if_neg (by omega), hw]
  ·obtain rfl : R = false := Bool.eq_false_iff.2 fun h => hn (hR.1 h n (Nat.le_refl _) (by omega))
   refine Ev.step (Ev.const (o := some false) rfl) fun k => ?_
   rw [impl_IsTray.l1, if_pos (by omega), e1, Option.bind_some, e2, Option.bind_some, if_pos (by omega)]
theorem named_count (s : ByteArray) : namedOK (ints (rows 47 s.data.toList).flatten) ↔ ∀ c : Nat, 97 ≤ c → c ≤ 102 → s.data.toList.count (UInt8.ofNat c) ≤ 1 := by
 have h : ∀ c : Nat, 97 ≤ c → c ≤ 102 → (ints (rows 47 s.data.toList).flatten).count (c : Int) = s.data.toList.count (UInt8.ofNat c) := by
  intro c h1 h2
  have e : ((UInt8.ofNat c).toNat : Int) = c := by
   rw [UInt8.toNat_ofNat']
   omega
  rw [← e, ints_count, rows_count 47 (UInt8.ofNat c)]
  intro e2
  have := congrArg UInt8.toNat e2
  rw [UInt8.toNat_ofNat'] at this
  have h47 : (47 : UInt8).toNat = 47 := rfl
  omega
 constructor
 ·intro h1 c h2 h3
  rw [← h c h2 h3]
  exact h1 c (by omega) (by omega)
 ·intro h1 c h2 h3
  have h4 := h c.toNat (by omega) (by omega)
  rw [show ((c.toNat : Nat) : Int) = c by omega] at h4
  rw [h4]
  exact h1 _ (by omega) (by omega)
theorem within_eq (a lo hi : Int) : impl_within.f a lo hi = some (decide (lo ≤ a ∧ a ≤ hi)) := by
 unfold impl_within.f
 by_cases h : lo ≤ a
 ·rw [if_pos h]
  simp [h]
 ·rw [if_neg h]
  simp [h]
theorem isSize_eq (w h : Nat) (hw : w ≤ 1048576) (hh : h ≤ 1048577) : impl_isSize.f w h = some (decide (1 ≤ w ∧ w ≤ 7 ∧ 1 ≤ h ∧ h ≤ 7 ∧ w * h ≤ 36)) := by
 unfold impl_isSize.f
 rw [within_eq, Option.bind_some]
 by_cases h1 : 1 ≤ w ∧ w ≤ 7
 ·rw [decide_eq_true (by omega), if_pos rfl, within_eq, Option.bind_some]
  by_cases h2 : 1 ≤ h ∧ h ≤ 7
  ·rw [decide_eq_true (by omega), if_pos rfl]
   have h3 : w * h ≤ 7 * 7 := Nat.mul_le_mul h1.2 h2.2
   have e : wrap64 ((w : Int) * h) = ((w * h : Nat) : Int) := by
    rw [← Int.natCast_mul]
    exact w64 (by omega) (by omega)
   rw [e]
   congr 1
   exact decide_eq_decide.2 ⟨fun h => ⟨h1.1, h1.2, h2.1, h2.2, by omega⟩, fun h => by omega⟩
  ·rw [decide_eq_false (by omega), if_neg (by decide), decide_eq_false (by omega)]
 ·rw [decide_eq_false (by omega), if_neg (by decide), decide_eq_false (by omega)]
theorem rowsL_len (s : ByteArray) : (rowsL s).length = (rows 47 s.data.toList).length := by rw [← rowsL_map, List.length_map]
theorem rowsL_drop (s : ByteArray) (i : Nat) (h : i < (rowsL s).length) : (rows 47 s.data.toList).drop i = (rdOf ByteArray.empty (rowsL s) (i : Int)).data.toList :: (rows 47 s.data.toList).drop (i + 1) := by
 rw [← rowsL_map]
 have h2 : i < ((rowsL s).map (·.data.toList)).length := by rw [List.length_map]; exact h
 rw [List.drop_eq_getElem_cons h2]
 congr 1
 unfold rdOf
 rw [List.getElem_map, Int.toNat_natCast, List.getD_eq_getElem?_getD, List.getElem?_eq_getElem h]
 rfl
theorem rowsL_tw (s : ByteArray) (h : 0 < (rowsL s).length) : (rdOf ByteArray.empty (rowsL s) 0).size = tw (rows 47 s.data.toList) := by
 have e := rowsL_drop s 0 h
 rw [List.drop_zero] at e
 unfold tw
 rw [e, List.headD_cons, data_length]
 rfl
theorem rows_le (c : UInt8) (l r : List UInt8) (h : r ∈ rows c l) : r.length ≤ l.length := by
 have h1 := rows_flat c l
 have h2 : r.length ≤ (rows c l).flatten.length := (List.sublist_flatten_of_mem h).length_le
 omega
def cutAll : ByteArray := ⟨#[35, 46, 111, 97, 98, 99, 100, 101, 102]⟩
theorem it_l0 (s : ByteArray) (hs : s.size ≤ 1048576) (w : Nat) (hw : (rdOf ByteArray.empty (rowsL s) 0).size = w) (K : Bool) (hK : Ev (fun k => impl_IsTray.l1 k s 97) K) :
  ∀ (m i : Nat), i + m = (rowsL s).length → Ev (fun k => impl_IsTray.l0 k s (rowsL s) (rowsL s) (rowsL s).length i) (if evenRows w ((rows 47 s.data.toList).drop i) then K else false)
 | 0, i, hi => by
  have e : (rows 47 s.data.toList).drop i = [] := List.drop_eq_nil_of_le (by rw [← rowsL_len]; omega)
  rw [e, if_pos (show evenRows w [] from fun r hr => by simp at hr)]
  refine Ev.step hK fun k => ?_
  rw [impl_IsTray.l0, if_neg (by omega)]
 | m + 1, i, hi => by
  have ih := it_l0 s hs w hw K hK m (i + 1) (by omega)
  have hlt : i < (rowsL s).length := by omega
  have hlen : (rowsL s).length ≤ 1048577 := by
   have h1 := rows_size 47 s.data.toList
   have h2 := data_length s
   rw [rowsL_len]
   omega
  have hd := rowsL_drop s i hlt
  have hrow : (rdOf ByteArray.empty (rowsL s) (i : Int)).data.toList ∈ rows 47 s.data.toList := (List.drop_sublist i _).subset (by rw [hd]; exact List.mem_cons_self)
  have hsz : (rdOf ByteArray.empty (rowsL s) (i : Int)).size ≤ 1048576 := by
   have h1 := rows_le 47 _ _ hrow
   rw [data_length, data_length] at h1
   omega
  have hwr : wrap64 ((i : Int) + 1) = ((i + 1 : Nat) : Int) := by rw [w64 (by omega) (by omega)]; omega
  rw [hd]
  generalize hrw : rdOf ByteArray.empty (rowsL s) (i : Int) = row at hsz hd ⊢
  obtain ⟨t, et, ht⟩ := trim_tell row cutAll hsz (by decide) (by decide)
  have hcell : (∀ b ∈ row.data.toList, cutAll.data.toList.contains b = true) ↔ row.data.toList.all isCellB = true := by
   rw [List.all_eq_true]
   rfl
  rw [ite_iff ((evenRows_cons w row.data.toList ((rows 47 s.data.toList).drop (i + 1))).trans (show _ ↔ (row.size = w ∧ t.toList = []) ∧ evenRows w ((rows 47 s.data.toList).drop (i + 1)) by rw [← hcell, ← ht, data_length]))]
  by_cases h1 : row.size = w
  ·by_cases h2 : t.toList = []
   ·rw [ite_iff (show ((row.size = w ∧ t.toList = []) ∧ evenRows w ((rows 47 s.data.toList).drop (i + 1))) ↔ evenRows w ((rows 47 s.data.toList).drop (i + 1)) from ⟨fun h => h.2, fun h => ⟨⟨h1, h2⟩, h⟩⟩)]
    refine Ev.step ih fun k => ?_
    rw [impl_IsTray.l0, if_pos (by omega), if_pos (by omega), if_pos (by omega), if_pos (by omega), hrw, hw, if_pos (by omega)]
    show (strings_Trim.f row cutAll).bind _ = _
    rw [et, Option.bind_some, if_pos h2, hwr]
   ·rw [if_neg fun h => h2 h.1.2]
    refine Ev.step (Ev.const (o := some false) rfl) fun k => ?_
    rw [impl_IsTray.l0, if_pos (by omega), if_pos (by omega), if_pos (by omega), if_pos (by omega), hrw, hw, if_pos (by omega)]
    show (strings_Trim.f row cutAll).bind _ = _
    rw [et, Option.bind_some, if_neg h2]
  ·rw [if_neg fun h => h1 h.1.1]
   refine Ev.step (Ev.const (o := some false) rfl) fun k => ?_
   rw [impl_IsTray.l0, if_pos (by omega), if_pos (by omega), if_pos (by omega), if_pos (by omega), hrw, hw, if_neg (by omega)]
theorem isTray_ev (s : ByteArray) (hs : s.size ≤ 1048576) : Ev (fun k => impl_IsTray.f k s) (trayOf s).isSome := by
 have h1 := rows_size 47 s.data.toList
 have h2 := data_length s
 have h3 := rowsL_len s
 have hne : 0 < (rowsL s).length := by
  rw [h3]
  exact List.length_pos_iff.2 (rows_ne 47 _)
 have hw := rowsL_tw s hne
 have hwle : tw (rows 47 s.data.toList) ≤ 1048576 := by
  have e := rowsL_drop s 0 hne
  rw [List.drop_zero] at e
  have := rows_le 47 s.data.toList _ (by rw [e]; exact List.mem_cons_self)
  rw [data_length, data_length] at this
  have h4 : (rdOf ByteArray.empty (rowsL s) ((0 : Nat) : Int)).size = (rdOf ByteArray.empty (rowsL s) 0).size := rfl
  omega
 have hsp : strings_Split.f s ⟨#[47]⟩ = some (rowsL s) := if_pos ⟨by omega, by decide⟩
 have hss := isSize_eq (tw (rows 47 s.data.toList)) (rowsL s).length hwle (by omega)
 have hf : ∀ k, impl_IsTray.f k s = if decide (1 ≤ tw (rows 47 s.data.toList) ∧ tw (rows 47 s.data.toList) ≤ 7 ∧ 1 ≤ (rowsL s).length ∧ (rowsL s).length ≤ 7 ∧ tw (rows 47 s.data.toList) * (rowsL s).length ≤ 36) = true then impl_IsTray.l0 k s (rowsL s) (rowsL s) (rowsL s).length 0 else some false := by
  intro k
  unfold impl_IsTray.f
  rw [hsp, Option.bind_some, if_pos (by omega), hw, hss, Option.bind_some]
 refine Ev.congr ?_ hf
 unfold trayOf trayRows
 by_cases hc : 1 ≤ tw (rows 47 s.data.toList) ∧ tw (rows 47 s.data.toList) ≤ 7 ∧ 1 ≤ (rowsL s).length ∧ (rowsL s).length ≤ 7 ∧ tw (rows 47 s.data.toList) * (rowsL s).length ≤ 36
 ·rw [decide_eq_true hc]
  refine Ev.congr ?_ (fun k => if_pos rfl)
  have h5 := it_l0 s hs _ hw (decide (namedOK (ints (rows 47 s.data.toList).flatten))) (it_l1 s 6 97 (by omega) (by omega) _ (by rw [decide_eq_true_iff]; exact named_count s)) (rowsL s).length 0 (by omega)
  rw [List.drop_zero] at h5
  have e : (if okRows (rows 47 s.data.toList) then some ((tw (rows 47 s.data.toList) : Int), ((rows 47 s.data.toList).length : Int), ints (rows 47 s.data.toList).flatten) else none).isSome =
    if evenRows (tw (rows 47 s.data.toList)) (rows 47 s.data.toList) then decide (namedOK (ints (rows 47 s.data.toList).flatten)) else false := by
   by_cases h6 : evenRows (tw (rows 47 s.data.toList)) (rows 47 s.data.toList)
   ·by_cases h7 : namedOK (ints (rows 47 s.data.toList).flatten)
    ·rw [if_pos h6, if_pos (show okRows _ from ⟨by rw [h3] at hc; omega, h6, h7⟩), decide_eq_true h7]
     rfl
    ·rw [if_pos h6, if_neg fun h => h7 h.2.2, decide_eq_false h7]
     rfl
   ·rw [if_neg h6, if_neg fun h => h6 h.2.1]
    rfl
  rw [e]
  exact h5
 ·rw [if_neg fun h => hc (by have h4 := h.1; rw [h3]; omega), decide_eq_false hc]
  exact Ev.congr (Ev.const (o := some false) rfl) (fun k => if_neg (by decide))
theorem joined_ints (s : ByteArray) : bytesOf (joinedB s) = ints (rows 47 s.data.toList).flatten := by
 unfold bytesOf ints
 rw [joinedB_list]
theorem trayOf_row (s : ByteArray) : trayOf s = none ∨ (s.size ≤ 42 ∧ impl_read.f s = trayOf s) := by
 rcases h : trayOf s with _ | t
 ·exact Or.inl rfl
 ·have hs := trayOf_small s (by rw [h]; exact fun e => nomatch e)
  refine Or.inr ⟨hs, ?_⟩
  rw [← h]
  have hne : 0 < (rowsL s).length := by
   rw [rowsL_len]
   exact List.length_pos_iff.2 (rows_ne 47 _)
  have hw := rowsL_tw s hne
  unfold trayOf trayRows at h ⊢
  split at h
  ·rename_i hk
   rw [if_pos hk]
   unfold impl_read.f
   rw [if_pos (by omega), joined_ints, rowsL_len, ← hw]
   rfl
  ·cases h
theorem trayOf_some {s : ByteArray} {t : Int × Int × List Int} (ht : trayOf s = some t) : ∃ w h : Nat, t = ((w : Int), (h : Int), ints (rows 47 s.data.toList).flatten) ∧ 1 ≤ w ∧ w ≤ 7 ∧ 1 ≤ h ∧ h ≤ 7 ∧ w * h ≤ 36 ∧ (ints (rows 47 s.data.toList).flatten).length = w * h := by
 unfold trayOf trayRows at ht
 split at ht
 ·rename_i hk
  have h1 := evenRows_flat _ _ hk.2.1
  have h2 := List.length_pos_iff.2 (rows_ne 47 s.data.toList)
  have h3 := hk.1
  refine ⟨_, _, (Option.some.inj ht).symm, h3.1, h3.2.1, by omega, h3.2.2.1, h3.2.2.2, ?_⟩
  rw [ints_length, h1]
 ·cases ht
theorem tray_parts {s : ByteArray} {t : Int × Int × List Int} (ht : trayOf s = some t) : ∃ (w h : Nat) (cs : List Int), t = ((w : Int), (h : Int), cs) ∧ 1 ≤ w ∧ w ≤ 7 ∧ 1 ≤ h ∧ h ≤ 7 ∧ w * h ≤ 36 ∧ cs.length = w * h := by
 obtain ⟨w, h, e, h1, h2, h3, h4, h5, h6⟩ := trayOf_some ht
 exact ⟨w, h, _, e, h1, h2, h3, h4, h5, h6⟩
theorem tray_read {s : ByteArray} {t : Int × Int × List Int} (ht : trayOf s = some t) : impl_read.f s = some t := by
 rw [← ht]
 exact ((trayOf_row s).resolve_left (by rw [ht]; exact fun e => nomatch e)).2
end Go.Proofs.YtgipkpiddjjhcaaDoor.Q
end
section
namespace Go.Proofs.YtgipkpiddjjhcaaDoor.Q
open Go.RowKit Go.Proofs.YtgipkpiddjjhcaaDoorW.PrintWords Go.Proofs.YtgipkpiddjjhcaaDoorW.PrintLast Go.Proofs.YtgipkpiddjjhcaaDoorW.PrintMore
attribute [local go_sem] max2_int min2_int max_two min_two max_three min_three max_four min_four
set_option linter.unusedVariables false
set_option linter.unusedSimpArgs false
def spec_tiDirs.f  : Option (ByteArray) := some (⟨#[117, 114, 100, 108]⟩ : ByteArray)
set_option maxHeartbeats 8000000 in
set_option maxRecDepth 100000 in
theorem spec_tiDirs.calls  (r : ByteArray) (w : World) (h : spec_tiDirs.f  = some r) :
  Calls Tryd.prog 39 #[] w fun e w' => e = .returned (.string r) ∧ Drawn0 w w' := by
 have H : (some (⟨#[117, 114, 100, 108]⟩ : ByteArray)) = some r := h
 clear h
 obtain rfl := Option.some.inj H
 go_enter Tryd.func39, Tryd.ntmps39
 go_wp2
 go_ret
 exact ⟨by first | rfl | (simp; done) | (simp [*]; done), by repeat (first | exact Drawn0.refl _ | apply Drawn0.step)⟩
end Go.Proofs.YtgipkpiddjjhcaaDoor.Q
end
section
namespace Go.Proofs.YtgipkpiddjjhcaaDoor.Q
set_option linter.unusedSectionVars false
open Go.RowKit Go.Proofs.YtgipkpiddjjhcaaDoorW.PrintWords Go.Proofs.YtgipkpiddjjhcaaDoorW.PrintLast Go.Proofs.YtgipkpiddjjhcaaDoorW.PrintMore
def dirB (d : Nat) : UInt8 := ([117, 114, 100, 108] : List UInt8).getD d 0
end Go.Proofs.YtgipkpiddjjhcaaDoor.Q
end
section
namespace Go.Proofs.YtgipkpiddjjhcaaDoor.Q
set_option linter.unusedSectionVars false
open Go.RowKit Go.Proofs.YtgipkpiddjjhcaaDoorW.PrintWords Go.Proofs.YtgipkpiddjjhcaaDoorW.PrintLast Go.Proofs.YtgipkpiddjjhcaaDoorW.PrintMore
def isD (b : UInt8) : Bool := ([117, 114, 100, 108] : List UInt8).contains b
def dirN (b : UInt8) : Nat := if b = 117 then 0 else if b = 114 then 1 else if b = 100 then 2 else 3
def wordL (l : List UInt8) : Bool := decide (l.length ≤ 40) && l.all isD
def wordB (s : ByteArray) : Bool := wordL s.data.toList
theorem isD_cases {b : UInt8} (h : isD b = true) : b = 117 ∨ b = 114 ∨ b = 100 ∨ b = 108 := by
 unfold isD at h
 simpa using h
theorem dirN_lt (b : UInt8) : dirN b < 4 := by
 unfold dirN
 split
 ·omega
 ·split
  ·omega
  ·split <;> omega
theorem dirN_C {b : UInt8} (h : isD b = true) : (117 ≤ 117) ∧ ([117, 114, 100, 108] : List Int).getD (dirN b) 0 = (b.toNat : Int) := by
 rcases isD_cases h with rfl | rfl | rfl | rfl <;> decide
theorem bytes_rd (s : ByteArray) (t : Nat) (h : t < s.data.toList.length) : rd (bytesOf s) (t : Int) = (s.data.toList[t].toNat : Int) := by
 unfold rd bytesOf
 rw [Int.toNat_natCast, List.getD_eq_getElem?_getD, List.getElem?_map, List.getElem?_eq_getElem h]
 rfl
theorem wordB_parts {s : ByteArray} (h : wordB s = true) : s.size ≤ 40 ∧ ∀ (t : Nat) (ht : t < s.data.toList.length), isD s.data.toList[t] = true := by
 unfold wordB wordL at h
 rw [Bool.and_eq_true, decide_eq_true_eq, List.all_eq_true, data_length] at h
 exact ⟨h.1, fun t ht => h.2 _ (List.getElem_mem ht)⟩
theorem dir_word {s : ByteArray} {d : Nat} (hd : d < 4) (hs : s.data.toList = [dirB d]) : wordB s = true ∧ s.data.toList.map dirN = [d] := by
 unfold wordB wordL
 rw [hs]
 have h : ∀ d : Fin 4, (decide ([dirB d.val].length ≤ 40) && [dirB d.val].all isD) = true ∧ [dirB d.val].map dirN = [d.val] := by decide
 exact h ⟨d, hd⟩
def goodD (P : Nat → Bool) (t : Nat) : List Int := ((List.range t).filter P).map dirC
theorem goodD_succ (P : Nat → Bool) (t : Nat) : goodD P (t + 1) = if P t = true then goodD P t ++ [dirC t] else goodD P t := by
 unfold goodD
 rw [List.range_succ, List.filter_append, List.map_append]
 by_cases h : P t = true
 ·rw [if_pos h]
  simp [h]
 ·rw [if_neg h]
  simp [h]
theorem goodD_len (P : Nat → Bool) (t : Nat) : (goodD P t).length ≤ t := by
 unfold goodD
 rw [List.length_map]
 have := List.length_filter_le P (List.range t)
 rw [List.length_range] at this
 exact this
theorem dcut : ∀ d : Fin 4, (⟨#[117, 114, 100, 108]⟩ : ByteArray).extract ((d.val : Int)).toNat (((d.val + 1 : Nat) : Int)).toNat = strOfNums [dirC d.val] := by decide
theorem dirOne : ∀ d : Fin 4, strOfNums [dirC d.val] = (⟨#[dirB d.val]⟩ : ByteArray) ∧ rd ([117, 114, 100, 108] : List Int) (d.val : Int) = dirC d.val := by decide
theorem son_append (a b : List Int) : strOfNums a ++ strOfNums b = strOfNums (a ++ b) := by
 apply ByteArray.ext
 apply Array.ext'
 simp [strOfNums, ByteArray.data_append]
theorem son_size (a : List Int) : (strOfNums a).size = a.length := by
 rw [← data_length]
 simp [strOfNums]
end Go.Proofs.YtgipkpiddjjhcaaDoor.Q
end
section
namespace Go.Proofs.YtgipkpiddjjhcaaDoor.Q
open Go.RowKit Go.Proofs.YtgipkpiddjjhcaaDoorW.PrintWords Go.Proofs.YtgipkpiddjjhcaaDoorW.PrintLast Go.Proofs.YtgipkpiddjjhcaaDoorW.PrintMore
attribute [local go_sem] max2_int min2_int max_two min_two max_three min_three max_four min_four
set_option linter.unusedVariables false
set_option linter.unusedSimpArgs false
def impl_tray_stuckAll.l0 : Nat → List Int → Int → Int → Int → Int → List Int → Option (Int × Int × List Int)
 | 0, _, _, _, _, _, _ => none
 | k + 1, x8, x9, x10, x102000, x102001, x102002 => if x10 < x9 then (if 0 ≤ x10 then (if x10 < (x8.length : Int) then ((impl_tray_stuck.f k x102000 x102001 x102002 (rd x8 x10)).bind fun bt107 => (impl_tray_stuckAll.l0 k x8 x9 (wrap64 (x10 + 1)) bt107.1 bt107.2.1 bt107.2.2.1)) else (none)) else (none)) else (some (x102000, x102001, x102002))
def impl_tray_stuckAll.f (k : Nat) (a0_0 : Int) (a0_1 : Int) (l0_2 : List Int) (a1 : ByteArray) : Option (Int × Int × List Int) := (convB.f a1).bind fun t103 => (impl_tray_stuckAll.l0 k t103 (t103.length : Int) 0 a0_0 a0_1 l0_2)
set_option maxHeartbeats 8000000 in
set_option maxRecDepth 100000 in
theorem impl_tray_stuckAll.calls (k : Nat) (a0_0 : Int) (a0_1 : Int) (P0_2_ : Nat → Prop) (A0_2 : Option Addr) (c0_2 : Nat) (l0_2 : List Int) (a1 : ByteArray) (r1 : Int) (r2 : Int) (r3 : List Int) (w : World) (hs0_2 : Kd.V (Kd.int .u8) 5 w w.heap.size (fun k_ => P0_2_ k_) (.slice A0_2 l0_2.length c0_2) l0_2) (h : impl_tray_stuckAll.f k a0_0 a0_1 l0_2 a1 = some (r1, r2, r3)) :
  Calls Tryd.prog 41 #[.agg #[.int .i64 a0_0, .int .i64 a0_1, .slice A0_2 l0_2.length c0_2], .string a1] w fun e w' => ∃ v2_ : Value, e = .returned (.agg #[.int .i64 r1, .int .i64 r2, v2_]) ∧ Kd.V (Kd.int .u8) 5 w' w.heap.size (fun k_ => (P0_2_ k_ ∨ w.heap.size ≤ k_)) v2_ r3 ∧ Below w.heap.size w w' := by
 have hu46 := Tryd.underlying46
 have HO0_2 := Aside0.mk (show Kd.V (Kd.int .u8) 5 w w.heap.size (fun k_ => (P0_2_ k_ ∨ w.heap.size ≤ k_)) (.slice A0_2 l0_2.length c0_2) l0_2 from Kd.V_mono hs0_2 (fun k_ hk => .inl hk))
 have HB := Aside0.mk (Below.refl w.heap.size w)
 have H : ((convB.f a1).bind fun t103 => (impl_tray_stuckAll.l0 k t103 (t103.length : Int) 0 a0_0 a0_1 l0_2)) = some (r1, r2, r3) := h
 clear h
 replace H := Option.bind_eq_some_iff.mp H
 obtain ⟨t103, A30, H⟩ := H
 replace H : (impl_tray_stuckAll.l0 k t103 (t103.length : Int) 0 a0_0 a0_1 l0_2) = some (r1, r2, r3) := H
 have A3 := Aside0.mk A30
 clear A30
 have H' := Aside0.mk H
 clear H
 go_enter Tryd.func41, Tryd.ntmps41
 go_wp2_with (first | ((with_reducible refine gate_dst (N := 2) rfl ?_); refine boxE (N := 2) (cs := #[.int .i64 a0_0, .int .i64 a0_1, .slice A0_2 l0_2.length c0_2]) (t := 46) ?_; intro gb101 hg w4 hbox hb; have n0_ := Aside0.mk (Kd.V_below (Kd.V_elderB (by (with_reducible repeat (first | apply Kd.V_alloc | apply Kd.V_drewN | apply Kd.V_drew)); (first | exact HO0_2.out | exact R_any HO0_2.out)) gb101 (Nat.le_of_eq hg.symm)) hb); have n1_ := Aside0.mk (below_step (bel HB) hb); have n2_ := Aside0.mk (hbox); have n3_ := Aside0.mk (gsz hg (bel HB)); have n4_ := Aside0.mk (gsz hg (bel HB)); clear HO0_2; clear HB; have HO0_2 := n0_; have HB := n1_; have BK101 := n2_; have GW101 := n3_; have GE101 := n4_; clear n0_ n1_ n2_ n3_ n4_; clear hb hbox hg) | ((with_reducible refine gate_dst (N := 4) rfl ?_); refine boxE (N := 4) (cs := #[.int .i64 0, .int .i64 0, .slice none 0 0]) (t := 46) ?_; intro gb102 hg w5 hbox hb; have n0_ := Aside0.mk (Kd.V_below (Kd.V_elderB (by (with_reducible repeat (first | apply Kd.V_alloc | apply Kd.V_drewN | apply Kd.V_drew)); (first | exact HO0_2.out | exact R_any HO0_2.out)) gb102 (Nat.le_of_eq hg.symm)) hb); have n1_ := Aside0.mk (blk_below (g := gb101) (o := .cells #[.int .i64 a0_0, .int .i64 a0_1, .slice A0_2 l0_2.length c0_2] 46 (0, 0)) blc hb); have n2_ := Aside0.mk (below_step (bel HB) hb); have n3_ := Aside0.mk (hbox); have n4_ := Aside0.mk (gsz hg (bel HB)); have n5_ := Aside0.mk (gsz hg (bel HB)); have n6_ := Aside0.mk ((by rw [hg]; exact Nat.ne_of_lt (blk_lt (g := gb101) (o := .cells #[.int .i64 a0_0, .int .i64 a0_1, .slice A0_2 l0_2.length c0_2] 46 (0, 0)) blc) : gb101 ≠ gb102)); have n7_ := Aside0.mk ((by rw [hg]; exact Nat.ne_of_gt (blk_lt (g := gb101) (o := .cells #[.int .i64 a0_0, .int .i64 a0_1, .slice A0_2 l0_2.length c0_2] 46 (0, 0)) blc) : gb102 ≠ gb101)); clear HO0_2; clear BK101; clear HB; have HO0_2 := n0_; have BK101 := n1_; have HB := n2_; have BK102 := n3_; have GW102 := n4_; have GE102 := n5_; have NB101_102 := n6_; have NB102_101 := n7_; clear n0_ n1_ n2_ n3_ n4_ n5_ n6_ n7_; clear hb hbox hg) | ((with_reducible refine gate_dst (N := 8) rfl ?_); refine convB.step rfl (N := 8) rfl 9 34 5 _ rfl Tryd.underlying9 Tryd.underlying34 Tryd.underlying5 rfl A3.out ?_; intro v104 w6 ho0 hb; have n0_ := Aside0.mk (Kd.V_below (by (with_reducible repeat (first | apply Kd.V_alloc | apply Kd.V_drewN | apply Kd.V_drew)); (first | exact HO0_2.out | exact R_any HO0_2.out)) hb); have n1_ := Aside0.mk (Kd.V_lower (Kd.V_mono (ok' := fun k_ => (P0_2_ k_ ∨ w.heap.size ≤ k_) ∧ k_ ≠ gb101 ∧ k_ ≠ gb102) ho0 (fun k_ hk_ => ⟨(.inr (Nat.le_trans (below_size (bel HB)) hk_)), (Kd.freshB (g := gb101) (o := .cells #[.int .i64 a0_0, .int .i64 a0_1, .slice A0_2 l0_2.length c0_2] 46 (0, 0)) blc k_ hk_), (Kd.freshB (g := gb102) (o := .cells #[.int .i64 0, .int .i64 0, .slice none 0 0] 46 (0, 0)) blc k_ hk_)⟩)) (below_size (bel HB))); have n2_ := Aside0.mk (blk_below (g := gb101) (o := .cells #[.int .i64 a0_0, .int .i64 a0_1, .slice A0_2 l0_2.length c0_2] 46 (0, 0)) blc hb); have n3_ := Aside0.mk (blk_below (g := gb102) (o := .cells #[.int .i64 0, .int .i64 0, .slice none 0 0] 46 (0, 0)) blc hb); have n4_ := Aside0.mk (below_step (bel HB) hb); clear HO0_2; clear BK101; clear BK102; clear HB; have HO0_2 := n0_; have HO105 := n1_; have BK101 := n2_; have BK102 := n3_; have HB := n4_; clear n0_ n1_ n2_ n3_ n4_; (try clear hb); (try clear hb2); (try clear hk); (try clear hi); (try clear ho0); obtain ⟨Ao7, co7, eo7⟩ := Kd.V_slice HO105.out; subst eo7))
 go_loopg [10] k (fun kq v10 w' => ∃ (x10_1 : Int) (x102000_1 : Int) (x102001_1 : Int) (x102002_1 : List Int) (u102002 : Value), v10 = .int .i64 x10_1 ∧ Aside0 (impl_tray_stuckAll.l0 kq t103 (t103.length : Int) x10_1 x102000_1 x102001_1 x102002_1 = some (r1, r2, r3)) ∧ Aside0 (kq ≤ k) ∧ Aside0 (Kd.V (Kd.int .u8) 5 w' w.heap.size (fun k_ => (P0_2_ k_ ∨ w.heap.size ≤ k_) ∧ k_ ≠ gb101 ∧ k_ ≠ gb102) (.slice Ao7 t103.length co7) t103) ∧ Aside0 (Kd.V (Kd.int .u8) 5 w' w.heap.size (fun k_ => (P0_2_ k_ ∨ w.heap.size ≤ k_) ∧ k_ ≠ gb101 ∧ k_ ≠ gb102) u102002 x102002_1) ∧ Aside0 (w'.heap[gb101]? = some (.cells #[.int .i64 x102000_1, .int .i64 x102001_1, u102002] 46 (0, 0))) ∧ Aside0 (w'.heap[gb102]? = some (.cells #[.int .i64 0, .int .i64 0, (.slice none 0 0)] 46 (0, 0))) ∧ Aside0 (Below w.heap.size w w'))
 case atStart => exact ⟨(0), (a0_0), (a0_1), (l0_2), (.slice A0_2 l0_2.length c0_2), (by first | rfl | (simp; done) | (simp [*]; done)), H', ⟨Nat.le_refl _⟩, ⟨by (with_reducible repeat (first | apply Kd.V_alloc | apply Kd.V_drewN | apply Kd.V_drew)); (first | exact HO105.out | exact R_any HO105.out)⟩, ⟨by (with_reducible repeat (first | apply Kd.V_alloc | apply Kd.V_drewN | apply Kd.V_drew)); exact Kd.V_mono HO0_2.out (fun _ hk => ⟨hk.1.1, ⟨hk.1.2, hk.2⟩⟩)⟩, ⟨blc⟩, ⟨blc⟩, ⟨bel HB⟩⟩
 case round =>
  clear H'
  try clear p2
  try clear c4
  obtain ⟨x10_1, x102000_1, x102001_1, x102002_1, u102002, rfl, HA, HK1, HO_8, HO_102002, BK101, BK102, HB⟩ := hrel
  cases gk with
  | zero => exact absurd HA.out (by simp [impl_tray_stuckAll.l0])
  | succ k1 =>
   have H := HA.out
   clear HA
   simp only [impl_tray_stuckAll.l0] at H
   by_cases c8 : x10_1 < (t103.length : Int)
   ·rw [if_pos c8] at H
    have c8b0 : decide (x10_1 < (t103.length : Int)) = true := decide_eq_true c8
    clear c8
    by_cases c9 : 0 ≤ x10_1
    ·rw [if_pos c9] at H
     have c9b0 : decide (0 ≤ x10_1) = true := decide_eq_true c9
     clear c9
     by_cases c10 : x10_1 < (t103.length : Int)
     ·rw [if_pos c10] at H
      have c10b0 : decide (x10_1 < (t103.length : Int)) = true := decide_eq_true c10
      clear c10
      replace H := Option.bind_eq_some_iff.mp H
      obtain ⟨⟨t107, t108, t109, t112⟩, A110, H⟩ := H
      replace H : (impl_tray_stuckAll.l0 k1 t103 (t103.length : Int) (wrap64 (x10_1 + 1)) t107 t108 t109) = some (r1, r2, r3) := H
      have A11 := Aside0.mk A110
      clear A110
      have H' := Aside0.mk H
      clear H
      have p106 : 0 ≤ (x10_1 : Int) := of_decide_eq_true (by first | (with_reducible assumption) | assumption)
      have q106 : x10_1 < (t103.length : Int) := of_decide_eq_true (by first | (with_reducible assumption) | assumption)
      obtain ⟨ad106, e106, hx106_0⟩ := Kd.at_int (Kd.V_reads' HO_8.out).2.2 x10_1 p106 q106
      cases e106
      replace p106 := eq_true p106
      replace q106 := eq_true q106
      have hnb12 := NB101_102.out
      have hnc12 := NB102_101.out
      have hcz13_0 : wr.cell? ⟨gb101, 0, none⟩ = some (.int .i64 x102000_1) := (blk_cell BK101.out 0).trans rfl
      have hcz13_1 : wr.cell? ⟨gb101, 1, none⟩ = some (.int .i64 x102001_1) := (blk_cell BK101.out 1).trans rfl
      have hcz13_2 : wr.cell? ⟨gb101, 2, none⟩ = some (u102002) := (blk_cell BK101.out 2).trans rfl
      have hfz13_0 := blk_frozen BK101.out 0
      have hfz13_1 := blk_frozen BK101.out 1
      have hfz13_2 := blk_frozen BK101.out 2
      obtain ⟨Ao14, co14, eo14⟩ := Kd.V_slice HO_102002.out
      subst eo14
      go_wp2_with (first | ((with_reducible refine gate_callee (f := 37) rfl ?_); refine gcall (some 17) Tryd.func37 #[.agg #[.int .i64 x102000_1, .int .i64 x102001_1, .slice Ao14 x102002_1.length co14], .int .u8 (rd t103 x10_1)] rfl ?_; (with_reducible refine (impl_tray_stuck.calls k1 x102000_1 x102001_1 (fun k_ => ((P0_2_ k_ ∨ w.heap.size ≤ k_) ∧ (k_ ≠ gb101 ∧ k_ ≠ gb102))) _ _ x102002_1 (rd t103 x10_1) t107 t108 t109 t112 _ ?side1 A11.out).mono ?_); (case side1 => (first | exact HO_102002.out | exact R_any HO_102002.out)); rintro e w15 ⟨v110, v113, rfl, ho0, ho1, hb⟩; refine ⟨_, rfl, ?_⟩; have n0_ := Aside0.mk (Kd.V_elder' (by (with_reducible repeat (first | apply Kd.V_alloc | apply Kd.V_drewN | apply Kd.V_drew)); (first | exact HO_8.out | exact R_any HO_8.out)) (Kd.R_base ho1) hb); have n1_ := Aside0.mk (Kd.V_elder' (by (with_reducible repeat (first | apply Kd.V_alloc | apply Kd.V_drewN | apply Kd.V_drew)); (first | exact HO_102002.out | exact R_any HO_102002.out)) (Kd.R_base ho1) hb); have n2_ := Aside0.mk (Kd.V_lower (Kd.V_mono (ok' := fun k_ => (P0_2_ k_ ∨ w.heap.size ≤ k_) ∧ some k_ ≠ (v113 : Value).ownBlock ∧ k_ ≠ gb101 ∧ k_ ≠ gb102) ho0 (fun k_ hk_ => ⟨Or.elim hk_.1 (fun hs_ => hs_.1) (fun hn_ => (.inr (Nat.le_trans (below_size (bel HB)) hn_))), hk_.2, Or.elim hk_.1 (fun hs_ => hs_.2.1) (fun hn_ => (Kd.freshB (g := gb101) (o := .cells #[.int .i64 x102000_1, .int .i64 x102001_1, .slice Ao14 x102002_1.length co14] 46 (0, 0)) blc k_ hn_)), Or.elim hk_.1 (fun hs_ => hs_.2.2) (fun hn_ => (Kd.freshB (g := gb102) (o := .cells #[.int .i64 0, .int .i64 0, .slice none 0 0] 46 (0, 0)) blc k_ hn_))⟩)) (below_size (bel HB))); have n3_ := Aside0.mk (Kd.R_lower (Kd.R_newM (M := fun k_ => (w.heap.size ≤ k_)) (Kd.R_mono (ok' := fun k_ => True) ho1 (fun _ hk_ => trivial)) (below_size (bel HB)) (fun k_ h_ => h_)) (below_size (bel HB))); have n4_ := Aside0.mk (blk_below (g := gb101) (o := .cells #[.int .i64 x102000_1, .int .i64 x102001_1, .slice Ao14 x102002_1.length co14] 46 (0, 0)) blc hb); have n5_ := Aside0.mk (blk_below (g := gb102) (o := .cells #[.int .i64 0, .int .i64 0, .slice none 0 0] 46 (0, 0)) blc hb); have n6_ := Aside0.mk (below_step (bel HB) hb); clear HO_8; clear HO_102002; clear BK101; clear BK102; clear HB; have HO_8 := n0_; have HO_102002 := n1_; have HO111 := n2_; have HO114 := n3_; have BK101 := n4_; have BK102 := n5_; have HB := n6_; clear n0_ n1_ n2_ n3_ n4_ n5_ n6_; (try clear hb); (try clear hb2); (try clear hk); (try clear hi); (try clear ho0); (try clear ho1); have hcz16_0 : w15.cell? ⟨gb101, 0, none⟩ = some (.int .i64 x102000_1) := (blk_cell BK101.out 0).trans rfl; have hcz16_1 : w15.cell? ⟨gb101, 1, none⟩ = some (.int .i64 x102001_1) := (blk_cell BK101.out 1).trans rfl; have hcz16_2 : w15.cell? ⟨gb101, 2, none⟩ = some (.slice Ao14 x102002_1.length co14) := (blk_cell BK101.out 2).trans rfl; have hfz16_0 := blk_frozen BK101.out 0; have hfz16_1 := blk_frozen BK101.out 1; have hfz16_2 := blk_frozen BK101.out 2; obtain ⟨Ao17, co17, eo17⟩ := Kd.V_slice HO111.out; subst eo17))
      go_roundg k1
      case measure => have := HK1.out; omega
      case rel => exact ⟨(wrap64 (x10_1 + 1)), (t107), (t108), (t109), (.slice Ao17 t109.length co17), (by first | rfl | (simp; done) | (simp [*]; done)), H', ⟨by have := HK1.out; omega⟩, ⟨by (with_reducible repeat (first | apply Kd.V_alloc | apply Kd.V_drewN | apply Kd.V_drew)); exact Kd.V_mono (Kd.V_far (p := ⟨gb101, 2, none⟩) (Kd.V_far (p := ⟨gb101, 1, none⟩) (Kd.V_far (p := ⟨gb101, 0, none⟩) (Kd.V_mono HO_8.out (fun k_ hk => (⟨hk, hk.1.2.1⟩ : _ ∧ k_ ≠ gb101))) (fun _ hk => hk.2) (.int .i64 t107)) (fun _ hk => hk.2) (.int .i64 t108)) (fun _ hk => hk.2) (.slice Ao17 t109.length co17)) (fun _ hk => ⟨hk.1.1.1, ⟨hk.1.1.2.1, hk.1.1.2.2⟩⟩)⟩, ⟨by (with_reducible repeat (first | apply Kd.V_alloc | apply Kd.V_drewN | apply Kd.V_drew)); exact Kd.V_mono (Kd.V_far (p := ⟨gb101, 2, none⟩) (Kd.V_far (p := ⟨gb101, 1, none⟩) (Kd.V_far (p := ⟨gb101, 0, none⟩) (Kd.V_mono HO111.out (fun k_ hk => (⟨hk, hk.2.2.1⟩ : _ ∧ k_ ≠ gb101))) (fun _ hk => hk.2) (.int .i64 t107)) (fun _ hk => hk.2) (.int .i64 t108)) (fun _ hk => hk.2) (.slice Ao17 t109.length co17)) (fun _ hk => ⟨hk.1.1, ⟨hk.1.2.2.1, hk.1.2.2.2⟩⟩)⟩, ⟨by (with_reducible repeat (first | refine blk_drewN ?_ _ | refine blk_drew ?_ | refine blk_alloc ?_ _)); refine blk_put (cs := #[.int .i64 t107, .int .i64 t108, .slice Ao14 x102002_1.length co14]) ?_ 2 _ rfl; (with_reducible repeat (first | refine blk_drewN ?_ _ | refine blk_drew ?_ | refine blk_alloc ?_ _)); refine blk_put (cs := #[.int .i64 t107, .int .i64 x102001_1, .slice Ao14 x102002_1.length co14]) ?_ 1 _ rfl; (with_reducible repeat (first | refine blk_drewN ?_ _ | refine blk_drew ?_ | refine blk_alloc ?_ _)); refine blk_put (cs := #[.int .i64 x102000_1, .int .i64 x102001_1, .slice Ao14 x102002_1.length co14]) ?_ 0 _ rfl; exact blc⟩, ⟨by (with_reducible repeat (first | refine blk_drewN ?_ _ | refine blk_drew ?_ | refine blk_alloc ?_ _)); refine blk_far ?_ NB102_101.out _; (with_reducible repeat (first | refine blk_drewN ?_ _ | refine blk_drew ?_ | refine blk_alloc ?_ _)); refine blk_far ?_ NB102_101.out _; (with_reducible repeat (first | refine blk_drewN ?_ _ | refine blk_drew ?_ | refine blk_alloc ?_ _)); refine blk_far ?_ NB102_101.out _; exact blc⟩, ⟨bel HB⟩⟩
     ·rw [if_neg c10] at H
      exact absurd H (by simp)
    ·rw [if_neg c9] at H
     exact absurd H (by simp)
   ·rw [if_neg c8] at H
    have c8b0 : decide (x10_1 < (t103.length : Int)) = false := decide_eq_false c8
    clear c8
    simp only [Option.some.injEq, Prod.mk.injEq] at H
    obtain ⟨rfl, rfl, rfl⟩ := H
    have hnb18 := NB101_102.out
    have hnc18 := NB102_101.out
    have hcz19_0 : wr.cell? ⟨gb101, 0, none⟩ = some (.int .i64 x102000_1) := (blk_cell BK101.out 0).trans rfl
    have hcz19_1 : wr.cell? ⟨gb101, 1, none⟩ = some (.int .i64 x102001_1) := (blk_cell BK101.out 1).trans rfl
    have hcz19_2 : wr.cell? ⟨gb101, 2, none⟩ = some (u102002) := (blk_cell BK101.out 2).trans rfl
    have hfz19_0 := blk_frozen BK101.out 0
    have hfz19_1 := blk_frozen BK101.out 1
    have hfz19_2 := blk_frozen BK101.out 2
    have hcz20_0 : wr.cell? ⟨gb102, 0, none⟩ = some (.int .i64 0) := (blk_cell BK102.out 0).trans rfl
    have hcz20_1 : wr.cell? ⟨gb102, 1, none⟩ = some (.int .i64 0) := (blk_cell BK102.out 1).trans rfl
    have hcz20_2 : wr.cell? ⟨gb102, 2, none⟩ = some (.slice none 0 0) := (blk_cell BK102.out 2).trans rfl
    have hfz20_0 := blk_frozen BK102.out 0
    have hfz20_1 := blk_frozen BK102.out 1
    have hfz20_2 := blk_frozen BK102.out 2
    obtain ⟨Ao21, co21, eo21⟩ := Kd.V_slice HO_102002.out
    subst eo21
    go_wp2
    refine bodyPost_ret (results_cell_row rfl _ _ gb102 46 #[.int .i64 x102000_1, .int .i64 x102001_1, .slice Ao21 x102002_1.length co21] (0, 0) _ rfl (by (with_reducible repeat (first | refine blk_drewN ?_ _ | refine blk_drew ?_ | refine blk_alloc ?_ _)); refine blk_put (cs := #[.int .i64 x102000_1, .int .i64 x102001_1, .slice none 0 0]) ?_ 2 _ rfl; (with_reducible repeat (first | refine blk_drewN ?_ _ | refine blk_drew ?_ | refine blk_alloc ?_ _)); refine blk_put (cs := #[.int .i64 x102000_1, .int .i64 0, .slice none 0 0]) ?_ 1 _ rfl; (with_reducible repeat (first | refine blk_drewN ?_ _ | refine blk_drew ?_ | refine blk_alloc ?_ _)); refine blk_put (cs := #[.int .i64 0, .int .i64 0, .slice none 0 0]) ?_ 0 _ rfl; exact blc) Tryd.underlying46 rfl (by kernel_rfl)) rfl ?_
    exact ⟨_, by first | rfl | (simp [errW_none, errW_some] <;> rfl) | (simp [*, errW_none, errW_some] <;> rfl), by (with_reducible repeat (first | apply Kd.V_alloc | apply Kd.V_drewN | apply Kd.V_drew)); exact Kd.V_mono (Kd.V_far (p := ⟨gb102, 2, none⟩) (Kd.V_far (p := ⟨gb102, 1, none⟩) (Kd.V_far (p := ⟨gb102, 0, none⟩) (Kd.V_mono HO_102002.out (fun k_ hk => (⟨hk, hk.2.2⟩ : _ ∧ k_ ≠ gb102))) (fun _ hk => hk.2) (.int .i64 x102000_1)) (fun _ hk => hk.2) (.int .i64 x102001_1)) (fun _ hk => hk.2) (.slice Ao21 x102002_1.length co21)) (fun _ hk => hk.1.1), bel HB⟩
end Go.Proofs.YtgipkpiddjjhcaaDoor.Q
end
section
namespace Go.Proofs.YtgipkpiddjjhcaaDoor.Q
open Go.RowKit Go.Proofs.YtgipkpiddjjhcaaDoorW.PrintWords Go.Proofs.YtgipkpiddjjhcaaDoorW.PrintLast Go.Proofs.YtgipkpiddjjhcaaDoorW.PrintMore
set_option linter.unusedSectionVars false
open Classical
noncomputable def skR (w h : Nat) (cs : List Int) (d : Nat) : List Int × List Int := if hx : ∃ R, Tilts w h cs d R then Classical.choose hx else ([], [])
noncomputable def runR (w h : Nat) : List Nat → List Int → List Int
 | [], cs => cs
 | d :: l, cs => runR w h l (skR w h cs d).1
section
variable {w h : Nat} (hw : w ≤ 7) (hh : h ≤ 7) (hs : w * h ≤ 36) (hz : 0 < w * h)
include hw hh hs hz
theorem skR_ok {cs : List Int} (hn : cs.length = w * h) {d : Nat} (hd : d < 4) : Tilts w h cs d (skR w h cs d) := by
 have hx := tilts hw hh hs hn hz hd
 unfold skR
 rw [dif_pos hx]
 exact Classical.choose_spec hx
theorem stuckAll_l0 (s : ByteArray) (hb : s.size ≤ 40 ∧ ∀ (t : Nat) (ht : t < s.data.toList.length), isD s.data.toList[t] = true) : ∀ (m t : Nat) (cs : List Int), t + m = s.size → cs.length = w * h → Ev (fun k => impl_tray_stuckAll.l0 k (bytesOf s) (bytesOf s).length t w h cs) (w, h, runR w h ((s.data.toList.drop t).map dirN) cs)
 | 0, t, cs, ht, hn => by
  have hl := data_length s
  have hbl := bytesOf_length s
  rw [List.drop_eq_nil_of_le (by omega)]
  refine Ev.step (Ev.const (o := some ((w : Int), (h : Int), cs)) rfl) fun k => ?_
  rw [impl_tray_stuckAll.l0, if_neg (by omega)]
 | m + 1, t, cs, ht, hn => by
  have hl := data_length s
  have hbl := bytesOf_length s
  have htl : t < s.data.toList.length := by omega
  have hwt : wrap64 ((t : Int) + 1) = ((t + 1 : Nat) : Int) := by have := hb.1; rw [w64 (by omega) (by omega)]; omega
  have hd := hb.2 t htl
  have hT := skR_ok hw hh hs hz hn (dirN_lt s.data.toList[t])
  have ih := stuckAll_l0 s hb m (t + 1) (skR w h cs (dirN s.data.toList[t])).1 (by omega) hT.len
  rw [List.drop_eq_getElem_cons htl, List.map_cons]
  refine Ev.step (Ev.bind (f := fun k (bt107 : Int × Int × List Int × List Int) => (impl_tray_stuckAll.l0 k (bytesOf s) (bytesOf s).length ((t + 1 : Nat) : Int) bt107.1 bt107.2.1 bt107.2.2.1)) hT.impl ih) fun k => ?_
  rw [impl_tray_stuckAll.l0, if_pos (by omega), if_pos (by omega), if_pos (by omega), hwt, bytes_rd s t htl, ← (dirN_C hd).2]
  rfl
theorem stuckAll_ev {s : ByteArray} (hb : wordB s = true) {cs : List Int} (hn : cs.length = w * h) : Ev (fun k => impl_tray_stuckAll.f k w h cs s) (w, h, runR w h (s.data.toList.map dirN) cs) := by
 have h1 := stuckAll_l0 hw hh hs hz s (wordB_parts hb) s.size 0 cs (by omega) hn
 rw [List.drop_zero] at h1
 refine Ev.congr h1 fun k => ?_
 unfold impl_tray_stuckAll.f convB.f
 rw [if_pos (by have := (wordB_parts hb).1; omega), Option.bind_some]
 rfl
end
end Go.Proofs.YtgipkpiddjjhcaaDoor.Q
end
section
namespace Go.Proofs.YtgipkpiddjjhcaaDoor.Q
open Go.RowKit Go.Proofs.YtgipkpiddjjhcaaDoorW.PrintWords Go.Proofs.YtgipkpiddjjhcaaDoorW.PrintLast Go.Proofs.YtgipkpiddjjhcaaDoorW.PrintMore
attribute [local go_sem] max2_int min2_int max_two min_two max_three min_three max_four min_four
set_option linter.unusedVariables false
set_option linter.unusedSimpArgs false
def spec_tyText.l0 : Nat → ByteArray → Int → Int → Int → List Int → Option (ByteArray)
 | 0, _, _, _, _, _ => none
 | k + 1, x3, x4, x102000, x102001, x102002 => if x4 < x102001 then (if x4 > 0 then (if x3.size + 1 ≤ 9223372036854775807 then (if 0 ≤ (wrap64 (x4 * x102000)) then (if (wrap64 (x4 * x102000)) ≤ (wrap64 ((wrap64 (x4 + 1)) * x102000)) then (if (wrap64 ((wrap64 (x4 + 1)) * x102000)) ≤ (x102002.length : Int) then (if (x3 ++ (⟨#[47]⟩ : ByteArray)).size + (strOfNums ((x102002.take ((wrap64 ((wrap64 (x4 + 1)) * x102000)) : Int).toNat).drop ((wrap64 (x4 * x102000)) : Int).toNat)).size ≤ 9223372036854775807 then (spec_tyText.l0 k ((x3 ++ (⟨#[47]⟩ : ByteArray)) ++ (strOfNums ((x102002.take ((wrap64 ((wrap64 (x4 + 1)) * x102000)) : Int).toNat).drop ((wrap64 (x4 * x102000)) : Int).toNat))) (wrap64 (x4 + 1)) x102000 x102001 x102002) else (none)) else (none)) else (none)) else (none)) else (none)) else (if 0 ≤ (wrap64 (x4 * x102000)) then (if (wrap64 (x4 * x102000)) ≤ (wrap64 ((wrap64 (x4 + 1)) * x102000)) then (if (wrap64 ((wrap64 (x4 + 1)) * x102000)) ≤ (x102002.length : Int) then (if x3.size + (strOfNums ((x102002.take ((wrap64 ((wrap64 (x4 + 1)) * x102000)) : Int).toNat).drop ((wrap64 (x4 * x102000)) : Int).toNat)).size ≤ 9223372036854775807 then (spec_tyText.l0 k (x3 ++ (strOfNums ((x102002.take ((wrap64 ((wrap64 (x4 + 1)) * x102000)) : Int).toNat).drop ((wrap64 (x4 * x102000)) : Int).toNat))) (wrap64 (x4 + 1)) x102000 x102001 x102002) else (none)) else (none)) else (none)) else (none))) else (some x3)
def spec_tyText.f (k : Nat) (a0_0 : Int) (a0_1 : Int) (l0_2 : List Int) : Option (ByteArray) := spec_tyText.l0 k (⟨#[]⟩ : ByteArray) 0 a0_0 a0_1 l0_2
set_option maxHeartbeats 8000000 in
set_option maxRecDepth 100000 in
theorem spec_tyText.calls (k : Nat) (a0_0 : Int) (a0_1 : Int) (A0_2 : Option Addr) (c0_2 : Nat) (l0_2 : List Int) (r : ByteArray) (w : World) (hr0_2 : Kd.C (Kd.int .u8) w A0_2 l0_2.length l0_2) (hc0_2 : l0_2.length ≤ c0_2) (h : spec_tyText.f k a0_0 a0_1 l0_2 = some r) :
  Calls Tryd.prog 30 #[.agg #[.int .i64 a0_0, .int .i64 a0_1, .slice A0_2 l0_2.length c0_2]] w fun e w' => e = .returned (.string r) ∧ Below w.heap.size w w' := by
 have hu36 := Tryd.underlying36
 have HR0_2 := Aside0.mk hr0_2
 have HC0_2 := Aside0.mk hc0_2
 clear hr0_2 hc0_2
 have HB := Aside0.mk (Below.refl w.heap.size w)
 have H : (spec_tyText.l0 k (⟨#[]⟩ : ByteArray) 0 a0_0 a0_1 l0_2) = some r := h
 clear h
 have H' := Aside0.mk H
 clear H
 go_enter Tryd.func30, Tryd.ntmps30
 go_wp2_with (first | ((with_reducible refine gate_dst (N := 1) rfl ?_); refine boxE (N := 1) (cs := #[.int .i64 a0_0, .int .i64 a0_1, .slice A0_2 l0_2.length c0_2]) (t := 36) ?_; intro gb101 hg w2 hbox hb; have n0_ := Aside0.mk (below_step (bel HB) hb); have n1_ := Aside0.mk (hbox); have n2_ := Aside0.mk (gsz hg (bel HB)); have n3_ := Aside0.mk (gsz hg (bel HB)); clear HB; have HB := n0_; have BK101 := n1_; have GW101 := n2_; have GE101 := n3_; clear n0_ n1_ n2_ n3_; clear hb hbox hg))
 go_loopg [3, 4] k (fun kq v3 v4 w' => ∃ (x3_1 : ByteArray) (x4_1 : Int), v3 = .string x3_1 ∧ v4 = .int .i64 x4_1 ∧ Aside0 (spec_tyText.l0 kq x3_1 x4_1 a0_0 a0_1 l0_2 = some r) ∧ Aside0 (kq ≤ k) ∧ Aside0 (w'.heap[gb101]? = some (.cells #[.int .i64 a0_0, .int .i64 a0_1, (.slice A0_2 l0_2.length c0_2)] 36 (0, 0))) ∧ Aside0 (Below w.heap.size w w'))
 case atStart => exact ⟨((⟨#[]⟩ : ByteArray)), (0), (by first | rfl | (simp; done) | (simp [*]; done)), (by first | rfl | (simp; done) | (simp [*]; done)), H', ⟨Nat.le_refl _⟩, ⟨blc⟩, ⟨bel HB⟩⟩
 case round =>
  clear H'
  try clear p2
  obtain ⟨x3_1, x4_1, rfl, rfl, HA, HK1, BK101, HB⟩ := hrel
  cases gk with
  | zero => exact absurd HA.out (by simp [spec_tyText.l0])
  | succ k1 =>
   have H := HA.out
   clear HA
   simp only [spec_tyText.l0] at H
   by_cases c3 : x4_1 < a0_1
   ·rw [if_pos c3] at H
    have c3b0 : decide (x4_1 < a0_1) = true := decide_eq_true c3
    clear c3
    by_cases c4 : x4_1 > 0
    ·rw [if_pos c4] at H
     have c4b0 : decide (0 < x4_1) = true := decide_eq_true c4
     clear c4
     by_cases c5 : x3_1.size + 1 ≤ 9223372036854775807
     ·rw [if_pos c5] at H
      have c5b0 := eq_true c5
      have c5b1 : decide (x3_1.size + 1 ≤ 9223372036854775807) = true := decide_eq_true c5
      try have c5b2 : (9223372036854775807 < x3_1.size + 1) = False := eq_false (Nat.not_lt.2 c5)
      obtain ⟨ji6, hji6⟩ : ∃ j_ : Int, (wrap64 (x4_1 * a0_0)) = j_ := ⟨_, rfl⟩
      replace H : (if 0 ≤ (ji6) then (if (ji6) ≤ (wrap64 ((wrap64 (x4_1 + 1)) * a0_0)) then (if (wrap64 ((wrap64 (x4_1 + 1)) * a0_0)) ≤ (l0_2.length : Int) then (if (x3_1 ++ (⟨#[47]⟩ : ByteArray)).size + (strOfNums ((l0_2.take ((wrap64 ((wrap64 (x4_1 + 1)) * a0_0)) : Int).toNat).drop ((ji6) : Int).toNat)).size ≤ 9223372036854775807 then (spec_tyText.l0 k1 ((x3_1 ++ (⟨#[47]⟩ : ByteArray)) ++ (strOfNums ((l0_2.take ((wrap64 ((wrap64 (x4_1 + 1)) * a0_0)) : Int).toNat).drop ((ji6) : Int).toNat))) (wrap64 (x4_1 + 1)) a0_0 a0_1 l0_2) else (none)) else (none)) else (none)) else (none)) = some r := by first | (rw [hji6] at H; exact H) | (simp only [hji6] at H ⊢; exact H)
      have hji6w : (IntKind.i64.wrap (x4_1 * a0_0)) = ji6 := (i64_w _).trans hji6
      by_cases c7 : 0 ≤ (ji6)
      ·rw [if_pos c7] at H
       have c7b0 := eq_true c7
       have c7b1 : decide (0 ≤ (ji6)) = true := decide_eq_true c7
       clear c7
       by_cases c8 : (ji6) ≤ (wrap64 ((wrap64 (x4_1 + 1)) * a0_0))
       ·rw [if_pos c8] at H
        have c8b0 := eq_true c8
        have c8b1 : decide ((ji6) ≤ (wrap64 ((wrap64 (x4_1 + 1)) * a0_0))) = true := decide_eq_true c8
        by_cases c9 : (wrap64 ((wrap64 (x4_1 + 1)) * a0_0)) ≤ (l0_2.length : Int)
        ·rw [if_pos c9] at H
         have c9b0 := eq_true c9
         have c9b1 : decide ((wrap64 ((wrap64 (x4_1 + 1)) * a0_0)) ≤ (l0_2.length : Int)) = true := decide_eq_true c9
         by_cases c10 : (x3_1 ++ (⟨#[47]⟩ : ByteArray)).size + (strOfNums ((l0_2.take ((wrap64 ((wrap64 (x4_1 + 1)) * a0_0)) : Int).toNat).drop ((ji6) : Int).toNat)).size ≤ 9223372036854775807
         ·rw [if_pos c10] at H
          have c10b0 := eq_true c10
          have c10b1 : decide ((x3_1 ++ (⟨#[47]⟩ : ByteArray)).size + (strOfNums ((l0_2.take ((wrap64 ((wrap64 (x4_1 + 1)) * a0_0)) : Int).toNat).drop ((ji6) : Int).toNat)).size ≤ 9223372036854775807) = true := decide_eq_true c10
          try have c10b2 : (9223372036854775807 < (x3_1 ++ (⟨#[47]⟩ : ByteArray)).size + (strOfNums ((l0_2.take ((wrap64 ((wrap64 (x4_1 + 1)) * a0_0)) : Int).toNat).drop ((ji6) : Int).toNat)).size) = False := eq_false (Nat.not_lt.2 c10)
          have H' := Aside0.mk H
          clear H
          have hcz11_0 : wr.cell? ⟨gb101, 0, none⟩ = some (.int .i64 a0_0) := (blk_cell BK101.out 0).trans rfl
          have hcz11_1 : wr.cell? ⟨gb101, 1, none⟩ = some (.int .i64 a0_1) := (blk_cell BK101.out 1).trans rfl
          have hcz11_2 : wr.cell? ⟨gb101, 2, none⟩ = some (.slice A0_2 l0_2.length c0_2) := (blk_cell BK101.out 2).trans rfl
          have hfz11_0 := blk_frozen BK101.out 0
          have hfz11_1 := blk_frozen BK101.out 1
          have hfz11_2 := blk_frozen BK101.out 2
          obtain ⟨i012, hi012, _, hsz12, _⟩ := info_parts info5
          obtain ⟨A12, hcut12, hA12, hC12⟩ := print_mid_of (P := Tryd.prog) (Value.int .u8) 0 34 5 .i64 .i64 Tryd.underlying34 hi012 hsz12 A0_2 c0_2 l0_2 (ji6) (wrap64 ((wrap64 (x4_1 + 1)) * a0_0)) (of_decide_eq_true (by first | (with_reducible assumption) | assumption)) (by first | omega | exact of_decide_eq_true (by first | (with_reducible assumption) | assumption)) (of_decide_eq_true (by first | (with_reducible assumption) | assumption)) HC0_2.out
          have HR102 := Aside0.mk (Kd.C_of_reads (h1 := fun _ => rfl) (hA12 _ (Kd.reads_of_C HR0_2.out)))
          have HC102 := Aside0.mk hC12
          clear hA12 hC12 hi012 hsz12
          have hcv13 := Kd.C_string (P := Tryd.prog) (A := A12) (c := (c0_2 - (ji6).toNat)) Tryd.underlying34 Tryd.underlying5 Tryd.underlying9 (Kd.C_below HR102.out HB.out)
          try (rw [cut_len] at hcv13; rotate_left; exact Int.toNat_le.2 (of_decide_eq_true (by first | (with_reducible assumption) | assumption)))
          go_wp2
          go_roundg k1
          case measure => have := HK1.out; omega
          case rel => exact ⟨((x3_1 ++ (⟨#[47]⟩ : ByteArray)) ++ (strOfNums ((l0_2.take ((wrap64 ((wrap64 (x4_1 + 1)) * a0_0)) : Int).toNat).drop ((ji6) : Int).toNat))), (wrap64 (x4_1 + 1)), (by first | rfl | (simp; done) | (simp only [← hji6] <;> (first | rfl | simp)) | (simp [*]; done)), (by first | rfl | (simp; done) | (simp [*]; done)), H', ⟨by have := HK1.out; omega⟩, ⟨blc⟩, ⟨bel HB⟩⟩
         ·rw [if_neg c10] at H
          exact absurd H (by simp)
        ·rw [if_neg c9] at H
         exact absurd H (by simp)
       ·rw [if_neg c8] at H
        exact absurd H (by simp)
      ·rw [if_neg c7] at H
       exact absurd H (by simp)
     ·rw [if_neg c5] at H
      exact absurd H (by simp)
    ·rw [if_neg c4] at H
     have c4b0 : decide (0 < x4_1) = false := decide_eq_false c4
     clear c4
     obtain ⟨ji14, hji14⟩ : ∃ j_ : Int, (wrap64 (x4_1 * a0_0)) = j_ := ⟨_, rfl⟩
     replace H : (if 0 ≤ (ji14) then (if (ji14) ≤ (wrap64 ((wrap64 (x4_1 + 1)) * a0_0)) then (if (wrap64 ((wrap64 (x4_1 + 1)) * a0_0)) ≤ (l0_2.length : Int) then (if x3_1.size + (strOfNums ((l0_2.take ((wrap64 ((wrap64 (x4_1 + 1)) * a0_0)) : Int).toNat).drop ((ji14) : Int).toNat)).size ≤ 9223372036854775807 then (spec_tyText.l0 k1 (x3_1 ++ (strOfNums ((l0_2.take ((wrap64 ((wrap64 (x4_1 + 1)) * a0_0)) : Int).toNat).drop ((ji14) : Int).toNat))) (wrap64 (x4_1 + 1)) a0_0 a0_1 l0_2) else (none)) else (none)) else (none)) else (none)) = some r := by first | (rw [hji14] at H; exact H) | (simp only [hji14] at H ⊢; exact H)
     have hji14w : (IntKind.i64.wrap (x4_1 * a0_0)) = ji14 := (i64_w _).trans hji14
     by_cases c15 : 0 ≤ (ji14)
     ·rw [if_pos c15] at H
      have c15b0 := eq_true c15
      have c15b1 : decide (0 ≤ (ji14)) = true := decide_eq_true c15
      clear c15
      by_cases c16 : (ji14) ≤ (wrap64 ((wrap64 (x4_1 + 1)) * a0_0))
      ·rw [if_pos c16] at H
       have c16b0 := eq_true c16
       have c16b1 : decide ((ji14) ≤ (wrap64 ((wrap64 (x4_1 + 1)) * a0_0))) = true := decide_eq_true c16
       by_cases c17 : (wrap64 ((wrap64 (x4_1 + 1)) * a0_0)) ≤ (l0_2.length : Int)
       ·rw [if_pos c17] at H
        have c17b0 := eq_true c17
        have c17b1 : decide ((wrap64 ((wrap64 (x4_1 + 1)) * a0_0)) ≤ (l0_2.length : Int)) = true := decide_eq_true c17
        by_cases c18 : x3_1.size + (strOfNums ((l0_2.take ((wrap64 ((wrap64 (x4_1 + 1)) * a0_0)) : Int).toNat).drop ((ji14) : Int).toNat)).size ≤ 9223372036854775807
        ·rw [if_pos c18] at H
         have c18b0 := eq_true c18
         have c18b1 : decide (x3_1.size + (strOfNums ((l0_2.take ((wrap64 ((wrap64 (x4_1 + 1)) * a0_0)) : Int).toNat).drop ((ji14) : Int).toNat)).size ≤ 9223372036854775807) = true := decide_eq_true c18
         try have c18b2 : (9223372036854775807 < x3_1.size + (strOfNums ((l0_2.take ((wrap64 ((wrap64 (x4_1 + 1)) * a0_0)) : Int).toNat).drop ((ji14) : Int).toNat)).size) = False := eq_false (Nat.not_lt.2 c18)
         have H' := Aside0.mk H
         clear H
         have hcz19_0 : wr.cell? ⟨gb101, 0, none⟩ = some (.int .i64 a0_0) := (blk_cell BK101.out 0).trans rfl
         have hcz19_1 : wr.cell? ⟨gb101, 1, none⟩ = some (.int .i64 a0_1) := (blk_cell BK101.out 1).trans rfl
         have hcz19_2 : wr.cell? ⟨gb101, 2, none⟩ = some (.slice A0_2 l0_2.length c0_2) := (blk_cell BK101.out 2).trans rfl
         have hfz19_0 := blk_frozen BK101.out 0
         have hfz19_1 := blk_frozen BK101.out 1
         have hfz19_2 := blk_frozen BK101.out 2
         obtain ⟨i020, hi020, _, hsz20, _⟩ := info_parts info5
         obtain ⟨A20, hcut20, hA20, hC20⟩ := print_mid_of (P := Tryd.prog) (Value.int .u8) 0 34 5 .i64 .i64 Tryd.underlying34 hi020 hsz20 A0_2 c0_2 l0_2 (ji14) (wrap64 ((wrap64 (x4_1 + 1)) * a0_0)) (of_decide_eq_true (by first | (with_reducible assumption) | assumption)) (by first | omega | exact of_decide_eq_true (by first | (with_reducible assumption) | assumption)) (of_decide_eq_true (by first | (with_reducible assumption) | assumption)) HC0_2.out
         have HR103 := Aside0.mk (Kd.C_of_reads (h1 := fun _ => rfl) (hA20 _ (Kd.reads_of_C HR0_2.out)))
         have HC103 := Aside0.mk hC20
         clear hA20 hC20 hi020 hsz20
         have hcv21 := Kd.C_string (P := Tryd.prog) (A := A20) (c := (c0_2 - (ji14).toNat)) Tryd.underlying34 Tryd.underlying5 Tryd.underlying9 (Kd.C_below HR103.out HB.out)
         try (rw [cut_len] at hcv21; rotate_left; exact Int.toNat_le.2 (of_decide_eq_true (by first | (with_reducible assumption) | assumption)))
         go_wp2
         go_roundg k1
         case measure => have := HK1.out; omega
         case rel => exact ⟨(x3_1 ++ (strOfNums ((l0_2.take ((wrap64 ((wrap64 (x4_1 + 1)) * a0_0)) : Int).toNat).drop ((ji14) : Int).toNat))), (wrap64 (x4_1 + 1)), (by first | rfl | (simp; done) | (simp only [← hji14] <;> (first | rfl | simp)) | (simp [*]; done)), (by first | rfl | (simp; done) | (simp [*]; done)), H', ⟨by have := HK1.out; omega⟩, ⟨blc⟩, ⟨bel HB⟩⟩
        ·rw [if_neg c18] at H
         exact absurd H (by simp)
       ·rw [if_neg c17] at H
        exact absurd H (by simp)
      ·rw [if_neg c16] at H
       exact absurd H (by simp)
     ·rw [if_neg c15] at H
      exact absurd H (by simp)
   ·rw [if_neg c3] at H
    have c3b0 : decide (x4_1 < a0_1) = false := decide_eq_false c3
    clear c3
    obtain rfl := Option.some.inj H
    have hcz22_0 : wr.cell? ⟨gb101, 0, none⟩ = some (.int .i64 a0_0) := (blk_cell BK101.out 0).trans rfl
    have hcz22_1 : wr.cell? ⟨gb101, 1, none⟩ = some (.int .i64 a0_1) := (blk_cell BK101.out 1).trans rfl
    have hcz22_2 : wr.cell? ⟨gb101, 2, none⟩ = some (.slice A0_2 l0_2.length c0_2) := (blk_cell BK101.out 2).trans rfl
    have hfz22_0 := blk_frozen BK101.out 0
    have hfz22_1 := blk_frozen BK101.out 1
    have hfz22_2 := blk_frozen BK101.out 2
    go_wp2
    go_ret
    exact ⟨by first | rfl | (simp [errW_none, errW_some] <;> rfl) | (simp [*, errW_none, errW_some] <;> rfl), bel HB⟩
end Go.Proofs.YtgipkpiddjjhcaaDoor.Q
end
section
namespace Go.Proofs.YtgipkpiddjjhcaaDoor.Q
set_option linter.unusedSectionVars false
open Go.RowKit Go.Proofs.YtgipkpiddjjhcaaDoorW.PrintWords Go.Proofs.YtgipkpiddjjhcaaDoorW.PrintLast Go.Proofs.YtgipkpiddjjhcaaDoorW.PrintMore
theorem le_big {n : Nat} (h : n ≤ 200) : n ≤ 9223372036854775807 := Nat.le_trans h (by decide)
theorem w64n (n : Nat) (h : n ≤ 1000000) : wrap64 (n : Int) = (n : Int) := w64 (by omega) (by omega)
theorem w64s (n : Nat) (h : n ≤ 1000000) : wrap64 ((n : Int) + 1) = ((n + 1 : Nat) : Int) := by rw [w64 (by omega) (by omega)]; omega
def jn : List (List UInt8) → List UInt8
 | [] => []
 | [r] => r
 | r :: s :: rs => r ++ 47 :: jn (s :: rs)
theorem jn_join : ∀ xs : List (List UInt8), Lib.join xs [47] = jn xs
 | [] => rfl
 | [r] => by simp [Lib.join, List.intercalate, jn]
 | r :: s :: rs => by
  have ih := jn_join (s :: rs)
  unfold Lib.join at ih ⊢
  simp only [List.intercalate, List.intersperse, List.flatten_cons, jn] at ih ⊢
  rw [← ih]
  simp
theorem jn_snoc : ∀ (xs : List (List UInt8)) (x : List UInt8), jn (xs ++ [x]) = if xs = [] then x else jn xs ++ 47 :: x
 | [], x => rfl
 | [r], x => by simp [jn]
 | r :: s :: rs, x => by
  have ih := jn_snoc (s :: rs) x
  rw [if_neg (by simp)] at ih ⊢
  show r ++ 47 :: jn ((s :: rs) ++ [x]) = _
  rw [ih]
  simp [jn]
def rowL (l : List Int) (c k : Nat) : List UInt8 := ((l.drop (k * c)).take c).map fun n => UInt8.ofNat n.toNat
def txL (l : List Int) (c n : Nat) : List UInt8 := jn ((List.range n).map (rowL l c))
def tx (l : List Int) (c n : Nat) : ByteArray := ⟨(txL l c n).toArray⟩
theorem tx_list (l : List Int) (c n : Nat) : (tx l c n).data.toList = txL l c n := rfl
theorem txL_succ (l : List Int) (c n : Nat) : txL l c (n + 1) = if n = 0 then rowL l c 0 else txL l c n ++ 47 :: rowL l c n := by
 unfold txL
 rw [List.range_succ, List.map_append, List.map_singleton, jn_snoc]
 by_cases h : n = 0
 ·subst h
  simp
 ·rw [if_neg h, if_neg (by simpa using h)]
theorem rowL_len (l : List Int) (c k : Nat) : (rowL l c k).length ≤ c := by
 unfold rowL
 rw [List.length_map, List.length_take]
 omega
theorem txL_len (l : List Int) (c : Nat) : ∀ n, (txL l c n).length ≤ n * (c + 1)
 | 0 => by simp [txL, jn]
 | n + 1 => by
  have ih := txL_len l c n
  have h1 := rowL_len l c n
  have h2 := rowL_len l c 0
  rw [txL_succ, Nat.succ_mul]
  split
  ·omega
  ·rw [List.length_append, List.length_cons]
   omega
theorem ba_ext {a b : ByteArray} (h : a.data.toList = b.data.toList) : a = b := by
 obtain ⟨⟨a⟩⟩ := a
 obtain ⟨⟨b⟩⟩ := b
 simp at h
 rw [h]
theorem text_val (w h : Nat) (l : List Int) (hw : 1 ≤ w) (hh : 1 ≤ h) (hs : w * h ≤ 36) (hn : l.length = w * h) : impl_tray_text.f w h l = some (tx l w h) := by
 have hd : l.length / w = h := by rw [hn, Nat.mul_div_cancel_left h (by omega)]
 unfold impl_tray_text.f
 have h1 : 1 ≤ w * h := Nat.mul_pos hw hh
 rw [Int.toNat_natCast, hd, if_pos ⟨by omega, by omega, by omega, by rw [hn, Nat.mul_comm]⟩]
 have h2 : ((List.range h).map (rowS l w)).map (·.data.toList) = (List.range h).map (rowL l w) := by
  rw [List.map_map]
  rfl
 have h4 : h ≤ w * h := Nat.le_mul_of_pos_left h hw
 have h5 := txL_len l w h
 have h6 : h * (w + 1) ≤ 72 := by rw [Nat.mul_add, Nat.mul_one, Nat.mul_comm]; omega
 have h7 : Lib.join (((List.range h).map (rowS l w)).map (·.data.toList)) (⟨#[47]⟩ : ByteArray).data.toList = txL l w h := by
  rw [h2]
  exact jn_join _
 unfold strings_Join.f
 rw [h7, List.length_map, List.length_range, if_pos ⟨by omega, by omega⟩]
 rfl
section
variable {w h : Nat} {cs : List Int} (hw1 : 1 ≤ w) (hh1 : 1 ≤ h) (hs : w * h ≤ 36) (hn : cs.length = w * h)
include hw1 hh1 hs hn
theorem ty_text_l0 : ∀ (m t : Nat), t + m = h → Ev (fun k => spec_tyText.l0 k (tx cs w t) t w h cs) (tx cs w h)
 | 0, t, ht => by
  obtain rfl : t = h := by omega
  refine Ev.step (Ev.const (o := some (tx cs w t)) rfl) fun k => ?_
  rw [spec_tyText.l0, if_neg (by omega)]
 | m + 1, t, ht => by
  have ih := ty_text_l0 m (t + 1) (by omega)
  have hth : t < h := by omega
  have h4 : h ≤ w * h := Nat.le_mul_of_pos_left h hw1
  have hle : (t + 1) * w ≤ w * h := by rw [Nat.mul_comm w h]; exact Nat.mul_le_mul_right w hth
  have ht1 : t * w + w = (t + 1) * w := (Nat.succ_mul t w).symm
  have hB : (t + 1) * w ≤ 36 := Nat.le_trans hle hs
  have hA : t * w ≤ 36 := Nat.le_trans (Nat.mul_le_mul_right w (Nat.le_succ t)) hB
  have hcut : strOfNums ((cs.take (((((t + 1) * w : Nat) : Int)).toNat)).drop ((((t * w : Nat) : Int)).toNat)) = strOfNums ((cs.drop (t * w)).take w) := by
   rw [Int.toNat_natCast, Int.toNat_natCast, List.drop_take, show (t + 1) * w - t * w = w from by rw [← ht1]; exact Nat.add_sub_cancel_left _ _]
  have h6 : t * (w + 1) ≤ 72 := by
   have a1 : t * (w + 1) ≤ h * (w + 1) := Nat.mul_le_mul_right _ (by omega)
   have a2 : h * (w + 1) ≤ 72 := by rw [Nat.mul_add, Nat.mul_one, Nat.mul_comm]; omega
   exact Nat.le_trans a1 a2
  have hsz : (tx cs w t).size ≤ 72 := by
   show (txL cs w t).toArray.size ≤ 72
   rw [List.size_toArray]
   exact Nat.le_trans (txL_len cs w t) h6
  have hrs : (strOfNums ((cs.drop (t * w)).take w)).size ≤ 36 := by
   rw [strOfNums_size, List.length_take]
   exact Nat.le_trans (Nat.min_le_left _ _) (Nat.le_trans (Nat.le_mul_of_pos_right w hh1) hs)
  have hs1 : (tx cs w t ++ (⟨#[47]⟩ : ByteArray)).size ≤ 73 := by
   rw [ByteArray.size_append]
   exact Nat.add_le_add hsz (Nat.le_refl 1)
  have e0 : (0 : Int) ≤ ((t * w : Nat) : Int) := Int.natCast_nonneg _
  have e1 : ((t * w : Nat) : Int) ≤ (((t + 1) * w : Nat) : Int) := Int.ofNat_le.2 (Nat.mul_le_mul_right w (Nat.le_succ t))
  have e2 : (((t + 1) * w : Nat) : Int) ≤ (cs.length : Int) := Int.ofNat_le.2 (by rw [hn]; exact hle)
  have b1 : (tx cs w t).size + (strOfNums ((cs.drop (t * w)).take w)).size ≤ 9223372036854775807 := le_big (Nat.le_trans (Nat.add_le_add hsz hrs) (by decide))
  have b2 : (tx cs w t).size + 1 ≤ 9223372036854775807 := le_big (Nat.le_trans (Nat.add_le_add hsz (Nat.le_refl 1)) (by decide))
  have b3 : (tx cs w t ++ (⟨#[47]⟩ : ByteArray)).size + (strOfNums ((cs.drop (t * w)).take w)).size ≤ 9223372036854775807 := le_big (Nat.le_trans (Nat.add_le_add hs1 hrs) (by decide))
  have c1 : (t : Int) < (h : Int) := Int.ofNat_lt.2 hth
  have hwt := w64s t (Nat.le_trans (Nat.le_of_lt hth) (Nat.le_trans h4 (Nat.le_trans hs (by decide))))
  have m0 : wrap64 ((t : Int) * (w : Int)) = ((t * w : Nat) : Int) := by
   rw [← Int.natCast_mul]
   exact w64n _ (Nat.le_trans hA (by decide))
  have m1 : wrap64 (((t + 1 : Nat) : Int) * (w : Int)) = (((t + 1) * w : Nat) : Int) := by
   rw [← Int.natCast_mul]
   exact w64n _ (Nat.le_trans hB (by decide))
  refine Ev.step ih fun k => ?_
  rw [spec_tyText.l0, if_pos c1]
  by_cases h0 : t = 0
  ·have c2 : ¬ (t : Int) > 0 := by
    rw [h0]
    decide
   have hx : (tx cs w t) ++ strOfNums ((cs.drop (t * w)).take w) = tx cs w (t + 1) := by
    apply ba_ext
    rw [tx_list, txL_succ, if_pos h0, ByteArray.data_append, Array.toList_append, tx_list, h0]
    rfl
   rw [if_neg c2, hwt, m0, m1, if_pos e0, if_pos e1, if_pos e2, hcut, if_pos b1, hx]
  ·have c2 : (t : Int) > 0 := Int.natCast_pos.2 (Nat.pos_of_ne_zero h0)
   have hx : (tx cs w t ++ (⟨#[47]⟩ : ByteArray)) ++ strOfNums ((cs.drop (t * w)).take w) = tx cs w (t + 1) := by
    apply ba_ext
    rw [tx_list, txL_succ, if_neg h0, ByteArray.data_append, Array.toList_append, ByteArray.data_append, Array.toList_append, tx_list, List.append_assoc]
    rfl
   rw [if_pos c2, if_pos b2, hwt, m0, m1, if_pos e0, if_pos e1, if_pos e2, hcut, if_pos b3, hx]
theorem tyText_ev : Ev (fun k => spec_tyText.f k w h cs) (tx cs w h) := ty_text_l0 hw1 hh1 hs hn h 0 (by omega)
end
end Go.Proofs.YtgipkpiddjjhcaaDoor.Q
end
