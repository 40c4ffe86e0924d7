/- Texts of this claim, joined. -/
import Derived.Test.YtepmpilopmcjpaaGreatDoorJIsSolvedBy01
import Derived.Test.YtepmpilopmcjpaaGreatDoorJIsSolvedBy03
import Derived.Test.YtepmpilopmcjpaaGreatDoorJIsSolvedBy04
import Derived.Test.YtepmpilopmcjpaaGreatDoorJIsSolvedBy02
import Derived.Deep.LoopGhost
import Derived.Deep.Draws
import Derived.RangeFuncBox
set_option linter.unusedVariables false
set_option linter.unusedSimpArgs false
set_option linter.unusedSectionVars false
section
namespace Go.Proofs.YtepmpilopmcjpaaGreatDoor.Q
open Go.RowKit Go.Proofs.YtepmpilopmcjpaaGreatDoorW.PrintWords Go.Proofs.YtepmpilopmcjpaaGreatDoorW.PrintLast Go.Proofs.YtepmpilopmcjpaaGreatDoorW.PrintMore
attribute [local go_sem] max2_int min2_int max_two min_two max_three min_three max_four min_four
set_option linter.unusedVariables false
set_option linter.unusedSimpArgs false
def impl_tray_tiltedAll.l0 : Nat → List Int → Int → Int → Int → Int → List Int → Option (Int × Int × List Int)
 | 0, _, _, _, _, _, _ => none
 | k + 1, x8, x9, x10, x102000, x102001, x102002 => if x10 < x9 then (if 0 ≤ x10 then (if x10 < (x8.length : Int) then ((impl_tray_tilted.f k x102000 x102001 x102002 (rd x8 x10)).bind fun bt107 => (impl_tray_tiltedAll.l0 k x8 x9 (wrap64 (x10 + 1)) bt107.1 bt107.2.1 bt107.2.2)) else (none)) else (none)) else (some (x102000, x102001, x102002))
def impl_tray_tiltedAll.f (k : Nat) (a0_0 : Int) (a0_1 : Int) (l0_2 : List Int) (a1 : ByteArray) : Option (Int × Int × List Int) := (convB.f a1).bind fun t103 => (impl_tray_tiltedAll.l0 k t103 (t103.length : Int) 0 a0_0 a0_1 l0_2)
set_option maxHeartbeats 8000000 in
set_option maxRecDepth 100000 in
theorem impl_tray_tiltedAll.calls (k : Nat) (a0_0 : Int) (a0_1 : Int) (P0_2_ : Nat → Prop) (A0_2 : Option Addr) (c0_2 : Nat) (l0_2 : List Int) (a1 : ByteArray) (r1 : Int) (r2 : Int) (r3 : List Int) (w : World) (hs0_2 : Kd.V (Kd.int .u8) 5 w w.heap.size (fun k_ => P0_2_ k_) (.slice A0_2 l0_2.length c0_2) l0_2) (h : impl_tray_tiltedAll.f k a0_0 a0_1 l0_2 a1 = some (r1, r2, r3)) :
  Calls Tryz.prog 83 #[.agg #[.int .i64 a0_0, .int .i64 a0_1, .slice A0_2 l0_2.length c0_2], .string a1] w fun e w' => ∃ v2_ : Value, e = .returned (.agg #[.int .i64 r1, .int .i64 r2, v2_]) ∧ Kd.V (Kd.int .u8) 5 w' w.heap.size (fun k_ => (P0_2_ k_ ∨ w.heap.size ≤ k_)) v2_ r3 ∧ Below w.heap.size w w' := by
 have hu55 := Tryz.underlying55
 have HO0_2 := Aside0.mk (show Kd.V (Kd.int .u8) 5 w w.heap.size (fun k_ => (P0_2_ k_ ∨ w.heap.size ≤ k_)) (.slice A0_2 l0_2.length c0_2) l0_2 from Kd.V_mono hs0_2 (fun k_ hk => .inl hk))
 have HB := Aside0.mk (Below.refl w.heap.size w)
 have H : ((convB.f a1).bind fun t103 => (impl_tray_tiltedAll.l0 k t103 (t103.length : Int) 0 a0_0 a0_1 l0_2)) = some (r1, r2, r3) := h
 clear h
 replace H := Option.bind_eq_some_iff.mp H
 obtain ⟨t103, A30, H⟩ := H
 replace H : (impl_tray_tiltedAll.l0 k t103 (t103.length : Int) 0 a0_0 a0_1 l0_2) = some (r1, r2, r3) := H
 have A3 := Aside0.mk A30
 clear A30
 have H' := Aside0.mk H
 clear H
 go_enter Tryz.func83, Tryz.ntmps83
 go_wp2_with (first | ((with_reducible refine gate_dst (N := 2) rfl ?_); refine boxE (N := 2) (cs := #[.int .i64 a0_0, .int .i64 a0_1, .slice A0_2 l0_2.length c0_2]) (t := 55) ?_; intro gb101 hg w4 hbox hb; have n0_ := Aside0.mk (Kd.V_below (Kd.V_elderB (by (with_reducible repeat (first | apply Kd.V_alloc | apply Kd.V_drewN | apply Kd.V_drew)); (first | exact HO0_2.out | exact R_any HO0_2.out)) gb101 (Nat.le_of_eq hg.symm)) hb); have n1_ := Aside0.mk (below_step (bel HB) hb); have n2_ := Aside0.mk (hbox); have n3_ := Aside0.mk (gsz hg (bel HB)); have n4_ := Aside0.mk (gsz hg (bel HB)); clear HO0_2; clear HB; have HO0_2 := n0_; have HB := n1_; have BK101 := n2_; have GW101 := n3_; have GE101 := n4_; clear n0_ n1_ n2_ n3_ n4_; clear hb hbox hg) | ((with_reducible refine gate_dst (N := 4) rfl ?_); refine boxE (N := 4) (cs := #[.int .i64 0, .int .i64 0, .slice none 0 0]) (t := 55) ?_; intro gb102 hg w5 hbox hb; have n0_ := Aside0.mk (Kd.V_below (Kd.V_elderB (by (with_reducible repeat (first | apply Kd.V_alloc | apply Kd.V_drewN | apply Kd.V_drew)); (first | exact HO0_2.out | exact R_any HO0_2.out)) gb102 (Nat.le_of_eq hg.symm)) hb); have n1_ := Aside0.mk (blk_below (g := gb101) (o := .cells #[.int .i64 a0_0, .int .i64 a0_1, .slice A0_2 l0_2.length c0_2] 55 (0, 0)) blc hb); have n2_ := Aside0.mk (below_step (bel HB) hb); have n3_ := Aside0.mk (hbox); have n4_ := Aside0.mk (gsz hg (bel HB)); have n5_ := Aside0.mk (gsz hg (bel HB)); have n6_ := Aside0.mk ((by rw [hg]; exact Nat.ne_of_lt (blk_lt (g := gb101) (o := .cells #[.int .i64 a0_0, .int .i64 a0_1, .slice A0_2 l0_2.length c0_2] 55 (0, 0)) blc) : gb101 ≠ gb102)); have n7_ := Aside0.mk ((by rw [hg]; exact Nat.ne_of_gt (blk_lt (g := gb101) (o := .cells #[.int .i64 a0_0, .int .i64 a0_1, .slice A0_2 l0_2.length c0_2] 55 (0, 0)) blc) : gb102 ≠ gb101)); clear HO0_2; clear BK101; clear HB; have HO0_2 := n0_; have BK101 := n1_; have HB := n2_; have BK102 := n3_; have GW102 := n4_; have GE102 := n5_; have NB101_102 := n6_; have NB102_101 := n7_; clear n0_ n1_ n2_ n3_ n4_ n5_ n6_ n7_; clear hb hbox hg) | ((with_reducible refine gate_dst (N := 8) rfl ?_); refine convB.step rfl (N := 8) rfl 9 43 5 _ rfl Tryz.underlying9 Tryz.underlying43 Tryz.underlying5 rfl A3.out ?_; intro v104 w6 ho0 hb; have n0_ := Aside0.mk (Kd.V_below (by (with_reducible repeat (first | apply Kd.V_alloc | apply Kd.V_drewN | apply Kd.V_drew)); (first | exact HO0_2.out | exact R_any HO0_2.out)) hb); have n1_ := Aside0.mk (Kd.V_lower (Kd.V_mono (ok' := fun k_ => (P0_2_ k_ ∨ w.heap.size ≤ k_) ∧ k_ ≠ gb101 ∧ k_ ≠ gb102) ho0 (fun k_ hk_ => ⟨(.inr (Nat.le_trans (below_size (bel HB)) hk_)), (Kd.freshB (g := gb101) (o := .cells #[.int .i64 a0_0, .int .i64 a0_1, .slice A0_2 l0_2.length c0_2] 55 (0, 0)) blc k_ hk_), (Kd.freshB (g := gb102) (o := .cells #[.int .i64 0, .int .i64 0, .slice none 0 0] 55 (0, 0)) blc k_ hk_)⟩)) (below_size (bel HB))); have n2_ := Aside0.mk (blk_below (g := gb101) (o := .cells #[.int .i64 a0_0, .int .i64 a0_1, .slice A0_2 l0_2.length c0_2] 55 (0, 0)) blc hb); have n3_ := Aside0.mk (blk_below (g := gb102) (o := .cells #[.int .i64 0, .int .i64 0, .slice none 0 0] 55 (0, 0)) blc hb); have n4_ := Aside0.mk (below_step (bel HB) hb); clear HO0_2; clear BK101; clear BK102; clear HB; have HO0_2 := n0_; have HO105 := n1_; have BK101 := n2_; have BK102 := n3_; have HB := n4_; clear n0_ n1_ n2_ n3_ n4_; (try clear hb); (try clear hb2); (try clear hk); (try clear hi); (try clear ho0); obtain ⟨Ao7, co7, eo7⟩ := Kd.V_slice HO105.out; subst eo7))
 go_loopg [10] k (fun kq v10 w' => ∃ (x10_1 : Int) (x102000_1 : Int) (x102001_1 : Int) (x102002_1 : List Int) (u102002 : Value), v10 = .int .i64 x10_1 ∧ Aside0 (impl_tray_tiltedAll.l0 kq t103 (t103.length : Int) x10_1 x102000_1 x102001_1 x102002_1 = some (r1, r2, r3)) ∧ Aside0 (kq ≤ k) ∧ Aside0 (Kd.V (Kd.int .u8) 5 w' w.heap.size (fun k_ => (P0_2_ k_ ∨ w.heap.size ≤ k_) ∧ k_ ≠ gb101 ∧ k_ ≠ gb102) (.slice Ao7 t103.length co7) t103) ∧ Aside0 (Kd.V (Kd.int .u8) 5 w' w.heap.size (fun k_ => (P0_2_ k_ ∨ w.heap.size ≤ k_) ∧ k_ ≠ gb101 ∧ k_ ≠ gb102) u102002 x102002_1) ∧ Aside0 (w'.heap[gb101]? = some (.cells #[.int .i64 x102000_1, .int .i64 x102001_1, u102002] 55 (0, 0))) ∧ Aside0 (w'.heap[gb102]? = some (.cells #[.int .i64 0, .int .i64 0, (.slice none 0 0)] 55 (0, 0))) ∧ Aside0 (Below w.heap.size w w'))
 case atStart => exact ⟨(0), (a0_0), (a0_1), (l0_2), (.slice A0_2 l0_2.length c0_2), (by first | rfl | (simp; done) | (simp [*]; done)), H', ⟨Nat.le_refl _⟩, ⟨by (with_reducible repeat (first | apply Kd.V_alloc | apply Kd.V_drewN | apply Kd.V_drew)); (first | exact HO105.out | exact R_any HO105.out)⟩, ⟨by (with_reducible repeat (first | apply Kd.V_alloc | apply Kd.V_drewN | apply Kd.V_drew)); exact Kd.V_mono HO0_2.out (fun _ hk => ⟨hk.1.1, ⟨hk.1.2, hk.2⟩⟩)⟩, ⟨blc⟩, ⟨blc⟩, ⟨bel HB⟩⟩
 case round =>
  clear H'
  try clear p2
  obtain ⟨x10_1, x102000_1, x102001_1, x102002_1, u102002, rfl, HA, HK1, HO_8, HO_102002, BK101, BK102, HB⟩ := hrel
  cases gk with
  | zero => exact absurd HA.out (by simp [impl_tray_tiltedAll.l0])
  | succ k1 =>
   have H := HA.out
   clear HA
   simp only [impl_tray_tiltedAll.l0] at H
   by_cases c8 : x10_1 < (t103.length : Int)
   ·rw [if_pos c8] at H
    have c8b0 : decide (x10_1 < (t103.length : Int)) = true := decide_eq_true c8
    clear c8
    by_cases c9 : 0 ≤ x10_1
    ·rw [if_pos c9] at H
     have c9b0 : decide (0 ≤ x10_1) = true := decide_eq_true c9
     clear c9
     by_cases c10 : x10_1 < (t103.length : Int)
     ·rw [if_pos c10] at H
      have c10b0 : decide (x10_1 < (t103.length : Int)) = true := decide_eq_true c10
      clear c10
      replace H := Option.bind_eq_some_iff.mp H
      obtain ⟨⟨t107, t108, t109⟩, A110, H⟩ := H
      replace H : (impl_tray_tiltedAll.l0 k1 t103 (t103.length : Int) (wrap64 (x10_1 + 1)) t107 t108 t109) = some (r1, r2, r3) := H
      have A11 := Aside0.mk A110
      clear A110
      have H' := Aside0.mk H
      clear H
      have p106 : 0 ≤ (x10_1 : Int) := of_decide_eq_true (by first | (with_reducible assumption) | assumption)
      have q106 : x10_1 < (t103.length : Int) := of_decide_eq_true (by first | (with_reducible assumption) | assumption)
      obtain ⟨ad106, e106, hx106_0⟩ := Kd.at_int (Kd.V_reads' HO_8.out).2.2 x10_1 p106 q106
      cases e106
      replace p106 := eq_true p106
      replace q106 := eq_true q106
      have hnb12 := NB101_102.out
      have hnc12 := NB102_101.out
      have hcz13_0 : wr.cell? ⟨gb101, 0, none⟩ = some (.int .i64 x102000_1) := (blk_cell BK101.out 0).trans rfl
      have hcz13_1 : wr.cell? ⟨gb101, 1, none⟩ = some (.int .i64 x102001_1) := (blk_cell BK101.out 1).trans rfl
      have hcz13_2 : wr.cell? ⟨gb101, 2, none⟩ = some (u102002) := (blk_cell BK101.out 2).trans rfl
      have hfz13_0 := blk_frozen BK101.out 0
      have hfz13_1 := blk_frozen BK101.out 1
      have hfz13_2 := blk_frozen BK101.out 2
      obtain ⟨Ao14, co14, eo14⟩ := Kd.V_slice HO_102002.out
      subst eo14
      go_wp2_with (first | ((with_reducible refine gate_callee (f := 46) rfl ?_); refine gcall (some 16) Tryz.func46 #[.agg #[.int .i64 x102000_1, .int .i64 x102001_1, .slice Ao14 x102002_1.length co14], .int .u8 (rd t103 x10_1)] rfl ?_; (with_reducible refine (impl_tray_tilted.calls k1 x102000_1 x102001_1 _ _ x102002_1 (rd t103 x10_1) t107 t108 t109 _ ?side1 ?side2 A11.out).mono ?_); (case side1 => repeat (first | exact (Kd.V_reads' HO_102002.out).2.2 | (with_reducible refine Kd.C_alloc ?_ _) | (with_reducible refine Kd.C_drewN ?_ _) | (with_reducible refine Kd.C_drew ?_))); (case side2 => exact (Kd.V_reads' HO_102002.out).2.1); rintro e w15 ⟨v110, rfl, ho0, hb⟩; refine ⟨_, rfl, ?_⟩; have n0_ := Aside0.mk (Kd.V_elder' (by (with_reducible repeat (first | apply Kd.V_alloc | apply Kd.V_drewN | apply Kd.V_drew)); (first | exact HO_8.out | exact R_any HO_8.out)) (Kd.R_base ho0) hb); have n1_ := Aside0.mk (Kd.V_elder' (by (with_reducible repeat (first | apply Kd.V_alloc | apply Kd.V_drewN | apply Kd.V_drew)); (first | exact HO_102002.out | exact R_any HO_102002.out)) (Kd.R_base ho0) hb); have n2_ := Aside0.mk (Kd.R_lower (Kd.R_newM (M := fun k_ => (w.heap.size ≤ k_)) ho0 (below_size (bel HB)) (fun k_ h_ => h_)) (below_size (bel HB))); have n3_ := Aside0.mk (blk_below (g := gb101) (o := .cells #[.int .i64 x102000_1, .int .i64 x102001_1, .slice Ao14 x102002_1.length co14] 55 (0, 0)) blc hb); have n4_ := Aside0.mk (blk_below (g := gb102) (o := .cells #[.int .i64 0, .int .i64 0, .slice none 0 0] 55 (0, 0)) blc hb); have n5_ := Aside0.mk (below_step (bel HB) hb); clear HO_8; clear HO_102002; clear BK101; clear BK102; clear HB; have HO_8 := n0_; have HO_102002 := n1_; have HO111 := n2_; have BK101 := n3_; have BK102 := n4_; have HB := n5_; clear n0_ n1_ n2_ n3_ n4_ n5_; (try clear hb); (try clear hb2); (try clear hk); (try clear hi); (try clear ho0); have hcz16_0 : w15.cell? ⟨gb101, 0, none⟩ = some (.int .i64 x102000_1) := (blk_cell BK101.out 0).trans rfl; have hcz16_1 : w15.cell? ⟨gb101, 1, none⟩ = some (.int .i64 x102001_1) := (blk_cell BK101.out 1).trans rfl; have hcz16_2 : w15.cell? ⟨gb101, 2, none⟩ = some (.slice Ao14 x102002_1.length co14) := (blk_cell BK101.out 2).trans rfl; have hfz16_0 := blk_frozen BK101.out 0; have hfz16_1 := blk_frozen BK101.out 1; have hfz16_2 := blk_frozen BK101.out 2; obtain ⟨Ao17, co17, eo17⟩ := Kd.R_slice HO111.out; subst eo17))
      go_roundg k1
      case measure => have := HK1.out; omega
      case rel => exact ⟨(wrap64 (x10_1 + 1)), (t107), (t108), (t109), (.slice Ao17 t109.length co17), (by first | rfl | (simp; done) | (simp [*]; done)), H', ⟨by have := HK1.out; omega⟩, ⟨by (with_reducible repeat (first | apply Kd.V_alloc | apply Kd.V_drewN | apply Kd.V_drew)); exact Kd.V_mono (Kd.V_far (p := ⟨gb101, 2, none⟩) (Kd.V_far (p := ⟨gb101, 1, none⟩) (Kd.V_far (p := ⟨gb101, 0, none⟩) (Kd.V_mono HO_8.out (fun k_ hk => (⟨hk, hk.1.2.1⟩ : _ ∧ k_ ≠ gb101))) (fun _ hk => hk.2) (.int .i64 t107)) (fun _ hk => hk.2) (.int .i64 t108)) (fun _ hk => hk.2) (.slice Ao17 t109.length co17)) (fun _ hk => ⟨hk.1.1.1, ⟨hk.1.1.2.1, hk.1.1.2.2⟩⟩)⟩, ⟨(by first | exact V_orR (by (with_reducible repeat (first | apply Kd.R_alloc | apply Kd.R_drewN | apply Kd.R_drew)); exact Kd.R_mono (Kd.R_far (p := ⟨gb101, 2, none⟩) (Kd.R_far (p := ⟨gb101, 1, none⟩) (Kd.R_far (p := ⟨gb101, 0, none⟩) (Kd.R_types (Kd.R_types (Kd.R_types HO111.out BK101.out (by decide)) BK102.out (by decide)) BK101.out (by decide)) (fun _ hk => hk.2) (.int .i64 t107)) (fun _ hk => hk.2) (.int .i64 t108)) (fun _ hk => hk.2) (.slice Ao17 t109.length co17)) (fun _ hk => ⟨hk.1.1.1.1, ⟨hk.1.1.2, hk.1.2⟩⟩)) | exact V_orR0 (by (with_reducible repeat (first | apply Kd.R_alloc | apply Kd.R_drewN | apply Kd.R_drew)); exact Kd.R_mono (Kd.R_far (p := ⟨gb101, 2, none⟩) (Kd.R_far (p := ⟨gb101, 1, none⟩) (Kd.R_far (p := ⟨gb101, 0, none⟩) (Kd.R_types (Kd.R_types (Kd.R_types HO111.out BK101.out (by decide)) BK102.out (by decide)) BK101.out (by decide)) (fun _ hk => hk.2) (.int .i64 t107)) (fun _ hk => hk.2) (.int .i64 t108)) (fun _ hk => hk.2) (.slice Ao17 t109.length co17)) (fun _ hk => ⟨hk.1.1.1.1, ⟨hk.1.1.2, hk.1.2⟩⟩)))⟩, ⟨by (with_reducible repeat (first | refine blk_drewN ?_ _ | refine blk_drew ?_ | refine blk_alloc ?_ _)); refine blk_put (cs := #[.int .i64 t107, .int .i64 t108, .slice Ao14 x102002_1.length co14]) ?_ 2 _ rfl; (with_reducible repeat (first | refine blk_drewN ?_ _ | refine blk_drew ?_ | refine blk_alloc ?_ _)); refine blk_put (cs := #[.int .i64 t107, .int .i64 x102001_1, .slice Ao14 x102002_1.length co14]) ?_ 1 _ rfl; (with_reducible repeat (first | refine blk_drewN ?_ _ | refine blk_drew ?_ | refine blk_alloc ?_ _)); refine blk_put (cs := #[.int .i64 x102000_1, .int .i64 x102001_1, .slice Ao14 x102002_1.length co14]) ?_ 0 _ rfl; exact blc⟩, ⟨by (with_reducible repeat (first | refine blk_drewN ?_ _ | refine blk_drew ?_ | refine blk_alloc ?_ _)); refine blk_far ?_ NB102_101.out _; (with_reducible repeat (first | refine blk_drewN ?_ _ | refine blk_drew ?_ | refine blk_alloc ?_ _)); refine blk_far ?_ NB102_101.out _; (with_reducible repeat (first | refine blk_drewN ?_ _ | refine blk_drew ?_ | refine blk_alloc ?_ _)); refine blk_far ?_ NB102_101.out _; exact blc⟩, ⟨bel HB⟩⟩
     ·rw [if_neg c10] at H
      exact absurd H (by simp)
    ·rw [if_neg c9] at H
     exact absurd H (by simp)
   ·rw [if_neg c8] at H
    have c8b0 : decide (x10_1 < (t103.length : Int)) = false := decide_eq_false c8
    clear c8
    simp only [Option.some.injEq, Prod.mk.injEq] at H
    obtain ⟨rfl, rfl, rfl⟩ := H
    have hnb18 := NB101_102.out
    have hnc18 := NB102_101.out
    have hcz19_0 : wr.cell? ⟨gb101, 0, none⟩ = some (.int .i64 x102000_1) := (blk_cell BK101.out 0).trans rfl
    have hcz19_1 : wr.cell? ⟨gb101, 1, none⟩ = some (.int .i64 x102001_1) := (blk_cell BK101.out 1).trans rfl
    have hcz19_2 : wr.cell? ⟨gb101, 2, none⟩ = some (u102002) := (blk_cell BK101.out 2).trans rfl
    have hfz19_0 := blk_frozen BK101.out 0
    have hfz19_1 := blk_frozen BK101.out 1
    have hfz19_2 := blk_frozen BK101.out 2
    have hcz20_0 : wr.cell? ⟨gb102, 0, none⟩ = some (.int .i64 0) := (blk_cell BK102.out 0).trans rfl
    have hcz20_1 : wr.cell? ⟨gb102, 1, none⟩ = some (.int .i64 0) := (blk_cell BK102.out 1).trans rfl
    have hcz20_2 : wr.cell? ⟨gb102, 2, none⟩ = some (.slice none 0 0) := (blk_cell BK102.out 2).trans rfl
    have hfz20_0 := blk_frozen BK102.out 0
    have hfz20_1 := blk_frozen BK102.out 1
    have hfz20_2 := blk_frozen BK102.out 2
    obtain ⟨Ao21, co21, eo21⟩ := Kd.V_slice HO_102002.out
    subst eo21
    go_wp2
    refine bodyPost_ret (results_cell_row rfl _ _ gb102 55 #[.int .i64 x102000_1, .int .i64 x102001_1, .slice Ao21 x102002_1.length co21] (0, 0) _ rfl (by (with_reducible repeat (first | refine blk_drewN ?_ _ | refine blk_drew ?_ | refine blk_alloc ?_ _)); refine blk_put (cs := #[.int .i64 x102000_1, .int .i64 x102001_1, .slice none 0 0]) ?_ 2 _ rfl; (with_reducible repeat (first | refine blk_drewN ?_ _ | refine blk_drew ?_ | refine blk_alloc ?_ _)); refine blk_put (cs := #[.int .i64 x102000_1, .int .i64 0, .slice none 0 0]) ?_ 1 _ rfl; (with_reducible repeat (first | refine blk_drewN ?_ _ | refine blk_drew ?_ | refine blk_alloc ?_ _)); refine blk_put (cs := #[.int .i64 0, .int .i64 0, .slice none 0 0]) ?_ 0 _ rfl; exact blc) Tryz.underlying55 rfl (by kernel_rfl)) rfl ?_
    exact ⟨_, by first | rfl | (simp [errW_none, errW_some] <;> rfl) | (simp [*, errW_none, errW_some] <;> rfl), by (with_reducible repeat (first | apply Kd.V_alloc | apply Kd.V_drewN | apply Kd.V_drew)); exact Kd.V_mono (Kd.V_far (p := ⟨gb102, 2, none⟩) (Kd.V_far (p := ⟨gb102, 1, none⟩) (Kd.V_far (p := ⟨gb102, 0, none⟩) (Kd.V_mono HO_102002.out (fun k_ hk => (⟨hk, hk.2.2⟩ : _ ∧ k_ ≠ gb102))) (fun _ hk => hk.2) (.int .i64 x102000_1)) (fun _ hk => hk.2) (.int .i64 x102001_1)) (fun _ hk => hk.2) (.slice Ao21 x102002_1.length co21)) (fun _ hk => hk.1.1), bel HB⟩
end Go.Proofs.YtepmpilopmcjpaaGreatDoor.Q
end
section
namespace Go.Proofs.YtepmpilopmcjpaaGreatDoor.Q
open Go.RowKit Go.Proofs.YtepmpilopmcjpaaGreatDoorW.PrintWords Go.Proofs.YtepmpilopmcjpaaGreatDoorW.PrintLast Go.Proofs.YtepmpilopmcjpaaGreatDoorW.PrintMore
set_option linter.unusedSectionVars false
def tiltW (w h : Nat) : List Nat → List Int → List Int
 | [], cs => cs
 | d :: l, cs => tiltW w h l (tiltC w h cs d)
section
variable {w h : Nat} (hw : w ≤ 7) (hh : h ≤ 7) (hs : w * h ≤ 36) (hw1 : 0 < w) (hh1 : 0 < h)
include hw hh hs hw1 hh1
theorem tiltW_len : ∀ (l : List Nat) (cs : List Int), (∀ d ∈ l, d < 4) → cs.length = w * h → (tiltW w h l cs).length = w * h
 | [], _, _, hn => hn
 | d :: l, cs, hl, hn => tiltW_len l _ (fun x hx => hl x (List.mem_cons_of_mem _ hx)) ((tiltC_len hw hh hs (hl d List.mem_cons_self)).trans hn)
theorem tiRun_l0 (s : ByteArray) (hb : s.size ≤ 40 ∧ ∀ (t : Nat) (ht : t < s.data.toList.length), isD s.data.toList[t] = true) : ∀ (m t : Nat) (cs : List Int), t + m = s.size → cs.length = w * h → Ev (fun k => spec_tiRun.l0 k s t w h cs) (w, h, tiltW w h ((s.data.toList.drop t).map dirN) cs)
 | 0, t, cs, ht, hn => by
  have hl := data_length s
  rw [List.drop_eq_nil_of_le (by omega)]
  refine Ev.step (Ev.const (o := some ((w : Int), (h : Int), cs)) rfl) fun k => ?_
  rw [spec_tiRun.l0, if_neg (by omega)]
 | m + 1, t, cs, ht, hn => by
  have hl := data_length s
  have htl : t < s.data.toList.length := by omega
  have hwt : wrap64 ((t : Int) + 1) = ((t + 1 : Nat) : Int) := by have := hb.1; rw [w64 (by omega) (by omega)]; omega
  have hd := hb.2 t htl
  have hd4 := dirN_lt s.data.toList[t]
  have ih := tiRun_l0 s hb m (t + 1) (tiltC w h cs (dirN s.data.toList[t])) (by omega) ((tiltC_len hw hh hs hd4).trans hn)
  have h1 := tiDir_ev (s.extract ((t : Nat) : Int).toNat (((t + 1 : Nat) : Int)).toNat)
  rw [dirI_one (cut_one s t (by omega)), if_pos hd] at h1
  rw [List.drop_eq_getElem_cons htl, List.map_cons]
  refine Ev.step (Ev.bind (f := fun k t103 => ((spec_tiTilt.f k w h cs t103).bind fun bt104 => (spec_tiRun.l0 k s ((t + 1 : Nat) : Int) bt104.1 bt104.2.1 bt104.2.2))) h1 (Ev.bind (f := fun k (bt104 : Int × Int × List Int) => (spec_tiRun.l0 k s ((t + 1 : Nat) : Int) bt104.1 bt104.2.1 bt104.2.2)) (tiTilt_ev hw hh hs hd4 hw1 hh1 hn) ih)) fun k => ?_
  rw [spec_tiRun.l0, if_pos (by omega), if_pos (by omega), hwt, if_pos (by omega), if_pos (by omega)]
theorem tiRun_ev {s : ByteArray} (hb : wordB s = true) {cs : List Int} (hn : cs.length = w * h) : Ev (fun k => spec_tiRun.f k w h cs s) (w, h, tiltW w h (s.data.toList.map dirN) cs) := by
 have h1 := tiRun_l0 hw hh hs hw1 hh1 s (wordB_parts hb) s.size 0 cs (by omega) hn
 rw [List.drop_zero] at h1
 exact h1
theorem tiltedAll_l0 (s : ByteArray) (hb : s.size ≤ 40 ∧ ∀ (t : Nat) (ht : t < s.data.toList.length), isD s.data.toList[t] = true) : ∀ (m t : Nat) (cs : List Int), t + m = s.size → cs.length = w * h → Ev (fun k => impl_tray_tiltedAll.l0 k (bytesOf s) (bytesOf s).length t w h cs) (w, h, tiltW w h ((s.data.toList.drop t).map dirN) cs)
 | 0, t, cs, ht, hn => by
  have hl := data_length s
  have hbl := bytesOf_length s
  rw [List.drop_eq_nil_of_le (by omega)]
  refine Ev.step (Ev.const (o := some ((w : Int), (h : Int), cs)) rfl) fun k => ?_
  rw [impl_tray_tiltedAll.l0, if_neg (by omega)]
 | m + 1, t, cs, ht, hn => by
  have hl := data_length s
  have hbl := bytesOf_length s
  have htl : t < s.data.toList.length := by omega
  have hwt : wrap64 ((t : Int) + 1) = ((t + 1 : Nat) : Int) := by have := hb.1; rw [w64 (by omega) (by omega)]; omega
  have hd := hb.2 t htl
  have hd4 := dirN_lt s.data.toList[t]
  have ih := tiltedAll_l0 s hb m (t + 1) (tiltC w h cs (dirN s.data.toList[t])) (by omega) ((tiltC_len hw hh hs hd4).trans hn)
  rw [List.drop_eq_getElem_cons htl, List.map_cons]
  refine Ev.step (Ev.bind (f := fun k (bt107 : Int × Int × List Int) => (impl_tray_tiltedAll.l0 k (bytesOf s) (bytesOf s).length ((t + 1 : Nat) : Int) bt107.1 bt107.2.1 bt107.2.2)) (tilted_ev hw hh hs hd4 hw1 hh1 hn) ih) fun k => ?_
  rw [impl_tray_tiltedAll.l0, if_pos (by omega), if_pos (by omega), if_pos (by omega), hwt, bytes_rd s t htl, ← (dirN_C hd).2]
  rfl
theorem tiltedAll_ev {s : ByteArray} (hb : wordB s = true) {cs : List Int} (hn : cs.length = w * h) : Ev (fun k => impl_tray_tiltedAll.f k w h cs s) (w, h, tiltW w h (s.data.toList.map dirN) cs) := by
 have h1 := tiltedAll_l0 hw hh hs hw1 hh1 s (wordB_parts hb) s.size 0 cs (by omega) hn
 rw [List.drop_zero] at h1
 refine Ev.congr h1 fun k => ?_
 unfold impl_tray_tiltedAll.f convB.f
 rw [if_pos (by have := (wordB_parts hb).1; omega), Option.bind_some]
 rfl
end
end Go.Proofs.YtepmpilopmcjpaaGreatDoor.Q
end
section
namespace Go.Proofs.YtepmpilopmcjpaaGreatDoor.Q
open Go.RowKit Go.Shelf Go.Proofs.YtepmpilopmcjpaaGreatDoorW.PrintWords Go.Proofs.YtepmpilopmcjpaaGreatDoorW.PrintLast Go.Proofs.YtepmpilopmcjpaaGreatDoorW.PrintMore
set_option linter.unusedSectionVars false
def slideW (w h : Nat) : List Nat → List Int → Int → Int
 | [], _, x => x
 | d :: l, cs, x => slideW w h l (tiltC w h cs d) (slideF w h cs d x)
section
variable {w h : Nat} (hw : w ≤ 7) (hh : h ≤ 7) (hs : w * h ≤ 36)
include hw hh hs
theorem only_run : ∀ (l : List Nat) (cs : List Int), (∀ d ∈ l, d < 4) → cs.length = w * h → ∀ c x : Int, isB c = true → only cs c x → only (tiltW w h l cs) c (slideW w h l cs x)
 | [], _, _, _, _, _, _, ho => ho
 | d :: l, cs, hl, hn, c, x, hc, ho => by
  have hd := hl d List.mem_cons_self
  exact only_run l (tiltC w h cs d) (fun e he => hl e (List.mem_cons_of_mem _ he)) ((tiltC_len hw hh hs hd).trans hn) c _ hc (only_tilt hw hh hs hd hn hc ho)
end
end Go.Proofs.YtepmpilopmcjpaaGreatDoor.Q
end
section
namespace Go.Proofs.YtepmpilopmcjpaaGreatDoor.Q
open Go.RowKit Go.Proofs.YtepmpilopmcjpaaGreatDoorW.PrintWords Go.Proofs.YtepmpilopmcjpaaGreatDoorW.PrintLast Go.Proofs.YtepmpilopmcjpaaGreatDoorW.PrintMore
theorem wrap64_small (n : Nat) (h : n < 1000000) : wrap64 ((n : Int) + 1) = ((n + 1 : Nat) : Int) := by unfold wrap64; omega
end Go.Proofs.YtepmpilopmcjpaaGreatDoor.Q
end
section
namespace Go.Proofs.YtepmpilopmcjpaaGreatDoor.Q
open Go.RowKit Go.Proofs.YtepmpilopmcjpaaGreatDoorW.PrintWords Go.Proofs.YtepmpilopmcjpaaGreatDoorW.PrintLast Go.Proofs.YtepmpilopmcjpaaGreatDoorW.PrintMore
def PredI (g : Nat) (lb : Array Value) (p : Int → Bool) (zs : List Int) (w : World) : Prop :=
 ∀ W, Below w.heap.size w W → ∀ x ∈ zs, Calls Tryz.prog g (#[.int .i64 x] ++ lb) W fun e W' => e = .returned (.bool (p x)) ∧ Below W.heap.size W W'
set_option maxHeartbeats 4000000 in
set_option maxRecDepth 100000 in
theorem idxI (g : Nat) (lb : Array Value) (eg : ∀ args w, (callFunc g args).run Tryz.prog w = .ok (.enter g args) w) (p : Int → Bool) (A0 : Option Addr) (c0 : Nat) (zs : List Int) (w : World) (hr0 : Kd.C (Kd.int .i64) w A0 zs.length zs) (hn : zs.length ≤ 1000000) (hp : PredI g lb p zs w) :
  Calls Tryz.prog 143 #[.slice A0 zs.length c0, .func (.func g) #[] lb] w fun e w' => ∃ i : Int, e = .returned (.int .i64 i) ∧ (decide (0 ≤ i) = zs.any p) ∧ Below w.heap.size w w' := by
 have HR := Aside0.mk hr0
 have HP := Aside0.mk hp
 clear hr0 hp
 go_enter Tryz.func143, Tryz.ntmps143
 go_wp2
 go_loopg [5, 8] zs.length (fun gg _ s8 wr => ∃ kk : Nat, s8 = .int .i64 kk ∧ Aside0 (kk ≤ zs.length ∧ zs.length - kk ≤ gg ∧ ∀ j : Nat, j < kk → p (rd zs j) = false) ∧ Aside0 (Below w.heap.size w wr))
 case atStart => exact ⟨0, rfl, ⟨Nat.zero_le _, by omega, fun j hj => absurd hj (Nat.not_lt_zero _)⟩, ⟨Below.refl _ _⟩⟩
 case round =>
  obtain ⟨kk, rfl, HA, HB⟩ := hrel
  obtain ⟨hkk, hgg, hno⟩ := HA.out
  by_cases hlt : kk < zs.length
  ·have c1 : decide ((kk : Int) < (zs.length : Int)) = true := decide_eq_true (by omega)
   have p1 : (0 ≤ (kk : Int)) = True := eq_true (by omega)
   have p2 : ((kk : Int) < (zs.length : Int)) = True := eq_true (by omega)
   obtain ⟨ad, e1, hx⟩ := Kd.at_int (Kd.C_below HR.out HB.out) (kk : Int) (by omega) (by omega)
   cases e1
   rw [Int.toNat_natCast] at hx
   have hm : rd zs kk ∈ zs := by
    unfold rd
    rw [Int.toNat_natCast, List.getD_eq_getElem?_getD, List.getElem?_eq_getElem hlt]
    exact List.getElem_mem hlt
   have hcall : ∀ W, Below wr.heap.size wr W → Calls Tryz.prog g (#[.int .i64 (rd zs kk)] ++ lb) W fun e W' => e = .returned (.bool (p (rd zs kk))) ∧ Below W.heap.size W W' := fun W hW =>
    HP.out W (below_then HB.out HB.out.size hW) (rd zs kk) hm
   generalize hv : rd zs kk = y at hx hcall hm
   have HV := Aside0.mk (show rd zs kk = y ∧ y ∈ zs from ⟨hv, hm⟩)
   clear hv hm hno hgg hkk
   cases hq : p y with
   | true =>
    rw [hq] at hcall
    go_wp2_with fail
    refine (hcall _ (Below.refl _ _)).mono ?_
    rintro e w' ⟨rfl, hb⟩
    clear hcall
    go_wp2
    go_ret
    refine ⟨_, rfl, ?_, below_then HB.out HB.out.size hb⟩
    rw [decide_eq_true (by omega)]
    exact (List.any_eq_true.2 ⟨y, HV.out.2, hq⟩).symm
   | false =>
    rw [hq] at hcall
    go_wp2_with fail
    refine (hcall _ (Below.refl _ _)).mono ?_
    rintro e w' ⟨rfl, hb⟩
    clear hcall
    go_wp2
    go_roundg (zs.length - (kk + 1))
    case measure => have := HA.out.2.1; omega
    case rel =>
     refine ⟨kk + 1, by first | rfl | rw [wrap64_small kk (by omega)] | simp, ⟨by omega, by omega, fun j hj => ?_⟩, ⟨below_then HB.out HB.out.size hb⟩⟩
     by_cases e : j = kk
     ·rw [e, HV.out.1]
      exact hq
     ·exact HA.out.2.2 j (by omega)
  ·obtain rfl : kk = zs.length := by omega
   have c1 : decide ((zs.length : Int) < (zs.length : Int)) = false := decide_eq_false (by omega)
   go_wp2
   go_ret
   refine ⟨_, rfl, ?_, HB.out⟩
   rw [decide_eq_false (by omega)]
   refine (Bool.eq_false_iff.2 fun h => ?_).symm
   obtain ⟨x, hx, hpx⟩ := List.any_eq_true.1 h
   obtain ⟨j, hj, rfl⟩ := List.getElem_of_mem hx
   have h2 := hno j hj
   unfold rd at h2
   rw [Int.toNat_natCast, List.getD_eq_getElem?_getD, List.getElem?_eq_getElem hj] at h2
   exact absurd hpx (by simpa using h2)
set_option maxHeartbeats 4000000 in
set_option maxRecDepth 100000 in
theorem contI (g : Nat) (lb : Array Value) (eg : ∀ args w, (callFunc g args).run Tryz.prog w = .ok (.enter g args) w) (p : Int → Bool) (A0 : Option Addr) (c0 : Nat) (zs : List Int) (w : World) (hr0 : Kd.C (Kd.int .i64) w A0 zs.length zs) (hn : zs.length ≤ 1000000) (hp : PredI g lb p zs w) :
  Calls Tryz.prog 129 #[.slice A0 zs.length c0, .func (.func g) #[] lb] w fun e w' => e = .returned (.bool (zs.any p)) ∧ Below w.heap.size w w' := by
 have hI := idxI g lb eg p A0 c0 zs w hr0 hn hp
 clear eg hp hr0
 go_enter Tryz.func129, Tryz.ntmps129
 go_wp2_with fail
 refine hI.mono ?_
 rintro e w' ⟨i, rfl, hi, hb⟩
 clear hI
 go_wp2
 go_ret
 exact ⟨by rw [← hi]; rfl, hb⟩
end Go.Proofs.YtepmpilopmcjpaaGreatDoor.Q
end
section
namespace Go.Proofs.YtepmpilopmcjpaaGreatDoor.Q
open Go.RowKit Go.Proofs.YtepmpilopmcjpaaGreatDoorW.PrintWords Go.Proofs.YtepmpilopmcjpaaGreatDoorW.PrintLast Go.Proofs.YtepmpilopmcjpaaGreatDoorW.PrintMore
def impl_areWithin.f (l0 : List Int) (lo hi : Int) : Option Bool := if l0.length ≤ 1000000 then some (!l0.any (fun x => !decide (lo ≤ x ∧ x ≤ hi))) else none
theorem within_val (a lo hi : Int) : impl_within.f a lo hi = some (decide (lo ≤ a ∧ a ≤ hi)) := by
 unfold impl_within.f
 by_cases h : lo ≤ a
 ·rw [if_pos h]
  simp [h]
 ·rw [if_neg h]
  simp [h]
set_option maxHeartbeats 4000000 in
set_option maxRecDepth 100000 in
theorem within_pred (lo hi : Int) (Bl Bh : Nat) (zs : List Int) (w : World) (hl : Bl < w.heap.size) (hh : Bh < w.heap.size) (cl : w.cell? ⟨Bl, 0, none⟩ = some (.int .i64 lo)) (ch : w.cell? ⟨Bh, 0, none⟩ = some (.int .i64 hi)) :
  PredI 130 #[.pointer (some ⟨Bl, 0, none⟩), .pointer (some ⟨Bh, 0, none⟩)] (fun x => !decide (lo ≤ x ∧ x ≤ hi)) zs w := by
 intro W hb x _
 have c1 := (hb.cell (p := ⟨Bl, 0, none⟩) hl).trans cl
 have c2 := (hb.cell (p := ⟨Bh, 0, none⟩) hh).trans ch
 have hc := fun W => impl_within.calls x lo hi _ W (within_val x lo hi)
 show Calls _ _ _ _ fun e W' => e = .returned (.bool (!decide (lo ≤ x ∧ x ≤ hi))) ∧ _
 generalize decide (lo ≤ x ∧ x ≤ hi) = b at hc ⊢
 clear cl ch hb
 show Calls Tryz.prog 130 #[.int .i64 x, .pointer (some ⟨Bl, 0, none⟩), .pointer (some ⟨Bh, 0, none⟩)] W _
 go_enter Tryz.func130, Tryz.ntmps130
 go_wp2_with fail
 refine (hc _).mono ?_
 rintro e w' ⟨rfl, ⟨nd, rfl⟩⟩
 go_wp2
 go_ret
 exact ⟨rfl, pw_below_drewN (Below.refl _ _) _⟩
set_option maxHeartbeats 4000000 in
set_option maxRecDepth 100000 in
theorem impl_areWithin.calls (A0 : Option Addr) (c0 : Nat) (l0 : List Int) (lo hi : Int) (r : Bool) (w : World) (hr0 : Kd.C (Kd.int .i64) w A0 l0.length l0) (hc0 : l0.length ≤ c0) (h : impl_areWithin.f l0 lo hi = some r) :
  Calls Tryz.prog 107 #[.slice A0 l0.length c0, .int .i64 lo, .int .i64 hi] w fun e w' => e = .returned (.bool r) ∧ Below w.heap.size w w' := by
 unfold impl_areWithin.f at h
 split at h
 case isFalse => cases h
 rename_i hn
 obtain rfl := Option.some.inj h
 have hb0 : Below w.heap.size w ((w.alloc (.cells #[.int .i64 lo] 3)).alloc (.cells #[.int .i64 hi] 3)) := ((Below.refl _ w).alloc (Nat.le_refl _) _).alloc (by simp) _
 have h1 := Boxed.new w 3 (.int .i64 lo)
 have h2 := Boxed.new (w.alloc (.cells #[.int .i64 lo] 3)) 3 (.int .i64 hi)
 have hp := within_pred lo hi w.heap.size (w.heap.size + 1) l0 ((w.alloc (.cells #[.int .i64 lo] 3)).alloc (.cells #[.int .i64 hi] 3)) (by simp; omega) (by simp) (h1.alloc _).cell (by rw [World.size_alloc] at h2; exact h2.cell)
 have hcall := contI 130 #[.pointer (some ⟨w.heap.size, 0, none⟩), .pointer (some ⟨w.heap.size + 1, 0, none⟩)] (enters_of Tryz.func130 (by kernel_rfl) rfl) _ A0 c0 l0 _ (Kd.C_below hr0 hb0) hn hp
 clear hp h1 h2 hr0 h
 generalize l0.any (fun x => !decide (lo ≤ x ∧ x ≤ hi)) = b at hcall ⊢
 go_enter Tryz.func107, Tryz.ntmps107
 go_wp2_with fail
 refine hcall.mono ?_
 rintro e w' ⟨rfl, hb⟩
 clear hcall
 go_wp2
 go_ret
 exact ⟨rfl, below_then hb0 hb0.size hb⟩
end Go.Proofs.YtepmpilopmcjpaaGreatDoor.Q
end
section
namespace Go.Proofs.YtepmpilopmcjpaaGreatDoor.Q
open Go.RowKit Go.Proofs.YtepmpilopmcjpaaGreatDoorW.PrintWords Go.Proofs.YtepmpilopmcjpaaGreatDoorW.PrintLast Go.Proofs.YtepmpilopmcjpaaGreatDoorW.PrintMore
attribute [local go_sem] max2_int min2_int max_two min_two max_three min_three max_four min_four
set_option linter.unusedVariables false
set_option linter.unusedSimpArgs false
def impl_isNumber.f (k : Nat) (a0 : ByteArray) (l1 : List Int) : Option (Bool) := (impl_IsTray.f k a0).bind fun t101 => (if t101 = true then ((impl_read.f a0).bind fun bt102 => ((impl_areWithin.f l1 0 (wrap64 ((bt102.2.2.length : Int) - 1))).bind fun t107 => (some t107))) else (some false))
set_option maxHeartbeats 8000000 in
set_option maxRecDepth 100000 in
theorem impl_isNumber.calls (k : Nat) (a0 : ByteArray) (A1 : Option Addr) (c1 : Nat) (l1 : List Int) (r : Bool) (w : World) (hG : GoodW w) (hr1 : Kd.C (Kd.int .i64) w A1 l1.length l1) (hc1 : l1.length ≤ c1) (h : impl_isNumber.f k a0 l1 = some r) :
  Calls Tryz.prog 82 #[.string a0, .slice A1 l1.length c1] w fun e w' => e = .returned (.bool r) ∧ Below w.heap.size w w' := by
 have hu55 := Tryz.underlying55
 have hfd55_2 : ∀ (a0 : Int) (a1 : Int) (A2 : Option Addr) (n2 c2 : Nat) (W : World), (Instr.field 55 (.agg #[.int .i64 a0, .int .i64 a1, .slice A2 n2 c2]) 2).run Tryz.prog W = .ok (.slice A2 n2 c2) W := fun _ _ _ _ _ _ => by kernel_rfl
 have HR1 := Aside0.mk hr1
 have HC1 := Aside0.mk hc1
 clear hr1 hc1
 have HG := Aside0.mk hG
 clear hG
 have HB := Aside0.mk (Below.refl w.heap.size w)
 have H : ((impl_IsTray.f k a0).bind fun t101 => (if t101 = true then ((impl_read.f a0).bind fun bt102 => ((impl_areWithin.f l1 0 (wrap64 ((bt102.2.2.length : Int) - 1))).bind fun t107 => (some t107))) else (some false))) = some r := h
 clear h
 replace H := Option.bind_eq_some_iff.mp H
 obtain ⟨t101, A30, H⟩ := H
 replace H : (if t101 = true then ((impl_read.f a0).bind fun bt102 => ((impl_areWithin.f l1 0 (wrap64 ((bt102.2.2.length : Int) - 1))).bind fun t107 => (some t107))) else (some false)) = some r := H
 have A3 := Aside0.mk A30
 clear A30
 by_cases c4 : t101 = true
 ·subst c4
  have H1 : ((impl_read.f a0).bind fun bt102 => ((impl_areWithin.f l1 0 (wrap64 ((bt102.2.2.length : Int) - 1))).bind fun t107 => (some t107))) = some r := by rw [if_pos rfl] at H; exact H
  clear H
  have H := H1
  clear H1
  replace H := Option.bind_eq_some_iff.mp H
  obtain ⟨⟨t102, t103, t104⟩, A50, H⟩ := H
  replace H : ((impl_areWithin.f l1 0 (wrap64 ((t104.length : Int) - 1))).bind fun t107 => (some t107)) = some r := H
  have A5 := Aside0.mk A50
  clear A50
  replace H := Option.bind_eq_some_iff.mp H
  obtain ⟨t107, A60, H⟩ := H
  replace H : (some t107) = some r := H
  have A6 := Aside0.mk A60
  clear A60
  obtain rfl := Option.some.inj H
  go_enter Tryz.func82, Tryz.ntmps82
  go_wp2_with (first | ((with_reducible refine gate_callee (f := 59) rfl ?_); refine gcall (some 6) Tryz.func59 #[.string a0] rfl ?_; (with_reducible refine (impl_IsTray.calls k a0 true _ ?side1 A3.out).mono ?_); (case side1 => (refine GoodW.below HG.out ?_); exact bel HB); rintro e w7 ⟨rfl, hb⟩; refine ⟨_, rfl, ?_⟩; have n0_ := Aside0.mk (below_step (bel HB) hb); clear HB; have HB := n0_; clear n0_; (try clear hb); (try clear hb2); (try clear hk); (try clear hi)) | (go_at_call 33; (with_reducible refine (impl_read.calls a0 t102 t103 t104 _ ?side1 A5.out).mono ?_); (case side1 => (refine GoodW.below HG.out ?_); exact bel HB); rintro e w8 ⟨v105, rfl, ho0, hb⟩; have n0_ := Aside0.mk (Kd.V_lower (Kd.V_mono (ok' := fun k_ => True) ho0 (fun k_ hk_ => trivial)) (below_size (bel HB))); have n1_ := Aside0.mk (below_step (bel HB) hb); clear HB; have HO106 := n0_; have HB := n1_; clear n0_ n1_; (try clear hb); (try clear hb2); (try clear hk); (try clear hi); (try clear ho0); obtain ⟨Ao9, co9, eo9⟩ := Kd.V_slice HO106.out; subst eo9) | (go_at_call 107; (with_reducible refine (impl_areWithin.calls _ _ l1 0 (wrap64 ((t104.length : Int) - 1)) t107 _ ?side1 ?side2 A6.out).mono ?_); (case side1 => repeat (first | exact (Kd.C_below HR1.out HB.out) | (with_reducible refine Kd.C_alloc ?_ _) | (with_reducible refine Kd.C_drewN ?_ _) | (with_reducible refine Kd.C_drew ?_))); (case side2 => exact HC1.out); rintro e w10 ⟨rfl, hb⟩; have n0_ := Aside0.mk (Kd.V_below (by (with_reducible repeat (first | apply Kd.V_alloc | apply Kd.V_drewN | apply Kd.V_drew)); (first | exact HO106.out | exact R_any HO106.out)) hb); have n1_ := Aside0.mk (below_step (bel HB) hb); clear HO106; clear HB; have HO106 := n0_; have HB := n1_; clear n0_ n1_; (try clear hb); (try clear hb2); (try clear hk); (try clear hi)))
  go_ret
  exact ⟨by first | rfl | (simp [errW_none, errW_some] <;> rfl) | (simp [*, errW_none, errW_some] <;> rfl), bel HB⟩
 ·replace c4 := Bool.eq_false_iff.mpr c4
  subst c4
  have H1 : (some false) = some r := by rw [if_neg (show ¬ (false = true) by decide)] at H; exact H
  clear H
  have H := H1
  clear H1
  obtain rfl := Option.some.inj H
  go_enter Tryz.func82, Tryz.ntmps82
  go_wp2_with (first | ((with_reducible refine gate_callee (f := 59) rfl ?_); refine gcall (some 6) Tryz.func59 #[.string a0] rfl ?_; (with_reducible refine (impl_IsTray.calls k a0 false _ ?side1 A3.out).mono ?_); (case side1 => (refine GoodW.below HG.out ?_); exact bel HB); rintro e w11 ⟨rfl, hb⟩; refine ⟨_, rfl, ?_⟩; have n0_ := Aside0.mk (below_step (bel HB) hb); clear HB; have HB := n0_; clear n0_; (try clear hb); (try clear hb2); (try clear hk); (try clear hi)))
  go_ret
  exact ⟨by first | rfl | (simp [errW_none, errW_some] <;> rfl) | (simp [*, errW_none, errW_some] <;> rfl), bel HB⟩
end Go.Proofs.YtepmpilopmcjpaaGreatDoor.Q
end
section
namespace Go.Proofs.YtepmpilopmcjpaaGreatDoor.Q
set_option linter.unusedSectionVars false
open Go.RowKit Go.Proofs.YtepmpilopmcjpaaGreatDoorW.PrintWords Go.Proofs.YtepmpilopmcjpaaGreatDoorW.PrintLast Go.Proofs.YtepmpilopmcjpaaGreatDoorW.PrintMore
def inCells (cs : List Int) (a : Int) : Prop := 0 ≤ a ∧ a < (cs.length : Int)
instance (cs : List Int) (a : Int) : Decidable (inCells cs a) := inferInstanceAs (Decidable (_ ∧ _))
theorem inCells_eq (cs : List Int) (a : Int) : decide (0 ≤ a ∧ a ≤ (cs.length : Int) - 1) = decide (inCells cs a) := decide_eq_decide.2 (by unfold inCells; omega)
def allCells (cs : List Int) (l : List Int) : Bool := l.all fun a => decide (inCells cs a)
theorem within_all (cs : List Int) (l : List Int) (hl : l.length ≤ 1000000) : impl_areWithin.f l 0 ((cs.length : Int) - 1) = some (allCells cs l) := by
 unfold impl_areWithin.f allCells
 rw [if_pos hl]
 congr 1
 induction l with
 | nil => rfl
 | cons a l ih =>
  rw [List.any_cons, List.all_cons, Bool.not_or, ih (by simp at hl; omega), Bool.not_not, inCells_eq]
theorem isNumber_ev (s : ByteArray) (hs : s.size ≤ 1048576) (l : List Int) (hl : l.length ≤ 1000000) : Ev (fun k => impl_isNumber.f k s l) (match trayOf s with | none => false | some (_, _, cs) => allCells cs l) := by
 refine Ev.bind (f := fun _ (t101 : Bool) => (if t101 = true then ((impl_read.f s).bind fun bt102 => ((impl_areWithin.f l 0 (wrap64 ((bt102.2.2.length : Int) - 1))).bind fun t107 => (some t107))) else (some false))) (isTray_ev s hs) (Ev.const ?_)
 rcases ht : trayOf s with _ | ⟨w, h, cs⟩
 ·rfl
 ·have hread : impl_read.f s = trayOf s := ((trayOf_row s).resolve_left (by rw [ht]; exact fun e => nomatch e)).2
  have h1 : cs.length ≤ 36 := form_len (t := (w, h, cs)) ht
  have hwl : wrap64 ((cs.length : Int) - 1) = (cs.length : Int) - 1 := w64 (by omega) (by omega)
  show (if true = true then _ else _) = _
  rw [if_pos rfl, hread, ht]
  show (impl_areWithin.f l 0 (wrap64 ((cs.length : Int) - 1))).bind _ = _
  rw [hwl, within_all cs l hl]
  rfl
end Go.Proofs.YtepmpilopmcjpaaGreatDoor.Q
end
