/- Texts of this claim, joined. -/
import Derived.Test.YtgipkpiddjjhcaaDoorJStickWord01
import Derived.Test.YtgipkpiddjjhcaaDoorJStickWord06
import Derived.Test.YtgipkpiddjjhcaaDoorJStickWord02
import Derived.Test.YtgipkpiddjjhcaaDoorJStickWord04
set_option linter.unusedVariables false
set_option linter.unusedSimpArgs false
set_option linter.unusedSectionVars false
section
namespace Go.Proofs.YtgipkpiddjjhcaaDoor.Q
open Go.RowKit Go.Proofs.YtgipkpiddjjhcaaDoorW.PrintWords Go.Proofs.YtgipkpiddjjhcaaDoorW.PrintLast Go.Proofs.YtgipkpiddjjhcaaDoorW.PrintMore
attribute [local go_sem] max2_int min2_int max_two min_two max_three min_three max_four min_four
set_option linter.unusedVariables false
set_option linter.unusedSimpArgs false
def impl_tray_stuckAll.l0 : Nat → List Int → Int → Int → Int → Int → List Int → Option (Int × Int × List Int)
 | 0, _, _, _, _, _, _ => none
 | k + 1, x8, x9, x10, x102000, x102001, x102002 => if x10 < x9 then (if 0 ≤ x10 then (if x10 < (x8.length : Int) then ((impl_tray_stuck.f k x102000 x102001 x102002 (rd x8 x10)).bind fun bt107 => (impl_tray_stuckAll.l0 k x8 x9 (wrap64 (x10 + 1)) bt107.1 bt107.2.1 bt107.2.2.1)) else (none)) else (none)) else (some (x102000, x102001, x102002))
def impl_tray_stuckAll.f (k : Nat) (a0_0 : Int) (a0_1 : Int) (l0_2 : List Int) (a1 : ByteArray) : Option (Int × Int × List Int) := (convB.f a1).bind fun t103 => (impl_tray_stuckAll.l0 k t103 (t103.length : Int) 0 a0_0 a0_1 l0_2)
set_option maxHeartbeats 8000000 in
set_option maxRecDepth 100000 in
theorem impl_tray_stuckAll.calls (k : Nat) (a0_0 : Int) (a0_1 : Int) (P0_2_ : Nat → Prop) (A0_2 : Option Addr) (c0_2 : Nat) (l0_2 : List Int) (a1 : ByteArray) (r1 : Int) (r2 : Int) (r3 : List Int) (w : World) (hs0_2 : Kd.V (Kd.int .u8) 5 w w.heap.size (fun k_ => P0_2_ k_) (.slice A0_2 l0_2.length c0_2) l0_2) (h : impl_tray_stuckAll.f k a0_0 a0_1 l0_2 a1 = some (r1, r2, r3)) :
  Calls Tryd.prog 41 #[.agg #[.int .i64 a0_0, .int .i64 a0_1, .slice A0_2 l0_2.length c0_2], .string a1] w fun e w' => ∃ v2_ : Value, e = .returned (.agg #[.int .i64 r1, .int .i64 r2, v2_]) ∧ Kd.V (Kd.int .u8) 5 w' w.heap.size (fun k_ => (P0_2_ k_ ∨ w.heap.size ≤ k_)) v2_ r3 ∧ Below w.heap.size w w' := by
 have hu46 := Tryd.underlying46
 have HO0_2 := Aside0.mk (show Kd.V (Kd.int .u8) 5 w w.heap.size (fun k_ => (P0_2_ k_ ∨ w.heap.size ≤ k_)) (.slice A0_2 l0_2.length c0_2) l0_2 from Kd.V_mono hs0_2 (fun k_ hk => .inl hk))
 have HB := Aside0.mk (Below.refl w.heap.size w)
 have H : ((convB.f a1).bind fun t103 => (impl_tray_stuckAll.l0 k t103 (t103.length : Int) 0 a0_0 a0_1 l0_2)) = some (r1, r2, r3) := h
 clear h
 replace H := Option.bind_eq_some_iff.mp H
 obtain ⟨t103, A30, H⟩ := H
 replace H : (impl_tray_stuckAll.l0 k t103 (t103.length : Int) 0 a0_0 a0_1 l0_2) = some (r1, r2, r3) := H
 have A3 := Aside0.mk A30
 clear A30
 have H' := Aside0.mk H
 clear H
 go_enter Tryd.func41, Tryd.ntmps41
 go_wp2_with (first | ((with_reducible refine gate_dst (N := 2) rfl ?_); refine boxE (N := 2) (cs := #[.int .i64 a0_0, .int .i64 a0_1, .slice A0_2 l0_2.length c0_2]) (t := 46) ?_; intro gb101 hg w4 hbox hb; have n0_ := Aside0.mk (Kd.V_below (Kd.V_elderB (by (with_reducible repeat (first | apply Kd.V_alloc | apply Kd.V_drewN | apply Kd.V_drew)); (first | exact HO0_2.out | exact R_any HO0_2.out)) gb101 (Nat.le_of_eq hg.symm)) hb); have n1_ := Aside0.mk (below_step (bel HB) hb); have n2_ := Aside0.mk (hbox); have n3_ := Aside0.mk (gsz hg (bel HB)); have n4_ := Aside0.mk (gsz hg (bel HB)); clear HO0_2; clear HB; have HO0_2 := n0_; have HB := n1_; have BK101 := n2_; have GW101 := n3_; have GE101 := n4_; clear n0_ n1_ n2_ n3_ n4_; clear hb hbox hg) | ((with_reducible refine gate_dst (N := 4) rfl ?_); refine boxE (N := 4) (cs := #[.int .i64 0, .int .i64 0, .slice none 0 0]) (t := 46) ?_; intro gb102 hg w5 hbox hb; have n0_ := Aside0.mk (Kd.V_below (Kd.V_elderB (by (with_reducible repeat (first | apply Kd.V_alloc | apply Kd.V_drewN | apply Kd.V_drew)); (first | exact HO0_2.out | exact R_any HO0_2.out)) gb102 (Nat.le_of_eq hg.symm)) hb); have n1_ := Aside0.mk (blk_below (g := gb101) (o := .cells #[.int .i64 a0_0, .int .i64 a0_1, .slice A0_2 l0_2.length c0_2] 46 (0, 0)) blc hb); have n2_ := Aside0.mk (below_step (bel HB) hb); have n3_ := Aside0.mk (hbox); have n4_ := Aside0.mk (gsz hg (bel HB)); have n5_ := Aside0.mk (gsz hg (bel HB)); have n6_ := Aside0.mk ((by rw [hg]; exact Nat.ne_of_lt (blk_lt (g := gb101) (o := .cells #[.int .i64 a0_0, .int .i64 a0_1, .slice A0_2 l0_2.length c0_2] 46 (0, 0)) blc) : gb101 ≠ gb102)); have n7_ := Aside0.mk ((by rw [hg]; exact Nat.ne_of_gt (blk_lt (g := gb101) (o := .cells #[.int .i64 a0_0, .int .i64 a0_1, .slice A0_2 l0_2.length c0_2] 46 (0, 0)) blc) : gb102 ≠ gb101)); clear HO0_2; clear BK101; clear HB; have HO0_2 := n0_; have BK101 := n1_; have HB := n2_; have BK102 := n3_; have GW102 := n4_; have GE102 := n5_; have NB101_102 := n6_; have NB102_101 := n7_; clear n0_ n1_ n2_ n3_ n4_ n5_ n6_ n7_; clear hb hbox hg) | ((with_reducible refine gate_dst (N := 8) rfl ?_); refine convB.step rfl (N := 8) rfl 9 34 5 _ rfl Tryd.underlying9 Tryd.underlying34 Tryd.underlying5 rfl A3.out ?_; intro v104 w6 ho0 hb; have n0_ := Aside0.mk (Kd.V_below (by (with_reducible repeat (first | apply Kd.V_alloc | apply Kd.V_drewN | apply Kd.V_drew)); (first | exact HO0_2.out | exact R_any HO0_2.out)) hb); have n1_ := Aside0.mk (Kd.V_lower (Kd.V_mono (ok' := fun k_ => (P0_2_ k_ ∨ w.heap.size ≤ k_) ∧ k_ ≠ gb101 ∧ k_ ≠ gb102) ho0 (fun k_ hk_ => ⟨(.inr (Nat.le_trans (below_size (bel HB)) hk_)), (Kd.freshB (g := gb101) (o := .cells #[.int .i64 a0_0, .int .i64 a0_1, .slice A0_2 l0_2.length c0_2] 46 (0, 0)) blc k_ hk_), (Kd.freshB (g := gb102) (o := .cells #[.int .i64 0, .int .i64 0, .slice none 0 0] 46 (0, 0)) blc k_ hk_)⟩)) (below_size (bel HB))); have n2_ := Aside0.mk (blk_below (g := gb101) (o := .cells #[.int .i64 a0_0, .int .i64 a0_1, .slice A0_2 l0_2.length c0_2] 46 (0, 0)) blc hb); have n3_ := Aside0.mk (blk_below (g := gb102) (o := .cells #[.int .i64 0, .int .i64 0, .slice none 0 0] 46 (0, 0)) blc hb); have n4_ := Aside0.mk (below_step (bel HB) hb); clear HO0_2; clear BK101; clear BK102; clear HB; have HO0_2 := n0_; have HO105 := n1_; have BK101 := n2_; have BK102 := n3_; have HB := n4_; clear n0_ n1_ n2_ n3_ n4_; (try clear hb); (try clear hb2); (try clear hk); (try clear hi); (try clear ho0); obtain ⟨Ao7, co7, eo7⟩ := Kd.V_slice HO105.out; subst eo7))
 go_loopg [10] k (fun kq v10 w' => ∃ (x10_1 : Int) (x102000_1 : Int) (x102001_1 : Int) (x102002_1 : List Int) (u102002 : Value), v10 = .int .i64 x10_1 ∧ Aside0 (impl_tray_stuckAll.l0 kq t103 (t103.length : Int) x10_1 x102000_1 x102001_1 x102002_1 = some (r1, r2, r3)) ∧ Aside0 (kq ≤ k) ∧ Aside0 (Kd.V (Kd.int .u8) 5 w' w.heap.size (fun k_ => (P0_2_ k_ ∨ w.heap.size ≤ k_) ∧ k_ ≠ gb101 ∧ k_ ≠ gb102) (.slice Ao7 t103.length co7) t103) ∧ Aside0 (Kd.V (Kd.int .u8) 5 w' w.heap.size (fun k_ => (P0_2_ k_ ∨ w.heap.size ≤ k_) ∧ k_ ≠ gb101 ∧ k_ ≠ gb102) u102002 x102002_1) ∧ Aside0 (w'.heap[gb101]? = some (.cells #[.int .i64 x102000_1, .int .i64 x102001_1, u102002] 46 (0, 0))) ∧ Aside0 (w'.heap[gb102]? = some (.cells #[.int .i64 0, .int .i64 0, (.slice none 0 0)] 46 (0, 0))) ∧ Aside0 (Below w.heap.size w w'))
 case atStart => exact ⟨(0), (a0_0), (a0_1), (l0_2), (.slice A0_2 l0_2.length c0_2), (by first | rfl | (simp; done) | (simp [*]; done)), H', ⟨Nat.le_refl _⟩, ⟨by (with_reducible repeat (first | apply Kd.V_alloc | apply Kd.V_drewN | apply Kd.V_drew)); (first | exact HO105.out | exact R_any HO105.out)⟩, ⟨by (with_reducible repeat (first | apply Kd.V_alloc | apply Kd.V_drewN | apply Kd.V_drew)); exact Kd.V_mono HO0_2.out (fun _ hk => ⟨hk.1.1, ⟨hk.1.2, hk.2⟩⟩)⟩, ⟨blc⟩, ⟨blc⟩, ⟨bel HB⟩⟩
 case round =>
  clear H'
  try clear p2
  try clear c4
  obtain ⟨x10_1, x102000_1, x102001_1, x102002_1, u102002, rfl, HA, HK1, HO_8, HO_102002, BK101, BK102, HB⟩ := hrel
  cases gk with
  | zero => exact absurd HA.out (by simp [impl_tray_stuckAll.l0])
  | succ k1 =>
   have H := HA.out
   clear HA
   simp only [impl_tray_stuckAll.l0] at H
   by_cases c8 : x10_1 < (t103.length : Int)
   ·rw [if_pos c8] at H
    have c8b0 : decide (x10_1 < (t103.length : Int)) = true := decide_eq_true c8
    clear c8
    by_cases c9 : 0 ≤ x10_1
    ·rw [if_pos c9] at H
     have c9b0 : decide (0 ≤ x10_1) = true := decide_eq_true c9
     clear c9
     by_cases c10 : x10_1 < (t103.length : Int)
     ·rw [if_pos c10] at H
      have c10b0 : decide (x10_1 < (t103.length : Int)) = true := decide_eq_true c10
      clear c10
      replace H := Option.bind_eq_some_iff.mp H
      obtain ⟨⟨t107, t108, t109, t112⟩, A110, H⟩ := H
      replace H : (impl_tray_stuckAll.l0 k1 t103 (t103.length : Int) (wrap64 (x10_1 + 1)) t107 t108 t109) = some (r1, r2, r3) := H
      have A11 := Aside0.mk A110
      clear A110
      have H' := Aside0.mk H
      clear H
      have p106 : 0 ≤ (x10_1 : Int) := of_decide_eq_true (by first | (with_reducible assumption) | assumption)
      have q106 : x10_1 < (t103.length : Int) := of_decide_eq_true (by first | (with_reducible assumption) | assumption)
      obtain ⟨ad106, e106, hx106_0⟩ := Kd.at_int (Kd.V_reads' HO_8.out).2.2 x10_1 p106 q106
      cases e106
      replace p106 := eq_true p106
      replace q106 := eq_true q106
      have hnb12 := NB101_102.out
      have hnc12 := NB102_101.out
      have hcz13_0 : wr.cell? ⟨gb101, 0, none⟩ = some (.int .i64 x102000_1) := (blk_cell BK101.out 0).trans rfl
      have hcz13_1 : wr.cell? ⟨gb101, 1, none⟩ = some (.int .i64 x102001_1) := (blk_cell BK101.out 1).trans rfl
      have hcz13_2 : wr.cell? ⟨gb101, 2, none⟩ = some (u102002) := (blk_cell BK101.out 2).trans rfl
      have hfz13_0 := blk_frozen BK101.out 0
      have hfz13_1 := blk_frozen BK101.out 1
      have hfz13_2 := blk_frozen BK101.out 2
      obtain ⟨Ao14, co14, eo14⟩ := Kd.V_slice HO_102002.out
      subst eo14
      go_wp2_with (first | ((with_reducible refine gate_callee (f := 37) rfl ?_); refine gcall (some 17) Tryd.func37 #[.agg #[.int .i64 x102000_1, .int .i64 x102001_1, .slice Ao14 x102002_1.length co14], .int .u8 (rd t103 x10_1)] rfl ?_; (with_reducible refine (impl_tray_stuck.calls k1 x102000_1 x102001_1 (fun k_ => ((P0_2_ k_ ∨ w.heap.size ≤ k_) ∧ (k_ ≠ gb101 ∧ k_ ≠ gb102))) _ _ x102002_1 (rd t103 x10_1) t107 t108 t109 t112 _ ?side1 A11.out).mono ?_); (case side1 => (first | exact HO_102002.out | exact R_any HO_102002.out)); rintro e w15 ⟨v110, v113, rfl, ho0, ho1, hb⟩; refine ⟨_, rfl, ?_⟩; have n0_ := Aside0.mk (Kd.V_elder' (by (with_reducible repeat (first | apply Kd.V_alloc | apply Kd.V_drewN | apply Kd.V_drew)); (first | exact HO_8.out | exact R_any HO_8.out)) (Kd.R_base ho1) hb); have n1_ := Aside0.mk (Kd.V_elder' (by (with_reducible repeat (first | apply Kd.V_alloc | apply Kd.V_drewN | apply Kd.V_drew)); (first | exact HO_102002.out | exact R_any HO_102002.out)) (Kd.R_base ho1) hb); have n2_ := Aside0.mk (Kd.V_lower (Kd.V_mono (ok' := fun k_ => (P0_2_ k_ ∨ w.heap.size ≤ k_) ∧ some k_ ≠ (v113 : Value).ownBlock ∧ k_ ≠ gb101 ∧ k_ ≠ gb102) ho0 (fun k_ hk_ => ⟨Or.elim hk_.1 (fun hs_ => hs_.1) (fun hn_ => (.inr (Nat.le_trans (below_size (bel HB)) hn_))), hk_.2, Or.elim hk_.1 (fun hs_ => hs_.2.1) (fun hn_ => (Kd.freshB (g := gb101) (o := .cells #[.int .i64 x102000_1, .int .i64 x102001_1, .slice Ao14 x102002_1.length co14] 46 (0, 0)) blc k_ hn_)), Or.elim hk_.1 (fun hs_ => hs_.2.2) (fun hn_ => (Kd.freshB (g := gb102) (o := .cells #[.int .i64 0, .int .i64 0, .slice none 0 0] 46 (0, 0)) blc k_ hn_))⟩)) (below_size (bel HB))); have n3_ := Aside0.mk (Kd.R_lower (Kd.R_newM (M := fun k_ => (w.heap.size ≤ k_)) (Kd.R_mono (ok' := fun k_ => True) ho1 (fun _ hk_ => trivial)) (below_size (bel HB)) (fun k_ h_ => h_)) (below_size (bel HB))); have n4_ := Aside0.mk (blk_below (g := gb101) (o := .cells #[.int .i64 x102000_1, .int .i64 x102001_1, .slice Ao14 x102002_1.length co14] 46 (0, 0)) blc hb); have n5_ := Aside0.mk (blk_below (g := gb102) (o := .cells #[.int .i64 0, .int .i64 0, .slice none 0 0] 46 (0, 0)) blc hb); have n6_ := Aside0.mk (below_step (bel HB) hb); clear HO_8; clear HO_102002; clear BK101; clear BK102; clear HB; have HO_8 := n0_; have HO_102002 := n1_; have HO111 := n2_; have HO114 := n3_; have BK101 := n4_; have BK102 := n5_; have HB := n6_; clear n0_ n1_ n2_ n3_ n4_ n5_ n6_; (try clear hb); (try clear hb2); (try clear hk); (try clear hi); (try clear ho0); (try clear ho1); have hcz16_0 : w15.cell? ⟨gb101, 0, none⟩ = some (.int .i64 x102000_1) := (blk_cell BK101.out 0).trans rfl; have hcz16_1 : w15.cell? ⟨gb101, 1, none⟩ = some (.int .i64 x102001_1) := (blk_cell BK101.out 1).trans rfl; have hcz16_2 : w15.cell? ⟨gb101, 2, none⟩ = some (.slice Ao14 x102002_1.length co14) := (blk_cell BK101.out 2).trans rfl; have hfz16_0 := blk_frozen BK101.out 0; have hfz16_1 := blk_frozen BK101.out 1; have hfz16_2 := blk_frozen BK101.out 2; obtain ⟨Ao17, co17, eo17⟩ := Kd.V_slice HO111.out; subst eo17))
      go_roundg k1
      case measure => have := HK1.out; omega
      case rel => exact ⟨(wrap64 (x10_1 + 1)), (t107), (t108), (t109), (.slice Ao17 t109.length co17), (by first | rfl | (simp; done) | (simp [*]; done)), H', ⟨by have := HK1.out; omega⟩, ⟨by (with_reducible repeat (first | apply Kd.V_alloc | apply Kd.V_drewN | apply Kd.V_drew)); exact Kd.V_mono (Kd.V_far (p := ⟨gb101, 2, none⟩) (Kd.V_far (p := ⟨gb101, 1, none⟩) (Kd.V_far (p := ⟨gb101, 0, none⟩) (Kd.V_mono HO_8.out (fun k_ hk => (⟨hk, hk.1.2.1⟩ : _ ∧ k_ ≠ gb101))) (fun _ hk => hk.2) (.int .i64 t107)) (fun _ hk => hk.2) (.int .i64 t108)) (fun _ hk => hk.2) (.slice Ao17 t109.length co17)) (fun _ hk => ⟨hk.1.1.1, ⟨hk.1.1.2.1, hk.1.1.2.2⟩⟩)⟩, ⟨by (with_reducible repeat (first | apply Kd.V_alloc | apply Kd.V_drewN | apply Kd.V_drew)); exact Kd.V_mono (Kd.V_far (p := ⟨gb101, 2, none⟩) (Kd.V_far (p := ⟨gb101, 1, none⟩) (Kd.V_far (p := ⟨gb101, 0, none⟩) (Kd.V_mono HO111.out (fun k_ hk => (⟨hk, hk.2.2.1⟩ : _ ∧ k_ ≠ gb101))) (fun _ hk => hk.2) (.int .i64 t107)) (fun _ hk => hk.2) (.int .i64 t108)) (fun _ hk => hk.2) (.slice Ao17 t109.length co17)) (fun _ hk => ⟨hk.1.1, ⟨hk.1.2.2.1, hk.1.2.2.2⟩⟩)⟩, ⟨by (with_reducible repeat (first | refine blk_drewN ?_ _ | refine blk_drew ?_ | refine blk_alloc ?_ _)); refine blk_put (cs := #[.int .i64 t107, .int .i64 t108, .slice Ao14 x102002_1.length co14]) ?_ 2 _ rfl; (with_reducible repeat (first | refine blk_drewN ?_ _ | refine blk_drew ?_ | refine blk_alloc ?_ _)); refine blk_put (cs := #[.int .i64 t107, .int .i64 x102001_1, .slice Ao14 x102002_1.length co14]) ?_ 1 _ rfl; (with_reducible repeat (first | refine blk_drewN ?_ _ | refine blk_drew ?_ | refine blk_alloc ?_ _)); refine blk_put (cs := #[.int .i64 x102000_1, .int .i64 x102001_1, .slice Ao14 x102002_1.length co14]) ?_ 0 _ rfl; exact blc⟩, ⟨by (with_reducible repeat (first | refine blk_drewN ?_ _ | refine blk_drew ?_ | refine blk_alloc ?_ _)); refine blk_far ?_ NB102_101.out _; (with_reducible repeat (first | refine blk_drewN ?_ _ | refine blk_drew ?_ | refine blk_alloc ?_ _)); refine blk_far ?_ NB102_101.out _; (with_reducible repeat (first | refine blk_drewN ?_ _ | refine blk_drew ?_ | refine blk_alloc ?_ _)); refine blk_far ?_ NB102_101.out _; exact blc⟩, ⟨bel HB⟩⟩
     ·rw [if_neg c10] at H
      exact absurd H (by simp)
    ·rw [if_neg c9] at H
     exact absurd H (by simp)
   ·rw [if_neg c8] at H
    have c8b0 : decide (x10_1 < (t103.length : Int)) = false := decide_eq_false c8
    clear c8
    simp only [Option.some.injEq, Prod.mk.injEq] at H
    obtain ⟨rfl, rfl, rfl⟩ := H
    have hnb18 := NB101_102.out
    have hnc18 := NB102_101.out
    have hcz19_0 : wr.cell? ⟨gb101, 0, none⟩ = some (.int .i64 x102000_1) := (blk_cell BK101.out 0).trans rfl
    have hcz19_1 : wr.cell? ⟨gb101, 1, none⟩ = some (.int .i64 x102001_1) := (blk_cell BK101.out 1).trans rfl
    have hcz19_2 : wr.cell? ⟨gb101, 2, none⟩ = some (u102002) := (blk_cell BK101.out 2).trans rfl
    have hfz19_0 := blk_frozen BK101.out 0
    have hfz19_1 := blk_frozen BK101.out 1
    have hfz19_2 := blk_frozen BK101.out 2
    have hcz20_0 : wr.cell? ⟨gb102, 0, none⟩ = some (.int .i64 0) := (blk_cell BK102.out 0).trans rfl
    have hcz20_1 : wr.cell? ⟨gb102, 1, none⟩ = some (.int .i64 0) := (blk_cell BK102.out 1).trans rfl
    have hcz20_2 : wr.cell? ⟨gb102, 2, none⟩ = some (.slice none 0 0) := (blk_cell BK102.out 2).trans rfl
    have hfz20_0 := blk_frozen BK102.out 0
    have hfz20_1 := blk_frozen BK102.out 1
    have hfz20_2 := blk_frozen BK102.out 2
    obtain ⟨Ao21, co21, eo21⟩ := Kd.V_slice HO_102002.out
    subst eo21
    go_wp2
    refine bodyPost_ret (results_cell_row rfl _ _ gb102 46 #[.int .i64 x102000_1, .int .i64 x102001_1, .slice Ao21 x102002_1.length co21] (0, 0) _ rfl (by (with_reducible repeat (first | refine blk_drewN ?_ _ | refine blk_drew ?_ | refine blk_alloc ?_ _)); refine blk_put (cs := #[.int .i64 x102000_1, .int .i64 x102001_1, .slice none 0 0]) ?_ 2 _ rfl; (with_reducible repeat (first | refine blk_drewN ?_ _ | refine blk_drew ?_ | refine blk_alloc ?_ _)); refine blk_put (cs := #[.int .i64 x102000_1, .int .i64 0, .slice none 0 0]) ?_ 1 _ rfl; (with_reducible repeat (first | refine blk_drewN ?_ _ | refine blk_drew ?_ | refine blk_alloc ?_ _)); refine blk_put (cs := #[.int .i64 0, .int .i64 0, .slice none 0 0]) ?_ 0 _ rfl; exact blc) Tryd.underlying46 rfl (by kernel_rfl)) rfl ?_
    exact ⟨_, by first | rfl | (simp [errW_none, errW_some] <;> rfl) | (simp [*, errW_none, errW_some] <;> rfl), by (with_reducible repeat (first | apply Kd.V_alloc | apply Kd.V_drewN | apply Kd.V_drew)); exact Kd.V_mono (Kd.V_far (p := ⟨gb102, 2, none⟩) (Kd.V_far (p := ⟨gb102, 1, none⟩) (Kd.V_far (p := ⟨gb102, 0, none⟩) (Kd.V_mono HO_102002.out (fun k_ hk => (⟨hk, hk.2.2⟩ : _ ∧ k_ ≠ gb102))) (fun _ hk => hk.2) (.int .i64 x102000_1)) (fun _ hk => hk.2) (.int .i64 x102001_1)) (fun _ hk => hk.2) (.slice Ao21 x102002_1.length co21)) (fun _ hk => hk.1.1), bel HB⟩
end Go.Proofs.YtgipkpiddjjhcaaDoor.Q
end
section
namespace Go.Proofs.YtgipkpiddjjhcaaDoor.Q
open Go.RowKit Go.Proofs.YtgipkpiddjjhcaaDoorW.PrintWords Go.Proofs.YtgipkpiddjjhcaaDoorW.PrintLast Go.Proofs.YtgipkpiddjjhcaaDoorW.PrintMore
set_option linter.unusedSectionVars false
open Classical
noncomputable def skR (w h : Nat) (cs : List Int) (d : Nat) : List Int × List Int := if hx : ∃ R, Tilts w h cs d R then Classical.choose hx else ([], [])
noncomputable def runR (w h : Nat) : List Nat → List Int → List Int
 | [], cs => cs
 | d :: l, cs => runR w h l (skR w h cs d).1
section
variable {w h : Nat} (hw : w ≤ 7) (hh : h ≤ 7) (hs : w * h ≤ 36) (hz : 0 < w * h)
include hw hh hs hz
theorem skR_ok {cs : List Int} (hn : cs.length = w * h) {d : Nat} (hd : d < 4) : Tilts w h cs d (skR w h cs d) := by
 have hx := tilts hw hh hs hn hz hd
 unfold skR
 rw [dif_pos hx]
 exact Classical.choose_spec hx
theorem runR_len : ∀ (l : List Nat) (cs : List Int), (∀ d ∈ l, d < 4) → cs.length = w * h → (runR w h l cs).length = w * h
 | [], _, _, hn => hn
 | d :: l, cs, hl, hn => runR_len l _ (fun x hx => hl x (List.mem_cons_of_mem _ hx)) (skR_ok hw hh hs hz hn (hl d List.mem_cons_self)).len
theorem skRun_l0 (s : ByteArray) (hb : s.size ≤ 40 ∧ ∀ (t : Nat) (ht : t < s.data.toList.length), isD s.data.toList[t] = true) : ∀ (m t : Nat) (cs : List Int), t + m = s.size → cs.length = w * h → Ev (fun k => spec_skRun.l0 k s t w h cs) (w, h, runR w h ((s.data.toList.drop t).map dirN) cs)
 | 0, t, cs, ht, hn => by
  have hl := data_length s
  rw [List.drop_eq_nil_of_le (by omega)]
  refine Ev.step (Ev.const (o := some ((w : Int), (h : Int), cs)) rfl) fun k => ?_
  rw [spec_skRun.l0, if_neg (by omega)]
 | m + 1, t, cs, ht, hn => by
  have hl := data_length s
  have htl : t < s.data.toList.length := by omega
  have hwt : wrap64 ((t : Int) + 1) = ((t + 1 : Nat) : Int) := by have := hb.1; rw [w64 (by omega) (by omega)]; omega
  have hd := hb.2 t htl
  have hT := skR_ok hw hh hs hz hn (dirN_lt s.data.toList[t])
  have ih := skRun_l0 s hb m (t + 1) (skR w h cs (dirN s.data.toList[t])).1 (by omega) hT.len
  have h1 := tiDir_ev (s.extract ((t : Nat) : Int).toNat (((t + 1 : Nat) : Int)).toNat)
  rw [dirI_one (cut_one s t (by omega)), if_pos hd] at h1
  rw [List.drop_eq_getElem_cons htl, List.map_cons]
  refine Ev.step (Ev.bind (f := fun k t103 => ((spec_skTilt.f k w h cs t103).bind fun bt104 => (spec_skRun.l0 k s ((t + 1 : Nat) : Int) bt104.1 bt104.2.1 bt104.2.2.1))) h1 (Ev.bind (f := fun k (bt104 : Int × Int × List Int × List Int) => (spec_skRun.l0 k s ((t + 1 : Nat) : Int) bt104.1 bt104.2.1 bt104.2.2.1)) hT.spec ih)) fun k => ?_
  rw [spec_skRun.l0, if_pos (by omega), if_pos (by omega), hwt, if_pos (by omega), if_pos (by omega)]
theorem skRun_ev {s : ByteArray} (hb : wordB s = true) {cs : List Int} (hn : cs.length = w * h) : Ev (fun k => spec_skRun.f k w h cs s) (w, h, runR w h (s.data.toList.map dirN) cs) := by
 have h1 := skRun_l0 hw hh hs hz s (wordB_parts hb) s.size 0 cs (by omega) hn
 rw [List.drop_zero] at h1
 exact h1
theorem stuckAll_l0 (s : ByteArray) (hb : s.size ≤ 40 ∧ ∀ (t : Nat) (ht : t < s.data.toList.length), isD s.data.toList[t] = true) : ∀ (m t : Nat) (cs : List Int), t + m = s.size → cs.length = w * h → Ev (fun k => impl_tray_stuckAll.l0 k (bytesOf s) (bytesOf s).length t w h cs) (w, h, runR w h ((s.data.toList.drop t).map dirN) cs)
 | 0, t, cs, ht, hn => by
  have hl := data_length s
  have hbl := bytesOf_length s
  rw [List.drop_eq_nil_of_le (by omega)]
  refine Ev.step (Ev.const (o := some ((w : Int), (h : Int), cs)) rfl) fun k => ?_
  rw [impl_tray_stuckAll.l0, if_neg (by omega)]
 | m + 1, t, cs, ht, hn => by
  have hl := data_length s
  have hbl := bytesOf_length s
  have htl : t < s.data.toList.length := by omega
  have hwt : wrap64 ((t : Int) + 1) = ((t + 1 : Nat) : Int) := by have := hb.1; rw [w64 (by omega) (by omega)]; omega
  have hd := hb.2 t htl
  have hT := skR_ok hw hh hs hz hn (dirN_lt s.data.toList[t])
  have ih := stuckAll_l0 s hb m (t + 1) (skR w h cs (dirN s.data.toList[t])).1 (by omega) hT.len
  rw [List.drop_eq_getElem_cons htl, List.map_cons]
  refine Ev.step (Ev.bind (f := fun k (bt107 : Int × Int × List Int × List Int) => (impl_tray_stuckAll.l0 k (bytesOf s) (bytesOf s).length ((t + 1 : Nat) : Int) bt107.1 bt107.2.1 bt107.2.2.1)) hT.impl ih) fun k => ?_
  rw [impl_tray_stuckAll.l0, if_pos (by omega), if_pos (by omega), if_pos (by omega), hwt, bytes_rd s t htl, ← (dirN_C hd).2]
  rfl
theorem stuckAll_ev {s : ByteArray} (hb : wordB s = true) {cs : List Int} (hn : cs.length = w * h) : Ev (fun k => impl_tray_stuckAll.f k w h cs s) (w, h, runR w h (s.data.toList.map dirN) cs) := by
 have h1 := stuckAll_l0 hw hh hs hz s (wordB_parts hb) s.size 0 cs (by omega) hn
 rw [List.drop_zero] at h1
 refine Ev.congr h1 fun k => ?_
 unfold impl_tray_stuckAll.f convB.f
 rw [if_pos (by have := (wordB_parts hb).1; omega), Option.bind_some]
 rfl
end
end Go.Proofs.YtgipkpiddjjhcaaDoor.Q
end
section
namespace Go.Proofs.YtgipkpiddjjhcaaDoor.Q
open Go.RowKit Go.Proofs.YtgipkpiddjjhcaaDoorW.PrintWords Go.Proofs.YtgipkpiddjjhcaaDoorW.PrintLast Go.Proofs.YtgipkpiddjjhcaaDoorW.PrintMore
attribute [local go_sem] max2_int min2_int max_two min_two max_three min_three max_four min_four
set_option linter.unusedVariables false
set_option linter.unusedSimpArgs false
def spec_tyText.l0 : Nat → ByteArray → Int → Int → Int → List Int → Option (ByteArray)
 | 0, _, _, _, _, _ => none
 | k + 1, x3, x4, x102000, x102001, x102002 => if x4 < x102001 then (if x4 > 0 then (if x3.size + 1 ≤ 9223372036854775807 then (if 0 ≤ (wrap64 (x4 * x102000)) then (if (wrap64 (x4 * x102000)) ≤ (wrap64 ((wrap64 (x4 + 1)) * x102000)) then (if (wrap64 ((wrap64 (x4 + 1)) * x102000)) ≤ (x102002.length : Int) then (if (x3 ++ (⟨#[47]⟩ : ByteArray)).size + (strOfNums ((x102002.take ((wrap64 ((wrap64 (x4 + 1)) * x102000)) : Int).toNat).drop ((wrap64 (x4 * x102000)) : Int).toNat)).size ≤ 9223372036854775807 then (spec_tyText.l0 k ((x3 ++ (⟨#[47]⟩ : ByteArray)) ++ (strOfNums ((x102002.take ((wrap64 ((wrap64 (x4 + 1)) * x102000)) : Int).toNat).drop ((wrap64 (x4 * x102000)) : Int).toNat))) (wrap64 (x4 + 1)) x102000 x102001 x102002) else (none)) else (none)) else (none)) else (none)) else (none)) else (if 0 ≤ (wrap64 (x4 * x102000)) then (if (wrap64 (x4 * x102000)) ≤ (wrap64 ((wrap64 (x4 + 1)) * x102000)) then (if (wrap64 ((wrap64 (x4 + 1)) * x102000)) ≤ (x102002.length : Int) then (if x3.size + (strOfNums ((x102002.take ((wrap64 ((wrap64 (x4 + 1)) * x102000)) : Int).toNat).drop ((wrap64 (x4 * x102000)) : Int).toNat)).size ≤ 9223372036854775807 then (spec_tyText.l0 k (x3 ++ (strOfNums ((x102002.take ((wrap64 ((wrap64 (x4 + 1)) * x102000)) : Int).toNat).drop ((wrap64 (x4 * x102000)) : Int).toNat))) (wrap64 (x4 + 1)) x102000 x102001 x102002) else (none)) else (none)) else (none)) else (none))) else (some x3)
def spec_tyText.f (k : Nat) (a0_0 : Int) (a0_1 : Int) (l0_2 : List Int) : Option (ByteArray) := spec_tyText.l0 k (⟨#[]⟩ : ByteArray) 0 a0_0 a0_1 l0_2
set_option maxHeartbeats 8000000 in
set_option maxRecDepth 100000 in
theorem spec_tyText.calls (k : Nat) (a0_0 : Int) (a0_1 : Int) (A0_2 : Option Addr) (c0_2 : Nat) (l0_2 : List Int) (r : ByteArray) (w : World) (hr0_2 : Kd.C (Kd.int .u8) w A0_2 l0_2.length l0_2) (hc0_2 : l0_2.length ≤ c0_2) (h : spec_tyText.f k a0_0 a0_1 l0_2 = some r) :
  Calls Tryd.prog 30 #[.agg #[.int .i64 a0_0, .int .i64 a0_1, .slice A0_2 l0_2.length c0_2]] w fun e w' => e = .returned (.string r) ∧ Below w.heap.size w w' := by
 have hu36 := Tryd.underlying36
 have HR0_2 := Aside0.mk hr0_2
 have HC0_2 := Aside0.mk hc0_2
 clear hr0_2 hc0_2
 have HB := Aside0.mk (Below.refl w.heap.size w)
 have H : (spec_tyText.l0 k (⟨#[]⟩ : ByteArray) 0 a0_0 a0_1 l0_2) = some r := h
 clear h
 have H' := Aside0.mk H
 clear H
 go_enter Tryd.func30, Tryd.ntmps30
 go_wp2_with (first | ((with_reducible refine gate_dst (N := 1) rfl ?_); refine boxE (N := 1) (cs := #[.int .i64 a0_0, .int .i64 a0_1, .slice A0_2 l0_2.length c0_2]) (t := 36) ?_; intro gb101 hg w2 hbox hb; have n0_ := Aside0.mk (below_step (bel HB) hb); have n1_ := Aside0.mk (hbox); have n2_ := Aside0.mk (gsz hg (bel HB)); have n3_ := Aside0.mk (gsz hg (bel HB)); clear HB; have HB := n0_; have BK101 := n1_; have GW101 := n2_; have GE101 := n3_; clear n0_ n1_ n2_ n3_; clear hb hbox hg))
 go_loopg [3, 4] k (fun kq v3 v4 w' => ∃ (x3_1 : ByteArray) (x4_1 : Int), v3 = .string x3_1 ∧ v4 = .int .i64 x4_1 ∧ Aside0 (spec_tyText.l0 kq x3_1 x4_1 a0_0 a0_1 l0_2 = some r) ∧ Aside0 (kq ≤ k) ∧ Aside0 (w'.heap[gb101]? = some (.cells #[.int .i64 a0_0, .int .i64 a0_1, (.slice A0_2 l0_2.length c0_2)] 36 (0, 0))) ∧ Aside0 (Below w.heap.size w w'))
 case atStart => exact ⟨((⟨#[]⟩ : ByteArray)), (0), (by first | rfl | (simp; done) | (simp [*]; done)), (by first | rfl | (simp; done) | (simp [*]; done)), H', ⟨Nat.le_refl _⟩, ⟨blc⟩, ⟨bel HB⟩⟩
 case round =>
  clear H'
  try clear p2
  obtain ⟨x3_1, x4_1, rfl, rfl, HA, HK1, BK101, HB⟩ := hrel
  cases gk with
  | zero => exact absurd HA.out (by simp [spec_tyText.l0])
  | succ k1 =>
   have H := HA.out
   clear HA
   simp only [spec_tyText.l0] at H
   by_cases c3 : x4_1 < a0_1
   ·rw [if_pos c3] at H
    have c3b0 : decide (x4_1 < a0_1) = true := decide_eq_true c3
    clear c3
    by_cases c4 : x4_1 > 0
    ·rw [if_pos c4] at H
     have c4b0 : decide (0 < x4_1) = true := decide_eq_true c4
     clear c4
     by_cases c5 : x3_1.size + 1 ≤ 9223372036854775807
     ·rw [if_pos c5] at H
      have c5b0 := eq_true c5
      have c5b1 : decide (x3_1.size + 1 ≤ 9223372036854775807) = true := decide_eq_true c5
      try have c5b2 : (9223372036854775807 < x3_1.size + 1) = False := eq_false (Nat.not_lt.2 c5)
      obtain ⟨ji6, hji6⟩ : ∃ j_ : Int, (wrap64 (x4_1 * a0_0)) = j_ := ⟨_, rfl⟩
      replace H : (if 0 ≤ (ji6) then (if (ji6) ≤ (wrap64 ((wrap64 (x4_1 + 1)) * a0_0)) then (if (wrap64 ((wrap64 (x4_1 + 1)) * a0_0)) ≤ (l0_2.length : Int) then (if (x3_1 ++ (⟨#[47]⟩ : ByteArray)).size + (strOfNums ((l0_2.take ((wrap64 ((wrap64 (x4_1 + 1)) * a0_0)) : Int).toNat).drop ((ji6) : Int).toNat)).size ≤ 9223372036854775807 then (spec_tyText.l0 k1 ((x3_1 ++ (⟨#[47]⟩ : ByteArray)) ++ (strOfNums ((l0_2.take ((wrap64 ((wrap64 (x4_1 + 1)) * a0_0)) : Int).toNat).drop ((ji6) : Int).toNat))) (wrap64 (x4_1 + 1)) a0_0 a0_1 l0_2) else (none)) else (none)) else (none)) else (none)) = some r := by first | (rw [hji6] at H; exact H) | (simp only [hji6] at H ⊢; exact H)
      have hji6w : (IntKind.i64.wrap (x4_1 * a0_0)) = ji6 := (i64_w _).trans hji6
      by_cases c7 : 0 ≤ (ji6)
      ·rw [if_pos c7] at H
       have c7b0 := eq_true c7
       have c7b1 : decide (0 ≤ (ji6)) = true := decide_eq_true c7
       clear c7
       by_cases c8 : (ji6) ≤ (wrap64 ((wrap64 (x4_1 + 1)) * a0_0))
       ·rw [if_pos c8] at H
        have c8b0 := eq_true c8
        have c8b1 : decide ((ji6) ≤ (wrap64 ((wrap64 (x4_1 + 1)) * a0_0))) = true := decide_eq_true c8
        by_cases c9 : (wrap64 ((wrap64 (x4_1 + 1)) * a0_0)) ≤ (l0_2.length : Int)
        ·rw [if_pos c9] at H
         have c9b0 := eq_true c9
         have c9b1 : decide ((wrap64 ((wrap64 (x4_1 + 1)) * a0_0)) ≤ (l0_2.length : Int)) = true := decide_eq_true c9
         by_cases c10 : (x3_1 ++ (⟨#[47]⟩ : ByteArray)).size + (strOfNums ((l0_2.take ((wrap64 ((wrap64 (x4_1 + 1)) * a0_0)) : Int).toNat).drop ((ji6) : Int).toNat)).size ≤ 9223372036854775807
         ·rw [if_pos c10] at H
          have c10b0 := eq_true c10
          have c10b1 : decide ((x3_1 ++ (⟨#[47]⟩ : ByteArray)).size + (strOfNums ((l0_2.take ((wrap64 ((wrap64 (x4_1 + 1)) * a0_0)) : Int).toNat).drop ((ji6) : Int).toNat)).size ≤ 9223372036854775807) = true := decide_eq_true c10
          try have c10b2 : (9223372036854775807 < (x3_1 ++ (⟨#[47]⟩ : ByteArray)).size + (strOfNums ((l0_2.take ((wrap64 ((wrap64 (x4_1 + 1)) * a0_0)) : Int).toNat).drop ((ji6) : Int).toNat)).size) = False := eq_false (Nat.not_lt.2 c10)
          have H' := Aside0.mk H
          clear H
          have hcz11_0 : wr.cell? ⟨gb101, 0, none⟩ = some (.int .i64 a0_0) := (blk_cell BK101.out 0).trans rfl
          have hcz11_1 : wr.cell? ⟨gb101, 1, none⟩ = some (.int .i64 a0_1) := (blk_cell BK101.out 1).trans rfl
          have hcz11_2 : wr.cell? ⟨gb101, 2, none⟩ = some (.slice A0_2 l0_2.length c0_2) := (blk_cell BK101.out 2).trans rfl
          have hfz11_0 := blk_frozen BK101.out 0
          have hfz11_1 := blk_frozen BK101.out 1
          have hfz11_2 := blk_frozen BK101.out 2
          obtain ⟨i012, hi012, _, hsz12, _⟩ := info_parts info5
          obtain ⟨A12, hcut12, hA12, hC12⟩ := print_mid_of (P := Tryd.prog) (Value.int .u8) 0 34 5 .i64 .i64 Tryd.underlying34 hi012 hsz12 A0_2 c0_2 l0_2 (ji6) (wrap64 ((wrap64 (x4_1 + 1)) * a0_0)) (of_decide_eq_true (by first | (with_reducible assumption) | assumption)) (by first | omega | exact of_decide_eq_true (by first | (with_reducible assumption) | assumption)) (of_decide_eq_true (by first | (with_reducible assumption) | assumption)) HC0_2.out
          have HR102 := Aside0.mk (Kd.C_of_reads (h1 := fun _ => rfl) (hA12 _ (Kd.reads_of_C HR0_2.out)))
          have HC102 := Aside0.mk hC12
          clear hA12 hC12 hi012 hsz12
          have hcv13 := Kd.C_string (P := Tryd.prog) (A := A12) (c := (c0_2 - (ji6).toNat)) Tryd.underlying34 Tryd.underlying5 Tryd.underlying9 (Kd.C_below HR102.out HB.out)
          try (rw [cut_len] at hcv13; rotate_left; exact Int.toNat_le.2 (of_decide_eq_true (by first | (with_reducible assumption) | assumption)))
          go_wp2
          go_roundg k1
          case measure => have := HK1.out; omega
          case rel => exact ⟨((x3_1 ++ (⟨#[47]⟩ : ByteArray)) ++ (strOfNums ((l0_2.take ((wrap64 ((wrap64 (x4_1 + 1)) * a0_0)) : Int).toNat).drop ((ji6) : Int).toNat))), (wrap64 (x4_1 + 1)), (by first | rfl | (simp; done) | (simp only [← hji6] <;> (first | rfl | simp)) | (simp [*]; done)), (by first | rfl | (simp; done) | (simp [*]; done)), H', ⟨by have := HK1.out; omega⟩, ⟨blc⟩, ⟨bel HB⟩⟩
         ·rw [if_neg c10] at H
          exact absurd H (by simp)
        ·rw [if_neg c9] at H
         exact absurd H (by simp)
       ·rw [if_neg c8] at H
        exact absurd H (by simp)
      ·rw [if_neg c7] at H
       exact absurd H (by simp)
     ·rw [if_neg c5] at H
      exact absurd H (by simp)
    ·rw [if_neg c4] at H
     have c4b0 : decide (0 < x4_1) = false := decide_eq_false c4
     clear c4
     obtain ⟨ji14, hji14⟩ : ∃ j_ : Int, (wrap64 (x4_1 * a0_0)) = j_ := ⟨_, rfl⟩
     replace H : (if 0 ≤ (ji14) then (if (ji14) ≤ (wrap64 ((wrap64 (x4_1 + 1)) * a0_0)) then (if (wrap64 ((wrap64 (x4_1 + 1)) * a0_0)) ≤ (l0_2.length : Int) then (if x3_1.size + (strOfNums ((l0_2.take ((wrap64 ((wrap64 (x4_1 + 1)) * a0_0)) : Int).toNat).drop ((ji14) : Int).toNat)).size ≤ 9223372036854775807 then (spec_tyText.l0 k1 (x3_1 ++ (strOfNums ((l0_2.take ((wrap64 ((wrap64 (x4_1 + 1)) * a0_0)) : Int).toNat).drop ((ji14) : Int).toNat))) (wrap64 (x4_1 + 1)) a0_0 a0_1 l0_2) else (none)) else (none)) else (none)) else (none)) = some r := by first | (rw [hji14] at H; exact H) | (simp only [hji14] at H ⊢; exact H)
     have hji14w : (IntKind.i64.wrap (x4_1 * a0_0)) = ji14 := (i64_w _).trans hji14
     by_cases c15 : 0 ≤ (ji14)
     ·rw [if_pos c15] at H
      have c15b0 := eq_true c15
      have c15b1 : decide (0 ≤ (ji14)) = true := decide_eq_true c15
      clear c15
      by_cases c16 : (ji14) ≤ (wrap64 ((wrap64 (x4_1 + 1)) * a0_0))
      ·rw [if_pos c16] at H
       have c16b0 := eq_true c16
       have c16b1 : decide ((ji14) ≤ (wrap64 ((wrap64 (x4_1 + 1)) * a0_0))) = true := decide_eq_true c16
       by_cases c17 : (wrap64 ((wrap64 (x4_1 + 1)) * a0_0)) ≤ (l0_2.length : Int)
       ·rw [if_pos c17] at H
        have c17b0 := eq_true c17
        have c17b1 : decide ((wrap64 ((wrap64 (x4_1 + 1)) * a0_0)) ≤ (l0_2.length : Int)) = true := decide_eq_true c17
        by_cases c18 : x3_1.size + (strOfNums ((l0_2.take ((wrap64 ((wrap64 (x4_1 + 1)) * a0_0)) : Int).toNat).drop ((ji14) : Int).toNat)).size ≤ 9223372036854775807
        ·rw [if_pos c18] at H
         have c18b0 := eq_true c18
         have c18b1 : decide (x3_1.size + (strOfNums ((l0_2.take ((wrap64 ((wrap64 (x4_1 + 1)) * a0_0)) : Int).toNat).drop ((ji14) : Int).toNat)).size ≤ 9223372036854775807) = true := decide_eq_true c18
         try have c18b2 : (9223372036854775807 < x3_1.size + (strOfNums ((l0_2.take ((wrap64 ((wrap64 (x4_1 + 1)) * a0_0)) : Int).toNat).drop ((ji14) : Int).toNat)).size) = False := eq_false (Nat.not_lt.2 c18)
         have H' := Aside0.mk H
         clear H
         have hcz19_0 : wr.cell? ⟨gb101, 0, none⟩ = some (.int .i64 a0_0) := (blk_cell BK101.out 0).trans rfl
         have hcz19_1 : wr.cell? ⟨gb101, 1, none⟩ = some (.int .i64 a0_1) := (blk_cell BK101.out 1).trans rfl
         have hcz19_2 : wr.cell? ⟨gb101, 2, none⟩ = some (.slice A0_2 l0_2.length c0_2) := (blk_cell BK101.out 2).trans rfl
         have hfz19_0 := blk_frozen BK101.out 0
         have hfz19_1 := blk_frozen BK101.out 1
         have hfz19_2 := blk_frozen BK101.out 2
         obtain ⟨i020, hi020, _, hsz20, _⟩ := info_parts info5
         obtain ⟨A20, hcut20, hA20, hC20⟩ := print_mid_of (P := Tryd.prog) (Value.int .u8) 0 34 5 .i64 .i64 Tryd.underlying34 hi020 hsz20 A0_2 c0_2 l0_2 (ji14) (wrap64 ((wrap64 (x4_1 + 1)) * a0_0)) (of_decide_eq_true (by first | (with_reducible assumption) | assumption)) (by first | omega | exact of_decide_eq_true (by first | (with_reducible assumption) | assumption)) (of_decide_eq_true (by first | (with_reducible assumption) | assumption)) HC0_2.out
         have HR103 := Aside0.mk (Kd.C_of_reads (h1 := fun _ => rfl) (hA20 _ (Kd.reads_of_C HR0_2.out)))
         have HC103 := Aside0.mk hC20
         clear hA20 hC20 hi020 hsz20
         have hcv21 := Kd.C_string (P := Tryd.prog) (A := A20) (c := (c0_2 - (ji14).toNat)) Tryd.underlying34 Tryd.underlying5 Tryd.underlying9 (Kd.C_below HR103.out HB.out)
         try (rw [cut_len] at hcv21; rotate_left; exact Int.toNat_le.2 (of_decide_eq_true (by first | (with_reducible assumption) | assumption)))
         go_wp2
         go_roundg k1
         case measure => have := HK1.out; omega
         case rel => exact ⟨(x3_1 ++ (strOfNums ((l0_2.take ((wrap64 ((wrap64 (x4_1 + 1)) * a0_0)) : Int).toNat).drop ((ji14) : Int).toNat))), (wrap64 (x4_1 + 1)), (by first | rfl | (simp; done) | (simp only [← hji14] <;> (first | rfl | simp)) | (simp [*]; done)), (by first | rfl | (simp; done) | (simp [*]; done)), H', ⟨by have := HK1.out; omega⟩, ⟨blc⟩, ⟨bel HB⟩⟩
        ·rw [if_neg c18] at H
         exact absurd H (by simp)
       ·rw [if_neg c17] at H
        exact absurd H (by simp)
      ·rw [if_neg c16] at H
       exact absurd H (by simp)
     ·rw [if_neg c15] at H
      exact absurd H (by simp)
   ·rw [if_neg c3] at H
    have c3b0 : decide (x4_1 < a0_1) = false := decide_eq_false c3
    clear c3
    obtain rfl := Option.some.inj H
    have hcz22_0 : wr.cell? ⟨gb101, 0, none⟩ = some (.int .i64 a0_0) := (blk_cell BK101.out 0).trans rfl
    have hcz22_1 : wr.cell? ⟨gb101, 1, none⟩ = some (.int .i64 a0_1) := (blk_cell BK101.out 1).trans rfl
    have hcz22_2 : wr.cell? ⟨gb101, 2, none⟩ = some (.slice A0_2 l0_2.length c0_2) := (blk_cell BK101.out 2).trans rfl
    have hfz22_0 := blk_frozen BK101.out 0
    have hfz22_1 := blk_frozen BK101.out 1
    have hfz22_2 := blk_frozen BK101.out 2
    go_wp2
    go_ret
    exact ⟨by first | rfl | (simp [errW_none, errW_some] <;> rfl) | (simp [*, errW_none, errW_some] <;> rfl), bel HB⟩
end Go.Proofs.YtgipkpiddjjhcaaDoor.Q
end
section
namespace Go.Proofs.YtgipkpiddjjhcaaDoor.Q
set_option linter.unusedSectionVars false
open Go.RowKit Go.Proofs.YtgipkpiddjjhcaaDoorW.PrintWords Go.Proofs.YtgipkpiddjjhcaaDoorW.PrintLast Go.Proofs.YtgipkpiddjjhcaaDoorW.PrintMore
theorem le_big {n : Nat} (h : n ≤ 200) : n ≤ 9223372036854775807 := Nat.le_trans h (by decide)
theorem w64n (n : Nat) (h : n ≤ 1000000) : wrap64 (n : Int) = (n : Int) := w64 (by omega) (by omega)
theorem w64s (n : Nat) (h : n ≤ 1000000) : wrap64 ((n : Int) + 1) = ((n + 1 : Nat) : Int) := by rw [w64 (by omega) (by omega)]; omega
def jn : List (List UInt8) → List UInt8
 | [] => []
 | [r] => r
 | r :: s :: rs => r ++ 47 :: jn (s :: rs)
theorem jn_join : ∀ xs : List (List UInt8), Lib.join xs [47] = jn xs
 | [] => rfl
 | [r] => by simp [Lib.join, List.intercalate, jn]
 | r :: s :: rs => by
  have ih := jn_join (s :: rs)
  unfold Lib.join at ih ⊢
  simp only [List.intercalate, List.intersperse, List.flatten_cons, jn] at ih ⊢
  rw [← ih]
  simp
theorem jn_snoc : ∀ (xs : List (List UInt8)) (x : List UInt8), jn (xs ++ [x]) = if xs = [] then x else jn xs ++ 47 :: x
 | [], x => rfl
 | [r], x => by simp [jn]
 | r :: s :: rs, x => by
  have ih := jn_snoc (s :: rs) x
  rw [if_neg (by simp)] at ih ⊢
  show r ++ 47 :: jn ((s :: rs) ++ [x]) = _
  rw [ih]
  simp [jn]
def rowL (l : List Int) (c k : Nat) : List UInt8 := ((l.drop (k * c)).take c).map fun n => UInt8.ofNat n.toNat
def txL (l : List Int) (c n : Nat) : List UInt8 := jn ((List.range n).map (rowL l c))
def tx (l : List Int) (c n : Nat) : ByteArray := ⟨(txL l c n).toArray⟩
theorem tx_list (l : List Int) (c n : Nat) : (tx l c n).data.toList = txL l c n := rfl
theorem txL_succ (l : List Int) (c n : Nat) : txL l c (n + 1) = if n = 0 then rowL l c 0 else txL l c n ++ 47 :: rowL l c n := by
 unfold txL
 rw [List.range_succ, List.map_append, List.map_singleton, jn_snoc]
 by_cases h : n = 0
 ·subst h
  simp
 ·rw [if_neg h, if_neg (by simpa using h)]
theorem rowL_len (l : List Int) (c k : Nat) : (rowL l c k).length ≤ c := by
 unfold rowL
 rw [List.length_map, List.length_take]
 omega
theorem txL_len (l : List Int) (c : Nat) : ∀ n, (txL l c n).length ≤ n * (c + 1)
 | 0 => by simp [txL, jn]
 | n + 1 => by
  have ih := txL_len l c n
  have h1 := rowL_len l c n
  have h2 := rowL_len l c 0
  rw [txL_succ, Nat.succ_mul]
  split
  ·omega
  ·rw [List.length_append, List.length_cons]
   omega
theorem ba_ext {a b : ByteArray} (h : a.data.toList = b.data.toList) : a = b := by
 obtain ⟨⟨a⟩⟩ := a
 obtain ⟨⟨b⟩⟩ := b
 simp at h
 rw [h]
theorem text_val (w h : Nat) (l : List Int) (hw : 1 ≤ w) (hh : 1 ≤ h) (hs : w * h ≤ 36) (hn : l.length = w * h) : impl_tray_text.f w h l = some (tx l w h) := by
 have hd : l.length / w = h := by rw [hn, Nat.mul_div_cancel_left h (by omega)]
 unfold impl_tray_text.f
 have h1 : 1 ≤ w * h := Nat.mul_pos hw hh
 rw [Int.toNat_natCast, hd, if_pos ⟨by omega, by omega, by omega, by rw [hn, Nat.mul_comm]⟩]
 have h2 : ((List.range h).map (rowS l w)).map (·.data.toList) = (List.range h).map (rowL l w) := by
  rw [List.map_map]
  rfl
 have h4 : h ≤ w * h := Nat.le_mul_of_pos_left h hw
 have h5 := txL_len l w h
 have h6 : h * (w + 1) ≤ 72 := by rw [Nat.mul_add, Nat.mul_one, Nat.mul_comm]; omega
 have h7 : Lib.join (((List.range h).map (rowS l w)).map (·.data.toList)) (⟨#[47]⟩ : ByteArray).data.toList = txL l w h := by
  rw [h2]
  exact jn_join _
 unfold strings_Join.f
 rw [h7, List.length_map, List.length_range, if_pos ⟨by omega, by omega⟩]
 rfl
section
variable {w h : Nat} {cs : List Int} (hw1 : 1 ≤ w) (hh1 : 1 ≤ h) (hs : w * h ≤ 36) (hn : cs.length = w * h)
include hw1 hh1 hs hn
theorem ty_text_l0 : ∀ (m t : Nat), t + m = h → Ev (fun k => spec_tyText.l0 k (tx cs w t) t w h cs) (tx cs w h)
 | 0, t, ht => by
  obtain rfl : t = h := by omega
  refine Ev.step (Ev.const (o := some (tx cs w t)) rfl) fun k => ?_
  rw [spec_tyText.l0, if_neg (by omega)]
 | m + 1, t, ht => by
  have ih := ty_text_l0 m (t + 1) (by omega)
  have hth : t < h := by omega
  have h4 : h ≤ w * h := Nat.le_mul_of_pos_left h hw1
  have hle : (t + 1) * w ≤ w * h := by rw [Nat.mul_comm w h]; exact Nat.mul_le_mul_right w hth
  have ht1 : t * w + w = (t + 1) * w := (Nat.succ_mul t w).symm
  have hB : (t + 1) * w ≤ 36 := Nat.le_trans hle hs
  have hA : t * w ≤ 36 := Nat.le_trans (Nat.mul_le_mul_right w (Nat.le_succ t)) hB
  have hcut : strOfNums ((cs.take (((((t + 1) * w : Nat) : Int)).toNat)).drop ((((t * w : Nat) : Int)).toNat)) = strOfNums ((cs.drop (t * w)).take w) := by
   rw [Int.toNat_natCast, Int.toNat_natCast, List.drop_take, show (t + 1) * w - t * w = w from by rw [← ht1]; exact Nat.add_sub_cancel_left _ _]
  have h6 : t * (w + 1) ≤ 72 := by
   have a1 : t * (w + 1) ≤ h * (w + 1) := Nat.mul_le_mul_right _ (by omega)
   have a2 : h * (w + 1) ≤ 72 := by rw [Nat.mul_add, Nat.mul_one, Nat.mul_comm]; omega
   exact Nat.le_trans a1 a2
  have hsz : (tx cs w t).size ≤ 72 := by
   show (txL cs w t).toArray.size ≤ 72
   rw [List.size_toArray]
   exact Nat.le_trans (txL_len cs w t) h6
  have hrs : (strOfNums ((cs.drop (t * w)).take w)).size ≤ 36 := by
   rw [strOfNums_size, List.length_take]
   exact Nat.le_trans (Nat.min_le_left _ _) (Nat.le_trans (Nat.le_mul_of_pos_right w hh1) hs)
  have hs1 : (tx cs w t ++ (⟨#[47]⟩ : ByteArray)).size ≤ 73 := by
   rw [ByteArray.size_append]
   exact Nat.add_le_add hsz (Nat.le_refl 1)
  have e0 : (0 : Int) ≤ ((t * w : Nat) : Int) := Int.natCast_nonneg _
  have e1 : ((t * w : Nat) : Int) ≤ (((t + 1) * w : Nat) : Int) := Int.ofNat_le.2 (Nat.mul_le_mul_right w (Nat.le_succ t))
  have e2 : (((t + 1) * w : Nat) : Int) ≤ (cs.length : Int) := Int.ofNat_le.2 (by rw [hn]; exact hle)
  have b1 : (tx cs w t).size + (strOfNums ((cs.drop (t * w)).take w)).size ≤ 9223372036854775807 := le_big (Nat.le_trans (Nat.add_le_add hsz hrs) (by decide))
  have b2 : (tx cs w t).size + 1 ≤ 9223372036854775807 := le_big (Nat.le_trans (Nat.add_le_add hsz (Nat.le_refl 1)) (by decide))
  have b3 : (tx cs w t ++ (⟨#[47]⟩ : ByteArray)).size + (strOfNums ((cs.drop (t * w)).take w)).size ≤ 9223372036854775807 := le_big (Nat.le_trans (Nat.add_le_add hs1 hrs) (by decide))
  have c1 : (t : Int) < (h : Int) := Int.ofNat_lt.2 hth
  have hwt := w64s t (Nat.le_trans (Nat.le_of_lt hth) (Nat.le_trans h4 (Nat.le_trans hs (by decide))))
  have m0 : wrap64 ((t : Int) * (w : Int)) = ((t * w : Nat) : Int) := by
   rw [← Int.natCast_mul]
   exact w64n _ (Nat.le_trans hA (by decide))
  have m1 : wrap64 (((t + 1 : Nat) : Int) * (w : Int)) = (((t + 1) * w : Nat) : Int) := by
   rw [← Int.natCast_mul]
   exact w64n _ (Nat.le_trans hB (by decide))
  refine Ev.step ih fun k => ?_
  rw [spec_tyText.l0, if_pos c1]
  by_cases h0 : t = 0
  ·have c2 : ¬ (t : Int) > 0 := by
    rw [h0]
    decide
   have hx : (tx cs w t) ++ strOfNums ((cs.drop (t * w)).take w) = tx cs w (t + 1) := by
    apply ba_ext
    rw [tx_list, txL_succ, if_pos h0, ByteArray.data_append, Array.toList_append, tx_list, h0]
    rfl
   rw [if_neg c2, hwt, m0, m1, if_pos e0, if_pos e1, if_pos e2, hcut, if_pos b1, hx]
  ·have c2 : (t : Int) > 0 := Int.natCast_pos.2 (Nat.pos_of_ne_zero h0)
   have hx : (tx cs w t ++ (⟨#[47]⟩ : ByteArray)) ++ strOfNums ((cs.drop (t * w)).take w) = tx cs w (t + 1) := by
    apply ba_ext
    rw [tx_list, txL_succ, if_neg h0, ByteArray.data_append, Array.toList_append, ByteArray.data_append, Array.toList_append, tx_list, List.append_assoc]
    rfl
   rw [if_pos c2, if_pos b2, hwt, m0, m1, if_pos e0, if_pos e1, if_pos e2, hcut, if_pos b3, hx]
theorem tyText_ev : Ev (fun k => spec_tyText.f k w h cs) (tx cs w h) := ty_text_l0 hw1 hh1 hs hn h 0 (by omega)
end
end Go.Proofs.YtgipkpiddjjhcaaDoor.Q
end
section
namespace Go.Proofs.YtgipkpiddjjhcaaDoor.Q
open Go.RowKit Go.Proofs.YtgipkpiddjjhcaaDoorW.PrintWords Go.Proofs.YtgipkpiddjjhcaaDoorW.PrintLast Go.Proofs.YtgipkpiddjjhcaaDoorW.PrintMore
attribute [local go_sem] max2_int min2_int max_two min_two max_three min_three max_four min_four
set_option linter.unusedVariables false
set_option linter.unusedSimpArgs false
def spec_StickWord.j0 : Nat → ByteArray → Bool → Int → Int → List Int → Option (ByteArray × Bool)
 | 0, _, _, _, _, _ => none
 | k + 1, x1, x19, x108000, x108001, x108002 => if x19 = true then (some ((⟨#[]⟩ : ByteArray), false)) else ((spec_skRun.f k x108000 x108001 x108002 x1).bind fun bt109 => ((spec_tyText.f k bt109.1 bt109.2.1 bt109.2.2).bind fun t114 => (some (t114, true))))
def spec_StickWord.f (k : Nat) (a0 : ByteArray) (a1 : ByteArray) : Option (ByteArray × Bool) := (spec_tyRead.f k a0).bind fun bt101 => (if bt101.2.2.2 = true then ((spec_tiWord.f k a1).bind fun t108 => (spec_StickWord.j0 k a1 (!t108) bt101.1 bt101.2.1 bt101.2.2.1)) else (spec_StickWord.j0 k a1 true bt101.1 bt101.2.1 bt101.2.2.1))
set_option maxHeartbeats 8000000 in
set_option maxRecDepth 100000 in
theorem spec_StickWord.calls (k : Nat) (a0 : ByteArray) (a1 : ByteArray) (r1 : ByteArray) (r2 : Bool) (w : World) (h : spec_StickWord.f k a0 a1 = some (r1, r2)) :
  Calls Tryd.prog 23 #[.string a0, .string a1] w fun e w' => e = .returned (.tuple #[.string r1, .bool r2]) ∧ Below w.heap.size w w' := by
 have hu36 := Tryd.underlying36
 have HB := Aside0.mk (Below.refl w.heap.size w)
 have H : ((spec_tyRead.f k a0).bind fun bt101 => (if bt101.2.2.2 = true then ((spec_tiWord.f k a1).bind fun t108 => (spec_StickWord.j0 k a1 (!t108) bt101.1 bt101.2.1 bt101.2.2.1)) else (spec_StickWord.j0 k a1 true bt101.1 bt101.2.1 bt101.2.2.1))) = some (r1, r2) := h
 clear h
 replace H := Option.bind_eq_some_iff.mp H
 obtain ⟨⟨t101, t102, t103, t106⟩, A30, H⟩ := H
 replace H : (if t106 = true then ((spec_tiWord.f k a1).bind fun t108 => (spec_StickWord.j0 k a1 (!t108) t101 t102 t103)) else (spec_StickWord.j0 k a1 true t101 t102 t103)) = some (r1, r2) := H
 have A3 := Aside0.mk A30
 clear A30
 have HC4 := Aside0.mk H
 clear H
 go_enter Tryd.func23, Tryd.ntmps23
 go_upto_region 2 with (first | ((with_reducible refine gate_callee (f := 38) rfl ?_); refine gcall (some 10) Tryd.func38 #[.string a0] rfl ?_; (with_reducible refine (spec_tyRead.calls k a0 t101 t102 t103 t106 _ A3.out).mono ?_); rintro e w5 ⟨v104, rfl, ho0, hb⟩; refine ⟨_, rfl, ?_⟩; have n0_ := Aside0.mk (Kd.R_lower ho0 (below_size (bel HB))); have n1_ := Aside0.mk (below_step (bel HB) hb); clear HB; have HO105 := n0_; have HB := n1_; clear n0_ n1_; (try clear hb); (try clear hb2); (try clear hk); (try clear hi); (try clear ho0)) | ((with_reducible refine gate_dst (N := 6) rfl ?_); refine boxE (N := 6) (cs := #[.int .i64 0, .int .i64 0, .slice none 0 0]) (t := 36) ?_; intro gb107 hg w6 hbox hb; have n0_ := Aside0.mk (Kd.R_below (rch HO105) hb); have n1_ := Aside0.mk (below_step (bel HB) hb); have n2_ := Aside0.mk (hbox); have n3_ := Aside0.mk (gsz hg (bel HB)); have n4_ := Aside0.mk (gsz hg (bel HB)); clear HO105; clear HB; have HO105 := n0_; have HB := n1_; have BK107 := n2_; have GW107 := n3_; have GE107 := n4_; clear n0_ n1_ n2_ n3_ n4_; clear hb hbox hg; have hcz7_0 : w6.cell? ⟨gb107, 0, none⟩ = some (.int .i64 0) := (blk_cell BK107.out 0).trans rfl; have hcz7_1 : w6.cell? ⟨gb107, 1, none⟩ = some (.int .i64 0) := (blk_cell BK107.out 1).trans rfl; have hcz7_2 : w6.cell? ⟨gb107, 2, none⟩ = some (.slice none 0 0) := (blk_cell BK107.out 2).trans rfl; have hfz7_0 := blk_frozen BK107.out 0; have hfz7_1 := blk_frozen BK107.out 1; have hfz7_2 := blk_frozen BK107.out 2; obtain ⟨Ao8, co8, eo8⟩ := Kd.R_slice HO105.out; subst eo8))
 (try simp only [Act.put, List.setIfInBounds_toArray, List.set_cons_zero, List.set_cons_succ])
 go_cut [19] (fun v19 wc => ∃ (kq : Nat) (x19_3 : Bool), v19 = .bool x19_3 ∧ Aside0 (spec_StickWord.j0 kq a1 x19_3 t101 t102 t103 = some (r1, r2)) ∧ Aside0 (kq ≤ k) ∧ Aside0 (Kd.R (Kd.int .u8) 5 wc w.heap.size (fun _ => True) (.slice Ao8 t103.length co8) t103) ∧ Aside0 (wc.heap[gb107]? = some (.cells #[.int .i64 t101, .int .i64 t102, (.slice Ao8 t103.length co8)] 36 (0, 0))) ∧ Aside0 (Below w.heap.size w wc))
 case first =>
  have H := HC4.out
  clear HC4
  by_cases c9 : t106 = true
  ·subst c9
   have H1 : ((spec_tiWord.f k a1).bind fun t108 => (spec_StickWord.j0 k a1 (!t108) t101 t102 t103)) = some (r1, r2) := by rw [if_pos rfl] at H; exact H
   clear H
   have H := H1
   clear H1
   replace H := Option.bind_eq_some_iff.mp H
   obtain ⟨t108, A100, H⟩ := H
   replace H : (spec_StickWord.j0 k a1 (!t108) t101 t102 t103) = some (r1, r2) := H
   have A10 := Aside0.mk A100
   clear A100
   have H' := Aside0.mk H
   clear H
   go_wp2_with (first | (go_at_call 42; (with_reducible refine (spec_tiWord.calls k a1 t108 _ A10.out).mono ?_); rintro e w' ⟨rfl, ⟨nd, rfl⟩⟩))
   go_meet
   case rel => exact ⟨_, (!t108), (by first | rfl | (simp; done) | (simp [*]; done)), H', ⟨by first | omega | exact Nat.le_refl _⟩, ⟨by (with_reducible repeat (first | apply Kd.R_alloc | apply Kd.R_drewN | apply Kd.R_drew)); exact Kd.R_mono (Kd.R_far (p := ⟨gb107, 2, none⟩) (Kd.R_far (p := ⟨gb107, 1, none⟩) (Kd.R_far (p := ⟨gb107, 0, none⟩) (Kd.R_types HO105.out BK107.out (by decide)) (fun _ hk => hk.2) (.int .i64 t101)) (fun _ hk => hk.2) (.int .i64 t102)) (fun _ hk => hk.2) (.slice Ao8 t103.length co8)) (fun _ hk => trivial)⟩, ⟨by (with_reducible repeat (first | refine blk_drewN ?_ _ | refine blk_drew ?_ | refine blk_alloc ?_ _)); refine blk_put (cs := #[.int .i64 t101, .int .i64 t102, .slice none 0 0]) ?_ 2 _ rfl; (with_reducible repeat (first | refine blk_drewN ?_ _ | refine blk_drew ?_ | refine blk_alloc ?_ _)); refine blk_put (cs := #[.int .i64 t101, .int .i64 0, .slice none 0 0]) ?_ 1 _ rfl; (with_reducible repeat (first | refine blk_drewN ?_ _ | refine blk_drew ?_ | refine blk_alloc ?_ _)); refine blk_put (cs := #[.int .i64 0, .int .i64 0, .slice none 0 0]) ?_ 0 _ rfl; exact blc⟩, ⟨bel HB⟩⟩
  ·replace c9 := Bool.eq_false_iff.mpr c9
   subst c9
   have H1 : (spec_StickWord.j0 k a1 true t101 t102 t103) = some (r1, r2) := by rw [if_neg (show ¬ (false = true) by decide)] at H; exact H
   clear H
   have H := H1
   clear H1
   have H' := Aside0.mk H
   clear H
   go_wp2
   go_meet
   case rel => exact ⟨_, (true), (by first | rfl | (simp; done) | (simp [*]; done)), H', ⟨by first | omega | exact Nat.le_refl _⟩, ⟨by (with_reducible repeat (first | apply Kd.R_alloc | apply Kd.R_drewN | apply Kd.R_drew)); exact Kd.R_mono (Kd.R_far (p := ⟨gb107, 2, none⟩) (Kd.R_far (p := ⟨gb107, 1, none⟩) (Kd.R_far (p := ⟨gb107, 0, none⟩) (Kd.R_types HO105.out BK107.out (by decide)) (fun _ hk => hk.2) (.int .i64 t101)) (fun _ hk => hk.2) (.int .i64 t102)) (fun _ hk => hk.2) (.slice Ao8 t103.length co8)) (fun _ hk => trivial)⟩, ⟨by (with_reducible repeat (first | refine blk_drewN ?_ _ | refine blk_drew ?_ | refine blk_alloc ?_ _)); refine blk_put (cs := #[.int .i64 t101, .int .i64 t102, .slice none 0 0]) ?_ 2 _ rfl; (with_reducible repeat (first | refine blk_drewN ?_ _ | refine blk_drew ?_ | refine blk_alloc ?_ _)); refine blk_put (cs := #[.int .i64 t101, .int .i64 0, .slice none 0 0]) ?_ 1 _ rfl; (with_reducible repeat (first | refine blk_drewN ?_ _ | refine blk_drew ?_ | refine blk_alloc ?_ _)); refine blk_put (cs := #[.int .i64 0, .int .i64 0, .slice none 0 0]) ?_ 0 _ rfl; exact blc⟩, ⟨bel HB⟩⟩
 case rest =>
  clear HC4
  try clear c2
  try clear p2
  try clear c3
  try clear c9
  try clear hcz7_0
  try clear hcz7_1
  try clear hcz7_2
  try clear hfz7_0
  try clear hfz7_1
  try clear hfz7_2
  obtain ⟨kq, x19_3, rfl, HA, HJ3, HO_108002, BK107, HB⟩ := hcut
  cases kq with
  | zero => exact absurd HA.out (by simp [spec_StickWord.j0])
  | succ kj3 =>
   have H := HA.out
   clear HA
   simp only [spec_StickWord.j0] at H
   by_cases c11 : x19_3 = true
   ·subst c11
    have H1 : (some ((⟨#[]⟩ : ByteArray), false)) = some (r1, r2) := by rw [if_pos rfl] at H; exact H
    clear H
    have H := H1
    clear H1
    simp only [Option.some.injEq, Prod.mk.injEq] at H
    obtain ⟨rfl, rfl⟩ := H
    go_wp2
    go_ret2
    exact ⟨by first | rfl | (simp [errW_none, errW_some] <;> rfl) | (simp [*, errW_none, errW_some] <;> rfl), bel HB⟩
   ·replace c11 := Bool.eq_false_iff.mpr c11
    subst c11
    have H1 : ((spec_skRun.f kj3 t101 t102 t103 a1).bind fun bt109 => ((spec_tyText.f kj3 bt109.1 bt109.2.1 bt109.2.2).bind fun t114 => (some (t114, true)))) = some (r1, r2) := by rw [if_neg (show ¬ (false = true) by decide)] at H; exact H
    clear H
    have H := H1
    clear H1
    replace H := Option.bind_eq_some_iff.mp H
    obtain ⟨⟨t109, t110, t111⟩, A120, H⟩ := H
    replace H : ((spec_tyText.f kj3 t109 t110 t111).bind fun t114 => (some (t114, true))) = some (r1, r2) := H
    have A12 := Aside0.mk A120
    clear A120
    replace H := Option.bind_eq_some_iff.mp H
    obtain ⟨t114, A130, H⟩ := H
    replace H : (some (t114, true)) = some (r1, r2) := H
    have A13 := Aside0.mk A130
    clear A130
    simp only [Option.some.injEq, Prod.mk.injEq] at H
    obtain ⟨rfl, rfl⟩ := H
    have hcz14_0 : wc.cell? ⟨gb107, 0, none⟩ = some (.int .i64 t101) := (blk_cell BK107.out 0).trans rfl
    have hcz14_1 : wc.cell? ⟨gb107, 1, none⟩ = some (.int .i64 t102) := (blk_cell BK107.out 1).trans rfl
    have hcz14_2 : wc.cell? ⟨gb107, 2, none⟩ = some (.slice Ao8 t103.length co8) := (blk_cell BK107.out 2).trans rfl
    have hfz14_0 := blk_frozen BK107.out 0
    have hfz14_1 := blk_frozen BK107.out 1
    have hfz14_2 := blk_frozen BK107.out 2
    go_wp2_with (first | ((with_reducible refine gate_callee (f := 43) rfl ?_); refine gcall (some 22) Tryd.func43 #[.agg #[.int .i64 t101, .int .i64 t102, .slice Ao8 t103.length co8], .string a1] rfl ?_; (with_reducible refine (spec_skRun.calls kj3 t101 t102 (fun k_ => some k_ = (.slice Ao8 t103.length co8 : Value).ownBlock) _ _ t103 a1 t109 t110 t111 _ ?side1 A12.out).mono ?_); (case side1 => exact Kd.R_V (Kd.R_tight rfl (Kd.R_types (HO_108002.out) BK107.out (by decide)))); rintro e w15 ⟨v112, rfl, ho0, hb⟩; refine ⟨_, rfl, ?_⟩; have n0_ := Aside0.mk (Kd.R_below (rch HO_108002) hb); have n1_ := Aside0.mk (Kd.V_lower (Kd.V_mono (ok' := fun k_ => k_ ≠ gb107) ho0 (fun k_ hk_ => Or.elim hk_ (fun hs_ => ((Kd.R_types (HO_108002.out) BK107.out (by decide)).1 k_ hs_.symm).2) (fun hn_ => (Kd.freshB (g := gb107) (o := .cells #[.int .i64 t101, .int .i64 t102, .slice Ao8 t103.length co8] 36 (0, 0)) blc k_ hn_)))) (below_size (bel HB))); have n2_ := Aside0.mk (blk_below (g := gb107) (o := .cells #[.int .i64 t101, .int .i64 t102, .slice Ao8 t103.length co8] 36 (0, 0)) blc hb); have n3_ := Aside0.mk (below_step (bel HB) hb); clear HO_108002; clear BK107; clear HB; have HO_108002 := n0_; have HO113 := n1_; have BK107 := n2_; have HB := n3_; clear n0_ n1_ n2_ n3_; (try clear hb); (try clear hb2); (try clear hk); (try clear hi); (try clear ho0); obtain ⟨Ao16, co16, eo16⟩ := Kd.V_slice HO113.out; subst eo16) | ((with_reducible refine gate_callee (f := 30) rfl ?_); refine gcall (some 23) Tryd.func30 #[.agg #[.int .i64 t109, .int .i64 t110, .slice Ao16 t111.length co16]] rfl ?_; (with_reducible refine (spec_tyText.calls kj3 t109 t110 _ _ t111 t114 _ ?side1 ?side2 A13.out).mono ?_); (case side1 => repeat (first | exact (Kd.V_reads' HO113.out).2.2 | (with_reducible refine Kd.C_alloc ?_ _) | (with_reducible refine Kd.C_drewN ?_ _) | (with_reducible refine Kd.C_drew ?_))); (case side2 => exact (Kd.V_reads' HO113.out).2.1); rintro e w17 ⟨rfl, hb⟩; refine ⟨_, rfl, ?_⟩; have n0_ := Aside0.mk (Kd.R_below (rch HO_108002) hb); have n1_ := Aside0.mk (Kd.V_below (by (with_reducible repeat (first | apply Kd.V_alloc | apply Kd.V_drewN | apply Kd.V_drew)); (first | exact HO113.out | exact R_any HO113.out)) hb); have n2_ := Aside0.mk (blk_below (g := gb107) (o := .cells #[.int .i64 t101, .int .i64 t102, .slice Ao8 t103.length co8] 36 (0, 0)) blc hb); have n3_ := Aside0.mk (below_step (bel HB) hb); clear HO_108002; clear HO113; clear BK107; clear HB; have HO_108002 := n0_; have HO113 := n1_; have BK107 := n2_; have HB := n3_; clear n0_ n1_ n2_ n3_; (try clear hb); (try clear hb2); (try clear hk); (try clear hi)))
    go_ret2
    exact ⟨by first | rfl | (simp [errW_none, errW_some] <;> rfl) | (simp [*, errW_none, errW_some] <;> rfl), bel HB⟩
def impl_StickWord.j0 : Nat → ByteArray → ByteArray → Bool → Option (ByteArray × Bool)
 | 0, _, _, _ => none
 | k + 1, x0, x1, x13 => if x13 = true then (some ((⟨#[]⟩ : ByteArray), false)) else ((impl_read.f x0).bind fun bt103 => ((impl_tray_stuckAll.f k bt103.1 bt103.2.1 bt103.2.2 x1).bind fun bt108 => ((impl_tray_text.f bt108.1 bt108.2.1 bt108.2.2).bind fun t113 => (some (t113, true)))))
def impl_StickWord.f (k : Nat) (a0 : ByteArray) (a1 : ByteArray) : Option (ByteArray × Bool) := (impl_IsTray.f k a0).bind fun t101 => (if t101 = true then ((impl_IsWord.f a1).bind fun t102 => (impl_StickWord.j0 k a0 a1 (!t102))) else (impl_StickWord.j0 k a0 a1 true))
set_option maxHeartbeats 8000000 in
set_option maxRecDepth 100000 in
theorem impl_StickWord.calls (k : Nat) (a0 : ByteArray) (a1 : ByteArray) (r1 : ByteArray) (r2 : Bool) (w : World) (hG : GoodW w) (h : impl_StickWord.f k a0 a1 = some (r1, r2)) :
  Calls Tryd.prog 24 #[.string a0, .string a1] w fun e w' => e = .returned (.tuple #[.string r1, .bool r2]) ∧ Below w.heap.size w w' := by
 have HG := Aside0.mk hG
 clear hG
 have HB := Aside0.mk (Below.refl w.heap.size w)
 have H : ((impl_IsTray.f k a0).bind fun t101 => (if t101 = true then ((impl_IsWord.f a1).bind fun t102 => (impl_StickWord.j0 k a0 a1 (!t102))) else (impl_StickWord.j0 k a0 a1 true))) = some (r1, r2) := h
 clear h
 have HC3 := Aside0.mk H
 clear H
 go_enter Tryd.func24, Tryd.ntmps24
 go_upto_region 1 with (fail)
 go_cut [13] (fun v13 wc => ∃ (kq : Nat) (x13_2 : Bool), v13 = .bool x13_2 ∧ Aside0 (impl_StickWord.j0 kq a0 a1 x13_2 = some (r1, r2)) ∧ Aside0 (kq ≤ k) ∧ Aside0 (Below w.heap.size w wc))
 case first =>
  have H := HC3.out
  clear HC3
  replace H := Option.bind_eq_some_iff.mp H
  obtain ⟨t101, A40, H⟩ := H
  replace H : (if t101 = true then ((impl_IsWord.f a1).bind fun t102 => (impl_StickWord.j0 k a0 a1 (!t102))) else (impl_StickWord.j0 k a0 a1 true)) = some (r1, r2) := H
  have A4 := Aside0.mk A40
  clear A40
  by_cases c5 : t101 = true
  ·subst c5
   have H1 : ((impl_IsWord.f a1).bind fun t102 => (impl_StickWord.j0 k a0 a1 (!t102))) = some (r1, r2) := by rw [if_pos rfl] at H; exact H
   clear H
   have H := H1
   clear H1
   replace H := Option.bind_eq_some_iff.mp H
   obtain ⟨t102, A60, H⟩ := H
   replace H : (impl_StickWord.j0 k a0 a1 (!t102)) = some (r1, r2) := H
   have A6 := Aside0.mk A60
   clear A60
   have H' := Aside0.mk H
   clear H
   go_wp2_with (first | ((with_reducible refine gate_callee (f := 40) rfl ?_); refine gcall (some 7) Tryd.func40 #[.string a0] rfl ?_; (with_reducible refine (impl_IsTray.calls k a0 true _ ?side1 A4.out).mono ?_); (case side1 => (refine GoodW.below HG.out ?_); exact bel HB); rintro e w7 ⟨rfl, hb⟩; refine ⟨_, rfl, ?_⟩; have n0_ := Aside0.mk (below_step (bel HB) hb); clear HB; have HB := n0_; clear n0_; (try clear hb); (try clear hb2); (try clear hk); (try clear hi)) | (go_at_call 46; (with_reducible refine (impl_IsWord.calls a1 t102 _ A6.out).mono ?_); rintro e w8 ⟨rfl, hb⟩; have n0_ := Aside0.mk (below_step (bel HB) hb); clear HB; have HB := n0_; clear n0_; (try clear hb); (try clear hb2); (try clear hk); (try clear hi)))
   go_meet
   case rel => exact ⟨_, (!t102), (by first | rfl | (simp; done) | (simp [*]; done)), H', ⟨by first | omega | exact Nat.le_refl _⟩, ⟨bel HB⟩⟩
  ·replace c5 := Bool.eq_false_iff.mpr c5
   subst c5
   have H1 : (impl_StickWord.j0 k a0 a1 true) = some (r1, r2) := by rw [if_neg (show ¬ (false = true) by decide)] at H; exact H
   clear H
   have H := H1
   clear H1
   have H' := Aside0.mk H
   clear H
   go_wp2_with (first | ((with_reducible refine gate_callee (f := 40) rfl ?_); refine gcall (some 7) Tryd.func40 #[.string a0] rfl ?_; (with_reducible refine (impl_IsTray.calls k a0 false _ ?side1 A4.out).mono ?_); (case side1 => (refine GoodW.below HG.out ?_); exact bel HB); rintro e w9 ⟨rfl, hb⟩; refine ⟨_, rfl, ?_⟩; have n0_ := Aside0.mk (below_step (bel HB) hb); clear HB; have HB := n0_; clear n0_; (try clear hb); (try clear hb2); (try clear hk); (try clear hi)))
   go_meet
   case rel => exact ⟨_, (true), (by first | rfl | (simp; done) | (simp [*]; done)), H', ⟨by first | omega | exact Nat.le_refl _⟩, ⟨bel HB⟩⟩
 case rest =>
  clear HC3
  try clear c2
  try clear p2
  try clear c4
  try clear c5
  obtain ⟨kq, x13_2, rfl, HA, HJ2, HB⟩ := hcut
  cases kq with
  | zero => exact absurd HA.out (by simp [impl_StickWord.j0])
  | succ kj2 =>
   have H := HA.out
   clear HA
   simp only [impl_StickWord.j0] at H
   by_cases c10 : x13_2 = true
   ·subst c10
    have H1 : (some ((⟨#[]⟩ : ByteArray), false)) = some (r1, r2) := by rw [if_pos rfl] at H; exact H
    clear H
    have H := H1
    clear H1
    simp only [Option.some.injEq, Prod.mk.injEq] at H
    obtain ⟨rfl, rfl⟩ := H
    go_wp2
    go_ret2
    exact ⟨by first | rfl | (simp [errW_none, errW_some] <;> rfl) | (simp [*, errW_none, errW_some] <;> rfl), bel HB⟩
   ·replace c10 := Bool.eq_false_iff.mpr c10
    subst c10
    have H1 : ((impl_read.f a0).bind fun bt103 => ((impl_tray_stuckAll.f kj2 bt103.1 bt103.2.1 bt103.2.2 a1).bind fun bt108 => ((impl_tray_text.f bt108.1 bt108.2.1 bt108.2.2).bind fun t113 => (some (t113, true))))) = some (r1, r2) := by rw [if_neg (show ¬ (false = true) by decide)] at H; exact H
    clear H
    have H := H1
    clear H1
    replace H := Option.bind_eq_some_iff.mp H
    obtain ⟨⟨t103, t104, t105⟩, A110, H⟩ := H
    replace H : ((impl_tray_stuckAll.f kj2 t103 t104 t105 a1).bind fun bt108 => ((impl_tray_text.f bt108.1 bt108.2.1 bt108.2.2).bind fun t113 => (some (t113, true)))) = some (r1, r2) := H
    have A11 := Aside0.mk A110
    clear A110
    replace H := Option.bind_eq_some_iff.mp H
    obtain ⟨⟨t108, t109, t110⟩, A120, H⟩ := H
    replace H : ((impl_tray_text.f t108 t109 t110).bind fun t113 => (some (t113, true))) = some (r1, r2) := H
    have A12 := Aside0.mk A120
    clear A120
    replace H := Option.bind_eq_some_iff.mp H
    obtain ⟨t113, A130, H⟩ := H
    replace H : (some (t113, true)) = some (r1, r2) := H
    have A13 := Aside0.mk A130
    clear A130
    simp only [Option.some.injEq, Prod.mk.injEq] at H
    obtain ⟨rfl, rfl⟩ := H
    go_wp2_with (first | ((with_reducible refine gate_callee (f := 32) rfl ?_); refine gcall (some 15) Tryd.func32 #[.string a0] rfl ?_; (with_reducible refine (impl_read.calls a0 t103 t104 t105 _ ?side1 A11.out).mono ?_); (case side1 => (refine GoodW.below HG.out ?_); exact bel HB); rintro e w14 ⟨v106, rfl, ho0, hb⟩; refine ⟨_, rfl, ?_⟩; have n0_ := Aside0.mk (Kd.V_lower (Kd.V_mono (ok' := fun k_ => True) ho0 (fun k_ hk_ => trivial)) (below_size (bel HB))); have n1_ := Aside0.mk (below_step (bel HB) hb); clear HB; have HO107 := n0_; have HB := n1_; clear n0_ n1_; (try clear hb); (try clear hb2); (try clear hk); (try clear hi); (try clear ho0); obtain ⟨Ao15, co15, eo15⟩ := Kd.V_slice HO107.out; subst eo15) | ((with_reducible refine gate_callee (f := 41) rfl ?_); refine gcall (some 17) Tryd.func41 #[.agg #[.int .i64 t103, .int .i64 t104, .slice Ao15 t105.length co15], .string a1] rfl ?_; (with_reducible refine (impl_tray_stuckAll.calls kj2 t103 t104 (fun k_ => True) _ _ t105 a1 t108 t109 t110 _ ?side1 A12.out).mono ?_); (case side1 => (first | exact HO107.out | exact R_any HO107.out)); rintro e w16 ⟨v111, rfl, ho0, hb⟩; refine ⟨_, rfl, ?_⟩; have n0_ := Aside0.mk (Kd.V_below (by (with_reducible repeat (first | apply Kd.V_alloc | apply Kd.V_drewN | apply Kd.V_drew)); (first | exact HO107.out | exact R_any HO107.out)) hb); have n1_ := Aside0.mk (Kd.V_lower (Kd.V_mono (ok' := fun k_ => True) ho0 (fun k_ hk_ => trivial)) (below_size (bel HB))); have n2_ := Aside0.mk (below_step (bel HB) hb); clear HO107; clear HB; have HO107 := n0_; have HO112 := n1_; have HB := n2_; clear n0_ n1_ n2_; (try clear hb); (try clear hb2); (try clear hk); (try clear hi); (try clear ho0); obtain ⟨Ao17, co17, eo17⟩ := Kd.V_slice HO112.out; subst eo17) | ((with_reducible refine gate_callee (f := 35) rfl ?_); refine gcall (some 18) Tryd.func35 #[.agg #[.int .i64 t108, .int .i64 t109, .slice Ao17 t110.length co17]] rfl ?_; (with_reducible refine (impl_tray_text.calls t108 t109 _ _ t110 t113 _ ?side1 ?side2 A13.out).mono ?_); (case side1 => repeat (first | exact (Kd.V_reads' HO112.out).2.2 | (with_reducible refine Kd.C_alloc ?_ _) | (with_reducible refine Kd.C_drewN ?_ _) | (with_reducible refine Kd.C_drew ?_))); (case side2 => exact (Kd.V_reads' HO112.out).2.1); rintro e w18 ⟨rfl, hb⟩; refine ⟨_, rfl, ?_⟩; have n0_ := Aside0.mk (Kd.V_below (by (with_reducible repeat (first | apply Kd.V_alloc | apply Kd.V_drewN | apply Kd.V_drew)); (first | exact HO107.out | exact R_any HO107.out)) hb); have n1_ := Aside0.mk (Kd.V_below (by (with_reducible repeat (first | apply Kd.V_alloc | apply Kd.V_drewN | apply Kd.V_drew)); (first | exact HO112.out | exact R_any HO112.out)) hb); have n2_ := Aside0.mk (below_step (bel HB) hb); clear HO107; clear HO112; clear HB; have HO107 := n0_; have HO112 := n1_; have HB := n2_; clear n0_ n1_ n2_; (try clear hb); (try clear hb2); (try clear hk); (try clear hi)))
    go_ret2
    exact ⟨by first | rfl | (simp [errW_none, errW_some] <;> rfl) | (simp [*, errW_none, errW_some] <;> rfl), bel HB⟩
def laws_FnExactStickWord.f (k : Nat) (a0 : ByteArray) (a1 : ByteArray) : Option (Bool) := if (a0.size : Int) > 1048576 then (some true) else (if (a1.size : Int) > 1048576 then (some true) else ((spec_StickWord.f k a0 a1).bind fun bt101 => ((impl_StickWord.f k a0 a1).bind fun bt103 => (if bt103.1.toList = bt101.1.toList then (if (bt103.2 != bt101.2) = true then (some false) else (some true)) else (some false)))))
set_option maxHeartbeats 8000000 in
set_option maxRecDepth 100000 in
theorem laws_FnExactStickWord.calls (k : Nat) (a0 : ByteArray) (a1 : ByteArray) (r : Bool) (w : World) (hG : GoodW w) (h : laws_FnExactStickWord.f k a0 a1 = some r) :
  Calls Tryd.prog 8 #[.string a0, .string a1] w fun e w' => e = .returned (.bool r) ∧ Below w.heap.size w w' := by
 have HG := Aside0.mk hG
 clear hG
 have HB := Aside0.mk (Below.refl w.heap.size w)
 have H : (if (a0.size : Int) > 1048576 then (some true) else (if (a1.size : Int) > 1048576 then (some true) else ((spec_StickWord.f k a0 a1).bind fun bt101 => ((impl_StickWord.f k a0 a1).bind fun bt103 => (if bt103.1.toList = bt101.1.toList then (if (bt103.2 != bt101.2) = true then (some false) else (some true)) else (some false)))))) = some r := h
 clear h
 by_cases c3 : (a0.size : Int) > 1048576
 ·rw [if_pos c3] at H
  have c3b0 : decide (1048576 < (a0.size : Int)) = true := decide_eq_true c3
  have c3b1 : decide (1048576 < a0.size) = true := decide_eq_true (by omega)
  clear c3
  obtain rfl := Option.some.inj H
  go_enter Tryd.func8, Tryd.ntmps8
  go_wp2
  go_ret
  exact ⟨by first | rfl | (simp [errW_none, errW_some] <;> rfl) | (simp [*, errW_none, errW_some] <;> rfl), bel HB⟩
 ·rw [if_neg c3] at H
  have c3b0 : decide (1048576 < (a0.size : Int)) = false := decide_eq_false c3
  have c3b1 : decide (1048576 < a0.size) = false := decide_eq_false (by omega)
  clear c3
  by_cases c4 : (a1.size : Int) > 1048576
  ·rw [if_pos c4] at H
   have c4b0 : decide (1048576 < (a1.size : Int)) = true := decide_eq_true c4
   have c4b1 : decide (1048576 < a1.size) = true := decide_eq_true (by omega)
   clear c4
   obtain rfl := Option.some.inj H
   go_enter Tryd.func8, Tryd.ntmps8
   go_wp2
   go_ret
   exact ⟨by first | rfl | (simp [errW_none, errW_some] <;> rfl) | (simp [*, errW_none, errW_some] <;> rfl), bel HB⟩
  ·rw [if_neg c4] at H
   have c4b0 : decide (1048576 < (a1.size : Int)) = false := decide_eq_false c4
   have c4b1 : decide (1048576 < a1.size) = false := decide_eq_false (by omega)
   clear c4
   replace H := Option.bind_eq_some_iff.mp H
   obtain ⟨⟨t101, t102⟩, A50, H⟩ := H
   replace H : ((impl_StickWord.f k a0 a1).bind fun bt103 => (if bt103.1.toList = t101.toList then (if (bt103.2 != t102) = true then (some false) else (some true)) else (some false))) = some r := H
   have A5 := Aside0.mk A50
   clear A50
   replace H := Option.bind_eq_some_iff.mp H
   obtain ⟨⟨t103, t104⟩, A60, H⟩ := H
   replace H : (if t103.toList = t101.toList then (if (t104 != t102) = true then (some false) else (some true)) else (some false)) = some r := H
   have A6 := Aside0.mk A60
   clear A60
   by_cases c7 : t103.toList = t101.toList
   ·rw [if_pos c7] at H
    have c7b0 : (t103.toList == t101.toList) = true := beq_iff_eq.mpr c7
    have c7b1 : (t103.toList != t101.toList) = false := bne_eq_false_iff_eq.mpr c7
    clear c7
    by_cases c8 : (t104 != t102) = true
    ·rw [if_pos c8] at H
     have c8b0 : (t104 != t102) = true := c8
     (try (have c8b1 : decide (t104 = t102) = false := by simpa using c8))
     (try (have c8b2 : (t104 == t102) = false := by simpa using c8))
     (try (have c8b3 : ¬ (t104 = t102) := by simpa using c8))
     clear c8
     obtain rfl := Option.some.inj H
     go_enter Tryd.func8, Tryd.ntmps8
     go_wp2_with (first | ((with_reducible refine gate_callee (f := 23) rfl ?_); refine gcall (some 18) Tryd.func23 #[.string a0, .string a1] rfl ?_; (with_reducible refine (spec_StickWord.calls k a0 a1 t101 t102 _ A5.out).mono ?_); rintro e w9 ⟨rfl, hb⟩; refine ⟨_, rfl, ?_⟩; have n0_ := Aside0.mk (below_step (bel HB) hb); clear HB; have HB := n0_; clear n0_; (try clear hb); (try clear hb2); (try clear hk); (try clear hi)) | ((with_reducible refine gate_callee (f := 24) rfl ?_); refine gcall (some 24) Tryd.func24 #[.string a0, .string a1] rfl ?_; (with_reducible refine (impl_StickWord.calls k a0 a1 t103 t104 _ ?side1 A6.out).mono ?_); (case side1 => (refine GoodW.below HG.out ?_); exact bel HB); rintro e w10 ⟨rfl, hb⟩; refine ⟨_, rfl, ?_⟩; have n0_ := Aside0.mk (below_step (bel HB) hb); clear HB; have HB := n0_; clear n0_; (try clear hb); (try clear hb2); (try clear hk); (try clear hi)))
     go_ret
     exact ⟨by first | rfl | (simp [errW_none, errW_some] <;> rfl) | (simp [*, errW_none, errW_some] <;> rfl), bel HB⟩
    ·rw [if_neg c8] at H
     have c8b0 : (t104 != t102) = false := by simpa using c8
     (try (have c8b1 : decide (t104 = t102) = true := by simpa using c8))
     (try (have c8b2 : (t104 == t102) = true := by simpa using c8))
     clear c8
     obtain rfl := Option.some.inj H
     go_enter Tryd.func8, Tryd.ntmps8
     go_wp2_with (first | ((with_reducible refine gate_callee (f := 23) rfl ?_); refine gcall (some 18) Tryd.func23 #[.string a0, .string a1] rfl ?_; (with_reducible refine (spec_StickWord.calls k a0 a1 t101 t102 _ A5.out).mono ?_); rintro e w11 ⟨rfl, hb⟩; refine ⟨_, rfl, ?_⟩; have n0_ := Aside0.mk (below_step (bel HB) hb); clear HB; have HB := n0_; clear n0_; (try clear hb); (try clear hb2); (try clear hk); (try clear hi)) | ((with_reducible refine gate_callee (f := 24) rfl ?_); refine gcall (some 24) Tryd.func24 #[.string a0, .string a1] rfl ?_; (with_reducible refine (impl_StickWord.calls k a0 a1 t103 t104 _ ?side1 A6.out).mono ?_); (case side1 => (refine GoodW.below HG.out ?_); exact bel HB); rintro e w12 ⟨rfl, hb⟩; refine ⟨_, rfl, ?_⟩; have n0_ := Aside0.mk (below_step (bel HB) hb); clear HB; have HB := n0_; clear n0_; (try clear hb); (try clear hb2); (try clear hk); (try clear hi)))
     go_ret
     exact ⟨by first | rfl | (simp [errW_none, errW_some] <;> rfl) | (simp [*, errW_none, errW_some] <;> rfl), bel HB⟩
   ·rw [if_neg c7] at H
    have c7b0 : (t103.toList == t101.toList) = false := beq_eq_false_iff_ne.mpr c7
    have c7b1 : (t103.toList != t101.toList) = true := bne_iff_ne.mpr c7
    obtain rfl := Option.some.inj H
    go_enter Tryd.func8, Tryd.ntmps8
    go_wp2_with (first | ((with_reducible refine gate_callee (f := 23) rfl ?_); refine gcall (some 18) Tryd.func23 #[.string a0, .string a1] rfl ?_; (with_reducible refine (spec_StickWord.calls k a0 a1 t101 t102 _ A5.out).mono ?_); rintro e w13 ⟨rfl, hb⟩; refine ⟨_, rfl, ?_⟩; have n0_ := Aside0.mk (below_step (bel HB) hb); clear HB; have HB := n0_; clear n0_; (try clear hb); (try clear hb2); (try clear hk); (try clear hi)) | ((with_reducible refine gate_callee (f := 24) rfl ?_); refine gcall (some 24) Tryd.func24 #[.string a0, .string a1] rfl ?_; (with_reducible refine (impl_StickWord.calls k a0 a1 t103 t104 _ ?side1 A6.out).mono ?_); (case side1 => (refine GoodW.below HG.out ?_); exact bel HB); rintro e w14 ⟨rfl, hb⟩; refine ⟨_, rfl, ?_⟩; have n0_ := Aside0.mk (below_step (bel HB) hb); clear HB; have HB := n0_; clear n0_; (try clear hb); (try clear hb2); (try clear hk); (try clear hi)))
    go_ret
    exact ⟨by first | rfl | (simp [errW_none, errW_some] <;> rfl) | (simp [*, errW_none, errW_some] <;> rfl), bel HB⟩
end Go.Proofs.YtgipkpiddjjhcaaDoor.Q
end
section
namespace Go.Proofs.YtgipkpiddjjhcaaDoor.Q
set_option linter.unusedSectionVars false
open Go.RowKit Go.Proofs.YtgipkpiddjjhcaaDoorW.PrintWords Go.Proofs.YtgipkpiddjjhcaaDoorW.PrintLast Go.Proofs.YtgipkpiddjjhcaaDoorW.PrintMore
open Classical
noncomputable def StickWordR (t s : ByteArray) : ByteArray × Bool := match trayOf t with
 | none => (⟨#[]⟩, false)
 | some (w, h, cs) => if wordB s = true then (tx (runR w.toNat h.toNat (s.data.toList.map dirN) cs) w.toNat h.toNat, true) else (⟨#[]⟩, false)
theorem specStickWord_ev (t s : ByteArray) : Ev (fun k => spec_StickWord.f k t s) (StickWordR t s) := by
 refine Ev.bind (f := fun k (bt101 : Int × Int × List Int × Bool) => (if bt101.2.2.2 = true then ((spec_tiWord.f k s).bind fun t108 => (spec_StickWord.j0 k s (!t108) bt101.1 bt101.2.1 bt101.2.2.1)) else (spec_StickWord.j0 k s true bt101.1 bt101.2.1 bt101.2.2.1))) (tyRead_ev t) ?_
 unfold StickWordR
 have hfail : ∀ w h cs, Ev (fun k => spec_StickWord.j0 k s true w h cs) (((⟨#[]⟩ : ByteArray)), false) := fun w h cs => Ev.step (Ev.const (o := some (((⟨#[]⟩ : ByteArray)), false)) rfl) fun k => by rw [spec_StickWord.j0, if_pos rfl]
 rcases ht : trayOf t with _ | ⟨w, h, cs⟩
 ·exact Ev.congr (hfail _ _ _) fun k => if_neg Bool.false_ne_true
 ·obtain ⟨w, h, cs, e, hw1, hw, hh1, hh, hs, hn⟩ := tray_parts ht
  injection e with e1 e2
  injection e2 with e2 e3
  subst e1 e2 e3
  have hz : 0 < w * h := Nat.mul_pos hw1 hh1
  show Ev _ (if wordB s = true then _ else _)
  simp only [Int.toNat_natCast]
  have hgo : ∀ b : Bool, wordB s = b → Ev (fun k => spec_StickWord.j0 k s (!b) w h cs) (if wordB s = true then (tx (runR w h (s.data.toList.map dirN) cs) w h, true) else (⟨#[]⟩, false)) := by
   intro b hb
   cases b with
   | false =>
    rw [if_neg (by rw [hb]; decide)]
    exact hfail _ _ _
   | true =>
    rw [if_pos hb]
    have hrun := skRun_ev hw hh hs hz hb hn
    have htx := tyText_ev (w := w) (h := h) (cs := runR w h (s.data.toList.map dirN) cs) hw1 hh1 hs (runR_len hw hh hs hz _ _ wordB_lt hn)
    refine Ev.step (Ev.bind (f := fun k (bt109 : Int × Int × List Int) => ((spec_tyText.f k bt109.1 bt109.2.1 bt109.2.2).bind fun t114 => (some (t114, true)))) hrun (Ev.bind (f := fun _ t114 => some (t114, true)) htx (Ev.const rfl))) fun k => ?_
    rw [spec_StickWord.j0, if_neg (by decide)]
  exact Ev.congr (Ev.bind (f := fun k t108 => spec_StickWord.j0 k s (!t108) w h cs) (tiWord_ev s) (hgo _ rfl)) fun k => if_pos rfl
theorem implStickWord_ev (t s : ByteArray) (ht0 : t.size ≤ 1048576) (_hs0 : s.size ≤ 1048576) : Ev (fun k => impl_StickWord.f k t s) (StickWordR t s) := by
 refine Ev.bind (f := fun k (t101 : Bool) => (if t101 = true then ((impl_IsWord.f s).bind fun t102 => (impl_StickWord.j0 k t s (!t102))) else (impl_StickWord.j0 k t s true))) (isTray_ev t ht0) ?_
 unfold StickWordR
 have hfail : Ev (fun k => impl_StickWord.j0 k t s true) (((⟨#[]⟩ : ByteArray)), false) := Ev.step (Ev.const (o := some (((⟨#[]⟩ : ByteArray)), false)) rfl) fun k => by rw [impl_StickWord.j0, if_pos rfl]
 rcases ht : trayOf t with _ | ⟨w, h, cs⟩
 ·exact Ev.congr hfail fun k => if_neg (by simp)
 ·have hread := tray_read ht
  obtain ⟨w, h, cs, e, hw1, hw, hh1, hh, hs, hn⟩ := tray_parts ht
  injection e with e1 e2
  injection e2 with e2 e3
  subst e1 e2 e3
  have hz : 0 < w * h := Nat.mul_pos hw1 hh1
  show Ev _ (if wordB s = true then _ else _)
  simp only [Int.toNat_natCast]
  have hgo : ∀ b : Bool, wordB s = b → Ev (fun k => impl_StickWord.j0 k t s (!b)) (if wordB s = true then (tx (runR w h (s.data.toList.map dirN) cs) w h, true) else (⟨#[]⟩, false)) := by
   intro b hb
   cases b with
   | false =>
    rw [if_neg (by rw [hb]; decide)]
    exact hfail
   | true =>
    rw [if_pos hb]
    have hrun := stuckAll_ev hw hh hs hz hb hn
    have htx := text_val w h (runR w h (s.data.toList.map dirN) cs) hw1 hh1 hs (runR_len hw hh hs hz _ _ wordB_lt hn)
    refine Ev.step (Ev.bind (f := fun _ (bt108 : Int × Int × List Int) => ((impl_tray_text.f bt108.1 bt108.2.1 bt108.2.2).bind fun t113 => (some (t113, true)))) hrun (Ev.const ?_)) fun k => ?_
    ·show (impl_tray_text.f w h (runR w h (s.data.toList.map dirN) cs)).bind _ = _
     rw [htx]
     rfl
    ·rw [impl_StickWord.j0, if_neg (by decide), hread, Option.bind_some]
  refine Ev.congr (hgo _ rfl) fun k => ?_
  show (if true = true then _ else _) = _
  rw [if_pos rfl, isWord_eq, Option.bind_some]
theorem lawStickWord_ev (t : ByteArray) (s : ByteArray) : Ev (fun k => laws_FnExactStickWord.f k t s) true := by
 by_cases ht : t.size ≤ 1048576
 case neg =>
  refine Ev.congr (Ev.const (o := some true) rfl) fun k => ?_
  unfold laws_FnExactStickWord.f
  exact if_pos (by omega)
 by_cases hs : s.size ≤ 1048576
 case neg =>
  refine Ev.congr (Ev.const (o := some true) rfl) fun k => ?_
  unfold laws_FnExactStickWord.f
  rw [if_neg (by omega)]
  exact if_pos (by omega)
 have hsp := specStickWord_ev t s
 have him := implStickWord_ev t s ht hs
 refine Ev.congr (Ev.bind (f := fun k (bt101 : ByteArray × Bool) => ((impl_StickWord.f k t s).bind fun bt103 => (if bt103.1.toList = bt101.1.toList then (if (bt103.2 != bt101.2) = true then (some false) else (some true)) else (some false)))) hsp (Ev.bind (f := fun _ (bt103 : ByteArray × Bool) => (if bt103.1.toList = (StickWordR t s).1.toList then (if (bt103.2 != (StickWordR t s).2) = true then (some false) else (some true)) else (some false))) him (Ev.const ?_))) fun k => by unfold laws_FnExactStickWord.f; rw [if_neg (by omega), if_neg (by omega)]
 rw [if_pos rfl, bne_self_eq_false, if_neg (by decide)]
end Go.Proofs.YtgipkpiddjjhcaaDoor.Q
end
