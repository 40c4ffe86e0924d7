/- Texts of this claim, joined. -/
import Derived.Test.YtcpeldgnabfdmaaDoorJStretchesOf01
import Derived.Deep.RegionHeld3
import Derived.Lib.SlTrimSet
import Derived.Maps.OwnOps
import Derived.Maps.OwnSet
import Derived.Maps.Views
import Derived.Maps.RangeWalk
import Derived.WalkKit
import Derived.Laws.AppendOwn
import Derived.Shelf.SlicesE.Clone
import Derived.Carry
set_option linter.unusedVariables false
set_option linter.unusedSimpArgs false
set_option linter.unusedSectionVars false
section
namespace Go.Proofs.YtcpeldgnabfdmaaDoor.Q
set_option linter.unusedSectionVars false
open Go.RowKit Go.Proofs.YtcpeldgnabfdmaaDoorW.PrintWords Go.Proofs.YtcpeldgnabfdmaaDoorW.PrintLast Go.Proofs.YtcpeldgnabfdmaaDoorW.PrintMore
def rdS (xs : List (List Int)) (i : Int) : (List Int) := xs.getD i.toNat ([] : List Int)
theorem at_S {w : World} {A : Option Addr} {n : Nat} {xs : List (List Int)} (h : Kd.C (Kd.slice 3 (Kd.int .i64)) w A n xs) (i : Int) (h0 : 0 ≤ i) (h1 : i < n) : ∃ ad A0 c0, A = some ad ∧ w.cell? (ad.add i.toNat) = some (.slice A0 (rdS xs i).length c0) ∧ (rdS xs i).length ≤ c0 ∧ (Kd.int .i64).C w A0 (rdS xs i).length (rdS xs i) := by
 obtain ⟨ad, c, e, _, hK, hc0⟩ := Kd.C_get h ([] : List Int) i h0 h1
 have hc : ∀ j u, c[j]? = some u → w.cell? (ad.add (i.toNat * 1 + j)) = some u := hc0
 obtain ⟨A0, c0, rfl, l0, g0⟩ := hK
 exact ⟨ad, A0, c0, e, by have hq := hc 0 _ rfl; rwa [Nat.mul_one, Nat.add_zero] at hq, l0, g0⟩
mutual
def impl_tray_stretches.l0 : Nat → List (List Int) → List (List Int) → Int → Int → Int → Int → List Int → Option ((List (List Int)))
 | 0, _, _, _, _, _, _, _ => none
 | k + 1, x5, x14, x15, x16, x102000, x102001, x102002 => if x16 < x15 then (if 0 ≤ x16 then (if x16 < (x14.length : Int) then (impl_tray_stretches.l1 k x5 (([] : List Int)) x14 x15 x16 (rdS x14 x16) ((rdS x14 x16).length : Int) 0 x102000 x102001 x102002) else (none)) else (none)) else (slices_SortFunc_str.f x5)
def impl_tray_stretches.l1 : Nat → List (List Int) → List Int → List (List Int) → Int → Int → List Int → Int → Int → Int → Int → List Int → Option ((List (List Int)))
 | 0, _, _, _, _, _, _, _, _, _, _, _ => none
 | k + 1, x5, x8, x14, x15, x16, x21, x22, x23, x102000, x102001, x102002 => if x23 < x22 then (if 0 ≤ x23 then (if x23 < (x21.length : Int) then (if 0 ≤ (rd x21 x23) then (if (rd x21 x23) < (x102002.length : Int) then (if (rd x102002 (rd x21 x23)) = 35 then (if (x8.length : Int) > 0 then (if x5.length < 5864062014805 then (impl_tray_stretches.l1 k (x5 ++ [x8]) ([] : List Int) x14 x15 x16 x21 x22 (wrap64 (x23 + 1)) x102000 x102001 x102002) else (none)) else (impl_tray_stretches.l1 k x5 x8 x14 x15 x16 x21 x22 (wrap64 (x23 + 1)) x102000 x102001 x102002)) else (if x8.length < 17592186044416 then (impl_tray_stretches.l1 k x5 (x8 ++ [rd x21 x23]) x14 x15 x16 x21 x22 (wrap64 (x23 + 1)) x102000 x102001 x102002) else (none))) else (none)) else (none)) else (none)) else (none)) else (if (x8.length : Int) > 0 then (if x5.length < 5864062014805 then (impl_tray_stretches.l0 k (x5 ++ [x8]) x14 x15 (wrap64 (x16 + 1)) x102000 x102001 x102002) else (none)) else (impl_tray_stretches.l0 k x5 x14 x15 (wrap64 (x16 + 1)) x102000 x102001 x102002))
end
def impl_tray_stretches.f (k : Nat) (a0_0 : Int) (a0_1 : Int) (l0_2 : List Int) (a1 : Int) : Option ((List (List Int))) := (impl_tray_lines.f k a0_0 a0_1 l0_2 a1).bind fun t105 => (impl_tray_stretches.l0 k (([] : List (List Int))) t105 (t105.length : Int) 0 a0_0 a0_1 l0_2)
set_option maxHeartbeats 8000000 in
set_option maxRecDepth 100000 in
theorem impl_tray_stretches.calls (k : Nat) (a0_0 : Int) (a0_1 : Int) (A0_2 : Option Addr) (c0_2 : Nat) (l0_2 : List Int) (a1 : Int) (r : List (List Int)) (w : World) (hr0_2 : Kd.C (Kd.int .u8) w A0_2 l0_2.length l0_2) (hc0_2 : l0_2.length ≤ c0_2) (h : impl_tray_stretches.f k a0_0 a0_1 l0_2 a1 = some r) :
  Calls Tryd.prog 25 #[.agg #[.int .i64 a0_0, .int .i64 a0_1, .slice A0_2 l0_2.length c0_2], .int .u8 a1] w fun e w' => ∃ v0_ : Value, e = .returned (v0_) ∧ Kd.S (Kd.slice 3 (Kd.int .i64)) 46 w' w.heap.size (fun _ => True) v0_ r ∧ Below w.heap.size w w' := by
 have hu42 := Tryd.underlying42
 have HR0_2 := Aside0.mk hr0_2
 have HC0_2 := Aside0.mk hc0_2
 clear hr0_2 hc0_2
 have HB := Aside0.mk (Below.refl w.heap.size w)
 have H : ((impl_tray_lines.f k a0_0 a0_1 l0_2 a1).bind fun t105 => (impl_tray_stretches.l0 k (([] : List (List Int))) t105 (t105.length : Int) 0 a0_0 a0_1 l0_2)) = some r := h
 clear h
 obtain ⟨y102, hy102⟩ : ∃ y_ : List (List Int), y_ = (([] : List (List Int))) := ⟨_, rfl⟩
 replace H : ((impl_tray_lines.f k a0_0 a0_1 l0_2 a1).bind fun t105 => (impl_tray_stretches.l0 k y102 t105 (t105.length : Int) 0 a0_0 a0_1 l0_2)) = some r := rH hy102 H
 have Ny102 := Aside0.mk hy102
 clear hy102
 replace H := Option.bind_eq_some_iff.mp H
 obtain ⟨t105, A30, H⟩ := H
 replace H : (impl_tray_stretches.l0 k y102 t105 (t105.length : Int) 0 a0_0 a0_1 l0_2) = some r := H
 have A3 := Aside0.mk A30
 clear A30
 have H' := Aside0.mk H
 clear H
 go_enter Tryd.func25, Tryd.ntmps25
 go_wp2_with (first | ((with_reducible refine gate_dst (N := 2) rfl ?_); refine boxE (N := 2) (cs := #[.int .i64 a0_0, .int .i64 a0_1, .slice A0_2 l0_2.length c0_2]) (t := 42) ?_; intro gb101 hg w4 hbox hb; have n0_ := Aside0.mk (below_step (bel HB) hb); have n1_ := Aside0.mk (hbox); have n2_ := Aside0.mk (gsz hg (bel HB)); have n3_ := Aside0.mk (gsz hg (bel HB)); clear HB; have HB := n0_; have BK101 := n1_; have GW101 := n2_; have GE101 := n3_; clear n0_ n1_ n2_ n3_; clear hb hbox hg) | ((with_reducible refine gate_dst (N := 11) rfl ?_); refine Kd.S_lit (Kd.slice 3 (Kd.int .i64)) _ 46 ?hg (N := 11) ?hd (xs := ([] : List (List Int))) (inner := []) (ok := fun _ => True) (okp := fun _ => True) ?hr ?hp (fun _ hk => hk) trivial (Below.refl _ _) (Nat.le_refl _) (by simp) ?_; (case hd => rfl); (case hg => rfl); (case hr => first | (go_simp; done) | (go_simp; rfl)); (case hp => exact (Reps.none _ _)); intro v103 w5 ho6 hb hg_ hnew_; clear hg_ hnew_; (first | rw [← Ny102.out] at ho6 | (simp only [Int.reduceToNat] at ho6; rw [← Ny102.out] at ho6)); have n0_ := Aside0.mk (Kd.S_lower ho6 (below_size (bel HB))); have n1_ := Aside0.mk (blk_below (g := gb101) (o := .cells #[.int .i64 a0_0, .int .i64 a0_1, .slice A0_2 l0_2.length c0_2] 42 (0, 0)) blc hb); have n2_ := Aside0.mk (below_step (bel HB) hb); clear BK101; clear HB; have HO104 := n0_; have BK101 := n1_; have HB := n2_; clear n0_ n1_ n2_; clear hb ho6; have hcz7_0 : w5.cell? ⟨gb101, 0, none⟩ = some (.int .i64 a0_0) := (blk_cell BK101.out 0).trans rfl; have hcz7_1 : w5.cell? ⟨gb101, 1, none⟩ = some (.int .i64 a0_1) := (blk_cell BK101.out 1).trans rfl; have hcz7_2 : w5.cell? ⟨gb101, 2, none⟩ = some (.slice A0_2 l0_2.length c0_2) := (blk_cell BK101.out 2).trans rfl; have hfz7_0 := blk_frozen BK101.out 0; have hfz7_1 := blk_frozen BK101.out 1; have hfz7_2 := blk_frozen BK101.out 2) | ((with_reducible refine gate_callee (f := 46) rfl ?_); refine gcall (some 14) Tryd.func46 #[.agg #[.int .i64 a0_0, .int .i64 a0_1, .slice A0_2 l0_2.length c0_2], .int .u8 a1] rfl ?_; (with_reducible refine (impl_tray_lines.calls k a0_0 a0_1 _ _ l0_2 a1 t105 _ ?side1 ?side2 A3.out).mono ?_); (case side1 => repeat (first | exact (Kd.C_below HR0_2.out HB.out) | (with_reducible refine Kd.C_alloc ?_ _) | (with_reducible refine Kd.C_drewN ?_ _) | (with_reducible refine Kd.C_drew ?_))); (case side2 => exact HC0_2.out); rintro e w8 ⟨v106, rfl, ho0, hb⟩; refine ⟨_, rfl, ?_⟩; have n0_ := Aside0.mk (Kd.S_elder' (by (with_reducible repeat (first | apply Kd.S_alloc | apply Kd.S_drewN | apply Kd.S_drew)); (first | exact HO104.out | exact R_any HO104.out)) (Kd.S_base ho0) hb); have n1_ := Aside0.mk (Kd.S_lower (Kd.S_new' ho0 (Kd.S_lt (by (with_reducible repeat (first | apply Kd.S_alloc | apply Kd.S_drewN | apply Kd.S_drew)); (first | exact HO104.out | exact R_any HO104.out)))) (below_size (bel HB))); have n2_ := Aside0.mk (blk_below (g := gb101) (o := .cells #[.int .i64 a0_0, .int .i64 a0_1, .slice A0_2 l0_2.length c0_2] 42 (0, 0)) blc hb); have n3_ := Aside0.mk (below_step (bel HB) hb); clear HO104; clear BK101; clear HB; have HO104 := n0_; have HO107 := n1_; have BK101 := n2_; have HB := n3_; clear n0_ n1_ n2_ n3_; (try clear hb); (try clear hb2); (try clear hk); (try clear hi); (try clear ho0); obtain ⟨Ao9, co9, eo9⟩ := Kd.S_slice HO107.out; subst eo9))
 go_loopg [5, 16] k (fun kq v5 v16 w' => ∃ (x5_1 : List (List Int)) (x16_1 : Int), v16 = .int .i64 x16_1 ∧ Aside0 (impl_tray_stretches.l0 kq x5_1 t105 (t105.length : Int) x16_1 a0_0 a0_1 l0_2 = some r) ∧ Aside0 (kq ≤ k) ∧ Aside0 (Kd.S (Kd.slice 3 (Kd.int .i64)) 46 w' w.heap.size (fun k_ => some k_ ≠ ((.slice Ao9 t105.length co9) : Value).ownBlock) v5 x5_1) ∧ Aside0 (Kd.S (Kd.slice 3 (Kd.int .i64)) 46 w' w.heap.size (fun k_ => some k_ ≠ (v5 : Value).ownBlock) (.slice Ao9 t105.length co9) t105) ∧ Aside0 (w'.heap[gb101]? = some (.cells #[.int .i64 a0_0, .int .i64 a0_1, (.slice A0_2 l0_2.length c0_2)] 42 (0, 0))) ∧ Aside0 (Below w.heap.size w w'))
 case atStart => exact ⟨(y102), (0), (by first | rfl | (simp; done) | (simp [*]; done)), H', ⟨Nat.le_refl _⟩, ⟨by (with_reducible repeat (first | apply Kd.S_alloc | apply Kd.S_drewN | apply Kd.S_drew)); exact Kd.S_mono HO104.out (fun _ hk => hk.2)⟩, ⟨by (with_reducible repeat (first | apply Kd.S_alloc | apply Kd.S_drewN | apply Kd.S_drew)); exact Kd.S_mono HO107.out (fun _ hk => hk.2)⟩, ⟨blc⟩, ⟨bel HB⟩⟩
 case round =>
  clear H'
  try clear p2
  try clear c3
  try clear c5
  try clear hcz7_0
  try clear hcz7_1
  try clear hcz7_2
  try clear hfz7_0
  try clear hfz7_1
  try clear hfz7_2
  obtain ⟨x5_1, x16_1, rfl, HA, HK1, HO_5, HO_14, BK101, HB⟩ := hrel
  cases gk with
  | zero => exact absurd HA.out (by simp [impl_tray_stretches.l0])
  | succ k1 =>
   have H := HA.out
   clear HA
   simp only [impl_tray_stretches.l0] at H
   by_cases c10 : x16_1 < (t105.length : Int)
   ·rw [if_pos c10] at H
    have c10b0 : decide (x16_1 < (t105.length : Int)) = true := decide_eq_true c10
    clear c10
    by_cases c11 : 0 ≤ x16_1
    ·rw [if_pos c11] at H
     have c11b0 : decide (0 ≤ x16_1) = true := decide_eq_true c11
     clear c11
     by_cases c12 : x16_1 < (t105.length : Int)
     ·rw [if_pos c12] at H
      have c12b0 : decide (x16_1 < (t105.length : Int)) = true := decide_eq_true c12
      clear c12
      obtain ⟨y109, hy109⟩ : ∃ y_ : List Int, y_ = (([] : List Int)) := ⟨_, rfl⟩
      replace H : (impl_tray_stretches.l1 k1 x5_1 y109 t105 (t105.length : Int) x16_1 (rdS t105 x16_1) ((rdS t105 x16_1).length : Int) 0 a0_0 a0_1 l0_2) = some r := rH hy109 H
      have Ny109 := Aside0.mk hy109
      clear hy109
      have H' := Aside0.mk H
      clear H
      have p108 : 0 ≤ (x16_1 : Int) := of_decide_eq_true (by first | (with_reducible assumption) | assumption)
      have q108 : x16_1 < (t105.length : Int) := of_decide_eq_true (by first | (with_reducible assumption) | assumption)
      obtain ⟨ad108, A108_0, c108_0, e108, hx108_0, hl108_0, hi108_0⟩ := at_S (Kd.S_reads' HO_14.out).2.2 x16_1 p108 q108
      cases e108
      obtain ⟨ce108, hce108, hMe108, hcc108⟩ := Kd.S_get HO_14.out [] x16_1 p108 (by first | exact q108 | exact of_decide_eq_true (by first | (with_reducible assumption) | assumption) | (have e_ := (Kd.S_reads' HO_14.out).1; omega))
      obtain ⟨ve108_0, rfl, ge108_0⟩ := hMe108
      have hv108_0 := hcc108 0 _ rfl
      rw [Nat.add_zero, show ((Kd.slice 3 (Kd.int .i64))).sz = 1 from rfl, Nat.mul_one] at hv108_0
      replace hv108_0 := Option.some.inj (hv108_0.symm.trans hx108_0)
      rw [hv108_0] at ge108_0
      have HL108_0 := Aside0.mk (show Kd.R (Kd.int .i64) 3 _ _ _ _ (rdS t105 x16_1) from ge108_0)
      clear hv108_0 ge108_0
      clear hcc108 hce108
      have HR108_0 := Aside0.mk hi108_0
      have HC108_0 := Aside0.mk hl108_0
      clear hi108_0 hl108_0
      replace p108 := eq_true p108
      replace q108 := eq_true q108
      go_wp2_with (first | ((with_reducible refine gate_dst (N := 20) rfl ?_); refine R_litG (Kd.int .i64) _ 3 ?hg (N := 20) ?hd (xs := ([] : List Int)) (inner := []) (ok := fun _ => True) (okp := fun _ => True) ?hr ?hp (fun _ hk => hk) trivial (Below.refl _ _) (Nat.le_refl _) (by simp) ?_; (case hd => rfl); (case hg => first | rfl | decide | (simp [Region.wanted, yielded]; done) | (go_simp; done)); (case hr => first | (go_simp; done) | (go_simp; rfl)); (case hp => exact (Reps.none _ _)); intro v110 w13 ho14 hb hg_ hnew_; clear hg_ hnew_; (first | rw [← Ny109.out] at ho14 | (simp only [Int.reduceToNat] at ho14; rw [← Ny109.out] at ho14)); have n0_ := Aside0.mk (Kd.S_elder' (by (with_reducible repeat (first | apply Kd.S_alloc | apply Kd.S_drewN | apply Kd.S_drew)); (first | exact HO_5.out | exact R_any HO_5.out)) (Kd.R_base ho14) hb); have n1_ := Aside0.mk (Kd.S_elder' (by (with_reducible repeat (first | apply Kd.S_alloc | apply Kd.S_drewN | apply Kd.S_drew)); (first | exact HO_14.out | exact R_any HO_14.out)) (Kd.R_base ho14) hb); have n2_ := Aside0.mk (Kd.R_elder' (by (with_reducible repeat (first | apply Kd.R_alloc | apply Kd.R_drewN | apply Kd.R_drew)); exact HL108_0.out) (Kd.R_base ho14) hb); have n3_ := Aside0.mk (Kd.R_lower (Kd.R_new' ho14 (Kd.R_lt (by (with_reducible repeat (first | apply Kd.R_alloc | apply Kd.R_drewN | apply Kd.R_drew)); exact HL108_0.out))) (below_size (bel HB))); have n4_ := Aside0.mk (blk_below (g := gb101) (o := .cells #[.int .i64 a0_0, .int .i64 a0_1, .slice A0_2 l0_2.length c0_2] 42 (0, 0)) blc hb); have n5_ := Aside0.mk (Kd.C_below (by repeat (first | (with_reducible exact HR108_0.out) | (with_reducible refine Kd.C_alloc ?_ _) | (with_reducible refine Kd.C_drewN ?_ _) | (with_reducible refine Kd.C_drew ?_) | exact HR108_0.out)) hb); have n6_ := Aside0.mk (below_step (bel HB) hb); clear HO_5; clear HO_14; clear HL108_0; clear BK101; clear HR108_0; clear HB; have HO_5 := n0_; have HO_14 := n1_; have HL108_0 := n2_; have HO111 := n3_; have BK101 := n4_; have HR108_0 := n5_; have HB := n6_; clear n0_ n1_ n2_ n3_ n4_ n5_ n6_; clear hb ho14))
      go_loopg [5, 8, 23] k1 (fun kq v5 v8 v23 w' => ∃ (x5_2 : List (List Int)) (x8_2 : List Int) (x23_2 : Int), v23 = .int .i64 x23_2 ∧ Aside0 (impl_tray_stretches.l1 kq x5_2 x8_2 t105 (t105.length : Int) x16_1 (rdS t105 x16_1) ((rdS t105 x16_1).length : Int) x23_2 a0_0 a0_1 l0_2 = some r) ∧ Aside0 (kq ≤ k1) ∧ Aside0 (Kd.S (Kd.slice 3 (Kd.int .i64)) 46 w' w.heap.size (fun k_ => some k_ ≠ (v8 : Value).ownBlock ∧ some k_ ≠ ((.slice (some ad108) t105.length co9) : Value).ownBlock) v5 x5_2) ∧ Aside0 (Kd.R (Kd.int .i64) 3 w' w.heap.size (fun _ => True) v8 x8_2) ∧ Aside0 (Kd.S (Kd.slice 3 (Kd.int .i64)) 46 w' w.heap.size (fun k_ => some k_ ≠ (v5 : Value).ownBlock ∧ some k_ ≠ (v8 : Value).ownBlock) (.slice (some ad108) t105.length co9) t105) ∧ Aside0 (w'.heap[gb101]? = some (.cells #[.int .i64 a0_0, .int .i64 a0_1, (.slice A0_2 l0_2.length c0_2)] 42 (0, 0))) ∧ Aside0 (Kd.R (Kd.int .i64) 3 w' w.heap.size (fun k_ => some k_ ≠ (v8 : Value).ownBlock) (.slice A108_0 (rdS t105 x16_1).length c108_0) (rdS t105 x16_1)) ∧ Aside0 (Below w.heap.size w w'))
      case atStart => exact ⟨(x5_1), (y109), (0), (by first | rfl | (simp; done) | (simp [*]; done)), H', ⟨Nat.le_refl _⟩, ⟨by (with_reducible repeat (first | apply Kd.S_alloc | apply Kd.S_drewN | apply Kd.S_drew)); exact Kd.S_mono HO_5.out (fun _ hk => ⟨hk.2, hk.1⟩)⟩, ⟨by (with_reducible repeat (first | apply Kd.R_alloc | apply Kd.R_drewN | apply Kd.R_drew)); exact Kd.R_mono HO111.out (fun _ hk => trivial)⟩, ⟨by (with_reducible repeat (first | apply Kd.S_alloc | apply Kd.S_drewN | apply Kd.S_drew)); (first | exact HO_14.out | exact R_any HO_14.out)⟩, ⟨blc⟩, ⟨by (with_reducible repeat (first | apply Kd.R_alloc | apply Kd.R_drewN | apply Kd.R_drew)); exact Kd.R_mono HL108_0.out (fun _ hk => hk.2)⟩, ⟨bel HB⟩⟩
      case round =>
       clear H'
       try clear c1
       try clear p1
       try clear q1
       try clear hx1
       try clear p2
       try clear c3
       try clear c5
       try clear c10
       try clear c10b0
       try clear c10b0y
       try clear p10
       try clear q10
       try clear hx10
       try clear c11
       try clear c11b0
       try clear c11b0y
       try clear c12
       try clear c12b0
       try clear c12b0y
       try clear hcz7_0
       try clear hcz7_1
       try clear hcz7_2
       try clear hfz7_0
       try clear hfz7_1
       try clear hfz7_2
       try clear hx108_0
       try clear p108
       try clear p2
       try clear q108
       obtain ⟨x5_2, x8_2, x23_2, rfl, HA, HK2, HO_5, HO_8, HO_14, BK101, HL108_0, HB⟩ := hrel
       have HR108_0 := Aside0.mk (Kd.R_reads' HL108_0.out).2.2
       cases gk with
       | zero => exact absurd HA.out (by simp [impl_tray_stretches.l1])
       | succ k2 =>
        have H := HA.out
        clear HA
        simp only [impl_tray_stretches.l1] at H
        by_cases c15 : x23_2 < ((rdS t105 x16_1).length : Int)
        ·rw [if_pos c15] at H
         have c15b0 : decide (x23_2 < ((rdS t105 x16_1).length : Int)) = true := decide_eq_true c15
         clear c15
         by_cases c16 : 0 ≤ x23_2
         ·rw [if_pos c16] at H
          have c16b0 : decide (0 ≤ x23_2) = true := decide_eq_true c16
          clear c16
          by_cases c17 : x23_2 < ((rdS t105 x16_1).length : Int)
          ·rw [if_pos c17] at H
           have c17b0 : decide (x23_2 < ((rdS t105 x16_1).length : Int)) = true := decide_eq_true c17
           clear c17
           by_cases c18 : 0 ≤ (rd (rdS t105 x16_1) x23_2)
           ·rw [if_pos c18] at H
            have c18b0 : decide (0 ≤ (rd (rdS t105 x16_1) x23_2)) = true := decide_eq_true c18
            clear c18
            by_cases c19 : (rd (rdS t105 x16_1) x23_2) < (l0_2.length : Int)
            ·rw [if_pos c19] at H
             have c19b0 : decide ((rd (rdS t105 x16_1) x23_2) < (l0_2.length : Int)) = true := decide_eq_true c19
             clear c19
             by_cases c20 : (rd l0_2 (rd (rdS t105 x16_1) x23_2)) = 35
             ·rw [if_pos c20] at H
              have c20b0 : ((rd l0_2 (rd (rdS t105 x16_1) x23_2)) == 35) = true := beq_iff_eq.mpr c20
              have c20b1 : ((rd l0_2 (rd (rdS t105 x16_1) x23_2)) != 35) = false := bne_eq_false_iff_eq.mpr c20
              clear c20
              by_cases c21 : (x8_2.length : Int) > 0
              ·rw [if_pos c21] at H
               have c21b0 : decide (0 < (x8_2.length : Int)) = true := decide_eq_true c21
               have c21b1 : decide (0 < x8_2.length) = true := decide_eq_true (by omega)
               clear c21
               by_cases c22 : x5_2.length < 5864062014805
               ·rw [if_pos c22] at H
                have LMc22 := Aside0.mk c22
                clear c22
                obtain ⟨y117, hy117⟩ : ∃ y_ : List (List Int), y_ = (x5_2 ++ [x8_2]) := ⟨_, rfl⟩
                replace H : (impl_tray_stretches.l1 k2 y117 ([] : List Int) t105 (t105.length : Int) x16_1 (rdS t105 x16_1) ((rdS t105 x16_1).length : Int) (wrap64 (x23_2 + 1)) a0_0 a0_1 l0_2) = some r := rH hy117 H
                have Ny117 := Aside0.mk hy117
                clear hy117
                have H' := Aside0.mk H
                clear H
                have p115 : 0 ≤ (x23_2 : Int) := of_decide_eq_true (by first | (with_reducible assumption) | assumption)
                have q115 : x23_2 < ((rdS t105 x16_1).length : Int) := of_decide_eq_true (by first | (with_reducible assumption) | assumption)
                obtain ⟨ad115, e115, hx115_0⟩ := Kd.at_int HR108_0.out x23_2 p115 q115
                cases e115
                (try replace hx115_0 := (HB.out.cell (World.block_lt_of_cell? w _ hx115_0)).trans hx115_0)
                replace p115 := eq_true p115
                replace q115 := eq_true q115
                have hcz23_0 : wr.cell? ⟨gb101, 0, none⟩ = some (.int .i64 a0_0) := (blk_cell BK101.out 0).trans rfl
                have hcz23_1 : wr.cell? ⟨gb101, 1, none⟩ = some (.int .i64 a0_1) := (blk_cell BK101.out 1).trans rfl
                have hcz23_2 : wr.cell? ⟨gb101, 2, none⟩ = some (.slice A0_2 l0_2.length c0_2) := (blk_cell BK101.out 2).trans rfl
                have hfz23_0 := blk_frozen BK101.out 0
                have hfz23_1 := blk_frozen BK101.out 1
                have hfz23_2 := blk_frozen BK101.out 2
                have p116 : 0 ≤ ((rd (rdS t105 x16_1) x23_2) : Int) := of_decide_eq_true (by first | (with_reducible assumption) | assumption)
                have q116 : (rd (rdS t105 x16_1) x23_2) < (l0_2.length : Int) := of_decide_eq_true (by first | (with_reducible assumption) | assumption)
                obtain ⟨ad116, e116, hx116_0⟩ := Kd.at_int HR0_2.out (rd (rdS t105 x16_1) x23_2) p116 q116
                cases e116
                (try replace hx116_0 := (HB.out.cell (World.block_lt_of_cell? w _ hx116_0)).trans hx116_0)
                replace p116 := eq_true p116
                replace q116 := eq_true q116
                obtain ⟨Ao24, co24, eo24⟩ := Kd.R_slice HO_8.out
                subst eo24
                go_wp2_with (first | ((with_reducible refine gate_builtin (b := .append) (xs := #[.tmp 40, .tmp 42]) rfl ?_); at_builtin; refine Kd.S_append (Kd.slice 3 (Kd.int .i64)) (w0 := w) w.heap.size rfl (.tmp 40) (.tmp 42) 22 46 (.slice none 0 0) 24 rfl Tryd.underlying22 info46 rfl (by decide) (by omega) u5 x5_2 x8_2 [.slice Ao24 x8_2.length co24] (fun k_ => some k_ ≠ (.slice (some ad108) t105.length co9 : Value).ownBlock) (fun k_ => some k_ = (.slice Ao24 x8_2.length co24 : Value).ownBlock) rfl rfl ?aP (fun k_ hk_ => ((Kd.R_mono (ok' := fun k_ => ((fun k_ => some k_ ≠ (.slice (some ad108) t105.length co9 : Value).ownBlock)) k_ ∧ some k_ ≠ (u5 : Value).ownBlock) (Kd.R_apart' (Kd.R_apart' (HO_8.out) (Kd.S_typed HO_14.out) (by decide)) (Kd.S_typed HO_5.out) (by decide)) (fun k_ hk => ⟨hk.1.2, hk.2⟩))).1 k_ hk_.symm) ?aF ?aO ?aB ?aS ?aL ?_; (case aP => exact Kd.M_row (Kd.R_mono (Kd.R_tight rfl (Kd.R_mono (ok' := fun k_ => ((fun k_ => some k_ ≠ (.slice (some ad108) t105.length co9 : Value).ownBlock)) k_ ∧ some k_ ≠ (u5 : Value).ownBlock) (Kd.R_apart' (Kd.R_apart' (HO_8.out) (Kd.S_typed HO_14.out) (by decide)) (Kd.S_typed HO_5.out) (by decide)) (fun k_ hk => ⟨hk.1.2, hk.2⟩))) (fun _ h_ => h_))); (case aB => exact (bel HB)); (case aF => exact (fun k_ hk => Kd.fresh' (Kd.S_lt (by (with_reducible repeat (first | apply Kd.S_alloc | apply Kd.S_drewN | apply Kd.S_drew)); (first | exact HO_14.out | exact R_any HO_14.out))) k_ hk)); (case aO => exact (by (with_reducible repeat (first | apply Kd.S_alloc | apply Kd.S_drewN | apply Kd.S_drew)); exact Kd.S_mono HO_5.out (fun k_ hk => ⟨hk.2, fun e_ => hk.1 e_⟩))); (case aS => exact (below_size (bel HB))); (case aL => have := LMc22.out; omega); intro v118 w25 ho hb hg hat; rw [← Ny117.out] at ho; have n0_ := Aside0.mk (Kd.S_after (ok := (fun k_ => some k_ ≠ (.slice Ao24 x8_2.length co24 : Value).ownBlock)) (by (with_reducible repeat (first | apply Kd.S_alloc | apply Kd.S_drewN | apply Kd.S_drew)); exact Kd.S_mono HO_14.out (fun _ hk => ⟨hk.2, hk.1⟩)) hg hat); have n1_ := Aside0.mk (blk_grown (g := gb101) (o := .cells #[.int .i64 a0_0, .int .i64 a0_1, .slice (some ad116) l0_2.length c0_2] 42 (0, 0)) blc hg (Kd.S_ne HO_5.out BK101.out (by decide))); have n2_ := Aside0.mk (Kd.R_over' (by (with_reducible repeat (first | apply Kd.R_alloc | apply Kd.R_drewN | apply Kd.R_drew)); exact HL108_0.out) (Kd.S_typed (by (with_reducible repeat (first | apply Kd.S_alloc | apply Kd.S_drewN | apply Kd.S_drew)); (first | exact HO_5.out | exact R_any HO_5.out))) (by decide) hg); have n3_ := Aside0.mk (hb); have n4_ := Aside0.mk (ho); clear HO_14; clear BK101; clear HL108_0; clear HB; clear HO_5; clear HO_8; have HO_14 := n0_; have BK101 := n1_; have HL108_0 := n2_; have HB := n3_; have HO119 := n4_; clear n0_ n1_ n2_ n3_ n4_; clear ho hb hg hat))
                go_roundg k2
                case measure => have := HK1.out; have := HK2.out; omega
                case rel => exact ⟨(y117), (([] : List Int)), (wrap64 (x23_2 + 1)), (by first | rfl | (simp; done) | (simp [*]; done)), H', ⟨by have := HK1.out; have := HK2.out; omega⟩, ⟨by (with_reducible repeat (first | apply Kd.S_alloc | apply Kd.S_drewN | apply Kd.S_drew)); exact Kd.S_mono HO119.out (fun _ hk => ⟨(by simp [Value.ownBlock]), hk⟩)⟩, ⟨by first | exact Kd.R_nil _ _ _ _ _ | exact Kd.N_nil _ _ _ _ _ | exact Kd.V_nil _ _ _ _ _ | exact Kd.Q_nil _ _ _ _ _ | exact Kd.S_nil _ _ _ _ _⟩, ⟨by (with_reducible repeat (first | apply Kd.S_alloc | apply Kd.S_drewN | apply Kd.S_drew)); exact Kd.S_mono HO_14.out (fun _ hk => ⟨hk.2, (by simp [Value.ownBlock])⟩)⟩, ⟨blc⟩, ⟨by (with_reducible repeat (first | apply Kd.R_alloc | apply Kd.R_drewN | apply Kd.R_drew)); exact Kd.R_mono HL108_0.out (fun _ hk => (by simp [Value.ownBlock]))⟩, ⟨bel HB⟩⟩
               ·rw [if_neg c22] at H
                exact absurd H (by simp)
              ·rw [if_neg c21] at H
               have c21b0 : decide (0 < (x8_2.length : Int)) = false := decide_eq_false c21
               have c21b1 : decide (0 < x8_2.length) = false := decide_eq_false (by omega)
               clear c21
               have H' := Aside0.mk H
               clear H
               have p115 : 0 ≤ (x23_2 : Int) := of_decide_eq_true (by first | (with_reducible assumption) | assumption)
               have q115 : x23_2 < ((rdS t105 x16_1).length : Int) := of_decide_eq_true (by first | (with_reducible assumption) | assumption)
               obtain ⟨ad115, e115, hx115_0⟩ := Kd.at_int HR108_0.out x23_2 p115 q115
               cases e115
               (try replace hx115_0 := (HB.out.cell (World.block_lt_of_cell? w _ hx115_0)).trans hx115_0)
               replace p115 := eq_true p115
               replace q115 := eq_true q115
               have hcz26_0 : wr.cell? ⟨gb101, 0, none⟩ = some (.int .i64 a0_0) := (blk_cell BK101.out 0).trans rfl
               have hcz26_1 : wr.cell? ⟨gb101, 1, none⟩ = some (.int .i64 a0_1) := (blk_cell BK101.out 1).trans rfl
               have hcz26_2 : wr.cell? ⟨gb101, 2, none⟩ = some (.slice A0_2 l0_2.length c0_2) := (blk_cell BK101.out 2).trans rfl
               have hfz26_0 := blk_frozen BK101.out 0
               have hfz26_1 := blk_frozen BK101.out 1
               have hfz26_2 := blk_frozen BK101.out 2
               have p116 : 0 ≤ ((rd (rdS t105 x16_1) x23_2) : Int) := of_decide_eq_true (by first | (with_reducible assumption) | assumption)
               have q116 : (rd (rdS t105 x16_1) x23_2) < (l0_2.length : Int) := of_decide_eq_true (by first | (with_reducible assumption) | assumption)
               obtain ⟨ad116, e116, hx116_0⟩ := Kd.at_int HR0_2.out (rd (rdS t105 x16_1) x23_2) p116 q116
               cases e116
               (try replace hx116_0 := (HB.out.cell (World.block_lt_of_cell? w _ hx116_0)).trans hx116_0)
               replace p116 := eq_true p116
               replace q116 := eq_true q116
               obtain ⟨Ao27, co27, eo27⟩ := Kd.R_slice HO_8.out
               subst eo27
               go_wp2
               go_roundg k2
               case measure => have := HK1.out; have := HK2.out; omega
               case rel => exact ⟨(x5_2), (x8_2), (wrap64 (x23_2 + 1)), (by first | rfl | (simp; done) | (simp [*]; done)), H', ⟨by have := HK1.out; have := HK2.out; omega⟩, ⟨by (with_reducible repeat (first | apply Kd.S_alloc | apply Kd.S_drewN | apply Kd.S_drew)); (first | exact HO_5.out | exact R_any HO_5.out)⟩, ⟨rch HO_8⟩, ⟨by (with_reducible repeat (first | apply Kd.S_alloc | apply Kd.S_drewN | apply Kd.S_drew)); (first | exact HO_14.out | exact R_any HO_14.out)⟩, ⟨blc⟩, ⟨by (with_reducible repeat (first | apply Kd.R_alloc | apply Kd.R_drewN | apply Kd.R_drew)); exact HL108_0.out⟩, ⟨bel HB⟩⟩
             ·rw [if_neg c20] at H
              have c20b0 : ((rd l0_2 (rd (rdS t105 x16_1) x23_2)) == 35) = false := beq_eq_false_iff_ne.mpr c20
              have c20b1 : ((rd l0_2 (rd (rdS t105 x16_1) x23_2)) != 35) = true := bne_iff_ne.mpr c20
              by_cases c28 : x8_2.length < 17592186044416
              ·rw [if_pos c28] at H
               have LMc28 := Aside0.mk c28
               clear c28
               obtain ⟨y120, hy120⟩ : ∃ y_ : List Int, y_ = (x8_2 ++ [rd (rdS t105 x16_1) x23_2]) := ⟨_, rfl⟩
               replace H : (impl_tray_stretches.l1 k2 x5_2 y120 t105 (t105.length : Int) x16_1 (rdS t105 x16_1) ((rdS t105 x16_1).length : Int) (wrap64 (x23_2 + 1)) a0_0 a0_1 l0_2) = some r := rH hy120 H
               have Ny120 := Aside0.mk hy120
               clear hy120
               have H' := Aside0.mk H
               clear H
               have p115 : 0 ≤ (x23_2 : Int) := of_decide_eq_true (by first | (with_reducible assumption) | assumption)
               have q115 : x23_2 < ((rdS t105 x16_1).length : Int) := of_decide_eq_true (by first | (with_reducible assumption) | assumption)
               obtain ⟨ad115, e115, hx115_0⟩ := Kd.at_int HR108_0.out x23_2 p115 q115
               cases e115
               (try replace hx115_0 := (HB.out.cell (World.block_lt_of_cell? w _ hx115_0)).trans hx115_0)
               replace p115 := eq_true p115
               replace q115 := eq_true q115
               have hcz29_0 : wr.cell? ⟨gb101, 0, none⟩ = some (.int .i64 a0_0) := (blk_cell BK101.out 0).trans rfl
               have hcz29_1 : wr.cell? ⟨gb101, 1, none⟩ = some (.int .i64 a0_1) := (blk_cell BK101.out 1).trans rfl
               have hcz29_2 : wr.cell? ⟨gb101, 2, none⟩ = some (.slice A0_2 l0_2.length c0_2) := (blk_cell BK101.out 2).trans rfl
               have hfz29_0 := blk_frozen BK101.out 0
               have hfz29_1 := blk_frozen BK101.out 1
               have hfz29_2 := blk_frozen BK101.out 2
               have p116 : 0 ≤ ((rd (rdS t105 x16_1) x23_2) : Int) := of_decide_eq_true (by first | (with_reducible assumption) | assumption)
               have q116 : (rd (rdS t105 x16_1) x23_2) < (l0_2.length : Int) := of_decide_eq_true (by first | (with_reducible assumption) | assumption)
               obtain ⟨ad116, e116, hx116_0⟩ := Kd.at_int HR0_2.out (rd (rdS t105 x16_1) x23_2) p116 q116
               cases e116
               (try replace hx116_0 := (HB.out.cell (World.block_lt_of_cell? w _ hx116_0)).trans hx116_0)
               replace p116 := eq_true p116
               replace q116 := eq_true q116
               go_wp2_with (first | ((with_reducible refine gate_builtin (b := .append) (xs := #[.tmp 33, .tmp 35]) rfl ?_); at_builtin; refine Kd.R_append (Kd.int .i64) (w0 := w) w.heap.size rfl (.tmp 33) (.tmp 35) 46 3 (.int .i64 0) 8 rfl Tryd.underlying46 info3 rfl (by decide) (by omega) u8 x8_2 (rd (rdS t105 x16_1) x23_2) [.int .i64 (rd (rdS t105 x16_1) x23_2)] (fun _ => True) (fun _ => False) rfl rfl ?aP (fun _ hk => hk.elim) ?aF ?aO ?aB ?aS ?aL ?_; (case aP => exact rfl); (case aB => exact (bel HB)); (case aF => exact (fun _ _ => trivial)); (case aO => exact (rch HO_8)); (case aS => exact (below_size (bel HB))); (case aL => have := LMc28.out; omega); intro v121 w30 ho hb hg hat; rw [← Ny120.out] at ho; have n0_ := Aside0.mk (Kd.S_after (ok := (fun k_ => some k_ ≠ (.slice (some ad108) t105.length co9 : Value).ownBlock)) (by (with_reducible repeat (first | apply Kd.S_alloc | apply Kd.S_drewN | apply Kd.S_drew)); exact Kd.S_mono HO_5.out (fun _ hk => ⟨hk.2, hk.1⟩)) hg hat); have n1_ := Aside0.mk (Kd.S_after (ok := (fun k_ => some k_ ≠ (u5 : Value).ownBlock)) (by (with_reducible repeat (first | apply Kd.S_alloc | apply Kd.S_drewN | apply Kd.S_drew)); (first | exact HO_14.out | exact R_any HO_14.out)) hg hat); have n2_ := Aside0.mk (blk_grown (g := gb101) (o := .cells #[.int .i64 a0_0, .int .i64 a0_1, .slice (some ad116) l0_2.length c0_2] 42 (0, 0)) blc hg (Kd.R_ne HO_8.out BK101.out (by decide))); have n3_ := Aside0.mk (Kd.R_after (ok := (fun _ => True)) (by (with_reducible repeat (first | apply Kd.R_alloc | apply Kd.R_drewN | apply Kd.R_drew)); exact Kd.R_mono HL108_0.out (fun _ hk => ⟨trivial, hk⟩)) hg hat); have n4_ := Aside0.mk (hb); have n5_ := Aside0.mk (ho); clear HO_5; clear HO_14; clear BK101; clear HL108_0; clear HB; clear HO_8; have HO_5 := n0_; have HO_14 := n1_; have BK101 := n2_; have HL108_0 := n3_; have HB := n4_; have HO122 := n5_; clear n0_ n1_ n2_ n3_ n4_ n5_; clear ho hb hg hat))
               go_roundg k2
               case measure => have := HK1.out; have := HK2.out; omega
               case rel => exact ⟨(x5_2), (y120), (wrap64 (x23_2 + 1)), (by first | rfl | (simp; done) | (simp [*]; done)), H', ⟨by have := HK1.out; have := HK2.out; omega⟩, ⟨by (with_reducible repeat (first | apply Kd.S_alloc | apply Kd.S_drewN | apply Kd.S_drew)); exact Kd.S_mono HO_5.out (fun _ hk => ⟨hk.2, hk.1⟩)⟩, ⟨rch HO122⟩, ⟨by (with_reducible repeat (first | apply Kd.S_alloc | apply Kd.S_drewN | apply Kd.S_drew)); (first | exact HO_14.out | exact R_any HO_14.out)⟩, ⟨blc⟩, ⟨by (with_reducible repeat (first | apply Kd.R_alloc | apply Kd.R_drewN | apply Kd.R_drew)); exact Kd.R_mono HL108_0.out (fun _ hk => hk.2)⟩, ⟨bel HB⟩⟩
              ·rw [if_neg c28] at H
               exact absurd H (by simp)
            ·rw [if_neg c19] at H
             exact absurd H (by simp)
           ·rw [if_neg c18] at H
            exact absurd H (by simp)
          ·rw [if_neg c17] at H
           exact absurd H (by simp)
         ·rw [if_neg c16] at H
          exact absurd H (by simp)
        ·rw [if_neg c15] at H
         have c15b0 : decide (x23_2 < ((rdS t105 x16_1).length : Int)) = false := decide_eq_false c15
         clear c15
         by_cases c31 : (x8_2.length : Int) > 0
         ·rw [if_pos c31] at H
          have c31b0 : decide (0 < (x8_2.length : Int)) = true := decide_eq_true c31
          have c31b1 : decide (0 < x8_2.length) = true := decide_eq_true (by omega)
          clear c31
          by_cases c32 : x5_2.length < 5864062014805
          ·rw [if_pos c32] at H
           have LMc32 := Aside0.mk c32
           clear c32
           obtain ⟨y112, hy112⟩ : ∃ y_ : List (List Int), y_ = (x5_2 ++ [x8_2]) := ⟨_, rfl⟩
           replace H : (impl_tray_stretches.l0 k2 y112 t105 (t105.length : Int) (wrap64 (x16_1 + 1)) a0_0 a0_1 l0_2) = some r := rH hy112 H
           have Ny112 := Aside0.mk hy112
           clear hy112
           have H' := Aside0.mk H
           clear H
           obtain ⟨Ao33, co33, eo33⟩ := Kd.R_slice HO_8.out
           subst eo33
           go_wp2_with (first | ((with_reducible refine gate_builtin (b := .append) (xs := #[.tmp 48, .tmp 50]) rfl ?_); at_builtin; refine Kd.S_append (Kd.slice 3 (Kd.int .i64)) (w0 := w) w.heap.size rfl (.tmp 48) (.tmp 50) 22 46 (.slice none 0 0) 24 rfl Tryd.underlying22 info46 rfl (by decide) (by omega) u5 x5_2 x8_2 [.slice Ao33 x8_2.length co33] (fun k_ => some k_ ≠ (.slice (some ad108) t105.length co9 : Value).ownBlock) (fun k_ => some k_ = (.slice Ao33 x8_2.length co33 : Value).ownBlock) rfl rfl ?aP (fun k_ hk_ => ((Kd.R_mono (ok' := fun k_ => ((fun k_ => some k_ ≠ (.slice (some ad108) t105.length co9 : Value).ownBlock)) k_ ∧ some k_ ≠ (u5 : Value).ownBlock) (Kd.R_apart' (Kd.R_apart' (HO_8.out) (Kd.S_typed HO_14.out) (by decide)) (Kd.S_typed HO_5.out) (by decide)) (fun k_ hk => ⟨hk.1.2, hk.2⟩))).1 k_ hk_.symm) ?aF ?aO ?aB ?aS ?aL ?_; (case aP => exact Kd.M_row (Kd.R_mono (Kd.R_tight rfl (Kd.R_mono (ok' := fun k_ => ((fun k_ => some k_ ≠ (.slice (some ad108) t105.length co9 : Value).ownBlock)) k_ ∧ some k_ ≠ (u5 : Value).ownBlock) (Kd.R_apart' (Kd.R_apart' (HO_8.out) (Kd.S_typed HO_14.out) (by decide)) (Kd.S_typed HO_5.out) (by decide)) (fun k_ hk => ⟨hk.1.2, hk.2⟩))) (fun _ h_ => h_))); (case aB => exact (bel HB)); (case aF => exact (fun k_ hk => Kd.fresh' (Kd.S_lt (by (with_reducible repeat (first | apply Kd.S_alloc | apply Kd.S_drewN | apply Kd.S_drew)); (first | exact HO_14.out | exact R_any HO_14.out))) k_ hk)); (case aO => exact (by (with_reducible repeat (first | apply Kd.S_alloc | apply Kd.S_drewN | apply Kd.S_drew)); exact Kd.S_mono HO_5.out (fun k_ hk => ⟨hk.2, fun e_ => hk.1 e_⟩))); (case aS => exact (below_size (bel HB))); (case aL => have := LMc32.out; omega); intro v113 w34 ho hb hg hat; rw [← Ny112.out] at ho; have n0_ := Aside0.mk (Kd.S_after (ok := (fun k_ => some k_ ≠ (.slice Ao33 x8_2.length co33 : Value).ownBlock)) (by (with_reducible repeat (first | apply Kd.S_alloc | apply Kd.S_drewN | apply Kd.S_drew)); exact Kd.S_mono HO_14.out (fun _ hk => ⟨hk.2, hk.1⟩)) hg hat); have n1_ := Aside0.mk (blk_grown (g := gb101) (o := .cells #[.int .i64 a0_0, .int .i64 a0_1, .slice A0_2 l0_2.length c0_2] 42 (0, 0)) blc hg (Kd.S_ne HO_5.out BK101.out (by decide))); have n2_ := Aside0.mk (Kd.R_over' (by (with_reducible repeat (first | apply Kd.R_alloc | apply Kd.R_drewN | apply Kd.R_drew)); exact HL108_0.out) (Kd.S_typed (by (with_reducible repeat (first | apply Kd.S_alloc | apply Kd.S_drewN | apply Kd.S_drew)); (first | exact HO_5.out | exact R_any HO_5.out))) (by decide) hg); have n3_ := Aside0.mk (hb); have n4_ := Aside0.mk (ho); clear HO_14; clear BK101; clear HL108_0; clear HB; clear HO_5; clear HO_8; have HO_14 := n0_; have BK101 := n1_; have HL108_0 := n2_; have HB := n3_; have HO114 := n4_; clear n0_ n1_ n2_ n3_ n4_; clear ho hb hg hat))
           go_roundg k2
           case measure => have := HK1.out; have := HK2.out; omega
           case rel => exact ⟨(y112), (wrap64 (x16_1 + 1)), (by first | rfl | (simp; done) | (simp [*]; done)), H', ⟨by have := HK1.out; have := HK2.out; omega⟩, ⟨by (with_reducible repeat (first | apply Kd.S_alloc | apply Kd.S_drewN | apply Kd.S_drew)); (first | exact HO114.out | exact R_any HO114.out)⟩, ⟨by (with_reducible repeat (first | apply Kd.S_alloc | apply Kd.S_drewN | apply Kd.S_drew)); exact Kd.S_mono HO_14.out (fun _ hk => hk.2)⟩, ⟨blc⟩, ⟨bel HB⟩⟩
          ·rw [if_neg c32] at H
           exact absurd H (by simp)
         ·rw [if_neg c31] at H
          have c31b0 : decide (0 < (x8_2.length : Int)) = false := decide_eq_false c31
          have c31b1 : decide (0 < x8_2.length) = false := decide_eq_false (by omega)
          clear c31
          have H' := Aside0.mk H
          clear H
          obtain ⟨Ao35, co35, eo35⟩ := Kd.R_slice HO_8.out
          subst eo35
          go_wp2
          go_roundg k2
          case measure => have := HK1.out; have := HK2.out; omega
          case rel => exact ⟨(x5_2), (wrap64 (x16_1 + 1)), (by first | rfl | (simp; done) | (simp [*]; done)), H', ⟨by have := HK1.out; have := HK2.out; omega⟩, ⟨by (with_reducible repeat (first | apply Kd.S_alloc | apply Kd.S_drewN | apply Kd.S_drew)); exact Kd.S_mono HO_5.out (fun _ hk => hk.2)⟩, ⟨by (with_reducible repeat (first | apply Kd.S_alloc | apply Kd.S_drewN | apply Kd.S_drew)); exact Kd.S_mono HO_14.out (fun _ hk => hk.1)⟩, ⟨blc⟩, ⟨bel HB⟩⟩
     ·rw [if_neg c12] at H
      exact absurd H (by simp)
    ·rw [if_neg c11] at H
     exact absurd H (by simp)
   ·rw [if_neg c10] at H
    have c10b0 : decide (x16_1 < (t105.length : Int)) = false := decide_eq_false c10
    clear c10
    have A36 := Aside0.mk H
    obtain ⟨Ao37, co37, eo37⟩ := Kd.S_slice HO_5.out
    subst eo37
    go_wp2_with (first | ((with_reducible refine gate_callee (f := 47) rfl ?_); refine gcall (some 54) Tryd.func47 #[.slice Ao37 x5_1.length co37, .func (.func 48) #[] #[]] rfl ?_; (with_reducible refine (slices_SortFunc_str.calls (fun _ => True) _ x5_1 r w _ (bel HB) ?side1 A36.out).mono ?_); (case side1 => exact (by (with_reducible repeat (first | apply Kd.S_alloc | apply Kd.S_drewN | apply Kd.S_drew)); exact Kd.S_mono HO_5.out (fun _ hk => trivial))); rintro e w38 ⟨rfl, ho, hb⟩; refine ⟨_, rfl, ?_⟩; clear HO_5 HO_14 BK101 HB; have HO_5 := Aside0.mk ho; have HB := Aside0.mk hb))
    go_ret
    exact ⟨_, by first | rfl | (simp [errW_none, errW_some] <;> rfl) | (simp [*, errW_none, errW_some] <;> rfl), by (with_reducible repeat (first | apply Kd.S_alloc | apply Kd.S_drewN | apply Kd.S_drew)); exact Kd.S_mono HO_5.out (fun _ hk => trivial), bel HB⟩
end Go.Proofs.YtcpeldgnabfdmaaDoor.Q
end
section
namespace Go.Proofs.YtcpeldgnabfdmaaDoor.Q
open Go.RowKit Go.Shelf Go.Proofs.YtcpeldgnabfdmaaDoorW.PrintWords Go.Proofs.YtcpeldgnabfdmaaDoorW.PrintLast Go.Proofs.YtcpeldgnabfdmaaDoorW.PrintMore
def sep1 : ByteArray := ⟨#[47]⟩
def rowsL (s : ByteArray) : List ByteArray := Lib.splitB sep1 0 (Lib.countB s sep1) s
def joinedB (s : ByteArray) : ByteArray := ⟨(Lib.join ((rowsL s).map (·.data.toList)) []).toArray⟩
theorem rowsL_map (s : ByteArray) : (rowsL s).map (·.data.toList) = rows 47 s.data.toList := by
 unfold rowsL
 rw [Lib.splitB_data]
 have h : Lib.countB s sep1 = s.data.toList.count 47 := Lib.count_one 47 s.data.toList
 rw [h]
 exact splitK_rows 47 _ _ rfl
theorem join_none (xs : List (List UInt8)) : Lib.join xs [] = xs.flatten := by
 unfold Lib.join
 induction xs with
 | nil => rfl
 | cons x xs ih =>
  cases xs with
  | nil => simp [List.intercalate]
  | cons y ys =>
   simp only [List.intercalate, List.intersperse] at ih ⊢
   simpa using ih
theorem joinedB_list (s : ByteArray) : (joinedB s).data.toList = (rows 47 s.data.toList).flatten := by
 unfold joinedB
 rw [rowsL_map, join_none]
theorem joinedB_size (s : ByteArray) : (joinedB s).size ≤ s.size := by
 have h := rows_flat 47 s.data.toList
 rw [← joinedB_list] at h
 simpa using h
def impl_read.f (a0 : ByteArray) : Option (Int × Int × List Int) := if a0.size ≤ 1048576 then some (((rowsL a0).getD 0 ByteArray.empty).size, (rowsL a0).length, bytesOf (joinedB a0)) else none
def slotV (w : World) (a : Addr) : Value := (w.cell? a).getD undef
theorem slotV_def (w : World) (a : Addr) : slotV w a = (w.cell? a).getD undef := rfl
structure SR (w : World) (ad : Addr) (n : Nat) (xs : List ByteArray) (w' : World) : Prop where
 below : Below w.heap.size w w'
 slot : ∃ cs, cs.size = 3 ∧ w'.heap[w.heap.size]? = some (.cells cs 42 (0, 0))
 reads : Kd.C Kd.string w' (some ad) n xs
 apart : ad.block ≠ w.heap.size
section
variable {w : World} {ad : Addr} {n : Nat} {xs : List ByteArray} {w1 w2 : World}
theorem SR.step (h : SR w ad n xs w1) (hb : Below w1.heap.size w1 w2) : SR w ad n xs w2 := by
 obtain ⟨cs, hc, hs⟩ := h.slot
 exact ⟨below_then h.below h.below.size hb, ⟨cs, hc, (hb.block _ (blk_lt hs)).trans hs⟩, Kd.C_below h.reads hb, h.apart⟩
theorem SR.drew (h : SR w ad n xs w1) : SR w ad n xs w1.drew := h.step (below_drew (Below.refl _ _))
theorem SR.bytes (h : SR w ad n xs w1) (e : TypeId) (s : ByteArray) : SR w ad n xs (Lib.bytesWorld w1 e s) :=
 h.step ⟨rfl, rfl, rfl, by rw [Lib.bytesWorld_size]; omega, fun i hi => Lib.bytesWorld_at_old w1 e s i hi⟩
theorem three_set {cs : Array Value} (h : cs.size = 3) {a b c : Value} : ((cs.setIfInBounds 0 a).setIfInBounds 1 b).setIfInBounds 2 c = #[a, b, c] := by
 obtain ⟨l⟩ := cs
 match l, h with
 | [_, _, _], _ => rfl
def SRC (w : World) (ad : Addr) (n : Nat) (xs : List ByteArray) (w1 : World) : Prop := SR w ad n xs w1
theorem slotV_of {w1 : World} {g j : Nat} {cs : Array Value} (h : w1.heap[g]? = some (.cells cs 42 (0, 0))) (hj : j < cs.size) : w1.cell? ⟨g, j, none⟩ = some (slotV w1 ⟨g, j, none⟩) := by
 rw [slotV_def, blk_cell h j, Array.getElem?_eq_getElem hj]
 rfl
theorem SR.all (h : SR w ad n xs w1) (hn : 0 < xs.length) :
  w1.cell? ad = some (.string (xs.getD 0 ByteArray.empty)) ∧ w1.cell? ⟨w.heap.size, 0, none⟩ = some (slotV w1 ⟨w.heap.size, 0, none⟩) ∧ w1.cell? ⟨w.heap.size, 1, none⟩ = some (slotV w1 ⟨w.heap.size, 1, none⟩) ∧ w1.cell? ⟨w.heap.size, 2, none⟩ = some (slotV w1 ⟨w.heap.size, 2, none⟩) ∧
  w1.frozen? ⟨w.heap.size, 0, none⟩ = false ∧ w1.frozen? ⟨w.heap.size, 1, none⟩ = false ∧ w1.frozen? ⟨w.heap.size, 2, none⟩ = false ∧ SRC w ad n xs w1 := by
 obtain ⟨ad', e, hx⟩ := Kd.at_string h.reads 0 (by omega) (by have := h.reads.1; omega)
 injection e with e
 subst e
 obtain ⟨cs, hc, hs⟩ := h.slot
 exact ⟨by simpa [Addr.add, rdOf] using hx, slotV_of hs (by omega), slotV_of hs (by omega), slotV_of hs (by omega), blk_frozen hs 0, blk_frozen hs 1, blk_frozen hs 2, h⟩
end
set_option maxHeartbeats 4000000 in
set_option maxRecDepth 100000 in
theorem impl_read.calls (a0 : ByteArray) (r1 r2 : Int) (r3 : List Int) (w : World) (hG : GoodW w) (h : impl_read.f a0 = some (r1, r2, r3)) :
  Calls Tryd.prog 24 #[.string a0] w fun e w' => ∃ v2_ : Value, e = .returned (.agg #[.int .i64 r1, .int .i64 r2, v2_]) ∧ Kd.V (Kd.int .u8) 5 w' w.heap.size (fun k_ => w.heap.size ≤ k_) v2_ r3 ∧ Below w.heap.size w w' := by
 unfold impl_read.f at h
 split at h
 case isFalse => cases h
 rename_i hsz
 simp only [Option.some.injEq, Prod.mk.injEq] at h
 obtain ⟨rfl, rfl, rfl⟩ := h
 have HG := Aside0.mk hG
 have hsp : strings_Split.f a0 sep1 = some (rowsL a0) := by
  unfold strings_Split.f
  rw [if_pos ⟨by omega, by decide⟩]
  rfl
 have hrl : 0 < (rowsL a0).length := by
  unfold rowsL
  rw [Lib.splitB_all sep1 (by decide) 0 _ a0 rfl]
  omega
 go_enter Tryd.func24, Tryd.ntmps24
 go_wp2_with fail
 refine (strings_Split.calls a0 sep1 (rowsL a0) _ (hG.below (below_alloc (Below.refl _ _) _)) hsp).mono ?_
 rintro e w1 ⟨v, rfl, hR, hB⟩
 obtain ⟨A, c, rfl, hlc, hC⟩ := Kd.R_reads hR
 obtain ⟨ad, rfl, hx⟩ := Kd.at_string hC 0 (by omega) (by omega)
 have hap : ad.block ≠ w.heap.size := by
  have h2 := Kd.R_base hR ad.block (by simp [Value.ownBlock])
  simp at h2
  omega
 have S0 : SR w ad (rowsL a0).length (rowsL a0) w1 := ⟨below_then (below_alloc (Below.refl _ _) _) (by simp) hB, ⟨_, rfl, (hB.block _ (by simp)).trans (heap_alloc_new w _)⟩, hC, hap⟩
 have n0 : (0 : Int) < ((rowsL a0).length : Int) := by omega
 have kb := fun (W : World) (s : ByteArray) => Lib.run_convert_string_bytes (P := Tryd.prog) W 9 35 5 s Tryd.underlying9 Tryd.underlying35 Tryd.underlying5
 have hx0 : w1.cell? ad = some (.string ((rowsL a0).getD 0 ByteArray.empty)) := by simpa [Addr.add, rdOf] using hx
 have hjn : strings_Join.f (rowsL a0) ⟨#[]⟩ = some (joinedB a0) := by
  unfold strings_Join.f
  have h1 := Lib.countB_le sep1 (by decide) a0.size a0 (Nat.le_refl _)
  have h2 := Lib.splitB_all sep1 (by decide) 0 _ a0 rfl
  have h3 := joinedB_size a0
  have h4 : (Lib.join ((rowsL a0).map (·.data.toList)) (⟨#[]⟩ : ByteArray).data.toList).length = (joinedB a0).size := by
   show _ = (Lib.join ((rowsL a0).map (·.data.toList)) []).toArray.size
   rw [List.size_toArray]
  rw [if_pos ⟨by unfold rowsL; omega, by rw [h4]; omega⟩]
  rfl
 clear hx hG hB hR HG hC hap
 go_wp2_with fail
 obtain ⟨hxd, _, _, _, _, _, _, SD⟩ := SR.all S0.drew hrl
 go_region_with (refine (strings_Join.calls (some ad) c (rowsL a0) ⟨#[]⟩ (joinedB a0) _ (S0.drew).reads hlc hjn).mono ?_; rintro e w2 ⟨rfl, hb2⟩; (have S2 := S0.drew.step hb2); (obtain ⟨hx2, _, _, _, _, _, _, _⟩ := SR.all S2 hrl); (obtain ⟨hx3, hs0, hs1, hs2, hf0, hf1, hf2, _⟩ := SR.all (S2.bytes 5 (joinedB a0)) hrl))
 all_goals go_wp2
 all_goals
  obtain ⟨cs, hc, hs⟩ := S2.slot
  have hz : (joinedB a0).size ≤ 140737488355328 := by have := joinedB_size a0; omega
  have e0 : (rowsL a0).getD 0 ByteArray.empty = (rowsL a0)[0] := by rw [List.getD_eq_getElem?_getD, List.getElem?_eq_getElem hrl]; rfl
  have b0 := (Lib.bytesWorld_at_old w2 5 (joinedB a0) w.heap.size (blk_lt hs)).trans hs
  have b1 := blk_set (blk_set (blk_set b0 0 (.int .i64 ((rowsL a0)[0].size : Int))) 1 (.int .i64 ((rowsL a0).length : Int))) 2 (.slice (some ⟨w2.heap.size, 0, none⟩) (joinedB a0).size (grownCap w2 (joinedB a0).size 0 5))
  rw [three_set hc] at b1
  have hlt := blk_lt hs
  refine bodyPost_ret (results_cell_row rfl _ _ w.heap.size 42 _ (0, 0) _ rfl b1 Tryd.underlying42 rfl (by kernel_rfl)) rfl ⟨_, by rw [e0], ?_, ?_⟩
  ·refine V_bytes (joinedB a0) hz (Array.replicate (grownCap w2 (joinedB a0).size 0 5 - (joinedB a0).size) (.int .u8 0)) ((Lib.bytesCells w2 5 (joinedB a0)).size, (Lib.bytesCells w2 5 (joinedB a0)).size + 1) ?_ (by have := S2.below.size; omega) (grownCap_ge _ _ _ _)
   rw [Below.heap_setCell _ _ _ _ (by simp; omega), Below.heap_setCell _ _ _ _ (by simp; omega), Below.heap_setCell _ _ _ _ (by simp; omega)]
   exact Lib.bytesWorld_at_new w2 5 (joinedB a0)
  ·exact below_set (below_set (below_set (S2.bytes 5 (joinedB a0)).below (Nat.le_refl _)) (Nat.le_refl _)) (Nat.le_refl _)
end Go.Proofs.YtcpeldgnabfdmaaDoor.Q
end
section
namespace Go.Proofs.YtcpeldgnabfdmaaDoor.Q
open Go.RowKit Go.Proofs.YtcpeldgnabfdmaaDoorW.PrintWords Go.Proofs.YtcpeldgnabfdmaaDoorW.PrintLast Go.Proofs.YtcpeldgnabfdmaaDoorW.PrintMore
attribute [local go_sem] max2_int min2_int max_two min_two max_three min_three max_four min_four
set_option linter.unusedVariables false
set_option linter.unusedSimpArgs false
def spec_tyBall.f (a0 : Int) : Option (Bool) := if a0 = 111 then (some true) else (if a0 ≥ 97 then (some (decide (a0 ≤ 102))) else (some false))
set_option maxHeartbeats 8000000 in
set_option maxRecDepth 100000 in
theorem spec_tyBall.calls (a0 : Int) (r : Bool) (w : World) (h : spec_tyBall.f a0 = some r) :
  Calls Tryd.prog 59 #[.int .u8 a0] w fun e w' => e = .returned (.bool r) ∧ Drawn0 w w' := by
 have H : (if a0 = 111 then (some true) else (if a0 ≥ 97 then (some (decide (a0 ≤ 102))) else (some false))) = some r := h
 clear h
 by_cases c2 : a0 = 111
 ·rw [if_pos c2] at H
  have c2b0 : (a0 == 111) = true := beq_iff_eq.mpr c2
  have c2b1 : (a0 != 111) = false := bne_eq_false_iff_eq.mpr c2
  clear c2
  obtain rfl := Option.some.inj H
  go_enter Tryd.func59, Tryd.ntmps59
  go_wp2
  go_ret
  exact ⟨by first | rfl | (simp; done) | (simp [*]; done), by repeat (first | exact Drawn0.refl _ | apply Drawn0.step)⟩
 ·rw [if_neg c2] at H
  have c2b0 : (a0 == 111) = false := beq_eq_false_iff_ne.mpr c2
  have c2b1 : (a0 != 111) = true := bne_iff_ne.mpr c2
  by_cases c3 : a0 ≥ 97
  ·rw [if_pos c3] at H
   have c3b0 : decide (97 ≤ a0) = true := decide_eq_true c3
   clear c3
   obtain rfl := Option.some.inj H
   go_enter Tryd.func59, Tryd.ntmps59
   go_wp2
   go_ret
   exact ⟨by first | rfl | (simp; done) | (simp [*]; done), by repeat (first | exact Drawn0.refl _ | apply Drawn0.step)⟩
  ·rw [if_neg c3] at H
   have c3b0 : decide (97 ≤ a0) = false := decide_eq_false c3
   clear c3
   obtain rfl := Option.some.inj H
   go_enter Tryd.func59, Tryd.ntmps59
   go_wp2
   go_ret
   exact ⟨by first | rfl | (simp; done) | (simp [*]; done), by repeat (first | exact Drawn0.refl _ | apply Drawn0.step)⟩
def spec_tyIs.f (a0 : Int) : Option (Bool) := if a0 = 35 then (some true) else (if a0 = 46 then (some true) else ((spec_tyBall.f a0).bind fun t101 => (some t101)))
set_option maxHeartbeats 8000000 in
set_option maxRecDepth 100000 in
theorem spec_tyIs.calls (a0 : Int) (r : Bool) (w : World) (h : spec_tyIs.f a0 = some r) :
  Calls Tryd.prog 57 #[.int .u8 a0] w fun e w' => e = .returned (.bool r) ∧ Drawn0 w w' := by
 have H : (if a0 = 35 then (some true) else (if a0 = 46 then (some true) else ((spec_tyBall.f a0).bind fun t101 => (some t101)))) = some r := h
 clear h
 by_cases c2 : a0 = 35
 ·rw [if_pos c2] at H
  have c2b0 : (a0 == 35) = true := beq_iff_eq.mpr c2
  have c2b1 : (a0 != 35) = false := bne_eq_false_iff_eq.mpr c2
  clear c2
  obtain rfl := Option.some.inj H
  go_enter Tryd.func57, Tryd.ntmps57
  go_wp2
  go_ret
  exact ⟨by first | rfl | (simp; done) | (simp [*]; done), by repeat (first | exact Drawn0.refl _ | apply Drawn0.step)⟩
 ·rw [if_neg c2] at H
  have c2b0 : (a0 == 35) = false := beq_eq_false_iff_ne.mpr c2
  have c2b1 : (a0 != 35) = true := bne_iff_ne.mpr c2
  by_cases c3 : a0 = 46
  ·rw [if_pos c3] at H
   have c3b0 : (a0 == 46) = true := beq_iff_eq.mpr c3
   have c3b1 : (a0 != 46) = false := bne_eq_false_iff_eq.mpr c3
   clear c3
   obtain rfl := Option.some.inj H
   go_enter Tryd.func57, Tryd.ntmps57
   go_wp2
   go_ret
   exact ⟨by first | rfl | (simp; done) | (simp [*]; done), by repeat (first | exact Drawn0.refl _ | apply Drawn0.step)⟩
  ·rw [if_neg c3] at H
   have c3b0 : (a0 == 46) = false := beq_eq_false_iff_ne.mpr c3
   have c3b1 : (a0 != 46) = true := bne_iff_ne.mpr c3
   replace H := Option.bind_eq_some_iff.mp H
   obtain ⟨t101, A40, H⟩ := H
   replace H : (some t101) = some r := H
   have A4 := Aside0.mk A40
   clear A40
   obtain rfl := Option.some.inj H
   go_enter Tryd.func57, Tryd.ntmps57
   go_wp2_with (first | (go_at_call 59; (with_reducible refine (spec_tyBall.calls a0 t101 _ A4.out).mono ?_); rintro e w' ⟨rfl, ⟨nd, rfl⟩⟩))
   go_ret
   exact ⟨by first | rfl | (simp; done) | (simp [*]; done), by repeat (first | exact Drawn0.refl _ | apply Drawn0.step)⟩
mutual
def spec_tyRead.l0 : Nat → ByteArray → Int → Int → Int → Int → List Int → Option (Int × Int × List Int × Bool)
 | 0, _, _, _, _, _, _ => none
 | k + 1, x0, x5, x6, x103000, x103001, x103002 => if x6 ≤ (x0.size : Int) then (if x6 < (x0.size : Int) then (if 0 ≤ x6 then (spec_tyRead.j1 k x0 x5 x6 ((bt x0 x6) != 47) x103000 x103001 x103002) else (none)) else (spec_tyRead.j1 k x0 x5 x6 false x103000 x103001 x103002)) else (if x103000 > 7 then (spec_tyRead.j2 k true x103000 x103001 x103002) else (if x103001 > 7 then (spec_tyRead.j2 k true x103000 x103001 x103002) else (spec_tyRead.j2 k (decide ((x103002.length : Int) > 36)) x103000 x103001 x103002)))
def spec_tyRead.j1 : Nat → ByteArray → Int → Int → Bool → Int → Int → List Int → Option (Int × Int × List Int × Bool)
 | 0, _, _, _, _, _, _, _ => none
 | k + 1, x0, x5, x6, x31, x103000, x103001, x103002 => if x31 = true then (if 0 ≤ x6 then (if x6 < (x0.size : Int) then ((spec_tyIs.f (bt x0 x6)).bind fun t103 => (if t103 = true then (if x103002.length < 140737488355328 then (spec_tyRead.l0 k x0 (wrap64 (x5 + 1)) (wrap64 (x6 + 1)) x103000 x103001 (x103002 ++ [bt x0 x6])) else (none)) else (some (0, 0, ([] : List Int), false)))) else (none)) else (none)) else (if x103001 > 0 then (if x5 = x103000 then (if x5 = 0 then (some (0, 0, ([] : List Int), false)) else (spec_tyRead.l0 k x0 0 (wrap64 (x6 + 1)) x5 (wrap64 (x103001 + 1)) x103002)) else (some (0, 0, ([] : List Int), false))) else (if x5 = 0 then (some (0, 0, ([] : List Int), false)) else (spec_tyRead.l0 k x0 0 (wrap64 (x6 + 1)) x5 (wrap64 (x103001 + 1)) x103002)))
def spec_tyRead.j2 : Nat → Bool → Int → Int → List Int → Option (Int × Int × List Int × Bool)
 | 0, _, _, _, _ => none
 | k + 1, x81, x103000, x103001, x103002 => if x81 = true then (some (0, 0, ([] : List Int), false)) else (spec_tyRead.l1 k x103002 (x103002.length : Int) 0 x103000 x103001 x103002)
def spec_tyRead.l1 : Nat → List Int → Int → Int → Int → Int → List Int → Option (Int × Int × List Int × Bool)
 | 0, _, _, _, _, _, _ => none
 | k + 1, x84, x85, x86, x103000, x103001, x103002 => if x86 < x85 then (if 0 ≤ x86 then (if x86 < (x84.length : Int) then (if x86 ≤ (x103002.length : Int) then ((some (x103002.take (x86 : Int).toNat : List Int)).bind fun y108 => (spec_tyRead.l2 k (rd x84 x86) x84 x85 x86 y108 (y108.length : Int) 0 x103000 x103001 x103002)) else (none)) else (none)) else (none)) else (some (x103000, x103001, x103002, true))
def spec_tyRead.l2 : Nat → Int → List Int → Int → Int → List Int → Int → Int → Int → Int → List Int → Option (Int × Int × List Int × Bool)
 | 0, _, _, _, _, _, _, _, _, _, _ => none
 | k + 1, x8, x84, x85, x86, x94, x95, x96, x103000, x103001, x103002 => if x96 < x95 then (if 0 ≤ x96 then (if x96 < (x94.length : Int) then (if x8 = (rd x94 x96) then (if x8 ≥ 97 then (if x8 ≤ 102 then (some (0, 0, ([] : List Int), false)) else (spec_tyRead.l2 k x8 x84 x85 x86 x94 x95 (wrap64 (x96 + 1)) x103000 x103001 x103002)) else (spec_tyRead.l2 k x8 x84 x85 x86 x94 x95 (wrap64 (x96 + 1)) x103000 x103001 x103002)) else (spec_tyRead.l2 k x8 x84 x85 x86 x94 x95 (wrap64 (x96 + 1)) x103000 x103001 x103002)) else (none)) else (none)) else (spec_tyRead.l1 k x84 x85 (wrap64 (x86 + 1)) x103000 x103001 x103002)
end
def spec_tyRead.f (k : Nat) (a0 : ByteArray) : Option (Int × Int × List Int × Bool) := if (a0.size : Int) > 42 then (some (0, 0, ([] : List Int), false)) else (spec_tyRead.l0 k a0 0 0 0 0 ([] : List Int))
def spec_tyRead.T11 : Bool × List (List Nat × List Nat) := (true, [([], []), ([0], [0]), ([], []), ([], []), ([2, 3], [2, 3]), ([4], [4]), ([1, 5], [1, 5]), ([0, 1, 2, 3, 4, 5, 6], []), ([7, 6, 6, 0, 1, 2, 3, 4, 5, 6], [6, 7])])
def spec_tyRead.B11 : List Nat := [0, 1, 0, 0, 12, 28, 63, 127, 255]
theorem spec_tyRead.tab11 : rtab .any (opsOf Tryd.f36 11) = spec_tyRead.T11 := by kernel_rfl
theorem spec_tyRead.bits11 : waitsOk spec_tyRead.T11.2 spec_tyRead.B11 = true := by kernel_rfl
set_option maxHeartbeats 8000000 in
set_option maxRecDepth 100000 in
theorem spec_tyRead.calls (k : Nat) (a0 : ByteArray) (r1 : Int) (r2 : Int) (r3 : List Int) (r4 : Bool) (w : World) (h : spec_tyRead.f k a0 = some (r1, r2, r3, r4)) :
  Calls Tryd.prog 36 #[.string a0] w fun e w' => ∃ v2_ : Value, e = .returned (.tuple #[.agg #[.int .i64 r1, .int .i64 r2, v2_], .bool r4]) ∧ Kd.R (Kd.int .u8) 5 w' w.heap.size (fun _ => True) v2_ r3 ∧ Below w.heap.size w w' := by
 have hu37 := Tryd.underlying37
 have HB := Aside0.mk (Below.refl w.heap.size w)
 have H : (if (a0.size : Int) > 42 then (some (0, 0, ([] : List Int), false)) else (spec_tyRead.l0 k a0 0 0 0 0 ([] : List Int))) = some (r1, r2, r3, r4) := h
 clear h
 by_cases c2 : (a0.size : Int) > 42
 ·rw [if_pos c2] at H
  have c2b0 : decide (42 < (a0.size : Int)) = true := decide_eq_true c2
  have c2b1 : decide (42 < a0.size) = true := decide_eq_true (by omega)
  clear c2
  simp only [Option.some.injEq, Prod.mk.injEq] at H
  obtain ⟨rfl, rfl, rfl, rfl⟩ := H
  go_enter Tryd.func36, Tryd.ntmps36
  go_wp2_with (first | ((with_reducible refine gate_dst (N := 2) rfl ?_); refine boxE (N := 2) (cs := #[.int .i64 0, .int .i64 0, .slice none 0 0]) (t := 37) ?_; intro gb101 hg w3 hbox hb; have n0_ := Aside0.mk (below_step (bel HB) hb); have n1_ := Aside0.mk (hbox); have n2_ := Aside0.mk (gsz hg (bel HB)); have n3_ := Aside0.mk (gsz hg (bel HB)); clear HB; have HB := n0_; have BK101 := n1_; have GW101 := n2_; have GE101 := n3_; clear n0_ n1_ n2_ n3_; clear hb hbox hg) | ((with_reducible refine gate_dst (N := 4) rfl ?_); refine boxE (N := 4) (cs := #[.int .i64 0, .int .i64 0, .slice none 0 0]) (t := 37) ?_; intro gb102 hg w4 hbox hb; have n0_ := Aside0.mk (blk_below (g := gb101) (o := .cells #[.int .i64 0, .int .i64 0, .slice none 0 0] 37 (0, 0)) blc hb); have n1_ := Aside0.mk (below_step (bel HB) hb); have n2_ := Aside0.mk (hbox); have n3_ := Aside0.mk (gsz hg (bel HB)); have n4_ := Aside0.mk (gsz hg (bel HB)); have n5_ := Aside0.mk ((by rw [hg]; exact Nat.ne_of_lt (blk_lt (g := gb101) (o := .cells #[.int .i64 0, .int .i64 0, .slice none 0 0] 37 (0, 0)) blc) : gb101 ≠ gb102)); have n6_ := Aside0.mk ((by rw [hg]; exact Nat.ne_of_gt (blk_lt (g := gb101) (o := .cells #[.int .i64 0, .int .i64 0, .slice none 0 0] 37 (0, 0)) blc) : gb102 ≠ gb101)); clear BK101; clear HB; have BK101 := n0_; have HB := n1_; have BK102 := n2_; have GW102 := n3_; have GE102 := n4_; have NB101_102 := n5_; have NB102_101 := n6_; clear n0_ n1_ n2_ n3_ n4_ n5_ n6_; clear hb hbox hg; have hnb5 := NB102_101.out; have hnc5 := NB101_102.out; have hcz6_0 : w4.cell? ⟨gb102, 0, none⟩ = some (.int .i64 0) := (blk_cell BK102.out 0).trans rfl; have hcz6_1 : w4.cell? ⟨gb102, 1, none⟩ = some (.int .i64 0) := (blk_cell BK102.out 1).trans rfl; have hcz6_2 : w4.cell? ⟨gb102, 2, none⟩ = some (.slice none 0 0) := (blk_cell BK102.out 2).trans rfl; have hfz6_0 := blk_frozen BK102.out 0; have hfz6_1 := blk_frozen BK102.out 1; have hfz6_2 := blk_frozen BK102.out 2; have hcz7_0 : w4.cell? ⟨gb101, 0, none⟩ = some (.int .i64 0) := (blk_cell BK101.out 0).trans rfl; have hcz7_1 : w4.cell? ⟨gb101, 1, none⟩ = some (.int .i64 0) := (blk_cell BK101.out 1).trans rfl; have hcz7_2 : w4.cell? ⟨gb101, 2, none⟩ = some (.slice none 0 0) := (blk_cell BK101.out 2).trans rfl; have hfz7_0 := blk_frozen BK101.out 0; have hfz7_1 := blk_frozen BK101.out 1; have hfz7_2 := blk_frozen BK101.out 2))
  refine bodyPost_ret (results_ct rfl _ _ gb101 37 #[.int .i64 0, .int .i64 0, .slice none 0 0] (0, 0) _ rfl (by (with_reducible repeat (first | refine blk_drewN ?_ _ | refine blk_drew ?_ | refine blk_alloc ?_ _)); refine blk_put (cs := #[.int .i64 0, .int .i64 0, .slice none 0 0]) ?_ 2 _ rfl; (with_reducible repeat (first | refine blk_drewN ?_ _ | refine blk_drew ?_ | refine blk_alloc ?_ _)); refine blk_put (cs := #[.int .i64 0, .int .i64 0, .slice none 0 0]) ?_ 1 _ rfl; (with_reducible repeat (first | refine blk_drewN ?_ _ | refine blk_drew ?_ | refine blk_alloc ?_ _)); refine blk_put (cs := #[.int .i64 0, .int .i64 0, .slice none 0 0]) ?_ 0 _ rfl; (with_reducible repeat (first | refine blk_drewN ?_ _ | refine blk_drew ?_ | refine blk_alloc ?_ _)); refine blk_far ?_ NB101_102.out _; (with_reducible repeat (first | refine blk_drewN ?_ _ | refine blk_drew ?_ | refine blk_alloc ?_ _)); refine blk_far ?_ NB101_102.out _; (with_reducible repeat (first | refine blk_drewN ?_ _ | refine blk_drew ?_ | refine blk_alloc ?_ _)); refine blk_far ?_ NB101_102.out _; exact blc) Tryd.underlying37 rfl (by kernel_rfl)) rfl ?_
  exact ⟨_, by first | rfl | (simp [errW_none, errW_some] <;> rfl) | (simp [*, errW_none, errW_some] <;> rfl), by first | exact Kd.R_nil _ _ _ _ _ | exact Kd.N_nil _ _ _ _ _ | exact Kd.V_nil _ _ _ _ _ | exact Kd.Q_nil _ _ _ _ _ | exact Kd.S_nil _ _ _ _ _, bel HB⟩
 ·rw [if_neg c2] at H
  have c2b0 : decide (42 < (a0.size : Int)) = false := decide_eq_false c2
  have c2b1 : decide (42 < a0.size) = false := decide_eq_false (by omega)
  clear c2
  have H' := Aside0.mk H
  clear H
  go_enter Tryd.func36, Tryd.ntmps36
  go_wp2_with (first | ((with_reducible refine gate_dst (N := 2) rfl ?_); refine boxE (N := 2) (cs := #[.int .i64 0, .int .i64 0, .slice none 0 0]) (t := 37) ?_; intro gb101 hg w8 hbox hb; have n0_ := Aside0.mk (below_step (bel HB) hb); have n1_ := Aside0.mk (hbox); have n2_ := Aside0.mk (gsz hg (bel HB)); have n3_ := Aside0.mk (gsz hg (bel HB)); clear HB; have HB := n0_; have BK101 := n1_; have GW101 := n2_; have GE101 := n3_; clear n0_ n1_ n2_ n3_; clear hb hbox hg) | ((with_reducible refine gate_dst (N := 4) rfl ?_); refine boxE (N := 4) (cs := #[.int .i64 0, .int .i64 0, .slice none 0 0]) (t := 37) ?_; intro gb102 hg w9 hbox hb; have n0_ := Aside0.mk (blk_below (g := gb101) (o := .cells #[.int .i64 0, .int .i64 0, .slice none 0 0] 37 (0, 0)) blc hb); have n1_ := Aside0.mk (below_step (bel HB) hb); have n2_ := Aside0.mk (hbox); have n3_ := Aside0.mk (gsz hg (bel HB)); have n4_ := Aside0.mk (gsz hg (bel HB)); have n5_ := Aside0.mk ((by rw [hg]; exact Nat.ne_of_lt (blk_lt (g := gb101) (o := .cells #[.int .i64 0, .int .i64 0, .slice none 0 0] 37 (0, 0)) blc) : gb101 ≠ gb102)); have n6_ := Aside0.mk ((by rw [hg]; exact Nat.ne_of_gt (blk_lt (g := gb101) (o := .cells #[.int .i64 0, .int .i64 0, .slice none 0 0] 37 (0, 0)) blc) : gb102 ≠ gb101)); clear BK101; clear HB; have BK101 := n0_; have HB := n1_; have BK102 := n2_; have GW102 := n3_; have GE102 := n4_; have NB101_102 := n5_; have NB102_101 := n6_; clear n0_ n1_ n2_ n3_ n4_ n5_ n6_; clear hb hbox hg; have hnb10 := NB102_101.out; have hnc10 := NB101_102.out; have hcz11_0 : w9.cell? ⟨gb102, 0, none⟩ = some (.int .i64 0) := (blk_cell BK102.out 0).trans rfl; have hcz11_1 : w9.cell? ⟨gb102, 1, none⟩ = some (.int .i64 0) := (blk_cell BK102.out 1).trans rfl; have hcz11_2 : w9.cell? ⟨gb102, 2, none⟩ = some (.slice none 0 0) := (blk_cell BK102.out 2).trans rfl; have hfz11_0 := blk_frozen BK102.out 0; have hfz11_1 := blk_frozen BK102.out 1; have hfz11_2 := blk_frozen BK102.out 2))
  go_loopg [5, 6] k (fun kq v5 v6 w' => ∃ (x5_1 : Int) (x6_1 : Int) (x102000_1 : Int) (x102001_1 : Int) (x103000_1 : Int) (x103001_1 : Int) (x103002_1 : List Int) (u103002 : Value), v5 = .int .i64 x5_1 ∧ v6 = .int .i64 x6_1 ∧ Aside0 (spec_tyRead.l0 kq a0 x5_1 x6_1 x103000_1 x103001_1 x103002_1 = some (r1, r2, r3, r4)) ∧ Aside0 (kq ≤ k) ∧ Aside0 (Kd.R (Kd.int .u8) 5 w' w.heap.size (fun _ => True) u103002 x103002_1) ∧ Aside0 (w'.heap[gb101]? = some (.cells #[.int .i64 x102000_1, .int .i64 x102001_1, (.slice none 0 0)] 37 (0, 0))) ∧ Aside0 (w'.heap[gb102]? = some (.cells #[.int .i64 x103000_1, .int .i64 x103001_1, u103002] 37 (0, 0))) ∧ Aside0 (Below w.heap.size w w'))
  case atStart => exact ⟨(0), (0), (0), (0), (0), (0), (([] : List Int)), (.slice none 0 0), (by first | rfl | (simp; done) | (simp [*]; done)), (by first | rfl | (simp; done) | (simp [*]; done)), H', ⟨Nat.le_refl _⟩, ⟨by first | exact Kd.R_nil _ _ _ _ _ | exact Kd.N_nil _ _ _ _ _ | exact Kd.V_nil _ _ _ _ _ | exact Kd.Q_nil _ _ _ _ _ | exact Kd.S_nil _ _ _ _ _⟩, ⟨by (with_reducible repeat (first | refine blk_drewN ?_ _ | refine blk_drew ?_ | refine blk_alloc ?_ _)); refine blk_far ?_ NB101_102.out _; (with_reducible repeat (first | refine blk_drewN ?_ _ | refine blk_drew ?_ | refine blk_alloc ?_ _)); refine blk_far ?_ NB101_102.out _; (with_reducible repeat (first | refine blk_drewN ?_ _ | refine blk_drew ?_ | refine blk_alloc ?_ _)); refine blk_far ?_ NB101_102.out _; exact blc⟩, ⟨by (with_reducible repeat (first | refine blk_drewN ?_ _ | refine blk_drew ?_ | refine blk_alloc ?_ _)); refine blk_put (cs := #[.int .i64 0, .int .i64 0, .slice none 0 0]) ?_ 2 _ rfl; (with_reducible repeat (first | refine blk_drewN ?_ _ | refine blk_drew ?_ | refine blk_alloc ?_ _)); refine blk_put (cs := #[.int .i64 0, .int .i64 0, .slice none 0 0]) ?_ 1 _ rfl; (with_reducible repeat (first | refine blk_drewN ?_ _ | refine blk_drew ?_ | refine blk_alloc ?_ _)); refine blk_put (cs := #[.int .i64 0, .int .i64 0, .slice none 0 0]) ?_ 0 _ rfl; exact blc⟩, ⟨bel HB⟩⟩
  case round =>
   clear H'
   try clear c1
   try clear c2
   try clear c2b0
   try clear c2b0y
   try clear c2b1
   try clear p2
   try clear c3
   try clear c5
   try clear c10
   try clear hcz11_0
   try clear hcz11_1
   try clear hcz11_2
   try clear hcz6_0
   try clear hcz6_1
   try clear hcz6_2
   try clear hcz7_0
   try clear hcz7_1
   try clear hcz7_2
   try clear hfz11_0
   try clear hfz11_1
   try clear hfz11_2
   try clear hfz6_0
   try clear hfz6_1
   try clear hfz6_2
   try clear hfz7_0
   try clear hfz7_1
   try clear hfz7_2
   obtain ⟨x5_1, x6_1, x102000_1, x102001_1, x103000_1, x103001_1, x103002_1, u103002, rfl, rfl, HA, HK1, HO_103002, BK101, BK102, HB⟩ := hrel
   cases gk with
   | zero => exact absurd HA.out (by simp [spec_tyRead.l0])
   | succ k1 =>
    have H := HA.out
    clear HA
    simp only [spec_tyRead.l0] at H
    by_cases c12 : x6_1 ≤ (a0.size : Int)
    ·rw [if_pos c12] at H
     have c12b0 : decide (x6_1 ≤ (a0.size : Int)) = true := decide_eq_true c12
     clear c12
     have HC13 := Aside0.mk H
     clear H
     go_upto_region 8 with (fail)
     go_cut [31] (fun v31 wc => ∃ (kq : Nat) (x31_12 : Bool), v31 = .bool x31_12 ∧ Aside0 (spec_tyRead.j1 kq a0 x5_1 x6_1 x31_12 x103000_1 x103001_1 x103002_1 = some (r1, r2, r3, r4)) ∧ Aside0 (kq ≤ k1) ∧ Aside0 (Kd.R (Kd.int .u8) 5 wc w.heap.size (fun _ => True) u103002 x103002_1) ∧ Aside0 (wc.heap[gb101]? = some (.cells #[.int .i64 x102000_1, .int .i64 x102001_1, (.slice none 0 0)] 37 (0, 0))) ∧ Aside0 (wc.heap[gb102]? = some (.cells #[.int .i64 x103000_1, .int .i64 x103001_1, u103002] 37 (0, 0))) ∧ Aside0 (Below w.heap.size w wc))
     case first =>
      have H := HC13.out
      clear HC13
      by_cases c14 : x6_1 < (a0.size : Int)
      ·rw [if_pos c14] at H
       have c14b0 : decide (x6_1 < (a0.size : Int)) = true := decide_eq_true c14
       clear c14
       (first | rw [c14b0] | (simp only [i64_w, i32_w]; rw [c14b0]) | skip)
       by_cases c15 : 0 ≤ x6_1
       ·rw [if_pos c15] at H
        have c15b0 : decide (0 ≤ x6_1) = true := decide_eq_true c15
        clear c15
        have H' := Aside0.mk H
        clear H
        have p16 : 0 ≤ (x6_1 : Int) := of_decide_eq_true (by first | (with_reducible assumption) | assumption)
        have q16 : x6_1 < (a0.size : Int) := of_decide_eq_true (by first | (with_reducible assumption) | assumption)
        have hx16 := bt_at a0 x6_1
        replace p16 := eq_true p16
        replace q16 := eq_true q16
        go_wp2
        go_meet
        case rel => exact ⟨_, (((bt a0 x6_1) != 47)), (by first | rfl | (simp; done) | (simp [*]; done)), H', ⟨by have := HK1.out; first | omega | exact Nat.le_refl _⟩, ⟨rch HO_103002⟩, ⟨blc⟩, ⟨blc⟩, ⟨bel HB⟩⟩
       ·rw [if_neg c15] at H
        exact absurd H (by simp)
      ·rw [if_neg c14] at H
       have c14b0 : decide (x6_1 < (a0.size : Int)) = false := decide_eq_false c14
       clear c14
       (first | rw [c14b0] | (simp only [i64_w, i32_w]; rw [c14b0]) | skip)
       have H' := Aside0.mk H
       clear H
       go_wp2
       go_meet
       case rel => exact ⟨_, (false), (by first | rfl | (simp; done) | (simp [*]; done)), H', ⟨by have := HK1.out; first | omega | exact Nat.le_refl _⟩, ⟨rch HO_103002⟩, ⟨blc⟩, ⟨blc⟩, ⟨bel HB⟩⟩
     case rest =>
      clear HC13
      try clear c1
      try clear p1
      try clear q1
      try clear hx1
      try clear c2
      try clear c2b0
      try clear c2b0y
      try clear c2b1
      try clear p2
      try clear c3
      try clear c5
      try clear c10
      try clear c12
      try clear c12b0
      try clear c12b0y
      try clear c14
      try clear c14b0
      try clear c14b0y
      try clear c15
      try clear c15b0
      try clear c15b0y
      try clear p16
      try clear q16
      try clear hx16
      try clear hcz11_0
      try clear hcz11_1
      try clear hcz11_2
      try clear hcz6_0
      try clear hcz6_1
      try clear hcz6_2
      try clear hcz7_0
      try clear hcz7_1
      try clear hcz7_2
      try clear hfz11_0
      try clear hfz11_1
      try clear hfz11_2
      try clear hfz6_0
      try clear hfz6_1
      try clear hfz6_2
      try clear hfz7_0
      try clear hfz7_1
      try clear hfz7_2
      try clear p16
      try clear p2
      try clear q16
      obtain ⟨kq, x31_12, rfl, HA, HJ12, HO_103002, BK101, BK102, HB⟩ := hcut
      cases kq with
      | zero => exact absurd HA.out (by simp [spec_tyRead.j1])
      | succ kj12 =>
       have H := HA.out
       clear HA
       simp only [spec_tyRead.j1] at H
       by_cases c17 : x31_12 = true
       ·subst c17
        have H1 : (if 0 ≤ x6_1 then (if x6_1 < (a0.size : Int) then ((spec_tyIs.f (bt a0 x6_1)).bind fun t103 => (if t103 = true then (if x103002_1.length < 140737488355328 then (spec_tyRead.l0 kj12 a0 (wrap64 (x5_1 + 1)) (wrap64 (x6_1 + 1)) x103000_1 x103001_1 (x103002_1 ++ [bt a0 x6_1])) else (none)) else (some (0, 0, ([] : List Int), false)))) else (none)) else (none)) = some (r1, r2, r3, r4) := by rw [if_pos rfl] at H; exact H
        clear H
        have H := H1
        clear H1
        by_cases c18 : 0 ≤ x6_1
        ·rw [if_pos c18] at H
         have c18b0 : decide (0 ≤ x6_1) = true := decide_eq_true c18
         clear c18
         by_cases c19 : x6_1 < (a0.size : Int)
         ·rw [if_pos c19] at H
          have c19b0 : decide (x6_1 < (a0.size : Int)) = true := decide_eq_true c19
          clear c19
          replace H := Option.bind_eq_some_iff.mp H
          obtain ⟨t103, A210, H⟩ := H
          replace H : (if t103 = true then (if x103002_1.length < 140737488355328 then (spec_tyRead.l0 kj12 a0 (wrap64 (x5_1 + 1)) (wrap64 (x6_1 + 1)) x103000_1 x103001_1 (x103002_1 ++ [bt a0 x6_1])) else (none)) else (some (0, 0, ([] : List Int), false))) = some (r1, r2, r3, r4) := H
          have A21 := Aside0.mk A210
          clear A210
          by_cases c22 : t103 = true
          ·subst c22
           have H1 : (if x103002_1.length < 140737488355328 then (spec_tyRead.l0 kj12 a0 (wrap64 (x5_1 + 1)) (wrap64 (x6_1 + 1)) x103000_1 x103001_1 (x103002_1 ++ [bt a0 x6_1])) else (none)) = some (r1, r2, r3, r4) := by rw [if_pos rfl] at H; exact H
           clear H
           have H := H1
           clear H1
           by_cases c24 : x103002_1.length < 140737488355328
           ·rw [if_pos c24] at H
            have LMc24 := Aside0.mk c24
            clear c24
            obtain ⟨y104, hy104⟩ : ∃ y_ : List Int, y_ = (x103002_1 ++ [bt a0 x6_1]) := ⟨_, rfl⟩
            replace H : (spec_tyRead.l0 kj12 a0 (wrap64 (x5_1 + 1)) (wrap64 (x6_1 + 1)) x103000_1 x103001_1 y104) = some (r1, r2, r3, r4) := rH hy104 H
            have Ny104 := Aside0.mk hy104
            clear hy104
            have H' := Aside0.mk H
            clear H
            have p20 : 0 ≤ (x6_1 : Int) := of_decide_eq_true (by first | (with_reducible assumption) | assumption)
            have q20 : x6_1 < (a0.size : Int) := of_decide_eq_true (by first | (with_reducible assumption) | assumption)
            have hx20 := bt_at a0 x6_1
            replace p20 := eq_true p20
            replace q20 := eq_true q20
            try go_wp2_with (first | ((with_reducible refine gate_callee (f := 57) rfl ?_); refine gcall (some 35) Tryd.func57 #[.int .u8 (bt a0 x6_1)] rfl ?_; (with_reducible refine (spec_tyIs.calls (bt a0 x6_1) true _ A21.out).mono ?_); rintro e w' ⟨rfl, ⟨nd, rfl⟩⟩; refine ⟨_, rfl, ?_⟩; (try (rw [drewN_self wc]; generalize hq_ : World.drewN wc _ = wc; have n0_ : Aside0 (Kd.R (Kd.int .u8) 5 wc w.heap.size (fun _ => True) u103002 x103002_1) := ⟨by rw [← hq_]; exact (rch HO_103002)⟩; have n1_ : Aside0 (wc.heap[gb101]? = some (.cells #[.int .i64 x102000_1, .int .i64 x102001_1, .slice none 0 0] 37 (0, 0))) := ⟨by rw [← hq_]; exact blc⟩; have n2_ : Aside0 (wc.heap[gb102]? = some (.cells #[.int .i64 x103000_1, .int .i64 x103001_1, u103002] 37 (0, 0))) := ⟨by rw [← hq_]; exact blc⟩; have n3_ : Aside0 (Below w.heap.size w wc) := ⟨by rw [← hq_]; exact (bel HB)⟩; clear HO_103002 BK101 BK102 HB hq_; have HO_103002 := n0_; have BK101 := n1_; have BK102 := n2_; have HB := n3_; clear n0_ n1_ n2_ n3_))))
            have n0_ := Aside0.mk (Kd.R_drew HO_103002.out)
            have n1_ := Aside0.mk (blk_drew BK101.out)
            have n2_ := Aside0.mk (blk_drew BK102.out)
            have n3_ := Aside0.mk (below_drew1 HB.out)
            clear HO_103002
            clear BK101
            clear BK102
            clear HB
            have HO_103002 := n0_
            have BK101 := n1_
            have BK102 := n2_
            have HB := n3_
            clear n0_ n1_ n2_ n3_
            have p23 : 0 ≤ (x6_1 : Int) := of_decide_eq_true (by first | (with_reducible assumption) | assumption)
            have q23 : x6_1 < (a0.size : Int) := of_decide_eq_true (by first | (with_reducible assumption) | assumption)
            have hx23 := bt_at a0 x6_1
            replace p23 := eq_true p23
            replace q23 := eq_true q23
            refine start_ (n := 9) (S := fun w' => w'.cell? ⟨gb102, 0, none⟩ = some (.int .i64 x103000_1) ∧ w'.cell? ⟨gb102, 1, none⟩ = some (.int .i64 x103001_1) ∧ w'.cell? ⟨gb102, 2, none⟩ = some (u103002)) (ds := [8]) #[false, false, false, false, false, false, false, false, false] (by kernel_rfl) rfl rfl ⟨(blk_cell BK102.out 0).trans rfl, (blk_cell BK102.out 1).trans rfl, (blk_cell BK102.out 2).trans rfl⟩ (fun hHeld => ?_); refine with_tabW spec_tyRead.tab11 spec_tyRead.bits11 (fun HT_ HW_ => ?_)
            generalize wc.drew = w25 at HO_103002 BK101 BK102 HB hHeld ⊢
            refine pure_ (i := 0) (N := some 38) (v := ?_) (a' := ?_) #[true, false, false, false, false, false, false, false, false] rfl rfl (any_of HT_.out (by kernel_rfl)) (fun _ _ _ h => h) (Or.inl ⟨by rfl, ?_⟩) ?_ ?_
            rotate_left
            ·intro w'
             go_simp
             with_reducible rfl
            rotate_left
            ·simp only [Act.put, List.setIfInBounds_toArray, List.set_cons_zero, List.set_cons_succ, i64_w, i32_w]
             rfl
            refine pure_ (i := 2) (N := some 40) (v := ?_) (a' := ?_) #[true, false, true, false, false, false, false, false, false] rfl rfl (any_of HT_.out (by kernel_rfl)) (fun _ _ _ h => h) (Or.inl ⟨by rfl, ?_⟩) ?_ ?_
            rotate_left
            ·intro w'
             go_simp
             with_reducible rfl
            rotate_left
            ·simp only [Act.put, List.setIfInBounds_toArray, List.set_cons_zero, List.set_cons_succ, i64_w, i32_w]
             rfl
            refine pure_ (i := 3) (N := some 41) (v := ?_) (a' := ?_) #[true, false, true, true, false, false, false, false, false] rfl rfl (any_of HT_.out (by kernel_rfl)) (fun _ _ _ h => h) (Or.inl ⟨by rfl, ?_⟩) ?_ ?_
            rotate_left
            ·intro w'
             go_simp
             with_reducible rfl
            rotate_left
            ·simp only [Act.put, List.setIfInBounds_toArray, List.set_cons_zero, List.set_cons_succ, i64_w, i32_w]
             rfl
            refine take_ (i := 1) (N := some 39) (v := ?_) (a' := ?_) #[true, true, true, true, false, false, false, false, false] rfl rfl (take_ofW HT_.out HW_.out (by kernel_rfl)) (fun _ _ _ h => h) (Or.inl ⟨by rfl, ?_⟩) hHeld ?_ ?_
            rotate_left
            ·rintro w' ⟨s0, s1, s2⟩
             go_simp
             with_reducible rfl
            rotate_left
            ·simp only [Act.put, List.setIfInBounds_toArray, List.set_cons_zero, List.set_cons_succ, i64_w, i32_w]
             rfl
            refine take_ (i := 4) (N := some 42) (v := ?_) (a' := ?_) #[true, true, true, true, true, false, false, false, false] rfl rfl (take_ofW HT_.out HW_.out (by kernel_rfl)) (fun _ _ _ h => h) (Or.inl ⟨by rfl, ?_⟩) hHeld ?_ ?_
            rotate_left
            ·rintro w' ⟨s0, s1, s2⟩
             go_simp
             with_reducible rfl
            rotate_left
            ·simp only [Act.put, List.setIfInBounds_toArray, List.set_cons_zero, List.set_cons_succ, i64_w, i32_w]
             rfl
            refine one_ (i := 5) (N := some 43) #[true, true, true, true, true, true, false, false, false] rfl rfl (one_of HT_.out (by kernel_rfl)) (by decide) (fun K hK => ?_)
            refine value_ (w1 := ?_) (v := ?_) (by rfl) rfl ?_ ?_
            rotate_left 2
            ·go_simp
             constructor
             ·rfl
             ·rfl
            refine hK.out _ _ ⟨(blk_cell (blk_alloc BK102.out _) 0).trans rfl, (blk_cell (blk_alloc BK102.out _) 1).trans rfl, (blk_cell (blk_alloc BK102.out _) 2).trans rfl⟩ (fun hHeld => ?_)
            clear hK K
            refine norm_ (a' := ?_) ?_ ?_
            rotate_left
            ·show Act.put _ (some 43) _ = _
             simp only [Act.put, List.setIfInBounds_toArray, List.set_cons_zero, List.set_cons_succ, i64_w, i32_w]
             rfl
            refine one_ (i := 6) (N := some 44) #[true, true, true, true, true, true, true, false, false] rfl rfl (one_of HT_.out (by kernel_rfl)) (by decide) (fun K hK => ?_)
            refine Kd.R_append_step (Kd.int .u8) (w0 := w) w.heap.size (by rfl) (.tmp 39) (.tmp 43) 35 5 (.int .u8 0) 1 rfl Tryd.underlying35 info5 rfl (by decide) (by omega) u103002 x103002_1 (bt a0 x6_1) [.int .u8 (bt a0 x6_1)] (fun _ => True) (fun _ => False) rfl rfl ?aP (fun _ hk => hk.elim) ?aF ?aO ?aB ?aS ?aL ?_
            (case aP => exact rfl)
            (case aB => exact (bel HB))
            (case aF => exact (fun _ _ => trivial))
            (case aO => exact (rch HO_103002))
            (case aS => exact (below_size (bel HB)))
            (case aL => have := LMc24.out; omega)
            intro v105 w26 ho hb hg hat
            rw [← Ny104.out] at ho
            have n0_ := Aside0.mk (blk_grown (g := gb101) (o := .cells #[.int .i64 x102000_1, .int .i64 x102001_1, .slice none 0 0] 37 (0, 0)) blc hg (Kd.R_ne HO_103002.out BK101.out (by decide)))
            have n1_ := Aside0.mk (blk_grown (g := gb102) (o := .cells #[.int .i64 x103000_1, .int .i64 x103001_1, u103002] 37 (0, 0)) blc hg (Kd.R_ne HO_103002.out BK102.out (by decide)))
            have n2_ := Aside0.mk (hb)
            have n3_ := Aside0.mk (ho)
            clear BK101
            clear BK102
            clear HB
            clear HO_103002
            have BK101 := n0_
            have BK102 := n1_
            have HB := n2_
            have HO106 := n3_
            clear n0_ n1_ n2_ n3_
            clear ho hb hg hat
            obtain ⟨Ao27, co27, eo27⟩ := Kd.R_slice HO106.out
            (first | subst eo27 | (injection eo27 with f1_ f2_ f3_; have f4_ := f1_.symm; have f5_ := f3_.symm; clear f1_ f2_ f3_; subst f4_; subst f5_))
            refine hK.out _ _ ⟨(blk_cell BK102.out 0).trans rfl, (blk_cell BK102.out 1).trans rfl, (blk_cell BK102.out 2).trans rfl⟩ (fun hHeld => ?_)
            clear hK K
            refine norm_ (a' := ?_) ?_ ?_
            rotate_left
            ·show Act.put _ (some 44) _ = _
             simp only [Act.put, List.setIfInBounds_toArray, List.set_cons_zero, List.set_cons_succ, i64_w, i32_w]
             rfl
            refine pure_ (i := 7) (N := some 45) (v := ?_) (a' := ?_) #[true, true, true, true, true, true, true, true, false] rfl rfl (any_of HT_.out (by kernel_rfl)) (fun _ _ _ h => h) (Or.inl ⟨by rfl, ?_⟩) ?_ ?_
            rotate_left
            ·intro w'
             go_simp
             with_reducible rfl
            rotate_left
            ·simp only [Act.put, List.setIfInBounds_toArray, List.set_cons_zero, List.set_cons_succ, i64_w, i32_w]
             rfl
            refine last_ (i := 8) (N := none) #[true, true, true, true, true, true, true, true, true] rfl rfl (one_of HT_.out (by kernel_rfl)) (by decide) (fun K hK => ?_)
            have hs28 : w26.cell? ⟨gb102, 2, none⟩ = some (u103002) := (blk_cell BK102.out 2).trans rfl
            have hfs28 := blk_frozen BK102.out 2
            have hns28_0 := NB101_102.out
            have hms28_0 := NB102_101.out
            refine skip_ (w1 := ?_) (by rfl) rfl ?_ ?_
            rotate_left
            ·go_simp
             rfl
            refine hK.out _ _ ?_
            clear hK K
            refine done_ (done_of HT_.out (by kernel_rfl)) ?_
            try go_wp2
            go_roundg kj12
            case measure => have := HK1.out; have := HJ12.out; omega
            case rel => exact ⟨(wrap64 (x5_1 + 1)), (wrap64 (x6_1 + 1)), (x102000_1), (x102001_1), (x103000_1), (x103001_1), (y104), (.slice Ao27 y104.length co27), (by first | rfl | (simp; done) | (simp [*]; done)), (by first | rfl | (simp; done) | (simp [*]; done)), H', ⟨by have := HK1.out; have := HJ12.out; omega⟩, ⟨by (with_reducible repeat (first | apply Kd.R_alloc | apply Kd.R_drewN | apply Kd.R_drew)); exact Kd.R_mono (Kd.R_far (p := ⟨gb102, 2, none⟩) (Kd.R_types HO106.out BK102.out (by decide)) (fun _ hk => hk.2) (.slice Ao27 y104.length co27)) (fun _ hk => trivial)⟩, ⟨by (with_reducible repeat (first | refine blk_drewN ?_ _ | refine blk_drew ?_ | refine blk_alloc ?_ _)); refine blk_far ?_ NB101_102.out _; exact blc⟩, ⟨by (with_reducible repeat (first | refine blk_drewN ?_ _ | refine blk_drew ?_ | refine blk_alloc ?_ _)); refine blk_put (cs := #[.int .i64 x103000_1, .int .i64 x103001_1, u103002]) ?_ 2 _ rfl; exact blc⟩, ⟨bel HB⟩⟩
           ·rw [if_neg c24] at H
            exact absurd H (by simp)
          ·replace c22 := Bool.eq_false_iff.mpr c22
           subst c22
           have H1 : (some (0, 0, ([] : List Int), false)) = some (r1, r2, r3, r4) := by rw [if_neg (show ¬ (false = true) by decide)] at H; exact H
           clear H
           have H := H1
           clear H1
           simp only [Option.some.injEq, Prod.mk.injEq] at H
           obtain ⟨rfl, rfl, rfl, rfl⟩ := H
           have p20 : 0 ≤ (x6_1 : Int) := of_decide_eq_true (by first | (with_reducible assumption) | assumption)
           have q20 : x6_1 < (a0.size : Int) := of_decide_eq_true (by first | (with_reducible assumption) | assumption)
           have hx20 := bt_at a0 x6_1
           replace p20 := eq_true p20
           replace q20 := eq_true q20
           go_wp2_with (first | ((with_reducible refine gate_callee (f := 57) rfl ?_); refine gcall (some 35) Tryd.func57 #[.int .u8 (bt a0 x6_1)] rfl ?_; (with_reducible refine (spec_tyIs.calls (bt a0 x6_1) false _ A21.out).mono ?_); rintro e w' ⟨rfl, ⟨nd, rfl⟩⟩; refine ⟨_, rfl, ?_⟩; (try (rw [drewN_self wc]; generalize hq_ : World.drewN wc _ = wc; have n0_ : Aside0 (Kd.R (Kd.int .u8) 5 wc w.heap.size (fun _ => True) u103002 x103002_1) := ⟨by rw [← hq_]; exact (rch HO_103002)⟩; have n1_ : Aside0 (wc.heap[gb101]? = some (.cells #[.int .i64 x102000_1, .int .i64 x102001_1, .slice none 0 0] 37 (0, 0))) := ⟨by rw [← hq_]; exact blc⟩; have n2_ : Aside0 (wc.heap[gb102]? = some (.cells #[.int .i64 x103000_1, .int .i64 x103001_1, u103002] 37 (0, 0))) := ⟨by rw [← hq_]; exact blc⟩; have n3_ : Aside0 (Below w.heap.size w wc) := ⟨by rw [← hq_]; exact (bel HB)⟩; clear HO_103002 BK101 BK102 HB hq_; have HO_103002 := n0_; have BK101 := n1_; have BK102 := n2_; have HB := n3_; clear n0_ n1_ n2_ n3_)); have hnb29 := NB101_102.out; have hnc29 := NB102_101.out; have hcz30_0 : wc.cell? ⟨gb101, 0, none⟩ = some (.int .i64 x102000_1) := (blk_cell BK101.out 0).trans rfl; have hcz30_1 : wc.cell? ⟨gb101, 1, none⟩ = some (.int .i64 x102001_1) := (blk_cell BK101.out 1).trans rfl; have hcz30_2 : wc.cell? ⟨gb101, 2, none⟩ = some (.slice none 0 0) := (blk_cell BK101.out 2).trans rfl; have hfz30_0 := blk_frozen BK101.out 0; have hfz30_1 := blk_frozen BK101.out 1; have hfz30_2 := blk_frozen BK101.out 2))
           refine bodyPost_ret (results_ct rfl _ _ gb101 37 #[.int .i64 0, .int .i64 0, .slice none 0 0] (0, 0) _ rfl (by (with_reducible repeat (first | refine blk_drewN ?_ _ | refine blk_drew ?_ | refine blk_alloc ?_ _)); refine blk_put (cs := #[.int .i64 0, .int .i64 0, .slice none 0 0]) ?_ 2 _ rfl; (with_reducible repeat (first | refine blk_drewN ?_ _ | refine blk_drew ?_ | refine blk_alloc ?_ _)); refine blk_put (cs := #[.int .i64 0, .int .i64 x102001_1, .slice none 0 0]) ?_ 1 _ rfl; (with_reducible repeat (first | refine blk_drewN ?_ _ | refine blk_drew ?_ | refine blk_alloc ?_ _)); refine blk_put (cs := #[.int .i64 x102000_1, .int .i64 x102001_1, .slice none 0 0]) ?_ 0 _ rfl; exact blc) Tryd.underlying37 rfl (by kernel_rfl)) rfl ?_
           exact ⟨_, by first | rfl | (simp [errW_none, errW_some] <;> rfl) | (simp [*, errW_none, errW_some] <;> rfl), by first | exact Kd.R_nil _ _ _ _ _ | exact Kd.N_nil _ _ _ _ _ | exact Kd.V_nil _ _ _ _ _ | exact Kd.Q_nil _ _ _ _ _ | exact Kd.S_nil _ _ _ _ _, bel HB⟩
         ·rw [if_neg c19] at H
          exact absurd H (by simp)
        ·rw [if_neg c18] at H
         exact absurd H (by simp)
       ·replace c17 := Bool.eq_false_iff.mpr c17
        subst c17
        have H1 : (if x103001_1 > 0 then (if x5_1 = x103000_1 then (if x5_1 = 0 then (some (0, 0, ([] : List Int), false)) else (spec_tyRead.l0 kj12 a0 0 (wrap64 (x6_1 + 1)) x5_1 (wrap64 (x103001_1 + 1)) x103002_1)) else (some (0, 0, ([] : List Int), false))) else (if x5_1 = 0 then (some (0, 0, ([] : List Int), false)) else (spec_tyRead.l0 kj12 a0 0 (wrap64 (x6_1 + 1)) x5_1 (wrap64 (x103001_1 + 1)) x103002_1))) = some (r1, r2, r3, r4) := by rw [if_neg (show ¬ (false = true) by decide)] at H; exact H
        clear H
        have H := H1
        clear H1
        by_cases c31 : x103001_1 > 0
        ·rw [if_pos c31] at H
         have c31b0 : decide (0 < x103001_1) = true := decide_eq_true c31
         clear c31
         by_cases c32 : x5_1 = x103000_1
         ·rw [if_pos c32] at H
          have c32b0 : (x5_1 == x103000_1) = true := beq_iff_eq.mpr c32
          have c32b1 : (x5_1 != x103000_1) = false := bne_eq_false_iff_eq.mpr c32
          clear c32
          by_cases c33 : x5_1 = 0
          ·rw [if_pos c33] at H
           have c33b0 : (x5_1 == 0) = true := beq_iff_eq.mpr c33
           have c33b1 : (x5_1 != 0) = false := bne_eq_false_iff_eq.mpr c33
           clear c33
           simp only [Option.some.injEq, Prod.mk.injEq] at H
           obtain ⟨rfl, rfl, rfl, rfl⟩ := H
           have hnb34 := NB102_101.out
           have hnc34 := NB101_102.out
           have hcz35_0 : wc.cell? ⟨gb102, 0, none⟩ = some (.int .i64 x103000_1) := (blk_cell BK102.out 0).trans rfl
           have hcz35_1 : wc.cell? ⟨gb102, 1, none⟩ = some (.int .i64 x103001_1) := (blk_cell BK102.out 1).trans rfl
           have hcz35_2 : wc.cell? ⟨gb102, 2, none⟩ = some (u103002) := (blk_cell BK102.out 2).trans rfl
           have hfz35_0 := blk_frozen BK102.out 0
           have hfz35_1 := blk_frozen BK102.out 1
           have hfz35_2 := blk_frozen BK102.out 2
           have hcz36_0 : wc.cell? ⟨gb101, 0, none⟩ = some (.int .i64 x102000_1) := (blk_cell BK101.out 0).trans rfl
           have hcz36_1 : wc.cell? ⟨gb101, 1, none⟩ = some (.int .i64 x102001_1) := (blk_cell BK101.out 1).trans rfl
           have hcz36_2 : wc.cell? ⟨gb101, 2, none⟩ = some (.slice none 0 0) := (blk_cell BK101.out 2).trans rfl
           have hfz36_0 := blk_frozen BK101.out 0
           have hfz36_1 := blk_frozen BK101.out 1
           have hfz36_2 := blk_frozen BK101.out 2
           go_wp2
           refine bodyPost_ret (results_ct rfl _ _ gb101 37 #[.int .i64 0, .int .i64 0, .slice none 0 0] (0, 0) _ rfl (by (with_reducible repeat (first | refine blk_drewN ?_ _ | refine blk_drew ?_ | refine blk_alloc ?_ _)); refine blk_put (cs := #[.int .i64 0, .int .i64 0, .slice none 0 0]) ?_ 2 _ rfl; (with_reducible repeat (first | refine blk_drewN ?_ _ | refine blk_drew ?_ | refine blk_alloc ?_ _)); refine blk_put (cs := #[.int .i64 0, .int .i64 x102001_1, .slice none 0 0]) ?_ 1 _ rfl; (with_reducible repeat (first | refine blk_drewN ?_ _ | refine blk_drew ?_ | refine blk_alloc ?_ _)); refine blk_put (cs := #[.int .i64 x102000_1, .int .i64 x102001_1, .slice none 0 0]) ?_ 0 _ rfl; exact blc) Tryd.underlying37 rfl (by kernel_rfl)) rfl ?_
           exact ⟨_, by first | rfl | (simp [errW_none, errW_some] <;> rfl) | (simp [*, errW_none, errW_some] <;> rfl), by first | exact Kd.R_nil _ _ _ _ _ | exact Kd.N_nil _ _ _ _ _ | exact Kd.V_nil _ _ _ _ _ | exact Kd.Q_nil _ _ _ _ _ | exact Kd.S_nil _ _ _ _ _, bel HB⟩
          ·rw [if_neg c33] at H
           have c33b0 : (x5_1 == 0) = false := beq_eq_false_iff_ne.mpr c33
           have c33b1 : (x5_1 != 0) = true := bne_iff_ne.mpr c33
           have H' := Aside0.mk H
           clear H
           have hnb37 := NB102_101.out
           have hnc37 := NB101_102.out
           have hcz38_0 : wc.cell? ⟨gb102, 0, none⟩ = some (.int .i64 x103000_1) := (blk_cell BK102.out 0).trans rfl
           have hcz38_1 : wc.cell? ⟨gb102, 1, none⟩ = some (.int .i64 x103001_1) := (blk_cell BK102.out 1).trans rfl
           have hcz38_2 : wc.cell? ⟨gb102, 2, none⟩ = some (u103002) := (blk_cell BK102.out 2).trans rfl
           have hfz38_0 := blk_frozen BK102.out 0
           have hfz38_1 := blk_frozen BK102.out 1
           have hfz38_2 := blk_frozen BK102.out 2
           go_wp2
           go_roundg kj12
           case measure => have := HK1.out; have := HJ12.out; omega
           case rel => exact ⟨(0), (wrap64 (x6_1 + 1)), (x102000_1), (x102001_1), (x5_1), (wrap64 (x103001_1 + 1)), (x103002_1), (u103002), (by first | rfl | (simp; done) | (simp [*]; done)), (by first | rfl | (simp; done) | (simp [*]; done)), H', ⟨by have := HK1.out; have := HJ12.out; omega⟩, ⟨by (with_reducible repeat (first | apply Kd.R_alloc | apply Kd.R_drewN | apply Kd.R_drew)); exact Kd.R_mono (Kd.R_far (p := ⟨gb102, 1, none⟩) (Kd.R_far (p := ⟨gb102, 0, none⟩) (Kd.R_types HO_103002.out BK102.out (by decide)) (fun _ hk => hk.2) (.int .i64 x5_1)) (fun _ hk => hk.2) (.int .i64 (wrap64 (x103001_1 + 1)))) (fun _ hk => trivial)⟩, ⟨by (with_reducible repeat (first | refine blk_drewN ?_ _ | refine blk_drew ?_ | refine blk_alloc ?_ _)); refine blk_far ?_ NB101_102.out _; (with_reducible repeat (first | refine blk_drewN ?_ _ | refine blk_drew ?_ | refine blk_alloc ?_ _)); refine blk_far ?_ NB101_102.out _; exact blc⟩, ⟨by (with_reducible repeat (first | refine blk_drewN ?_ _ | refine blk_drew ?_ | refine blk_alloc ?_ _)); refine blk_put (cs := #[.int .i64 x5_1, .int .i64 x103001_1, u103002]) ?_ 1 _ rfl; (with_reducible repeat (first | refine blk_drewN ?_ _ | refine blk_drew ?_ | refine blk_alloc ?_ _)); refine blk_put (cs := #[.int .i64 x103000_1, .int .i64 x103001_1, u103002]) ?_ 0 _ rfl; exact blc⟩, ⟨bel HB⟩⟩
         ·rw [if_neg c32] at H
          have c32b0 : (x5_1 == x103000_1) = false := beq_eq_false_iff_ne.mpr c32
          have c32b1 : (x5_1 != x103000_1) = true := bne_iff_ne.mpr c32
          simp only [Option.some.injEq, Prod.mk.injEq] at H
          obtain ⟨rfl, rfl, rfl, rfl⟩ := H
          have hnb39 := NB102_101.out
          have hnc39 := NB101_102.out
          have hcz40_0 : wc.cell? ⟨gb102, 0, none⟩ = some (.int .i64 x103000_1) := (blk_cell BK102.out 0).trans rfl
          have hcz40_1 : wc.cell? ⟨gb102, 1, none⟩ = some (.int .i64 x103001_1) := (blk_cell BK102.out 1).trans rfl
          have hcz40_2 : wc.cell? ⟨gb102, 2, none⟩ = some (u103002) := (blk_cell BK102.out 2).trans rfl
          have hfz40_0 := blk_frozen BK102.out 0
          have hfz40_1 := blk_frozen BK102.out 1
          have hfz40_2 := blk_frozen BK102.out 2
          have hcz41_0 : wc.cell? ⟨gb101, 0, none⟩ = some (.int .i64 x102000_1) := (blk_cell BK101.out 0).trans rfl
          have hcz41_1 : wc.cell? ⟨gb101, 1, none⟩ = some (.int .i64 x102001_1) := (blk_cell BK101.out 1).trans rfl
          have hcz41_2 : wc.cell? ⟨gb101, 2, none⟩ = some (.slice none 0 0) := (blk_cell BK101.out 2).trans rfl
          have hfz41_0 := blk_frozen BK101.out 0
          have hfz41_1 := blk_frozen BK101.out 1
          have hfz41_2 := blk_frozen BK101.out 2
          go_wp2
          refine bodyPost_ret (results_ct rfl _ _ gb101 37 #[.int .i64 0, .int .i64 0, .slice none 0 0] (0, 0) _ rfl (by (with_reducible repeat (first | refine blk_drewN ?_ _ | refine blk_drew ?_ | refine blk_alloc ?_ _)); refine blk_put (cs := #[.int .i64 0, .int .i64 0, .slice none 0 0]) ?_ 2 _ rfl; (with_reducible repeat (first | refine blk_drewN ?_ _ | refine blk_drew ?_ | refine blk_alloc ?_ _)); refine blk_put (cs := #[.int .i64 0, .int .i64 x102001_1, .slice none 0 0]) ?_ 1 _ rfl; (with_reducible repeat (first | refine blk_drewN ?_ _ | refine blk_drew ?_ | refine blk_alloc ?_ _)); refine blk_put (cs := #[.int .i64 x102000_1, .int .i64 x102001_1, .slice none 0 0]) ?_ 0 _ rfl; exact blc) Tryd.underlying37 rfl (by kernel_rfl)) rfl ?_
          exact ⟨_, by first | rfl | (simp [errW_none, errW_some] <;> rfl) | (simp [*, errW_none, errW_some] <;> rfl), by first | exact Kd.R_nil _ _ _ _ _ | exact Kd.N_nil _ _ _ _ _ | exact Kd.V_nil _ _ _ _ _ | exact Kd.Q_nil _ _ _ _ _ | exact Kd.S_nil _ _ _ _ _, bel HB⟩
        ·rw [if_neg c31] at H
         have c31b0 : decide (0 < x103001_1) = false := decide_eq_false c31
         clear c31
         by_cases c42 : x5_1 = 0
         ·rw [if_pos c42] at H
          have c42b0 : (x5_1 == 0) = true := beq_iff_eq.mpr c42
          have c42b1 : (x5_1 != 0) = false := bne_eq_false_iff_eq.mpr c42
          clear c42
          simp only [Option.some.injEq, Prod.mk.injEq] at H
          obtain ⟨rfl, rfl, rfl, rfl⟩ := H
          have hnb43 := NB102_101.out
          have hnc43 := NB101_102.out
          have hcz44_0 : wc.cell? ⟨gb102, 0, none⟩ = some (.int .i64 x103000_1) := (blk_cell BK102.out 0).trans rfl
          have hcz44_1 : wc.cell? ⟨gb102, 1, none⟩ = some (.int .i64 x103001_1) := (blk_cell BK102.out 1).trans rfl
          have hcz44_2 : wc.cell? ⟨gb102, 2, none⟩ = some (u103002) := (blk_cell BK102.out 2).trans rfl
          have hfz44_0 := blk_frozen BK102.out 0
          have hfz44_1 := blk_frozen BK102.out 1
          have hfz44_2 := blk_frozen BK102.out 2
          have hcz45_0 : wc.cell? ⟨gb101, 0, none⟩ = some (.int .i64 x102000_1) := (blk_cell BK101.out 0).trans rfl
          have hcz45_1 : wc.cell? ⟨gb101, 1, none⟩ = some (.int .i64 x102001_1) := (blk_cell BK101.out 1).trans rfl
          have hcz45_2 : wc.cell? ⟨gb101, 2, none⟩ = some (.slice none 0 0) := (blk_cell BK101.out 2).trans rfl
          have hfz45_0 := blk_frozen BK101.out 0
          have hfz45_1 := blk_frozen BK101.out 1
          have hfz45_2 := blk_frozen BK101.out 2
          go_wp2
          refine bodyPost_ret (results_ct rfl _ _ gb101 37 #[.int .i64 0, .int .i64 0, .slice none 0 0] (0, 0) _ rfl (by (with_reducible repeat (first | refine blk_drewN ?_ _ | refine blk_drew ?_ | refine blk_alloc ?_ _)); refine blk_put (cs := #[.int .i64 0, .int .i64 0, .slice none 0 0]) ?_ 2 _ rfl; (with_reducible repeat (first | refine blk_drewN ?_ _ | refine blk_drew ?_ | refine blk_alloc ?_ _)); refine blk_put (cs := #[.int .i64 0, .int .i64 x102001_1, .slice none 0 0]) ?_ 1 _ rfl; (with_reducible repeat (first | refine blk_drewN ?_ _ | refine blk_drew ?_ | refine blk_alloc ?_ _)); refine blk_put (cs := #[.int .i64 x102000_1, .int .i64 x102001_1, .slice none 0 0]) ?_ 0 _ rfl; exact blc) Tryd.underlying37 rfl (by kernel_rfl)) rfl ?_
          exact ⟨_, by first | rfl | (simp [errW_none, errW_some] <;> rfl) | (simp [*, errW_none, errW_some] <;> rfl), by first | exact Kd.R_nil _ _ _ _ _ | exact Kd.N_nil _ _ _ _ _ | exact Kd.V_nil _ _ _ _ _ | exact Kd.Q_nil _ _ _ _ _ | exact Kd.S_nil _ _ _ _ _, bel HB⟩
         ·rw [if_neg c42] at H
          have c42b0 : (x5_1 == 0) = false := beq_eq_false_iff_ne.mpr c42
          have c42b1 : (x5_1 != 0) = true := bne_iff_ne.mpr c42
          have H' := Aside0.mk H
          clear H
          have hnb46 := NB102_101.out
          have hnc46 := NB101_102.out
          have hcz47_0 : wc.cell? ⟨gb102, 0, none⟩ = some (.int .i64 x103000_1) := (blk_cell BK102.out 0).trans rfl
          have hcz47_1 : wc.cell? ⟨gb102, 1, none⟩ = some (.int .i64 x103001_1) := (blk_cell BK102.out 1).trans rfl
          have hcz47_2 : wc.cell? ⟨gb102, 2, none⟩ = some (u103002) := (blk_cell BK102.out 2).trans rfl
          have hfz47_0 := blk_frozen BK102.out 0
          have hfz47_1 := blk_frozen BK102.out 1
          have hfz47_2 := blk_frozen BK102.out 2
          go_wp2
          go_roundg kj12
          case measure => have := HK1.out; have := HJ12.out; omega
          case rel => exact ⟨(0), (wrap64 (x6_1 + 1)), (x102000_1), (x102001_1), (x5_1), (wrap64 (x103001_1 + 1)), (x103002_1), (u103002), (by first | rfl | (simp; done) | (simp [*]; done)), (by first | rfl | (simp; done) | (simp [*]; done)), H', ⟨by have := HK1.out; have := HJ12.out; omega⟩, ⟨by (with_reducible repeat (first | apply Kd.R_alloc | apply Kd.R_drewN | apply Kd.R_drew)); exact Kd.R_mono (Kd.R_far (p := ⟨gb102, 1, none⟩) (Kd.R_far (p := ⟨gb102, 0, none⟩) (Kd.R_types HO_103002.out BK102.out (by decide)) (fun _ hk => hk.2) (.int .i64 x5_1)) (fun _ hk => hk.2) (.int .i64 (wrap64 (x103001_1 + 1)))) (fun _ hk => trivial)⟩, ⟨by (with_reducible repeat (first | refine blk_drewN ?_ _ | refine blk_drew ?_ | refine blk_alloc ?_ _)); refine blk_far ?_ NB101_102.out _; (with_reducible repeat (first | refine blk_drewN ?_ _ | refine blk_drew ?_ | refine blk_alloc ?_ _)); refine blk_far ?_ NB101_102.out _; exact blc⟩, ⟨by (with_reducible repeat (first | refine blk_drewN ?_ _ | refine blk_drew ?_ | refine blk_alloc ?_ _)); refine blk_put (cs := #[.int .i64 x5_1, .int .i64 x103001_1, u103002]) ?_ 1 _ rfl; (with_reducible repeat (first | refine blk_drewN ?_ _ | refine blk_drew ?_ | refine blk_alloc ?_ _)); refine blk_put (cs := #[.int .i64 x103000_1, .int .i64 x103001_1, u103002]) ?_ 0 _ rfl; exact blc⟩, ⟨bel HB⟩⟩
    ·rw [if_neg c12] at H
     have c12b0 : decide (x6_1 ≤ (a0.size : Int)) = false := decide_eq_false c12
     clear c12
     have HC48 := Aside0.mk H
     clear H
     go_upto_region 18 with (fail)
     go_cut [81] (fun v81 wc => ∃ (kq : Nat) (x81_47 : Bool), v81 = .bool x81_47 ∧ Aside0 (spec_tyRead.j2 kq x81_47 x103000_1 x103001_1 x103002_1 = some (r1, r2, r3, r4)) ∧ Aside0 (kq ≤ k1) ∧ Aside0 (Kd.R (Kd.int .u8) 5 wc w.heap.size (fun _ => True) u103002 x103002_1) ∧ Aside0 (wc.heap[gb101]? = some (.cells #[.int .i64 x102000_1, .int .i64 x102001_1, (.slice none 0 0)] 37 (0, 0))) ∧ Aside0 (wc.heap[gb102]? = some (.cells #[.int .i64 x103000_1, .int .i64 x103001_1, u103002] 37 (0, 0))) ∧ Aside0 (Below w.heap.size w wc))
     case first =>
      have H := HC48.out
      clear HC48
      by_cases c49 : x103000_1 > 7
      ·rw [if_pos c49] at H
       have c49b0 : decide (7 < x103000_1) = true := decide_eq_true c49
       clear c49
       (first | rw [c49b0] | (simp only [i64_w, i32_w]; rw [c49b0]) | skip)
       have H' := Aside0.mk H
       clear H
       have hnb50 := NB102_101.out
       have hnc50 := NB101_102.out
       have hcz51_0 : wr.cell? ⟨gb102, 0, none⟩ = some (.int .i64 x103000_1) := (blk_cell BK102.out 0).trans rfl
       have hcz51_1 : wr.cell? ⟨gb102, 1, none⟩ = some (.int .i64 x103001_1) := (blk_cell BK102.out 1).trans rfl
       have hcz51_2 : wr.cell? ⟨gb102, 2, none⟩ = some (u103002) := (blk_cell BK102.out 2).trans rfl
       have hfz51_0 := blk_frozen BK102.out 0
       have hfz51_1 := blk_frozen BK102.out 1
       have hfz51_2 := blk_frozen BK102.out 2
       go_wp2
       go_meet
       case rel => exact ⟨_, (true), (by first | rfl | (simp; done) | (simp [*]; done)), H', ⟨by have := HK1.out; first | omega | exact Nat.le_refl _⟩, ⟨rch HO_103002⟩, ⟨blc⟩, ⟨blc⟩, ⟨bel HB⟩⟩
      ·rw [if_neg c49] at H
       have c49b0 : decide (7 < x103000_1) = false := decide_eq_false c49
       clear c49
       (first | rw [c49b0] | (simp only [i64_w, i32_w]; rw [c49b0]) | skip)
       by_cases c52 : x103001_1 > 7
       ·rw [if_pos c52] at H
        have c52b0 : decide (7 < x103001_1) = true := decide_eq_true c52
        clear c52
        have H' := Aside0.mk H
        clear H
        have hnb53 := NB102_101.out
        have hnc53 := NB101_102.out
        have hcz54_0 : wr.cell? ⟨gb102, 0, none⟩ = some (.int .i64 x103000_1) := (blk_cell BK102.out 0).trans rfl
        have hcz54_1 : wr.cell? ⟨gb102, 1, none⟩ = some (.int .i64 x103001_1) := (blk_cell BK102.out 1).trans rfl
        have hcz54_2 : wr.cell? ⟨gb102, 2, none⟩ = some (u103002) := (blk_cell BK102.out 2).trans rfl
        have hfz54_0 := blk_frozen BK102.out 0
        have hfz54_1 := blk_frozen BK102.out 1
        have hfz54_2 := blk_frozen BK102.out 2
        go_wp2
        go_meet
        case rel => exact ⟨_, (true), (by first | rfl | (simp; done) | (simp [*]; done)), H', ⟨by have := HK1.out; first | omega | exact Nat.le_refl _⟩, ⟨rch HO_103002⟩, ⟨blc⟩, ⟨blc⟩, ⟨bel HB⟩⟩
       ·rw [if_neg c52] at H
        have c52b0 : decide (7 < x103001_1) = false := decide_eq_false c52
        clear c52
        have H' := Aside0.mk H
        clear H
        have hnb55 := NB102_101.out
        have hnc55 := NB101_102.out
        have hcz56_0 : wr.cell? ⟨gb102, 0, none⟩ = some (.int .i64 x103000_1) := (blk_cell BK102.out 0).trans rfl
        have hcz56_1 : wr.cell? ⟨gb102, 1, none⟩ = some (.int .i64 x103001_1) := (blk_cell BK102.out 1).trans rfl
        have hcz56_2 : wr.cell? ⟨gb102, 2, none⟩ = some (u103002) := (blk_cell BK102.out 2).trans rfl
        have hfz56_0 := blk_frozen BK102.out 0
        have hfz56_1 := blk_frozen BK102.out 1
        have hfz56_2 := blk_frozen BK102.out 2
        obtain ⟨Ao57, co57, eo57⟩ := Kd.R_slice HO_103002.out
        subst eo57
        go_wp2
        go_meet
        case rel => exact ⟨_, (decide ((x103002_1.length : Int) > 36)), (by first | rfl | (simp; done) | (simp [*]; done)), H', ⟨by have := HK1.out; first | omega | exact Nat.le_refl _⟩, ⟨rch HO_103002⟩, ⟨blc⟩, ⟨blc⟩, ⟨bel HB⟩⟩
     case rest =>
      clear HC48
      try clear c1
      try clear p1
      try clear q1
      try clear hx1
      try clear c2
      try clear c2b0
      try clear c2b0y
      try clear c2b1
      try clear p2
      try clear q2
      try clear hx2
      try clear c3
      try clear c4
      try clear c5
      try clear p6
      try clear c10
      try clear c12
      try clear c12b0
      try clear c12b0y
      try clear c14
      try clear c14b0
      try clear c14b0y
      try clear c15
      try clear c15b0
      try clear c15b0y
      try clear p16
      try clear q16
      try clear hx16
      try clear c17
      try clear c18
      try clear c18b0
      try clear c18b0y
      try clear c19
      try clear c19b0
      try clear c19b0y
      try clear p20
      try clear q20
      try clear hx20
      try clear c22
      try clear p23
      try clear q23
      try clear hx23
      try clear c24
      try clear c29
      try clear c31
      try clear c31b0
      try clear c31b0y
      try clear c32
      try clear c32b0
      try clear c32b0y
      try clear c32b1
      try clear c33
      try clear c33b0
      try clear c33b0y
      try clear c33b1
      try clear c34
      try clear c36
      try clear c37
      try clear c39
      try clear c42
      try clear c42b0
      try clear c42b0y
      try clear c42b1
      try clear c43
      try clear c46
      try clear c49
      try clear c49b0
      try clear c49b0y
      try clear c50
      try clear c52
      try clear c52b0
      try clear c52b0y
      try clear c53
      try clear c55
      try clear c57
      try clear hcz11_0
      try clear hcz11_1
      try clear hcz11_2
      try clear hcz30_0
      try clear hcz30_1
      try clear hcz30_2
      try clear hcz35_0
      try clear hcz35_1
      try clear hcz35_2
      try clear hcz36_0
      try clear hcz36_1
      try clear hcz36_2
      try clear hcz38_0
      try clear hcz38_1
      try clear hcz38_2
      try clear hcz40_0
      try clear hcz40_1
      try clear hcz40_2
      try clear hcz41_0
      try clear hcz41_1
      try clear hcz41_2
      try clear hcz44_0
      try clear hcz44_1
      try clear hcz44_2
      try clear hcz45_0
      try clear hcz45_1
      try clear hcz45_2
      try clear hcz47_0
      try clear hcz47_1
      try clear hcz47_2
      try clear hcz51_0
      try clear hcz51_1
      try clear hcz51_2
      try clear hcz54_0
      try clear hcz54_1
      try clear hcz54_2
      try clear hcz56_0
      try clear hcz56_1
      try clear hcz56_2
      try clear hcz6_0
      try clear hcz6_1
      try clear hcz6_2
      try clear hcz7_0
      try clear hcz7_1
      try clear hcz7_2
      try clear hfz11_0
      try clear hfz11_1
      try clear hfz11_2
      try clear hfz30_0
      try clear hfz30_1
      try clear hfz30_2
      try clear hfz35_0
      try clear hfz35_1
      try clear hfz35_2
      try clear hfz36_0
      try clear hfz36_1
      try clear hfz36_2
      try clear hfz38_0
      try clear hfz38_1
      try clear hfz38_2
      try clear hfz40_0
      try clear hfz40_1
      try clear hfz40_2
      try clear hfz41_0
      try clear hfz41_1
      try clear hfz41_2
      try clear hfz44_0
      try clear hfz44_1
      try clear hfz44_2
      try clear hfz45_0
      try clear hfz45_1
      try clear hfz45_2
      try clear hfz47_0
      try clear hfz47_1
      try clear hfz47_2
      try clear hfz51_0
      try clear hfz51_1
      try clear hfz51_2
      try clear hfz54_0
      try clear hfz54_1
      try clear hfz54_2
      try clear hfz56_0
      try clear hfz56_1
      try clear hfz56_2
      try clear hfz6_0
      try clear hfz6_1
      try clear hfz6_2
      try clear hfz7_0
      try clear hfz7_1
      try clear hfz7_2
      try clear p1
      try clear p16
      try clear p2
      try clear p20
      try clear p23
      try clear q1
      try clear q16
      try clear q20
      try clear q23
      obtain ⟨kq, x81_47, rfl, HA, HJ47, HO_103002, BK101, BK102, HB⟩ := hcut
      cases kq with
      | zero => exact absurd HA.out (by simp [spec_tyRead.j2])
      | succ kj47 =>
       have H := HA.out
       clear HA
       simp only [spec_tyRead.j2] at H
       by_cases c58 : x81_47 = true
       ·subst c58
        have H1 : (some (0, 0, ([] : List Int), false)) = some (r1, r2, r3, r4) := by rw [if_pos rfl] at H; exact H
        clear H
        have H := H1
        clear H1
        simp only [Option.some.injEq, Prod.mk.injEq] at H
        obtain ⟨rfl, rfl, rfl, rfl⟩ := H
        have hnb59 := NB101_102.out
        have hnc59 := NB102_101.out
        have hcz60_0 : wc.cell? ⟨gb101, 0, none⟩ = some (.int .i64 x102000_1) := (blk_cell BK101.out 0).trans rfl
        have hcz60_1 : wc.cell? ⟨gb101, 1, none⟩ = some (.int .i64 x102001_1) := (blk_cell BK101.out 1).trans rfl
        have hcz60_2 : wc.cell? ⟨gb101, 2, none⟩ = some (.slice none 0 0) := (blk_cell BK101.out 2).trans rfl
        have hfz60_0 := blk_frozen BK101.out 0
        have hfz60_1 := blk_frozen BK101.out 1
        have hfz60_2 := blk_frozen BK101.out 2
        go_wp2
        refine bodyPost_ret (results_ct rfl _ _ gb101 37 #[.int .i64 0, .int .i64 0, .slice none 0 0] (0, 0) _ rfl (by (with_reducible repeat (first | refine blk_drewN ?_ _ | refine blk_drew ?_ | refine blk_alloc ?_ _)); refine blk_put (cs := #[.int .i64 0, .int .i64 0, .slice none 0 0]) ?_ 2 _ rfl; (with_reducible repeat (first | refine blk_drewN ?_ _ | refine blk_drew ?_ | refine blk_alloc ?_ _)); refine blk_put (cs := #[.int .i64 0, .int .i64 x102001_1, .slice none 0 0]) ?_ 1 _ rfl; (with_reducible repeat (first | refine blk_drewN ?_ _ | refine blk_drew ?_ | refine blk_alloc ?_ _)); refine blk_put (cs := #[.int .i64 x102000_1, .int .i64 x102001_1, .slice none 0 0]) ?_ 0 _ rfl; exact blc) Tryd.underlying37 rfl (by kernel_rfl)) rfl ?_
        exact ⟨_, by first | rfl | (simp [errW_none, errW_some] <;> rfl) | (simp [*, errW_none, errW_some] <;> rfl), by first | exact Kd.R_nil _ _ _ _ _ | exact Kd.N_nil _ _ _ _ _ | exact Kd.V_nil _ _ _ _ _ | exact Kd.Q_nil _ _ _ _ _ | exact Kd.S_nil _ _ _ _ _, bel HB⟩
       ·replace c58 := Bool.eq_false_iff.mpr c58
        subst c58
        have H1 : (spec_tyRead.l1 kj47 x103002_1 (x103002_1.length : Int) 0 x103000_1 x103001_1 x103002_1) = some (r1, r2, r3, r4) := by rw [if_neg (show ¬ (false = true) by decide)] at H; exact H
        clear H
        have H := H1
        clear H1
        have H' := Aside0.mk H
        clear H
        have hnb61 := NB102_101.out
        have hnc61 := NB101_102.out
        have hcz62_0 : wc.cell? ⟨gb102, 0, none⟩ = some (.int .i64 x103000_1) := (blk_cell BK102.out 0).trans rfl
        have hcz62_1 : wc.cell? ⟨gb102, 1, none⟩ = some (.int .i64 x103001_1) := (blk_cell BK102.out 1).trans rfl
        have hcz62_2 : wc.cell? ⟨gb102, 2, none⟩ = some (u103002) := (blk_cell BK102.out 2).trans rfl
        have hfz62_0 := blk_frozen BK102.out 0
        have hfz62_1 := blk_frozen BK102.out 1
        have hfz62_2 := blk_frozen BK102.out 2
        obtain ⟨Ao63, co63, eo63⟩ := Kd.R_slice HO_103002.out
        subst eo63
        go_wp2
        go_loopg [86] kj47 (fun kq v86 w' => ∃ (x86_3 : Int) (x102000_3 : Int) (x102001_3 : Int), v86 = .int .i64 x86_3 ∧ Aside0 (spec_tyRead.l1 kq x103002_1 (x103002_1.length : Int) x86_3 x103000_1 x103001_1 x103002_1 = some (r1, r2, r3, r4)) ∧ Aside0 (kq ≤ kj47) ∧ Aside0 (Kd.R (Kd.int .u8) 5 w' w.heap.size (fun _ => True) (.slice Ao63 x103002_1.length co63) x103002_1) ∧ Aside0 (Kd.R (Kd.int .u8) 5 w' w.heap.size (fun _ => True) (.slice Ao63 x103002_1.length co63) x103002_1) ∧ Aside0 (w'.heap[gb101]? = some (.cells #[.int .i64 x102000_3, .int .i64 x102001_3, (.slice none 0 0)] 37 (0, 0))) ∧ Aside0 (w'.heap[gb102]? = some (.cells #[.int .i64 x103000_1, .int .i64 x103001_1, (.slice Ao63 x103002_1.length co63)] 37 (0, 0))) ∧ Aside0 (Below w.heap.size w w'))
        case atStart => exact ⟨(0), (x102000_1), (x102001_1), (by first | rfl | (simp; done) | (simp [*]; done)), H', ⟨Nat.le_refl _⟩, ⟨rch HO_103002⟩, ⟨rch HO_103002⟩, ⟨blc⟩, ⟨blc⟩, ⟨bel HB⟩⟩
        case round =>
         clear H'
         try clear c1
         try clear p1
         try clear q1
         try clear hx1
         try clear c2
         try clear c2b0
         try clear c2b0y
         try clear c2b1
         try clear p2
         try clear q2
         try clear hx2
         try clear c3
         try clear c4
         try clear c5
         try clear c6
         try clear p6
         try clear c10
         try clear c12
         try clear c12b0
         try clear c12b0y
         try clear c14
         try clear c14b0
         try clear c14b0y
         try clear c15
         try clear c15b0
         try clear c15b0y
         try clear p16
         try clear q16
         try clear hx16
         try clear c17
         try clear c18
         try clear c18b0
         try clear c18b0y
         try clear c19
         try clear c19b0
         try clear c19b0y
         try clear p20
         try clear q20
         try clear hx20
         try clear c22
         try clear p23
         try clear q23
         try clear hx23
         try clear c24
         try clear c29
         try clear c31
         try clear c31b0
         try clear c31b0y
         try clear c32
         try clear c32b0
         try clear c32b0y
         try clear c32b1
         try clear c33
         try clear c33b0
         try clear c33b0y
         try clear c33b1
         try clear c34
         try clear c36
         try clear c37
         try clear c39
         try clear c42
         try clear c42b0
         try clear c42b0y
         try clear c42b1
         try clear c43
         try clear c46
         try clear c49
         try clear c49b0
         try clear c49b0y
         try clear c50
         try clear c52
         try clear c52b0
         try clear c52b0y
         try clear c53
         try clear c55
         try clear c57
         try clear c58
         try clear c59
         try clear c61
         try clear hcz11_0
         try clear hcz11_1
         try clear hcz11_2
         try clear hcz30_0
         try clear hcz30_1
         try clear hcz30_2
         try clear hcz35_0
         try clear hcz35_1
         try clear hcz35_2
         try clear hcz36_0
         try clear hcz36_1
         try clear hcz36_2
         try clear hcz38_0
         try clear hcz38_1
         try clear hcz38_2
         try clear hcz40_0
         try clear hcz40_1
         try clear hcz40_2
         try clear hcz41_0
         try clear hcz41_1
         try clear hcz41_2
         try clear hcz44_0
         try clear hcz44_1
         try clear hcz44_2
         try clear hcz45_0
         try clear hcz45_1
         try clear hcz45_2
         try clear hcz47_0
         try clear hcz47_1
         try clear hcz47_2
         try clear hcz51_0
         try clear hcz51_1
         try clear hcz51_2
         try clear hcz54_0
         try clear hcz54_1
         try clear hcz54_2
         try clear hcz56_0
         try clear hcz56_1
         try clear hcz56_2
         try clear hcz60_0
         try clear hcz60_1
         try clear hcz60_2
         try clear hcz62_0
         try clear hcz62_1
         try clear hcz62_2
         try clear hcz6_0
         try clear hcz6_1
         try clear hcz6_2
         try clear hcz7_0
         try clear hcz7_1
         try clear hcz7_2
         try clear hfz11_0
         try clear hfz11_1
         try clear hfz11_2
         try clear hfz30_0
         try clear hfz30_1
         try clear hfz30_2
         try clear hfz35_0
         try clear hfz35_1
         try clear hfz35_2
         try clear hfz36_0
         try clear hfz36_1
         try clear hfz36_2
         try clear hfz38_0
         try clear hfz38_1
         try clear hfz38_2
         try clear hfz40_0
         try clear hfz40_1
         try clear hfz40_2
         try clear hfz41_0
         try clear hfz41_1
         try clear hfz41_2
         try clear hfz44_0
         try clear hfz44_1
         try clear hfz44_2
         try clear hfz45_0
         try clear hfz45_1
         try clear hfz45_2
         try clear hfz47_0
         try clear hfz47_1
         try clear hfz47_2
         try clear hfz51_0
         try clear hfz51_1
         try clear hfz51_2
         try clear hfz54_0
         try clear hfz54_1
         try clear hfz54_2
         try clear hfz56_0
         try clear hfz56_1
         try clear hfz56_2
         try clear hfz60_0
         try clear hfz60_1
         try clear hfz60_2
         try clear hfz62_0
         try clear hfz62_1
         try clear hfz62_2
         try clear hfz6_0
         try clear hfz6_1
         try clear hfz6_2
         try clear hfz7_0
         try clear hfz7_1
         try clear hfz7_2
         try clear p1
         try clear p16
         try clear p2
         try clear p20
         try clear p23
         try clear p6
         try clear q1
         try clear q16
         try clear q2
         try clear q20
         try clear q23
         obtain ⟨x86_3, x102000_3, x102001_3, rfl, HA, HK3, HO_84, HO_103002, BK101, BK102, HB⟩ := hrel
         cases gk with
         | zero => exact absurd HA.out (by simp [spec_tyRead.l1])
         | succ k3 =>
          have H := HA.out
          clear HA
          simp only [spec_tyRead.l1] at H
          by_cases c64 : x86_3 < (x103002_1.length : Int)
          ·rw [if_pos c64] at H
           have c64b0 : decide (x86_3 < (x103002_1.length : Int)) = true := decide_eq_true c64
           clear c64
           by_cases c65 : 0 ≤ x86_3
           ·rw [if_pos c65] at H
            have c65b0 : decide (0 ≤ x86_3) = true := decide_eq_true c65
            clear c65
            by_cases c66 : x86_3 < (x103002_1.length : Int)
            ·rw [if_pos c66] at H
             have c66b0 : decide (x86_3 < (x103002_1.length : Int)) = true := decide_eq_true c66
             clear c66
             have c67b0 := eq_true (of_decide_eq_true (by first | (with_reducible assumption) | assumption) : 0 ≤ x86_3)
             by_cases c68 : x86_3 ≤ (x103002_1.length : Int)
             ·rw [if_pos c68] at H
              have c68b0 := eq_true c68
              have c68b1 : decide (x86_3 ≤ (x103002_1.length : Int)) = true := decide_eq_true c68
              clear c68
              obtain ⟨y108, hy108⟩ : ∃ y_ : List Int, y_ = (x103002_1.take (x86_3 : Int).toNat) := ⟨_, rfl⟩
              replace H : (spec_tyRead.l2 k3 (rd x103002_1 x86_3) x103002_1 (x103002_1.length : Int) x86_3 y108 (y108.length : Int) 0 x103000_1 x103001_1 x103002_1) = some (r1, r2, r3, r4) := rH hy108 H
              have Ny108 := Aside0.mk hy108
              clear hy108
              have H' := Aside0.mk H
              clear H
              have p107 : 0 ≤ (x86_3 : Int) := of_decide_eq_true (by first | (with_reducible assumption) | assumption)
              have q107 : x86_3 < (x103002_1.length : Int) := of_decide_eq_true (by first | (with_reducible assumption) | assumption)
              obtain ⟨ad107, e107, hx107_0⟩ := Kd.at_int (Kd.R_reads' HO_84.out).2.2 x86_3 p107 q107
              cases e107
              replace p107 := eq_true p107
              replace q107 := eq_true q107
              have hnb69 := NB102_101.out
              have hnc69 := NB101_102.out
              have hcz70_0 : wr.cell? ⟨gb102, 0, none⟩ = some (.int .i64 x103000_1) := (blk_cell BK102.out 0).trans rfl
              have hcz70_1 : wr.cell? ⟨gb102, 1, none⟩ = some (.int .i64 x103001_1) := (blk_cell BK102.out 1).trans rfl
              have hcz70_2 : wr.cell? ⟨gb102, 2, none⟩ = some (.slice (some ad107) x103002_1.length co63) := (blk_cell BK102.out 2).trans rfl
              have hfz70_0 := blk_frozen BK102.out 0
              have hfz70_1 := blk_frozen BK102.out 1
              have hfz70_2 := blk_frozen BK102.out 2
              have q71 : (x86_3 : Int) ≤ ((x103002_1.length : Int) : Int) := of_decide_eq_true (by first | (with_reducible assumption) | assumption)
              obtain ⟨i071, hi071, _, hsz71, _⟩ := info_parts info5
              have hroom71 : x103002_1.length ≤ co63 := (Kd.R_reads' HO_103002.out).2.1
              have hC71 : Kd.C (Kd.int .u8) _ (some ad107) x103002_1.length x103002_1 := (Kd.R_reads' HO_103002.out).2.2
              have hcut71 := cut_to (P := Tryd.prog) 35 5 .i64 Tryd.underlying35 hi071 (some ad107) x103002_1.length co63 x86_3 (of_decide_eq_true (by first | (with_reducible assumption) | assumption)) q71 hroom71
              have hr71 := Kd.C_take (m := (x86_3 : Int).toNat) hC71 (by omega)
              have hy71 : y108.length = (x86_3 : Int).toNat := (by rw [Ny108.out, List.length_take]; omega)
              rw [← Ny108.out] at hr71
              rw [← hy71] at hcut71
              have HR111 := Aside0.mk hr71
              have HC111 := Aside0.mk (show y108.length ≤ co63 from by omega)
              clear hr71 hC71 hroom71 hi071 hsz71
              have KY71 := Aside0.mk hy71
              clear hy71
              have KL71 := Aside0.mk (show (x86_3 : Int).toNat ≤ x103002_1.length from by omega)
              replace q71 := eq_true q71
              go_wp2
              go_loopg [96] k3 (fun kq v96 w' => ∃ (x96_4 : Int) (x102000_4 : Int) (x102001_4 : Int), v96 = .int .i64 x96_4 ∧ Aside0 (spec_tyRead.l2 kq (rd x103002_1 x86_3) x103002_1 (x103002_1.length : Int) x86_3 y108 (y108.length : Int) x96_4 x103000_1 x103001_1 x103002_1 = some (r1, r2, r3, r4)) ∧ Aside0 (kq ≤ k3) ∧ Aside0 (Kd.R (Kd.int .u8) 5 w' w.heap.size (fun _ => True) (.slice (some ad107) x103002_1.length co63) x103002_1) ∧ Aside0 (Kd.R (Kd.int .u8) 5 w' w.heap.size (fun _ => True) (.slice (some ad107) x103002_1.length co63) x103002_1) ∧ Aside0 (w'.heap[gb101]? = some (.cells #[.int .i64 x102000_4, .int .i64 x102001_4, (.slice none 0 0)] 37 (0, 0))) ∧ Aside0 (w'.heap[gb102]? = some (.cells #[.int .i64 x103000_1, .int .i64 x103001_1, (.slice (some ad107) x103002_1.length co63)] 37 (0, 0))) ∧ Aside0 (Kd.C (Kd.int .u8) w' (some ad107) y108.length y108) ∧ Aside0 (Below w.heap.size w w'))
              case atStart => exact ⟨(0), (x102000_3), (x102001_3), (by first | rfl | (simp; done) | (simp [*]; done)), H', ⟨Nat.le_refl _⟩, ⟨rch HO_84⟩, ⟨rch HO_103002⟩, ⟨blc⟩, ⟨blc⟩, ⟨by repeat (first | (with_reducible exact HR111.out) | (with_reducible refine Kd.C_alloc ?_ _) | (with_reducible refine Kd.C_drewN ?_ _) | (with_reducible refine Kd.C_drew ?_) | exact HR111.out)⟩, ⟨bel HB⟩⟩
              case round =>
               clear H'
               try clear c1
               try clear p1
               try clear q1
               try clear hx1
               try clear c2
               try clear c2b0
               try clear c2b0y
               try clear c2b1
               try clear p2
               try clear q2
               try clear hx2
               try clear c3
               try clear c4
               try clear c5
               try clear c6
               try clear p6
               try clear q7
               try clear c10
               try clear p10
               try clear q10
               try clear hx10
               try clear c12
               try clear c12b0
               try clear c12b0y
               try clear c14
               try clear c14b0
               try clear c14b0y
               try clear c15
               try clear c15b0
               try clear c15b0y
               try clear p16
               try clear q16
               try clear hx16
               try clear c17
               try clear c18
               try clear c18b0
               try clear c18b0y
               try clear c19
               try clear c19b0
               try clear c19b0y
               try clear p20
               try clear q20
               try clear hx20
               try clear c22
               try clear p23
               try clear q23
               try clear hx23
               try clear c24
               try clear c29
               try clear c31
               try clear c31b0
               try clear c31b0y
               try clear c32
               try clear c32b0
               try clear c32b0y
               try clear c32b1
               try clear c33
               try clear c33b0
               try clear c33b0y
               try clear c33b1
               try clear c34
               try clear c36
               try clear c37
               try clear c39
               try clear c42
               try clear c42b0
               try clear c42b0y
               try clear c42b1
               try clear c43
               try clear c46
               try clear c49
               try clear c49b0
               try clear c49b0y
               try clear c50
               try clear c52
               try clear c52b0
               try clear c52b0y
               try clear c53
               try clear c55
               try clear c57
               try clear c58
               try clear c59
               try clear c61
               try clear c64
               try clear c64b0
               try clear c64b0y
               try clear p64
               try clear c65
               try clear c65b0
               try clear c65b0y
               try clear c66
               try clear c66b0
               try clear c66b0y
               try clear c67
               try clear c67b0
               try clear c67b0y
               try clear c68
               try clear c68b0
               try clear c68b0y
               try clear c68b1
               try clear c69
               try clear q71
               try clear hcz11_0
               try clear hcz11_1
               try clear hcz11_2
               try clear hcz30_0
               try clear hcz30_1
               try clear hcz30_2
               try clear hcz35_0
               try clear hcz35_1
               try clear hcz35_2
               try clear hcz36_0
               try clear hcz36_1
               try clear hcz36_2
               try clear hcz38_0
               try clear hcz38_1
               try clear hcz38_2
               try clear hcz40_0
               try clear hcz40_1
               try clear hcz40_2
               try clear hcz41_0
               try clear hcz41_1
               try clear hcz41_2
               try clear hcz44_0
               try clear hcz44_1
               try clear hcz44_2
               try clear hcz45_0
               try clear hcz45_1
               try clear hcz45_2
               try clear hcz47_0
               try clear hcz47_1
               try clear hcz47_2
               try clear hcz51_0
               try clear hcz51_1
               try clear hcz51_2
               try clear hcz54_0
               try clear hcz54_1
               try clear hcz54_2
               try clear hcz56_0
               try clear hcz56_1
               try clear hcz56_2
               try clear hcz60_0
               try clear hcz60_1
               try clear hcz60_2
               try clear hcz62_0
               try clear hcz62_1
               try clear hcz62_2
               try clear hcz6_0
               try clear hcz6_1
               try clear hcz6_2
               try clear hcz70_0
               try clear hcz70_1
               try clear hcz70_2
               try clear hcz7_0
               try clear hcz7_1
               try clear hcz7_2
               try clear hfz11_0
               try clear hfz11_1
               try clear hfz11_2
               try clear hfz30_0
               try clear hfz30_1
               try clear hfz30_2
               try clear hfz35_0
               try clear hfz35_1
               try clear hfz35_2
               try clear hfz36_0
               try clear hfz36_1
               try clear hfz36_2
               try clear hfz38_0
               try clear hfz38_1
               try clear hfz38_2
               try clear hfz40_0
               try clear hfz40_1
               try clear hfz40_2
               try clear hfz41_0
               try clear hfz41_1
               try clear hfz41_2
               try clear hfz44_0
               try clear hfz44_1
               try clear hfz44_2
               try clear hfz45_0
               try clear hfz45_1
               try clear hfz45_2
               try clear hfz47_0
               try clear hfz47_1
               try clear hfz47_2
               try clear hfz51_0
               try clear hfz51_1
               try clear hfz51_2
               try clear hfz54_0
               try clear hfz54_1
               try clear hfz54_2
               try clear hfz56_0
               try clear hfz56_1
               try clear hfz56_2
               try clear hfz60_0
               try clear hfz60_1
               try clear hfz60_2
               try clear hfz62_0
               try clear hfz62_1
               try clear hfz62_2
               try clear hfz6_0
               try clear hfz6_1
               try clear hfz6_2
               try clear hfz70_0
               try clear hfz70_1
               try clear hfz70_2
               try clear hfz7_0
               try clear hfz7_1
               try clear hfz7_2
               try clear hx107_0
               try clear p1
               try clear p107
               try clear p16
               try clear p2
               try clear p20
               try clear p23
               try clear p6
               try clear q1
               try clear q107
               try clear q16
               try clear q2
               try clear q20
               try clear q23
               try clear q71
               obtain ⟨x96_4, x102000_4, x102001_4, rfl, HA, HK4, HO_84, HO_103002, BK101, BK102, HR111, HB⟩ := hrel
               cases gk with
               | zero => exact absurd HA.out (by simp [spec_tyRead.l2])
               | succ k4 =>
                have H := HA.out
                clear HA
                simp only [spec_tyRead.l2] at H
                by_cases c72 : x96_4 < (y108.length : Int)
                ·rw [if_pos c72] at H
                 have c72b0 : decide (x96_4 < (y108.length : Int)) = true := decide_eq_true c72
                 clear c72
                 by_cases c73 : 0 ≤ x96_4
                 ·rw [if_pos c73] at H
                  have c73b0 : decide (0 ≤ x96_4) = true := decide_eq_true c73
                  clear c73
                  by_cases c74 : x96_4 < (y108.length : Int)
                  ·rw [if_pos c74] at H
                   have c74b0 : decide (x96_4 < (y108.length : Int)) = true := decide_eq_true c74
                   clear c74
                   by_cases c75 : (rd x103002_1 x86_3) = (rd y108 x96_4)
                   ·rw [if_pos c75] at H
                    have c75b0 : ((rd x103002_1 x86_3) == (rd y108 x96_4)) = true := beq_iff_eq.mpr c75
                    have c75b1 : ((rd x103002_1 x86_3) != (rd y108 x96_4)) = false := bne_eq_false_iff_eq.mpr c75
                    clear c75
                    by_cases c76 : (rd x103002_1 x86_3) ≥ 97
                    ·rw [if_pos c76] at H
                     have c76b0 : decide (97 ≤ (rd x103002_1 x86_3)) = true := decide_eq_true c76
                     clear c76
                     by_cases c77 : (rd x103002_1 x86_3) ≤ 102
                     ·rw [if_pos c77] at H
                      have c77b0 : decide ((rd x103002_1 x86_3) ≤ 102) = true := decide_eq_true c77
                      clear c77
                      simp only [Option.some.injEq, Prod.mk.injEq] at H
                      obtain ⟨rfl, rfl, rfl, rfl⟩ := H
                      have p112 : 0 ≤ (x96_4 : Int) := of_decide_eq_true (by first | (with_reducible assumption) | assumption)
                      have q112 : x96_4 < (y108.length : Int) := of_decide_eq_true (by first | (with_reducible assumption) | assumption)
                      obtain ⟨ad112, e112, hx112_0⟩ := Kd.at_int HR111.out x96_4 p112 q112
                      obtain rfl : ad107 = ad112 := (by injection e112)
                      (try replace hx112_0 := (HB.out.cell (World.block_lt_of_cell? w _ hx112_0)).trans hx112_0)
                      replace p112 := eq_true p112
                      replace q112 := eq_true q112
                      have hnb78 := NB101_102.out
                      have hnc78 := NB102_101.out
                      have hcz79_0 : wr.cell? ⟨gb101, 0, none⟩ = some (.int .i64 x102000_4) := (blk_cell BK101.out 0).trans rfl
                      have hcz79_1 : wr.cell? ⟨gb101, 1, none⟩ = some (.int .i64 x102001_4) := (blk_cell BK101.out 1).trans rfl
                      have hcz79_2 : wr.cell? ⟨gb101, 2, none⟩ = some (.slice none 0 0) := (blk_cell BK101.out 2).trans rfl
                      have hfz79_0 := blk_frozen BK101.out 0
                      have hfz79_1 := blk_frozen BK101.out 1
                      have hfz79_2 := blk_frozen BK101.out 2
                      go_wp2
                      refine bodyPost_ret (results_ct rfl _ _ gb101 37 #[.int .i64 0, .int .i64 0, .slice none 0 0] (0, 0) _ rfl (by (with_reducible repeat (first | refine blk_drewN ?_ _ | refine blk_drew ?_ | refine blk_alloc ?_ _)); refine blk_put (cs := #[.int .i64 0, .int .i64 0, .slice none 0 0]) ?_ 2 _ rfl; (with_reducible repeat (first | refine blk_drewN ?_ _ | refine blk_drew ?_ | refine blk_alloc ?_ _)); refine blk_put (cs := #[.int .i64 0, .int .i64 x102001_4, .slice none 0 0]) ?_ 1 _ rfl; (with_reducible repeat (first | refine blk_drewN ?_ _ | refine blk_drew ?_ | refine blk_alloc ?_ _)); refine blk_put (cs := #[.int .i64 x102000_4, .int .i64 x102001_4, .slice none 0 0]) ?_ 0 _ rfl; exact blc) Tryd.underlying37 rfl (by kernel_rfl)) rfl ?_
                      exact ⟨_, by first | rfl | (simp [errW_none, errW_some] <;> rfl) | (simp [*, errW_none, errW_some] <;> rfl), by first | exact Kd.R_nil _ _ _ _ _ | exact Kd.N_nil _ _ _ _ _ | exact Kd.V_nil _ _ _ _ _ | exact Kd.Q_nil _ _ _ _ _ | exact Kd.S_nil _ _ _ _ _, bel HB⟩
                     ·rw [if_neg c77] at H
                      have c77b0 : decide ((rd x103002_1 x86_3) ≤ 102) = false := decide_eq_false c77
                      clear c77
                      have H' := Aside0.mk H
                      clear H
                      have p112 : 0 ≤ (x96_4 : Int) := of_decide_eq_true (by first | (with_reducible assumption) | assumption)
                      have q112 : x96_4 < (y108.length : Int) := of_decide_eq_true (by first | (with_reducible assumption) | assumption)
                      obtain ⟨ad112, e112, hx112_0⟩ := Kd.at_int HR111.out x96_4 p112 q112
                      obtain rfl : ad107 = ad112 := (by injection e112)
                      (try replace hx112_0 := (HB.out.cell (World.block_lt_of_cell? w _ hx112_0)).trans hx112_0)
                      replace p112 := eq_true p112
                      replace q112 := eq_true q112
                      go_wp2
                      go_roundg k4
                      case measure => have := HK1.out; have := HJ47.out; have := HK3.out; have := HK4.out; omega
                      case rel => exact ⟨(wrap64 (x96_4 + 1)), (x102000_4), (x102001_4), (by first | rfl | (simp; done) | (simp [*]; done)), H', ⟨by have := HK1.out; have := HJ47.out; have := HK3.out; have := HK4.out; omega⟩, ⟨rch HO_84⟩, ⟨rch HO_103002⟩, ⟨blc⟩, ⟨blc⟩, ⟨by repeat (first | (with_reducible exact HR111.out) | (with_reducible refine Kd.C_alloc ?_ _) | (with_reducible refine Kd.C_drewN ?_ _) | (with_reducible refine Kd.C_drew ?_) | exact HR111.out)⟩, ⟨bel HB⟩⟩
                    ·rw [if_neg c76] at H
                     have c76b0 : decide (97 ≤ (rd x103002_1 x86_3)) = false := decide_eq_false c76
                     clear c76
                     have H' := Aside0.mk H
                     clear H
                     have p112 : 0 ≤ (x96_4 : Int) := of_decide_eq_true (by first | (with_reducible assumption) | assumption)
                     have q112 : x96_4 < (y108.length : Int) := of_decide_eq_true (by first | (with_reducible assumption) | assumption)
                     obtain ⟨ad112, e112, hx112_0⟩ := Kd.at_int HR111.out x96_4 p112 q112
                     obtain rfl : ad107 = ad112 := (by injection e112)
                     (try replace hx112_0 := (HB.out.cell (World.block_lt_of_cell? w _ hx112_0)).trans hx112_0)
                     replace p112 := eq_true p112
                     replace q112 := eq_true q112
                     go_wp2
                     go_roundg k4
                     case measure => have := HK1.out; have := HJ47.out; have := HK3.out; have := HK4.out; omega
                     case rel => exact ⟨(wrap64 (x96_4 + 1)), (x102000_4), (x102001_4), (by first | rfl | (simp; done) | (simp [*]; done)), H', ⟨by have := HK1.out; have := HJ47.out; have := HK3.out; have := HK4.out; omega⟩, ⟨rch HO_84⟩, ⟨rch HO_103002⟩, ⟨blc⟩, ⟨blc⟩, ⟨by repeat (first | (with_reducible exact HR111.out) | (with_reducible refine Kd.C_alloc ?_ _) | (with_reducible refine Kd.C_drewN ?_ _) | (with_reducible refine Kd.C_drew ?_) | exact HR111.out)⟩, ⟨bel HB⟩⟩
                   ·rw [if_neg c75] at H
                    have c75b0 : ((rd x103002_1 x86_3) == (rd y108 x96_4)) = false := beq_eq_false_iff_ne.mpr c75
                    have c75b1 : ((rd x103002_1 x86_3) != (rd y108 x96_4)) = true := bne_iff_ne.mpr c75
                    have H' := Aside0.mk H
                    clear H
                    have p112 : 0 ≤ (x96_4 : Int) := of_decide_eq_true (by first | (with_reducible assumption) | assumption)
                    have q112 : x96_4 < (y108.length : Int) := of_decide_eq_true (by first | (with_reducible assumption) | assumption)
                    obtain ⟨ad112, e112, hx112_0⟩ := Kd.at_int HR111.out x96_4 p112 q112
                    obtain rfl : ad107 = ad112 := (by injection e112)
                    (try replace hx112_0 := (HB.out.cell (World.block_lt_of_cell? w _ hx112_0)).trans hx112_0)
                    replace p112 := eq_true p112
                    replace q112 := eq_true q112
                    go_wp2
                    go_roundg k4
                    case measure => have := HK1.out; have := HJ47.out; have := HK3.out; have := HK4.out; omega
                    case rel => exact ⟨(wrap64 (x96_4 + 1)), (x102000_4), (x102001_4), (by first | rfl | (simp; done) | (simp [*]; done)), H', ⟨by have := HK1.out; have := HJ47.out; have := HK3.out; have := HK4.out; omega⟩, ⟨rch HO_84⟩, ⟨rch HO_103002⟩, ⟨blc⟩, ⟨blc⟩, ⟨by repeat (first | (with_reducible exact HR111.out) | (with_reducible refine Kd.C_alloc ?_ _) | (with_reducible refine Kd.C_drewN ?_ _) | (with_reducible refine Kd.C_drew ?_) | exact HR111.out)⟩, ⟨bel HB⟩⟩
                  ·rw [if_neg c74] at H
                   exact absurd H (by simp)
                 ·rw [if_neg c73] at H
                  exact absurd H (by simp)
                ·rw [if_neg c72] at H
                 have c72b0 : decide (x96_4 < (y108.length : Int)) = false := decide_eq_false c72
                 clear c72
                 have H' := Aside0.mk H
                 clear H
                 go_wp2
                 go_roundg k4
                 case measure => have := HK1.out; have := HJ47.out; have := HK3.out; have := HK4.out; omega
                 case rel => exact ⟨(wrap64 (x86_3 + 1)), (x102000_4), (x102001_4), (by first | rfl | (simp; done) | (simp [*]; done)), H', ⟨by have := HK1.out; have := HJ47.out; have := HK3.out; have := HK4.out; omega⟩, ⟨rch HO_84⟩, ⟨rch HO_103002⟩, ⟨blc⟩, ⟨blc⟩, ⟨bel HB⟩⟩
             ·rw [if_neg c68] at H
              exact absurd H (by simp)
            ·rw [if_neg c66] at H
             exact absurd H (by simp)
           ·rw [if_neg c65] at H
            exact absurd H (by simp)
          ·rw [if_neg c64] at H
           have c64b0 : decide (x86_3 < (x103002_1.length : Int)) = false := decide_eq_false c64
           clear c64
           simp only [Option.some.injEq, Prod.mk.injEq] at H
           obtain ⟨rfl, rfl, rfl, rfl⟩ := H
           have hnb80 := NB102_101.out
           have hnc80 := NB101_102.out
           have hcz81_0 : wr.cell? ⟨gb102, 0, none⟩ = some (.int .i64 x103000_1) := (blk_cell BK102.out 0).trans rfl
           have hcz81_1 : wr.cell? ⟨gb102, 1, none⟩ = some (.int .i64 x103001_1) := (blk_cell BK102.out 1).trans rfl
           have hcz81_2 : wr.cell? ⟨gb102, 2, none⟩ = some (.slice Ao63 x103002_1.length co63) := (blk_cell BK102.out 2).trans rfl
           have hfz81_0 := blk_frozen BK102.out 0
           have hfz81_1 := blk_frozen BK102.out 1
           have hfz81_2 := blk_frozen BK102.out 2
           have hcz82_0 : wr.cell? ⟨gb101, 0, none⟩ = some (.int .i64 x102000_3) := (blk_cell BK101.out 0).trans rfl
           have hcz82_1 : wr.cell? ⟨gb101, 1, none⟩ = some (.int .i64 x102001_3) := (blk_cell BK101.out 1).trans rfl
           have hcz82_2 : wr.cell? ⟨gb101, 2, none⟩ = some (.slice none 0 0) := (blk_cell BK101.out 2).trans rfl
           have hfz82_0 := blk_frozen BK101.out 0
           have hfz82_1 := blk_frozen BK101.out 1
           have hfz82_2 := blk_frozen BK101.out 2
           go_wp2
           refine bodyPost_ret (results_ct rfl _ _ gb101 37 #[.int .i64 x103000_1, .int .i64 x103001_1, .slice Ao63 x103002_1.length co63] (0, 0) _ rfl (by (with_reducible repeat (first | refine blk_drewN ?_ _ | refine blk_drew ?_ | refine blk_alloc ?_ _)); refine blk_put (cs := #[.int .i64 x103000_1, .int .i64 x103001_1, .slice none 0 0]) ?_ 2 _ rfl; (with_reducible repeat (first | refine blk_drewN ?_ _ | refine blk_drew ?_ | refine blk_alloc ?_ _)); refine blk_put (cs := #[.int .i64 x103000_1, .int .i64 x102001_3, .slice none 0 0]) ?_ 1 _ rfl; (with_reducible repeat (first | refine blk_drewN ?_ _ | refine blk_drew ?_ | refine blk_alloc ?_ _)); refine blk_put (cs := #[.int .i64 x102000_3, .int .i64 x102001_3, .slice none 0 0]) ?_ 0 _ rfl; exact blc) Tryd.underlying37 rfl (by kernel_rfl)) rfl ?_
           exact ⟨_, by first | rfl | (simp [errW_none, errW_some] <;> rfl) | (simp [*, errW_none, errW_some] <;> rfl), by (with_reducible repeat (first | apply Kd.R_alloc | apply Kd.R_drewN | apply Kd.R_drew)); exact Kd.R_mono (Kd.R_far (p := ⟨gb101, 2, none⟩) (Kd.R_far (p := ⟨gb101, 1, none⟩) (Kd.R_far (p := ⟨gb101, 0, none⟩) (Kd.R_types HO_103002.out BK101.out (by decide)) (fun _ hk => hk.2) (.int .i64 x103000_1)) (fun _ hk => hk.2) (.int .i64 x103001_1)) (fun _ hk => hk.2) (.slice Ao63 x103002_1.length co63)) (fun _ hk => trivial), bel HB⟩
end Go.Proofs.YtcpeldgnabfdmaaDoor.Q
end
section
namespace Go.Proofs.YtcpeldgnabfdmaaDoor.Q
open Go.RowKit Go.Proofs.YtcpeldgnabfdmaaDoorW.PrintWords Go.Proofs.YtcpeldgnabfdmaaDoorW.PrintLast Go.Proofs.YtcpeldgnabfdmaaDoorW.PrintMore
def Ev {α : Type} (g : Nat → Option α) (r : α) : Prop := ∃ k0, ∀ k, k0 ≤ k → g k = some r
theorem Ev.step {α : Type} {g g' : Nat → Option α} {r : α} (h : Ev g' r) (e : ∀ k, g (k + 1) = g' k) : Ev g r := by
 obtain ⟨k0, h⟩ := h
 refine ⟨k0 + 1, fun k hk => ?_⟩
 obtain ⟨m, rfl⟩ : ∃ m, k = m + 1 := ⟨k - 1, by omega⟩
 rw [e]
 exact h m (by omega)
theorem Ev.congr {α : Type} {g g' : Nat → Option α} {r : α} (h : Ev g' r) (e : ∀ k, g k = g' k) : Ev g r := by
 obtain ⟨k0, h⟩ := h
 exact ⟨k0, fun k hk => (e k).trans (h k hk)⟩
theorem Ev.const {α : Type} {o : Option α} {r : α} (h : o = some r) : Ev (fun _ => o) r := ⟨0, fun _ _ => h⟩
theorem Ev.bind {α β : Type} {g : Nat → Option α} {f : Nat → α → Option β} {a : α} {r : β} (h1 : Ev g a) (h2 : Ev (fun k => f k a) r) : Ev (fun k => (g k).bind (f k)) r := by
 obtain ⟨k1, h1⟩ := h1
 obtain ⟨k2, h2⟩ := h2
 refine ⟨max k1 k2, fun k hk => ?_⟩
 show (g k).bind (f k) = some r
 rw [h1 k (by omega)]
 exact h2 k (by omega)
theorem Ev.of_mono {α : Type} {g : Nat → Option α} {r : α} (hm : ∀ k, LeO (g k) (g (k + 1))) (k0 : Nat) (h : g k0 = some r) : Ev g r := by
 refine ⟨k0, fun k hk => ?_⟩
 obtain ⟨d, rfl⟩ : ∃ d, k = k0 + d := ⟨k - k0, by omega⟩
 clear hk
 induction d with
 | zero => exact h
 | succ d ih => exact hm _ _ ih
theorem Ev.out {α : Type} {g : Nat → Option α} {r : α} (h : Ev g r) : ∃ k, g k = some r := by
 obtain ⟨k, h⟩ := h
 exact ⟨k, h k (Nat.le_refl _)⟩
theorem ite_iff {p q : Prop} [Decidable p] [Decidable q] {α : Type} {x y : α} (h : p ↔ q) : (if p then x else y) = if q then x else y := by
 by_cases hq : q
 ·rw [if_pos hq, if_pos (h.2 hq)]
 ·rw [if_neg hq, if_neg fun hp => hq (h.1 hp)]
theorem w64 {n : Int} (h0 : -9223372036854775808 ≤ n) (h1 : n < 9223372036854775808) : wrap64 n = n := by unfold wrap64; omega
def cellSet : List UInt8 := [35, 46, 111, 97, 98, 99, 100, 101, 102]
def isCellB (b : UInt8) : Bool := cellSet.contains b
def ints (l : List UInt8) : List Int := l.map fun b => (b.toNat : Int)
theorem tyIs_eq (b : UInt8) : spec_tyIs.f (b.toNat : Int) = some (isCellB b) := by
 have h : ∀ n : Fin 256, spec_tyIs.f (n.val : Int) = some (isCellB (UInt8.ofNat n.val)) := by decide +kernel
 have h2 := h ⟨b.toNat, b.toNat_lt⟩
 simpa using h2
theorem ints_length (l : List UInt8) : (ints l).length = l.length := by simp [ints]
theorem ints_append (l m : List UInt8) : ints (l ++ m) = ints l ++ ints m := by simp [ints]
theorem ints_count (c : UInt8) : ∀ l : List UInt8, (ints l).count (c.toNat : Int) = l.count c
 | [] => rfl
 | b :: l => by
  have ih := ints_count c l
  by_cases e : b = c
  ·subst e
   rw [List.count_cons_self, ← ih]
   exact List.count_cons_self
  ·rw [List.count_cons_of_ne e, ← ih]
   refine List.count_cons_of_ne ?_
   intro e2
   have e3 : (b.toNat : Int) = (c.toNat : Int) := e2
   exact e (UInt8.toNat_inj.1 (by omega))
def namedOK (cs : List Int) : Prop := ∀ c : Int, 97 ≤ c → c ≤ 102 → cs.count c ≤ 1
instance (cs : List Int) : Decidable (namedOK cs) :=
 decidable_of_iff (∀ n : Fin 6, cs.count (97 + (n.val : Int)) ≤ 1) ⟨fun h c h1 h2 => by
  have h3 : cs.count (97 + ((c - 97).toNat : Int)) ≤ 1 := h ⟨(c - 97).toNat, by omega⟩
  rw [show (97 + ((c - 97).toNat : Int)) = c by omega] at h3
  exact h3, fun h n => h _ (by omega) (by omega)⟩
theorem namedOK_nil : namedOK [] := fun c _ _ => by simp
theorem namedOK_snoc (cs : List Int) (x : Int) (h : namedOK cs) : namedOK (cs ++ [x]) ↔ ¬ (97 ≤ x ∧ x ≤ 102 ∧ x ∈ cs) := by
 constructor
 ·intro h2 ⟨h3, h4, h5⟩
  have := h2 x h3 h4
  have h6 : 0 < cs.count x := List.count_pos_iff.2 h5
  rw [List.count_append, List.count_singleton_self] at this
  omega
 ·intro h2 c h3 h4
  rw [List.count_append]
  by_cases e : x = c
  ·subst e
   have : cs.count x = 0 := List.count_eq_zero.2 fun h5 => h2 ⟨h3, h4, h5⟩
   rw [this, List.count_singleton_self]
   omega
  ·have h5 := h c h3 h4
   have : [x].count c = 0 := by
    rw [List.count_eq_zero]
    simp
    exact fun e2 => e e2.symm
   omega
theorem namedOK_take (cs : List Int) (i : Nat) (h : namedOK cs) : namedOK (cs.take i) := fun c h1 h2 =>
 Nat.le_trans ((List.take_sublist i cs).count_le c) (h c h1 h2)
theorem rows_size (c : UInt8) : ∀ l, (rows c l).flatten.length + (rows c l).length = l.length + 1
 | [] => by simp [rows]
 | b :: l => by
  have ih := rows_size c l
  unfold rows
  split
  ·simp only [List.flatten_cons, List.nil_append, List.length_cons]; omega
  ·split
   ·rename_i e; exact absurd e (rows_ne c l)
   ·rename_i r rs e
    rw [e] at ih
    simp only [List.flatten_cons, List.length_append, List.length_cons] at ih ⊢
    omega
theorem rows_count (c d : UInt8) (hd : d ≠ c) : ∀ l, (rows c l).flatten.count d = l.count d
 | [] => by simp [rows]
 | b :: l => by
  have ih := rows_count c d hd l
  unfold rows
  split
  ·rename_i e
   subst e
   rw [List.flatten_cons, List.nil_append, ih, List.count_cons_of_ne (Ne.symm hd)]
  ·split
   ·rename_i e; exact absurd e (rows_ne c l)
   ·rename_i r rs e
    rw [e] at ih
    rw [List.flatten_cons] at ih ⊢
    rw [List.cons_append, List.count_cons, ih, List.count_cons]
def tw (rs : List (List UInt8)) : Nat := (rs.headD []).length
def evenRows (w : Nat) (rs : List (List UInt8)) : Prop := ∀ r ∈ rs, r.length = w ∧ r.all isCellB = true
instance (w : Nat) (rs : List (List UInt8)) : Decidable (evenRows w rs) := inferInstanceAs (Decidable (∀ r ∈ rs, _))
theorem evenRows_cons (w : Nat) (r : List UInt8) (rs : List (List UInt8)) : evenRows w (r :: rs) ↔ (r.length = w ∧ r.all isCellB = true) ∧ evenRows w rs := by
 unfold evenRows
 simp only [List.mem_cons, forall_eq_or_imp]
theorem evenRows_flat (w : Nat) : ∀ rs, evenRows w rs → rs.flatten.length = w * rs.length
 | [], _ => by simp
 | r :: rs, h => by
  have h2 := (evenRows_cons w r rs).1 h
  rw [List.flatten_cons, List.length_append, evenRows_flat w rs h2.2, h2.1.1, List.length_cons, Nat.mul_add, Nat.mul_one]
  omega
def okRows (rs : List (List UInt8)) : Prop := (1 ≤ tw rs ∧ tw rs ≤ 7 ∧ rs.length ≤ 7 ∧ tw rs * rs.length ≤ 36) ∧ evenRows (tw rs) rs ∧ namedOK (ints rs.flatten)
instance (rs : List (List UInt8)) : Decidable (okRows rs) := inferInstanceAs (Decidable (_ ∧ _ ∧ _))
def trayRows (rs : List (List UInt8)) : Option (Int × Int × List Int) := if okRows rs then some (tw rs, rs.length, ints rs.flatten) else none
def trayOf (s : ByteArray) : Option (Int × Int × List Int) := trayRows (rows 47 s.data.toList)
theorem trayOf_small (s : ByteArray) (h : trayOf s ≠ none) : s.size ≤ 42 := by
 unfold trayOf trayRows at h
 split at h
 ·rename_i hk
  have h1 := rows_size 47 s.data.toList
  have h2 := evenRows_flat _ _ hk.2.1
  have h3 := data_length s
  have := hk.1
  omega
 ·exact absurd rfl h
def failT : Int × Int × List Int × Bool := (0, 0, [], false)
def tellT : Option (Int × Int × List Int) → Int × Int × List Int × Bool
 | none => failT
 | some (w, h, cs) => (w, h, cs, true)
theorem ty_l2 (cs pre : List Int) (i w h : Int) (x : Int) (K : Int × Int × List Int × Bool) (hl : pre.length ≤ 36)
  (hK : Ev (fun k => spec_tyRead.l1 k cs cs.length (wrap64 (i + 1)) w h cs) K) :
  ∀ (m j : Nat), j + m = pre.length → Ev (fun k => spec_tyRead.l2 k x cs cs.length i pre pre.length j w h cs) (if 97 ≤ x ∧ x ≤ 102 ∧ x ∈ pre.drop j then failT else K)
 | 0, j, hj => by
  refine Ev.step (g' := fun k => spec_tyRead.l1 k cs cs.length (wrap64 (i + 1)) w h cs) ?_ (fun k => ?_)
  ·rw [List.drop_eq_nil_of_le (by omega), if_neg (by simp)]
   exact hK
  ·rw [spec_tyRead.l2, if_neg (by omega)]
 | m + 1, j, hj => by
  have ih := ty_l2 cs pre i w h x K hl hK m (j + 1) (by omega)
  have hlt : j < pre.length := by omega
  have hd : pre.drop j = pre[j] :: pre.drop (j + 1) := List.drop_eq_getElem_cons hlt
  have hr : rd pre (j : Int) = pre[j] := by
   unfold rd
   rw [Int.toNat_natCast, List.getD_eq_getElem?_getD, List.getElem?_eq_getElem hlt]
   rfl
  have hw : wrap64 ((j : Int) + 1) = ((j + 1 : Nat) : Int) := by rw [w64 (by omega) (by omega)]; omega
  rw [hd]
  by_cases hx : x = pre[j] ∧ 97 ≤ x ∧ x ≤ 102
  ·rw [if_pos ⟨hx.2.1, hx.2.2, by rw [hx.1]; exact List.mem_cons_self⟩]
   refine Ev.step (Ev.const (o := some failT) rfl) (fun k => ?_)
   rw [spec_tyRead.l2, if_pos (by omega), if_pos (by omega), if_pos (by omega), hr, if_pos hx.1, if_pos (by omega), if_pos (by omega)]
   rfl
  ·have e : (97 ≤ x ∧ x ≤ 102 ∧ x ∈ pre[j] :: pre.drop (j + 1)) ↔ (97 ≤ x ∧ x ≤ 102 ∧ x ∈ pre.drop (j + 1)) := by
    constructor
    ·rintro ⟨h1, h2, h3⟩
     refine ⟨h1, h2, (List.mem_cons.1 h3).resolve_left fun e => hx ⟨e, h1, h2⟩⟩
    ·rintro ⟨h1, h2, h3⟩
     exact ⟨h1, h2, List.mem_cons_of_mem _ h3⟩
   rw [ite_iff e]
   refine Ev.step ih (fun k => ?_)
   rw [spec_tyRead.l2, if_pos (by omega), if_pos (by omega), if_pos (by omega), hr, hw]
   by_cases h1 : x = pre[j]
   ·rw [if_pos h1]
    by_cases h2 : x ≥ 97
    ·rw [if_pos h2, if_neg (fun h3 => hx ⟨h1, h2, h3⟩)]
    ·rw [if_neg h2]
   ·rw [if_neg h1]
theorem ty_l2_hit (cs pre : List Int) (i w h x : Int) (hl : pre.length ≤ 36) (h1 : 97 ≤ x) (h2 : x ≤ 102) :
  ∀ (m j : Nat), j + m = pre.length → x ∈ pre.drop j → Ev (fun k => spec_tyRead.l2 k x cs cs.length i pre pre.length j w h cs) failT
 | 0, j, hj, hx => by
  rw [List.drop_eq_nil_of_le (by omega)] at hx
  exact absurd hx (by simp)
 | m + 1, j, hj, hx => by
  have hlt : j < pre.length := by omega
  have hd : pre.drop j = pre[j] :: pre.drop (j + 1) := List.drop_eq_getElem_cons hlt
  have hr : rd pre (j : Int) = pre[j] := by
   unfold rd
   rw [Int.toNat_natCast, List.getD_eq_getElem?_getD, List.getElem?_eq_getElem hlt]
   rfl
  have hw : wrap64 ((j : Int) + 1) = ((j + 1 : Nat) : Int) := by rw [w64 (by omega) (by omega)]; omega
  by_cases hp : x = pre[j]
  ·refine Ev.step (Ev.const (o := some failT) rfl) (fun k => ?_)
   rw [spec_tyRead.l2, if_pos (by omega), if_pos (by omega), if_pos (by omega), hr, if_pos hp, if_pos (by omega), if_pos (by omega)]
   rfl
  ·rw [hd] at hx
   refine Ev.step (ty_l2_hit cs pre i w h x hl h1 h2 m (j + 1) (by omega) ((List.mem_cons.1 hx).resolve_left hp)) (fun k => ?_)
   rw [spec_tyRead.l2, if_pos (by omega), if_pos (by omega), if_pos (by omega), hr, hw, if_neg hp]
theorem ty_l1 (cs : List Int) (w h : Int) (hl : cs.length ≤ 36) :
  ∀ (m i : Nat), i + m = cs.length → namedOK (cs.take i) → Ev (fun k => spec_tyRead.l1 k cs cs.length i w h cs) (if namedOK cs then (w, h, cs, true) else failT)
 | 0, i, hi, hn => by
  have e : cs.take i = cs := List.take_of_length_le (by omega)
  rw [e] at hn
  rw [if_pos hn]
  refine Ev.step (Ev.const (o := some (w, h, cs, true)) rfl) (fun k => ?_)
  rw [spec_tyRead.l1, if_neg (by omega)]
 | m + 1, i, hi, hn => by
  have hlt : i < cs.length := by omega
  have hr : rd cs (i : Int) = cs[i] := by
   unfold rd
   rw [Int.toNat_natCast, List.getD_eq_getElem?_getD, List.getElem?_eq_getElem hlt]
   rfl
  have hw : wrap64 ((i : Int) + 1) = ((i + 1 : Nat) : Int) := by rw [w64 (by omega) (by omega)]; omega
  have ht : cs.take (i + 1) = cs.take i ++ [cs[i]] := List.take_succ_eq_append_getElem hlt
  have hs := namedOK_snoc (cs.take i) cs[i] hn
  have hpl : (cs.take i).length ≤ 36 := by rw [List.length_take]; omega
  have hb : ∀ K, Ev (fun k => spec_tyRead.l1 k cs cs.length (wrap64 ((i : Int) + 1)) w h cs) K →
    Ev (fun k => spec_tyRead.l1 k cs cs.length i w h cs) (if 97 ≤ cs[i] ∧ cs[i] ≤ 102 ∧ cs[i] ∈ cs.take i then failT else K) := by
   intro K hK
   have h2 := ty_l2 cs (cs.take i) i w h cs[i] K hpl hK (cs.take i).length 0 (by omega)
   refine Ev.step h2 (fun k => ?_)
   rw [spec_tyRead.l1, if_pos (by omega), if_pos (by omega), if_pos (by omega), if_pos (by omega), hr]
   simp only [Option.bind_some, Int.toNat_natCast]
   rfl
  by_cases hc : 97 ≤ cs[i] ∧ cs[i] ≤ 102 ∧ cs[i] ∈ cs.take i
  ·have h3 : ¬ namedOK cs := fun h4 => by
    have h5 := namedOK_take cs (i + 1) h4
    rw [ht] at h5
    exact hs.1 h5 hc
   rw [if_neg h3]
   -- the tail's answer does not matter: the inner walk fails first
   refine Ev.step (g' := fun k => spec_tyRead.l2 k cs[i] cs cs.length i (cs.take i) (cs.take i).length 0 w h cs) ?_ (fun k => ?_)
   ·exact ty_l2_hit cs (cs.take i) i w h cs[i] hpl hc.1 hc.2.1 (cs.take i).length 0 (by omega) hc.2.2
   ·rw [spec_tyRead.l1, if_pos (by omega), if_pos (by omega), if_pos (by omega), if_pos (by omega), hr]
    simp only [Option.bind_some, Int.toNat_natCast]
  ·have h4 := ty_l1 cs w h hl m (i + 1) (by omega) (by rw [ht]; exact hs.2 hc)
   rw [← hw] at h4
   have h5 := hb _ h4
   rwa [if_neg hc] at h5
def rr : List (List UInt8) → Nat → Nat → Nat → List Int → Option (Nat × Nat × List Int)
 | [], _, w, h, cs => some (w, h, cs)
 | r :: rs, x, w, h, cs => if r.all isCellB = true ∧ x + r.length ≠ 0 ∧ (h = 0 ∨ x + r.length = w) then rr rs 0 (x + r.length) (h + 1) (cs ++ ints r) else none
def tellR : Option (Nat × Nat × List Int) → Int × Int × List Int × Bool
 | none => failT
 | some (w, h, cs) => if (w ≤ 7 ∧ h ≤ 7 ∧ cs.length ≤ 36) ∧ namedOK cs then (w, h, cs, true) else failT
theorem ty_end (s : ByteArray) (w h : Nat) (cs : List Int) (i x : Int) (hi : ¬ i ≤ (s.size : Int)) : Ev (fun k => spec_tyRead.l0 k s x i w h cs) (tellR (some (w, h, cs))) := by
 by_cases hc : w ≤ 7 ∧ h ≤ 7 ∧ cs.length ≤ 36
 ·have h1 := ty_l1 cs w h hc.2.2 cs.length 0 (by omega) (by simpa using namedOK_nil)
  have e : tellR (some (w, h, cs)) = if namedOK cs then ((w : Int), (h : Int), cs, true) else failT := by
   unfold tellR
   exact ite_iff ⟨fun h2 => h2.2, fun h2 => ⟨hc, h2⟩⟩
  rw [e]
  refine Ev.step (g' := fun k => spec_tyRead.j2 k false w h cs) (Ev.step h1 fun k => ?_) (fun k => ?_)
  ·rw [spec_tyRead.j2, if_neg (by decide)]
   rfl
  ·rw [spec_tyRead.l0, if_neg hi, if_neg (by omega), if_neg (by omega), show decide ((cs.length : Int) > 36) = false from decide_eq_false (by omega)]
 ·have e : tellR (some (w, h, cs)) = failT := if_neg fun h2 => hc h2.1
  rw [e]
  refine Ev.step (g' := fun k => spec_tyRead.j2 k true w h cs) (Ev.step (Ev.const (o := some failT) rfl) fun k => ?_) (fun k => ?_)
  ·rw [spec_tyRead.j2, if_pos rfl]
   rfl
  ·rw [spec_tyRead.l0, if_neg hi]
   by_cases h1 : (w : Int) > 7
   ·rw [if_pos h1]
   ·rw [if_neg h1]
    by_cases h2 : (h : Int) > 7
    ·rw [if_pos h2]
    ·rw [if_neg h2, show decide ((cs.length : Int) > 36) = true from decide_eq_true (by omega)]
theorem ty_row (s : ByteArray) (x w h i : Nat) (cs : List Int) (hh : h ≤ 42) (hi : i ≤ 42) (K : Int × Int × List Int × Bool) (hK : Ev (fun k => spec_tyRead.l0 k s 0 ((i + 1 : Nat) : Int) x ((h + 1 : Nat) : Int) cs) K) :
  Ev (fun k => spec_tyRead.j1 k s x i false w h cs) (if x ≠ 0 ∧ (h = 0 ∨ x = w) then K else failT) := by
 have hw1 : wrap64 ((i : Int) + 1) = ((i + 1 : Nat) : Int) := by rw [w64 (by omega) (by omega)]; omega
 have hw2 : wrap64 ((h : Int) + 1) = ((h + 1 : Nat) : Int) := by rw [w64 (by omega) (by omega)]; omega
 by_cases hc : x ≠ 0 ∧ (h = 0 ∨ x = w)
 ·rw [if_pos hc]
  refine Ev.step hK fun k => ?_
  rw [spec_tyRead.j1, if_neg (by decide), hw1, hw2]
  by_cases h1 : (h : Int) > 0
  ·rw [if_pos h1, if_pos (by omega), if_neg (by omega)]
  ·rw [if_neg h1, if_neg (by omega)]
 ·rw [if_neg hc]
  refine Ev.step (Ev.const (o := some failT) rfl) fun k => ?_
  rw [spec_tyRead.j1, if_neg (by decide)]
  by_cases h1 : (h : Int) > 0
  ·rw [if_pos h1]
   by_cases h2 : (x : Int) = w
   ·rw [if_pos h2, if_pos (by omega)]
    rfl
   ·rw [if_neg h2]
    rfl
  ·rw [if_neg h1, if_pos (by omega)]
   rfl
theorem bt_drop (s : ByteArray) (i : Nat) (b : UInt8) (l : List UInt8) (h : s.data.toList.drop i = b :: l) : bt s (i : Int) = b.toNat ∧ i < s.size ∧ s.data.toList.drop (i + 1) = l := by
 have h1 : i < s.data.toList.length := by
  rcases Nat.lt_or_ge i s.data.toList.length with h2 | h2
  ·exact h2
  ·rw [List.drop_eq_nil_of_le h2] at h
   cases h
 have h2 := List.drop_eq_getElem_cons h1
 rw [h] at h2
 injection h2 with h3 h4
 have hlt : i < s.size := by rw [← data_length]; exact h1
 refine ⟨?_, hlt, h4.symm⟩
 rw [← rd_bytesOf]
 unfold rd bytesOf
 rw [Int.toNat_natCast, List.getD_eq_getElem?_getD, List.getElem?_map, List.getElem?_eq_getElem h1, ← h3]
 rfl
theorem ty_l0 (s : ByteArray) (hs : s.size ≤ 42) : ∀ (rest : List UInt8) (i x w h : Nat) (cs : List Int), s.data.toList.drop i = rest → i ≤ s.size → x ≤ i → h ≤ i → cs.length ≤ i →
  Ev (fun k => spec_tyRead.l0 k s x i w h cs) (tellR (rr (rows 47 rest) x w h cs))
 | [], i, x, w, h, cs, hd, hi, hx, hh, hc => by
  have hle : i = s.size := by
   have : s.data.toList.length ≤ i := List.drop_eq_nil_iff.1 hd
   rw [data_length] at this
   omega
  subst hle
  have h1 := ty_end s x (h + 1) cs ((s.size + 1 : Nat) : Int) 0 (by omega)
  have h2 := ty_row s x w h s.size cs (by omega) (by omega) _ h1
  have e : tellR (rr (rows 47 []) x w h cs) = if x ≠ 0 ∧ (h = 0 ∨ x = w) then tellR (some (x, h + 1, cs)) else failT := by
   simp only [rows, rr, List.all_nil, true_and, List.length_nil, Nat.add_zero, ints, List.map_nil, List.append_nil]
   by_cases hc : x ≠ 0 ∧ (h = 0 ∨ x = w)
   ·rw [if_pos hc, if_pos hc]
   ·rw [if_neg hc, if_neg hc]
    rfl
  rw [e]
  refine Ev.step h2 fun k => ?_
  rw [spec_tyRead.l0, if_pos (by omega), if_neg (by omega)]
 | b :: l, i, x, w, h, cs, hd, hi, hx, hh, hc => by
  obtain ⟨hb, hlt, hd2⟩ := bt_drop s i b l hd
  have hw1 : wrap64 ((i : Int) + 1) = ((i + 1 : Nat) : Int) := by rw [w64 (by omega) (by omega)]; omega
  have hw2 : wrap64 ((x : Int) + 1) = ((x + 1 : Nat) : Int) := by rw [w64 (by omega) (by omega)]; omega
  by_cases h47 : b = 47
  ·subst h47
   have h1 := ty_l0 s hs l (i + 1) 0 x (h + 1) cs hd2 (by omega) (by omega) (by omega) (by omega)
   have h2 := ty_row s x w h i cs (by omega) (by omega) _ h1
   have e : tellR (rr (rows 47 (47 :: l)) x w h cs) = if x ≠ 0 ∧ (h = 0 ∨ x = w) then tellR (rr (rows 47 l) 0 x (h + 1) cs) else failT := by
    rw [rows, if_pos rfl]
    simp only [rr, List.all_nil, true_and, List.length_nil, Nat.add_zero, ints, List.map_nil, List.append_nil]
    by_cases hc : x ≠ 0 ∧ (h = 0 ∨ x = w)
    ·rw [if_pos hc, if_pos hc]
    ·rw [if_neg hc, if_neg hc]
     rfl
   rw [e]
   refine Ev.step h2 fun k => ?_
   rw [spec_tyRead.l0, if_pos (by omega), if_pos (by omega), if_pos (by omega), hb]
   rfl
  ·have hne : ((b.toNat : Int) != 47) = true := by
    rw [bne_iff_ne]
    intro e
    apply h47
    apply UInt8.toNat_inj.1
    show b.toNat = 47
    omega
   obtain ⟨r, rs, e1⟩ : ∃ r rs, rows 47 l = r :: rs := by
    rcases e : rows 47 l with _ | ⟨r, rs⟩
    ·exact absurd e (rows_ne 47 l)
    ·exact ⟨r, rs, rfl⟩
   have e2 : rows 47 (b :: l) = (b :: r) :: rs := by rw [rows, if_neg h47, e1]
   have hstep : ∀ g : Nat → Option (Int × Int × List Int × Bool), ∀ K, Ev g K → (∀ k, spec_tyRead.j1 (k + 1) s x i true w h cs = g k) → Ev (fun k => spec_tyRead.l0 k s x i w h cs) K := by
    intro g K hg he
    refine Ev.step (g' := fun k => spec_tyRead.j1 k s x i true w h cs) (Ev.step hg he) fun k => ?_
    rw [spec_tyRead.l0, if_pos (by omega), if_pos (by omega), if_pos (by omega), hb, hne]
   by_cases hcb : isCellB b = true
   ·have h1 := ty_l0 s hs l (i + 1) (x + 1) w h (cs ++ [(b.toNat : Int)]) hd2 (by omega) (by omega) (by omega) (by rw [List.length_append]; simp; omega)
    have e : rr (rows 47 (b :: l)) x w h cs = rr (rows 47 l) (x + 1) w h (cs ++ [(b.toNat : Int)]) := by
     rw [e1, e2]
     simp only [rr, List.all_cons, hcb, Bool.true_and, List.length_cons, ints, List.map_cons, List.append_assoc, List.cons_append, List.nil_append]
     rw [show x + (r.length + 1) = x + 1 + r.length by omega]
    rw [e]
    refine hstep _ _ h1 fun k => ?_
    rw [spec_tyRead.j1, if_pos rfl, if_pos (by omega), if_pos (by omega), hb, tyIs_eq, hcb, Option.bind_some, if_pos rfl, if_pos (by omega), hw1, hw2]
   ·have e : tellR (rr (rows 47 (b :: l)) x w h cs) = failT := by
     rw [e2, rr, if_neg (fun h3 => by have h4 := h3.1; simp [hcb] at h4)]
     rfl
    rw [e]
    refine hstep (fun _ => some failT) _ (Ev.const rfl) fun k => ?_
    rw [spec_tyRead.j1, if_pos rfl, if_pos (by omega), if_pos (by omega), hb, tyIs_eq, Bool.eq_false_iff.2 hcb, Option.bind_some, if_neg (by decide)]
    rfl
theorem rr_more (w : Nat) (hw : w ≠ 0) : ∀ (rs : List (List UInt8)) (h : Nat) (cs : List Int), 0 < h → rr rs 0 w h cs = if evenRows w rs then some (w, h + rs.length, cs ++ ints rs.flatten) else none
 | [], h, cs, hh => by
  rw [if_pos (show evenRows w [] from fun r hr => by simp at hr)]
  simp [rr, ints]
 | r :: rs, h, cs, hh => by
  have ih := rr_more w hw rs (h + 1) (cs ++ ints r) (by omega)
  unfold rr
  rw [ite_iff (evenRows_cons w r rs)]
  by_cases hc : r.length = w ∧ r.all isCellB = true
  ·rw [if_pos ⟨hc.2, by omega, Or.inr (by omega)⟩, Nat.zero_add, hc.1, ih]
   by_cases h2 : evenRows w rs
   ·rw [if_pos h2, if_pos ⟨⟨rfl, hc.2⟩, h2⟩]
    simp only [List.length_cons, List.flatten_cons, ints_append, List.append_assoc]
    rw [show h + 1 + rs.length = h + (rs.length + 1) by omega]
   ·rw [if_neg h2, if_neg fun h3 => h2 h3.2]
  ·rw [if_neg (fun h3 => hc ⟨by have := h3.2.2; omega, h3.1⟩), if_neg fun h3 => hc h3.1]
theorem rr_all (rs : List (List UInt8)) (hn : rs ≠ []) : rr rs 0 0 0 [] = if tw rs ≠ 0 ∧ evenRows (tw rs) rs then some (tw rs, rs.length, ints rs.flatten) else none := by
 rcases rs with _ | ⟨r, rs⟩
 ·exact absurd rfl hn
 ·have e : tw (r :: rs) = r.length := rfl
  unfold rr
  rw [e]
  by_cases hc : r.all isCellB = true ∧ r.length ≠ 0
  ·rw [if_pos ⟨hc.1, by omega, Or.inl rfl⟩, Nat.zero_add, rr_more r.length hc.2 rs 1 _ (by omega)]
   rw [ite_iff (evenRows_cons r.length r rs |> fun h => show evenRows r.length rs ↔ r.length ≠ 0 ∧ evenRows r.length (r :: rs) from ⟨fun h2 => ⟨hc.2, h.2 ⟨⟨rfl, hc.1⟩, h2⟩⟩, fun h2 => (h.1 h2.2).2⟩)]
   simp only [List.length_cons, List.flatten_cons, ints_append, List.nil_append]
   rw [show 1 + rs.length = rs.length + 1 by omega]
  ·rw [if_neg (fun h3 => hc ⟨h3.1, by have := h3.2.1; omega⟩), if_neg fun h3 => hc ⟨((evenRows_cons _ _ _).1 h3.2).1.2, h3.1⟩]
theorem tyRead_ev (s : ByteArray) : Ev (fun k => spec_tyRead.f k s) (tellT (trayOf s)) := by
 by_cases hs : s.size ≤ 42
 ·have h1 := ty_l0 s hs s.data.toList 0 0 0 0 [] rfl (by omega) (by omega) (by omega) (by simp)
  have e : tellR (rr (rows 47 s.data.toList) 0 0 0 []) = tellT (trayOf s) := by
   rw [rr_all _ (rows_ne 47 _)]
   unfold trayOf trayRows
   have h2 := evenRows_flat (tw (rows 47 s.data.toList)) (rows 47 s.data.toList)
   generalize rows 47 s.data.toList = rs at h2 ⊢
   by_cases hc : tw rs ≠ 0 ∧ evenRows (tw rs) rs
   ·rw [if_pos hc]
    have h3 := h2 hc.2
    show (if _ then _ else _) = _
    rw [ite_iff (show ((tw rs ≤ 7 ∧ rs.length ≤ 7 ∧ (ints rs.flatten).length ≤ 36) ∧ namedOK (ints rs.flatten)) ↔ okRows rs by
     rw [ints_length, h3]
     exact ⟨fun h => ⟨⟨by omega, h.1⟩, hc.2, h.2⟩, fun h => ⟨h.1.2, h.2.2⟩⟩)]
    by_cases h4 : okRows rs
    ·rw [if_pos h4, if_pos h4]
     rfl
    ·rw [if_neg h4, if_neg h4]
     rfl
   ·rw [if_neg hc, if_neg (fun h => hc ⟨by have := h.1.1; omega, h.2.1⟩)]
    rfl
  rw [← e]
  refine Ev.congr h1 fun k => ?_
  rw [spec_tyRead.f, if_neg (by omega)]
  rfl
 ·have e : trayOf s = none := by
   rcases h : trayOf s with _ | t
   ·rfl
   ·exact absurd (trayOf_small s (by rw [h]; exact fun e => nomatch e)) hs
  rw [e]
  refine Ev.congr (Ev.const (o := some failT) rfl) fun k => ?_
  rw [spec_tyRead.f, if_pos (by omega)]
  rfl
end Go.Proofs.YtcpeldgnabfdmaaDoor.Q
end
section
namespace Go.Proofs.YtcpeldgnabfdmaaDoor.Q
set_option linter.unusedSectionVars false
open Go.RowKit Go.Proofs.YtcpeldgnabfdmaaDoorW.PrintWords Go.Proofs.YtcpeldgnabfdmaaDoorW.PrintLast Go.Proofs.YtcpeldgnabfdmaaDoorW.PrintMore
theorem rd_set (L : List Int) (a j v : Int) (ha : 0 ≤ a) (hl : a < L.length) (hj : 0 ≤ j) : rd (L.set a.toNat v) j = if j = a then v else rd L j := by
 unfold rd
 rw [List.getD_eq_getElem?_getD, List.getElem?_set, List.getD_eq_getElem?_getD]
 by_cases h : j = a
 ·subst h
  rw [if_pos rfl, if_pos rfl, if_pos (by omega)]
  rfl
 ·rw [if_neg h, if_neg (by omega)]
theorem nodup_len : ∀ (n : Nat) (q : List Int), q.Nodup → (∀ j ∈ q, 0 ≤ j ∧ j < n) → q.length ≤ n
 | 0, q, _, h => by
  rcases q with _ | ⟨a, q⟩
  ·simp
  ·have := h a List.mem_cons_self
   omega
 | n + 1, q, hq, h => by
  by_cases hm : (n : Int) ∈ q
  ·have h1 := nodup_len n (q.erase n) (hq.erase _) (fun j hj => by
    have h2 := (hq.mem_erase_iff).1 hj
    have h3 := h j h2.2
    omega)
   rw [List.length_erase_of_mem hm] at h1
   omega
  ·have h1 := nodup_len n q hq (fun j hj => by
    have h3 := h j hj
    have : j ≠ n := fun e => hm (e ▸ hj)
    omega)
   omega
end Go.Proofs.YtcpeldgnabfdmaaDoor.Q
end
section
namespace Go.Proofs.YtcpeldgnabfdmaaDoor.Q
set_option linter.unusedSectionVars false
open Go.RowKit Go.Proofs.YtcpeldgnabfdmaaDoorW.PrintWords Go.Proofs.YtcpeldgnabfdmaaDoorW.PrintLast Go.Proofs.YtcpeldgnabfdmaaDoorW.PrintMore
def lk (x : Int) : Lit := .int .i64 x
structure Holds (D : DataW Unit) (f : Int → Option Int) : Prop where
 map : Maps.IsMap D
 at' : ∀ (x : Int) (z : DataW Unit), D.atKey (lk x) z = match f x with | some c => .lit (lk c) | none => z
 has' : ∀ x : Int, Maps.has D (lk x) = (f x).isSome
end Go.Proofs.YtcpeldgnabfdmaaDoor.Q
end
section
namespace Go.Proofs.YtcpeldgnabfdmaaDoor.Q
set_option linter.unusedSectionVars false
open Go.RowKit Go.Proofs.YtcpeldgnabfdmaaDoorW.PrintWords Go.Proofs.YtcpeldgnabfdmaaDoorW.PrintLast Go.Proofs.YtcpeldgnabfdmaaDoorW.PrintMore
section
variable {α : Type} {d : Kd α} {e base b n : Nat} {ok : Nat → Prop} {w w1 : World} {v : Value} {xs : List α} {f : Int → Option Int}
theorem S_blw (h : Kd.S d e w base ok v xs) (hb : Below w.heap.size w w1) : Kd.S d e w1 base ok v xs := by
 obtain ⟨g, h⟩ := h
 exact ⟨g, Kd.R_below h hb⟩
end
end Go.Proofs.YtcpeldgnabfdmaaDoor.Q
end
section
namespace Go.Proofs.YtcpeldgnabfdmaaDoor.Q
set_option linter.unusedSectionVars false
open Go.RowKit Go.Proofs.YtcpeldgnabfdmaaDoorW.PrintWords Go.Proofs.YtcpeldgnabfdmaaDoorW.PrintLast Go.Proofs.YtcpeldgnabfdmaaDoorW.PrintMore
theorem drop_at {α : Type} (L : List α) (d : α) (i : Nat) (h : i < L.length) : L.drop i = L.getD i d :: L.drop (i + 1) := by
 rw [List.drop_eq_getElem_cons h, List.getD_eq_getElem?_getD, List.getElem?_eq_getElem h]
 rfl
theorem wrap64_nat (n : Nat) (h : n < 1000000) : wrap64 ((n : Int) + 1) = ((n + 1 : Nat) : Int) := by unfold wrap64; omega
end Go.Proofs.YtcpeldgnabfdmaaDoor.Q
end
section
namespace Go.Proofs.YtcpeldgnabfdmaaDoor.Q
set_option linter.unusedSectionVars false
open Go.RowKit Go.Proofs.YtcpeldgnabfdmaaDoorW.PrintWords Go.Proofs.YtcpeldgnabfdmaaDoorW.PrintLast Go.Proofs.YtcpeldgnabfdmaaDoorW.PrintMore
def laws_markIntSS.f (k : Nat) : List (List Int) → Int → Option (Int × List (List Int))
 | [], m => some (m, [])
 | x :: l, m => (laws_markIntS.f k x m).bind fun p => (laws_markIntSS.f k l p.1).bind fun q => some (q.1, p.2 :: q.2)
theorem tag_set {f : Nat → Nat} {w w1 : World} {base i : Nat} {v vi : Value} {xs : List (List Int)} {y : List Int}
  (h : (Kd.tag f (Kd.slice 3 (Kd.int .i64))).R 46 w base (fun _ => True) v xs.zipIdx) (hi : i < xs.length)
  (hvi : ∀ inner, w.ownsRow base 46 1 v xs.zipIdx.length inner → inner[i]? = some vi)
  (hf : ∀ k, vi.ownBlock = some k → some k ≠ v.ownBlock ∧ f k = i) (hk : Kept w w1 fun k => some k = vi.ownBlock)
  (hy : (Kd.int .i64).R 3 w1 base (fun _ => True) vi y) : (Kd.tag f (Kd.slice 3 (Kd.int .i64))).R 46 w1 base (fun _ => True) v (xs.set i y).zipIdx := by
 obtain ⟨h0, inner, ho, hr⟩ := Kd.R_bound h
 refine ⟨fun _ _ => trivial, inner, ?_, ?_, ?_⟩
 ·rw [List.length_zipIdx, List.length_set, ← List.length_zipIdx (l := xs) (i := 0)]
  exact own_move ho fun k hkk => hk.2 k (own_lt ho k hkk) fun e => (hf k e.symm).1 hkk.symm
 ·rw [hr.1, List.length_zipIdx, List.length_zipIdx, List.length_set]
 ·intro j p hj
  have hjl : j < xs.length := by
   have := (List.getElem?_eq_some_iff.1 hj).1
   simpa using this
  have hp : p = ((xs.set i y)[j]'(by rw [List.length_set]; exact hjl), j) := by
   rw [List.getElem?_zipIdx, List.getElem?_eq_getElem (by rw [List.length_set]; exact hjl)] at hj
   simpa using (Option.some.inj hj).symm
  have hold := hr.2 j (xs[j], j) (Kd.zip_at (List.getElem?_eq_getElem hjl))
  by_cases e : j = i
  ·subst e
   have hin : (inner.drop (j * 1)).take 1 = [vi] := by
    have h1 := hvi inner ho
    rw [Nat.mul_one]
    have hl : j < inner.length := (List.getElem?_eq_some_iff.1 h1).1
    rw [List.drop_eq_getElem_cons hl, (List.getElem?_eq_some_iff.1 h1).2]
    rfl
   subst hp
   show (Kd.slice 3 (Kd.int .i64)).M w1 base _ _ ((inner.drop (j * 1)).take 1)
   rw [hin]
   refine ⟨vi, rfl, ?_⟩
   show (Kd.int .i64).R 3 w1 base (fun k => (True ∧ some k ≠ v.ownBlock) ∧ f k = j) vi ((xs.set j y)[j]'_)
   rw [List.getElem_set_self]
   exact Kd.R_reok rfl hy fun k hk => ⟨⟨trivial, (hf k hk).1⟩, (hf k hk).2⟩
  ·subst hp
   have hne : (xs.set i y)[j]'(by rw [List.length_set]; exact hjl) = xs[j] := List.getElem_set_ne (fun h => e h.symm) _
   show (Kd.slice 3 (Kd.int .i64)).M w1 base _ ((xs.set i y)[j]'_) _
   rw [hne]
   refine (Kd.slice 3 (Kd.int .i64)).M_mono (fun k hk => ⟨⟨trivial, hk.1.2⟩, hk.2⟩) ((Kd.slice 3 (Kd.int .i64)).M_move (fun k hk1 => ?_) hold)
   exact hk.2 k hk1.1.1.2.2.1 fun ee => e (hk1.2.symm.trans (hf k ee.symm).2)
set_option maxHeartbeats 16000000 in
set_option maxRecDepth 100000 in
theorem laws_markIntSS.calls (k : Nat) (A0 : Option Addr) (c0 : Nat) (l0 : List (List Int)) (a1 : Int) (r1 : Int) (r2 : List (List Int)) (f : Nat → Nat) (w0 w : World) (hlen : l0.length ≤ 1000) (hB : Below w0.heap.size w0 w) (ho : (Kd.tag f (Kd.slice 3 (Kd.int .i64))).R 46 w w0.heap.size (fun _ => True) (.slice A0 l0.length c0) l0.zipIdx) (h : laws_markIntSS.f k l0 a1 = some (r1, r2)) :
  Calls Tryd.prog 11 #[.slice A0 l0.length c0, .int .i64 a1] w fun e w' => e = .returned (.int .i64 r1) ∧ (Kd.tag f (Kd.slice 3 (Kd.int .i64))).R 46 w' w0.heap.size (fun _ => True) (.slice A0 l0.length c0) r2.zipIdx ∧ Below w0.heap.size w0 w' := by
 have HB := Aside0.mk hB
 have HO := Aside0.mk ho
 have HSL := Aside0.mk h
 have HLEN := Aside0.mk hlen
 clear hB ho h hlen
 go_enter Tryd.func11, Tryd.ntmps11
 go_wp2_with fail
 go_loopg [1, 5] l0.length (fun gg v1 v5 wr => ∃ (i : Nat) (m : Int) (pre rest : List (List Int)), v1 = .int .i64 m ∧ v5 = .int .i64 i ∧ Aside0 (i ≤ l0.length ∧ l0.length - i ≤ gg ∧ pre.length = i ∧ laws_markIntSS.f k (l0.drop i) m = some (r1, rest) ∧ r2 = pre ++ rest) ∧ Aside0 ((Kd.tag f (Kd.slice 3 (Kd.int .i64))).R 46 wr w0.heap.size (fun _ => True) (.slice A0 l0.length c0) (pre ++ l0.drop i).zipIdx) ∧ Aside0 (Below w0.heap.size w0 wr))
 case atStart => exact ⟨0, a1, [], r2, rfl, rfl, ⟨Nat.zero_le _, Nat.le_refl _, rfl, by rw [List.drop_zero]; exact HSL.out, rfl⟩, by rw [List.drop_zero]; exact HO, HB⟩
 case round =>
  clear HO HB HSL
  obtain ⟨i, m, pre, rest, rfl, rfl, HA, HO, HB⟩ := hrel
  by_cases hli : i < l0.length
  ·have c2 : decide ((i : Int) < (l0.length : Int)) = true := decide_eq_true (by omega)
   have p1 : (0 ≤ (i : Int)) = True := eq_true (by omega)
   have p2 : ((i : Int) < (l0.length : Int)) = True := eq_true (by omega)
   have hsp := HA.out.2.2.2.1
   have hdr : l0.drop i = l0.getD i [] :: l0.drop (i + 1) := drop_at l0 [] i hli
   rw [hdr] at hsp HO
   generalize l0.getD i [] = x at hsp HO
   unfold laws_markIntSS.f at hsp
   obtain ⟨⟨m1, x1⟩, hm1, hsp⟩ := Option.bind_eq_some_iff.1 hsp
   obtain ⟨⟨m2, l2⟩, hm2, hsp⟩ := Option.bind_eq_some_iff.1 hsp
   simp only [Option.some.injEq, Prod.mk.injEq] at hsp
   obtain ⟨rfl, rfl⟩ := hsp
   have hpl := HA.out.2.2.1
   have htl : (pre ++ x :: l0.drop (i + 1)).length = l0.length := by
    rw [List.length_append, List.length_cons, List.length_drop]
    omega
   have hget : (pre ++ x :: l0.drop (i + 1)).getD i [] = x := by
    rw [List.getD_eq_getElem?_getD, List.getElem?_append_right (by omega), hpl, Nat.sub_self]
    rfl
   have hS : Kd.S (Kd.slice 3 (Kd.int .i64)) 46 wr w0.heap.size (fun _ => True) (.slice A0 l0.length c0) (pre ++ x :: l0.drop (i + 1)) := ⟨f, HO.out⟩
   obtain ⟨ad5, A5, c5, e5, hx5, hl5, hi5⟩ := at_S (Kd.S_reads' hS).2.2 (i : Int) (by omega) (by omega)
   cases e5
   have hrd : rdS (pre ++ x :: l0.drop (i + 1)) (i : Int) = x := by unfold rdS; rw [Int.toNat_natCast]; exact hget
   rw [hrd] at hx5 hl5
   rw [Int.toNat_natCast] at hx5
   obtain ⟨ce5, hce5, hMe5, hcc5⟩ := Kd.R_getA HO.out ([], 0) (i : Int) (by omega) (by omega)
   have hzi : ((pre ++ x :: l0.drop (i + 1)).zipIdx).getD (i : Int).toNat ([], 0) = (x, i) := by
    rw [Int.toNat_natCast, List.getD_eq_getElem?_getD, List.getElem?_zipIdx, List.getElem?_append_right (by omega), hpl, Nat.sub_self]
    simp
   rw [hzi] at hMe5
   obtain ⟨vi, hce, hR⟩ : ∃ vi, ce5 = [vi] ∧ (Kd.int .i64).R 3 wr w0.heap.size (fun k => (True ∧ some k ≠ (Value.slice (some ad5) l0.length c0).ownBlock) ∧ f k = i) vi x := hMe5
   subst hce
   have hv5 := hcc5 0 _ rfl
   rw [show (Kd.tag f (Kd.slice 3 (Kd.int .i64))).sz = 1 from rfl, Int.toNat_natCast, Nat.mul_one, Nat.add_zero] at hv5
   obtain rfl : vi = .slice A5 x.length c5 := Option.some.inj (hv5.symm.trans hx5)
   have hf : ∀ q, (Value.slice A5 x.length c5).ownBlock = some q → some q ≠ (Value.slice (some ad5) l0.length c0).ownBlock ∧ f q = i := fun q hq => ⟨(hR.1 q hq).1.2, (hR.1 q hq).2⟩
   have hvi : ∀ inner, wr.ownsRow w0.heap.size 46 1 (.slice (some ad5) l0.length c0) (pre ++ x :: l0.drop (i + 1)).zipIdx.length inner → inner[i]? = some (.slice A5 x.length c5) := by
    intro inner ho
    obtain ⟨g, rfl⟩ := Kd.R_head HO.out
    have hil : i < inner.length := by
     have h1 := ho.1
     rw [List.length_zipIdx, htl] at h1
     omega
    have h2 := ho.cells (g := g) (by simp [Value.ownBlock]) i inner[i] (List.getElem?_eq_getElem hil)
    rw [List.getElem?_eq_getElem hil]
    exact h2.symm.trans hx5
   have HT := Aside0.mk (Kd.R_tight rfl hR)
   have HF := Aside0.mk hf
   have HVI := Aside0.mk hvi
   have HM1 := Aside0.mk hm1
   have HM2 := Aside0.mk hm2
   have HTL := Aside0.mk htl
   have HPL := Aside0.mk hpl
   have hset : (pre ++ x :: l0.drop (i + 1)).set i x1 = (pre ++ [x1]) ++ l0.drop (i + 1) := by
    rw [← hpl, List.set_append_right _ _ (Nat.le_refl _), Nat.sub_self, List.set_cons_zero]
    simp
   have HSET := Aside0.mk hset
   have HGK := Aside0.mk (show l0.length - i ≤ gk ∧ i < l0.length ∧ r2 = (pre ++ [x1]) ++ l2 from ⟨HA.out.2.1, hli, by rw [HA.out.2.2.2.2]; simp⟩)
   clear hf hvi hm1 hm2 htl hpl hset hR hdr hget hS hi5 hl5 hsp hrd hzi hv5 hcc5 hce5 hli HA
   go_wp2_with (first
    | (go_at_call 27; refine (laws_markIntS.calls k (fun q => some q = (Value.slice A5 x.length c5).ownBlock) _ x m m1 x1 w0 wr HB.out HT.out HM1.out).mono ?_; rintro e w6 ⟨rfl, hr6, hb6, hk6⟩; (have HB6 := Aside0.mk hb6); (have HO6 := Aside0.mk (tag_set HO.out (by have := HTL.out; have := HGK.out; omega) HVI.out HF.out hk6 (Kd.R_mono hr6 (fun _ _ => trivial)))); clear hr6 hb6 hk6))
   go_roundg (l0.length - (i + 1))
   case measure => have := HGK.out; omega
   case rel =>
    refine ⟨i + 1, m1, pre ++ [x1], l2, rfl, by first | rfl | rw [wrap64_nat i (by have := HGK.out; have := HLEN.out; omega)] | simp, ⟨by have := HGK.out; omega, Nat.le_refl _, by rw [List.length_append, HPL.out]; rfl, HM2.out, HGK.out.2.2⟩, ?_, HB6⟩
    have h7 := HO6.out
    rw [HSET.out] at h7
    exact ⟨h7⟩
  ·obtain rfl : i = l0.length := by have := HA.out.1; omega
   have c2 : decide ((l0.length : Int) < (l0.length : Int)) = false := decide_eq_false (by omega)
   have he := HA.out.2.2.2.1
   rw [List.drop_length] at he HO
   simp only [laws_markIntSS.f, Option.some.injEq, Prod.mk.injEq] at he
   obtain ⟨rfl, rfl⟩ := he
   have hr2 := HA.out.2.2.2.2
   rw [List.append_nil] at hr2 HO
   subst hr2
   clear HA hli
   go_wp2
   go_ret
   exact ⟨rfl, HO.out, HB.out⟩
end Go.Proofs.YtcpeldgnabfdmaaDoor.Q
end
section
namespace Go.Proofs.YtcpeldgnabfdmaaDoor.Q
open Go.RowKit Go.Proofs.YtcpeldgnabfdmaaDoorW.PrintWords Go.Proofs.YtcpeldgnabfdmaaDoorW.PrintLast Go.Proofs.YtcpeldgnabfdmaaDoorW.PrintMore
attribute [local go_sem] max2_int min2_int max_two min_two max_three min_three max_four min_four
set_option linter.unusedVariables false
set_option linter.unusedSimpArgs false
def laws_eqIntSS.l0 : Nat → List (List Int) → List (List Int) → Int → Option (Bool)
 | 0, _, _, _ => none
 | k + 1, x0, x1, x5 => if x5 < (x0.length : Int) then (if 0 ≤ x5 then (if x5 < (x1.length : Int) then ((laws_eqIntS.f k (rd_Lii x0 x5) (rd_Lii x1 x5)).bind fun t103 => (if t103 = true then (laws_eqIntSS.l0 k x0 x1 (wrap64 (x5 + 1))) else (some false))) else (none)) else (none)) else (some true)
def laws_eqIntSS.f (k : Nat) (l0 : List (List Int)) (l1 : List (List Int)) : Option (Bool) := if (l0.length : Int) = (l1.length : Int) then (laws_eqIntSS.l0 k l0 l1 0) else (some false)
set_option maxHeartbeats 8000000 in
set_option maxRecDepth 100000 in
theorem laws_eqIntSS.calls (k : Nat) (A0 : Option Addr) (c0 : Nat) (l0 : List (List Int)) (A1 : Option Addr) (c1 : Nat) (l1 : List (List Int)) (r : Bool) (w : World) (hr0 : Kd.C (Kd.slice 3 (Kd.int .i64)) w A0 l0.length l0) (hc0 : l0.length ≤ c0) (hr1 : Kd.C (Kd.slice 3 (Kd.int .i64)) w A1 l1.length l1) (hc1 : l1.length ≤ c1) (h : laws_eqIntSS.f k l0 l1 = some r) :
  Calls Tryd.prog 10 #[.slice A0 l0.length c0, .slice A1 l1.length c1] w fun e w' => e = .returned (.bool r) ∧ Drawn0 w w' := by
 have HR0 := Aside0.mk hr0
 have HC0 := Aside0.mk hc0
 clear hr0 hc0
 have HR1 := Aside0.mk hr1
 have HC1 := Aside0.mk hc1
 clear hr1 hc1
 have H : (if (l0.length : Int) = (l1.length : Int) then (laws_eqIntSS.l0 k l0 l1 0) else (some false)) = some r := h
 clear h
 by_cases c3 : (l0.length : Int) = (l1.length : Int)
 ·rw [if_pos c3] at H
  have c3b0 : ((l0.length : Int) == (l1.length : Int)) = true := beq_iff_eq.mpr c3
  have c3b1 : ((l0.length : Int) != (l1.length : Int)) = false := bne_eq_false_iff_eq.mpr c3
  have c3b2 : (l0.length == l1.length) = true := by first | simpa using c3 | (simp at c3 ⊢; omega)
  clear c3
  have H' := Aside0.mk H
  clear H
  go_enter Tryd.func10, Tryd.ntmps10
  go_wp2
  repeat (go_quiet (fail); try go_wp2)
  go_loopg [5] k (fun kq v5 w' => ∃ (x5_1 : Int), v5 = .int .i64 x5_1 ∧ Aside0 (laws_eqIntSS.l0 kq l0 l1 x5_1 = some r) ∧ Aside0 (kq ≤ k) ∧ Drawn0 w w')
  case atStart => exact ⟨(0), (by first | rfl | (simp; done) | (simp [*]; done)), H', ⟨Nat.le_refl _⟩, by repeat (first | exact Drawn0.refl _ | apply Drawn0.step)⟩
  case round =>
   clear H'
   try clear c1
   try clear p2
   try clear c3
   try clear c3b0
   try clear c3b0y
   try clear c3b1
   try clear c3b2
   obtain ⟨x5_1, rfl, HA, HK1, ⟨m1, rfl⟩⟩ := hrel
   cases gk with
   | zero => exact absurd HA.out (by simp [laws_eqIntSS.l0])
   | succ k1 =>
    have H := HA.out
    clear HA
    simp only [laws_eqIntSS.l0] at H
    by_cases c4 : x5_1 < (l0.length : Int)
    ·rw [if_pos c4] at H
     have c4b0 : decide (x5_1 < (l0.length : Int)) = true := decide_eq_true c4
     clear c4
     by_cases c5 : 0 ≤ x5_1
     ·rw [if_pos c5] at H
      have c5b0 : decide (0 ≤ x5_1) = true := decide_eq_true c5
      clear c5
      by_cases c6 : x5_1 < (l1.length : Int)
      ·rw [if_pos c6] at H
       have c6b0 : decide (x5_1 < (l1.length : Int)) = true := decide_eq_true c6
       clear c6
       replace H := Option.bind_eq_some_iff.mp H
       obtain ⟨t103, A70, H⟩ := H
       replace H : (if t103 = true then (laws_eqIntSS.l0 k1 l0 l1 (wrap64 (x5_1 + 1))) else (some false)) = some r := H
       have A7 := Aside0.mk A70
       clear A70
       by_cases c8 : t103 = true
       ·subst c8
        have H1 : (laws_eqIntSS.l0 k1 l0 l1 (wrap64 (x5_1 + 1))) = some r := by rw [if_pos rfl] at H; exact H
        clear H
        have H := H1
        clear H1
        have H' := Aside0.mk H
        clear H
        have p101 : 0 ≤ (x5_1 : Int) := of_decide_eq_true (by first | (with_reducible assumption) | assumption)
        have q101 : x5_1 < (l0.length : Int) := of_decide_eq_true (by first | (with_reducible assumption) | assumption)
        obtain ⟨ad101, A101_0, c101_0, e101, hx101_0, hl101_0, hi101_0⟩ := at_Lii HR0.out x5_1 p101 q101
        cases e101
        have HR101_0 := Aside0.mk hi101_0
        have HC101_0 := Aside0.mk hl101_0
        clear hi101_0 hl101_0
        replace p101 := eq_true p101
        replace q101 := eq_true q101
        have p102 : 0 ≤ (x5_1 : Int) := of_decide_eq_true (by first | (with_reducible assumption) | assumption)
        have q102 : x5_1 < (l1.length : Int) := of_decide_eq_true (by first | (with_reducible assumption) | assumption)
        obtain ⟨ad102, A102_0, c102_0, e102, hx102_0, hl102_0, hi102_0⟩ := at_Lii HR1.out x5_1 p102 q102
        cases e102
        have HR102_0 := Aside0.mk hi102_0
        have HC102_0 := Aside0.mk hl102_0
        clear hi102_0 hl102_0
        replace p102 := eq_true p102
        replace q102 := eq_true q102
        go_wp2_with (first | (go_at_call 26; (with_reducible refine (laws_eqIntS.calls k1 _ _ (rd_Lii l0 x5_1) _ _ (rd_Lii l1 x5_1) true _ ?side1 ?side2 ?side3 ?side4 A7.out).mono ?_); (case side1 => repeat (first | exact HR101_0.out | (with_reducible refine Kd.C_alloc ?_ _) | (with_reducible refine Kd.C_drewN ?_ _) | (with_reducible refine Kd.C_drew ?_))); (case side2 => exact HC101_0.out); (case side3 => repeat (first | exact HR102_0.out | (with_reducible refine Kd.C_alloc ?_ _) | (with_reducible refine Kd.C_drewN ?_ _) | (with_reducible refine Kd.C_drew ?_))); (case side4 => exact HC102_0.out); rintro e w' ⟨rfl, ⟨nd, rfl⟩⟩; (try first | exact ⟨rfl, _, World.drewN_drewN _ _ _⟩ | exact ⟨rfl, _, Eq.trans (World.drewN_drewN _ _ _) (congrArg (World.drewN _) (Nat.add_assoc _ _ _))⟩)))
        repeat (go_quiet (first | (go_at_call 26; (with_reducible refine (laws_eqIntS.calls k1 _ _ (rd_Lii l0 x5_1) _ _ (rd_Lii l1 x5_1) true _ ?side1 ?side2 ?side3 ?side4 A7.out).mono ?_); (case side1 => repeat (first | exact HR101_0.out | (with_reducible refine Kd.C_alloc ?_ _) | (with_reducible refine Kd.C_drewN ?_ _) | (with_reducible refine Kd.C_drew ?_))); (case side2 => exact HC101_0.out); (case side3 => repeat (first | exact HR102_0.out | (with_reducible refine Kd.C_alloc ?_ _) | (with_reducible refine Kd.C_drewN ?_ _) | (with_reducible refine Kd.C_drew ?_))); (case side4 => exact HC102_0.out); rintro e w' ⟨rfl, ⟨nd, rfl⟩⟩; (try first | exact ⟨rfl, _, World.drewN_drewN _ _ _⟩ | exact ⟨rfl, _, Eq.trans (World.drewN_drewN _ _ _) (congrArg (World.drewN _) (Nat.add_assoc _ _ _))⟩))); try go_wp2_with (first | (go_at_call 26; (with_reducible refine (laws_eqIntS.calls k1 _ _ (rd_Lii l0 x5_1) _ _ (rd_Lii l1 x5_1) true _ ?side1 ?side2 ?side3 ?side4 A7.out).mono ?_); (case side1 => repeat (first | exact HR101_0.out | (with_reducible refine Kd.C_alloc ?_ _) | (with_reducible refine Kd.C_drewN ?_ _) | (with_reducible refine Kd.C_drew ?_))); (case side2 => exact HC101_0.out); (case side3 => repeat (first | exact HR102_0.out | (with_reducible refine Kd.C_alloc ?_ _) | (with_reducible refine Kd.C_drewN ?_ _) | (with_reducible refine Kd.C_drew ?_))); (case side4 => exact HC102_0.out); rintro e w' ⟨rfl, ⟨nd, rfl⟩⟩; (try first | exact ⟨rfl, _, World.drewN_drewN _ _ _⟩ | exact ⟨rfl, _, Eq.trans (World.drewN_drewN _ _ _) (congrArg (World.drewN _) (Nat.add_assoc _ _ _))⟩))))
        go_roundg k1
        case measure => have := HK1.out; omega
        case rel => exact ⟨(wrap64 (x5_1 + 1)), (by first | rfl | (simp; done) | (simp [*]; done)), H', ⟨by have := HK1.out; omega⟩, by repeat (first | exact Drawn0.refl _ | apply Drawn0.step)⟩
       ·replace c8 := Bool.eq_false_iff.mpr c8
        subst c8
        have H1 : (some false) = some r := by rw [if_neg (show ¬ (false = true) by decide)] at H; exact H
        clear H
        have H := H1
        clear H1
        obtain rfl := Option.some.inj H
        have p101 : 0 ≤ (x5_1 : Int) := of_decide_eq_true (by first | (with_reducible assumption) | assumption)
        have q101 : x5_1 < (l0.length : Int) := of_decide_eq_true (by first | (with_reducible assumption) | assumption)
        obtain ⟨ad101, A101_0, c101_0, e101, hx101_0, hl101_0, hi101_0⟩ := at_Lii HR0.out x5_1 p101 q101
        cases e101
        have HR101_0 := Aside0.mk hi101_0
        have HC101_0 := Aside0.mk hl101_0
        clear hi101_0 hl101_0
        replace p101 := eq_true p101
        replace q101 := eq_true q101
        have p102 : 0 ≤ (x5_1 : Int) := of_decide_eq_true (by first | (with_reducible assumption) | assumption)
        have q102 : x5_1 < (l1.length : Int) := of_decide_eq_true (by first | (with_reducible assumption) | assumption)
        obtain ⟨ad102, A102_0, c102_0, e102, hx102_0, hl102_0, hi102_0⟩ := at_Lii HR1.out x5_1 p102 q102
        cases e102
        have HR102_0 := Aside0.mk hi102_0
        have HC102_0 := Aside0.mk hl102_0
        clear hi102_0 hl102_0
        replace p102 := eq_true p102
        replace q102 := eq_true q102
        go_wp2_with (first | (go_at_call 26; (with_reducible refine (laws_eqIntS.calls k1 _ _ (rd_Lii l0 x5_1) _ _ (rd_Lii l1 x5_1) false _ ?side1 ?side2 ?side3 ?side4 A7.out).mono ?_); (case side1 => repeat (first | exact HR101_0.out | (with_reducible refine Kd.C_alloc ?_ _) | (with_reducible refine Kd.C_drewN ?_ _) | (with_reducible refine Kd.C_drew ?_))); (case side2 => exact HC101_0.out); (case side3 => repeat (first | exact HR102_0.out | (with_reducible refine Kd.C_alloc ?_ _) | (with_reducible refine Kd.C_drewN ?_ _) | (with_reducible refine Kd.C_drew ?_))); (case side4 => exact HC102_0.out); rintro e w' ⟨rfl, ⟨nd, rfl⟩⟩; (try first | exact ⟨rfl, _, World.drewN_drewN _ _ _⟩ | exact ⟨rfl, _, Eq.trans (World.drewN_drewN _ _ _) (congrArg (World.drewN _) (Nat.add_assoc _ _ _))⟩)))
        repeat (go_quiet (first | (go_at_call 26; (with_reducible refine (laws_eqIntS.calls k1 _ _ (rd_Lii l0 x5_1) _ _ (rd_Lii l1 x5_1) false _ ?side1 ?side2 ?side3 ?side4 A7.out).mono ?_); (case side1 => repeat (first | exact HR101_0.out | (with_reducible refine Kd.C_alloc ?_ _) | (with_reducible refine Kd.C_drewN ?_ _) | (with_reducible refine Kd.C_drew ?_))); (case side2 => exact HC101_0.out); (case side3 => repeat (first | exact HR102_0.out | (with_reducible refine Kd.C_alloc ?_ _) | (with_reducible refine Kd.C_drewN ?_ _) | (with_reducible refine Kd.C_drew ?_))); (case side4 => exact HC102_0.out); rintro e w' ⟨rfl, ⟨nd, rfl⟩⟩; (try first | exact ⟨rfl, _, World.drewN_drewN _ _ _⟩ | exact ⟨rfl, _, Eq.trans (World.drewN_drewN _ _ _) (congrArg (World.drewN _) (Nat.add_assoc _ _ _))⟩))); try go_wp2_with (first | (go_at_call 26; (with_reducible refine (laws_eqIntS.calls k1 _ _ (rd_Lii l0 x5_1) _ _ (rd_Lii l1 x5_1) false _ ?side1 ?side2 ?side3 ?side4 A7.out).mono ?_); (case side1 => repeat (first | exact HR101_0.out | (with_reducible refine Kd.C_alloc ?_ _) | (with_reducible refine Kd.C_drewN ?_ _) | (with_reducible refine Kd.C_drew ?_))); (case side2 => exact HC101_0.out); (case side3 => repeat (first | exact HR102_0.out | (with_reducible refine Kd.C_alloc ?_ _) | (with_reducible refine Kd.C_drewN ?_ _) | (with_reducible refine Kd.C_drew ?_))); (case side4 => exact HC102_0.out); rintro e w' ⟨rfl, ⟨nd, rfl⟩⟩; (try first | exact ⟨rfl, _, World.drewN_drewN _ _ _⟩ | exact ⟨rfl, _, Eq.trans (World.drewN_drewN _ _ _) (congrArg (World.drewN _) (Nat.add_assoc _ _ _))⟩))))
        go_ret
        exact ⟨by first | rfl | (simp; done) | (simp [*]; done), by repeat (first | exact Drawn0.refl _ | apply Drawn0.step)⟩
      ·rw [if_neg c6] at H
       exact absurd H (by simp)
     ·rw [if_neg c5] at H
      exact absurd H (by simp)
    ·rw [if_neg c4] at H
     have c4b0 : decide (x5_1 < (l0.length : Int)) = false := decide_eq_false c4
     clear c4
     obtain rfl := Option.some.inj H
     go_wp2
     repeat (go_quiet (fail); try go_wp2)
     go_ret
     exact ⟨by first | rfl | (simp; done) | (simp [*]; done), by repeat (first | exact Drawn0.refl _ | apply Drawn0.step)⟩
 ·rw [if_neg c3] at H
  have c3b0 : ((l0.length : Int) == (l1.length : Int)) = false := beq_eq_false_iff_ne.mpr c3
  have c3b1 : ((l0.length : Int) != (l1.length : Int)) = true := bne_iff_ne.mpr c3
  have c3b2 : (l0.length == l1.length) = false := by first | simpa using c3 | (simp at c3 ⊢; omega)
  obtain rfl := Option.some.inj H
  go_enter Tryd.func10, Tryd.ntmps10
  go_wp2
  repeat (go_quiet (fail); try go_wp2)
  go_ret
  exact ⟨by first | rfl | (simp; done) | (simp [*]; done), by repeat (first | exact Drawn0.refl _ | apply Drawn0.step)⟩
def laws_heldIntSS.l0 : Nat → List (List Int) → Int → Int → Option (Int)
 | 0, _, _, _ => none
 | k + 1, x0, x1, x5 => if x5 < (x0.length : Int) then (if 0 ≤ x5 then ((laws_heldIntS.f k (rd_Lii x0 x5) x1).bind fun t102 => (if t102 < 0 then (some (-1)) else (laws_heldIntSS.l0 k x0 t102 (wrap64 (x5 + 1))))) else (none)) else (some x1)
def laws_heldIntSS.f (k : Nat) (l0 : List (List Int)) (a1 : Int) : Option (Int) := laws_heldIntSS.l0 k l0 a1 0
set_option maxHeartbeats 8000000 in
set_option maxRecDepth 100000 in
theorem laws_heldIntSS.calls (k : Nat) (A0 : Option Addr) (c0 : Nat) (l0 : List (List Int)) (a1 : Int) (r : Int) (w : World) (hr0 : Kd.C (Kd.slice 3 (Kd.int .i64)) w A0 l0.length l0) (hc0 : l0.length ≤ c0) (h : laws_heldIntSS.f k l0 a1 = some r) :
  Calls Tryd.prog 12 #[.slice A0 l0.length c0, .int .i64 a1] w fun e w' => e = .returned (.int .i64 r) ∧ Drawn0 w w' := by
 have HR0 := Aside0.mk hr0
 have HC0 := Aside0.mk hc0
 clear hr0 hc0
 have H : (laws_heldIntSS.l0 k l0 a1 0) = some r := h
 clear h
 have H' := Aside0.mk H
 clear H
 go_enter Tryd.func12, Tryd.ntmps12
 go_wp2
 go_loopg [1, 5] k (fun kq v1 v5 w' => ∃ (x1_1 : Int) (x5_1 : Int), v1 = .int .i64 x1_1 ∧ v5 = .int .i64 x5_1 ∧ Aside0 (laws_heldIntSS.l0 kq l0 x1_1 x5_1 = some r) ∧ Aside0 (kq ≤ k) ∧ Drawn0 w w')
 case atStart => exact ⟨(a1), (0), (by first | rfl | (simp; done) | (simp [*]; done)), (by first | rfl | (simp; done) | (simp [*]; done)), H', ⟨Nat.le_refl _⟩, by repeat (first | exact Drawn0.refl _ | apply Drawn0.step)⟩
 case round =>
  clear H'
  try clear c1
  try clear p2
  obtain ⟨x1_1, x5_1, rfl, rfl, HA, HK1, ⟨m1, rfl⟩⟩ := hrel
  cases gk with
  | zero => exact absurd HA.out (by simp [laws_heldIntSS.l0])
  | succ k1 =>
   have H := HA.out
   clear HA
   simp only [laws_heldIntSS.l0] at H
   by_cases c3 : x5_1 < (l0.length : Int)
   ·rw [if_pos c3] at H
    have c3b0 : decide (x5_1 < (l0.length : Int)) = true := decide_eq_true c3
    clear c3
    by_cases c4 : 0 ≤ x5_1
    ·rw [if_pos c4] at H
     have c4b0 : decide (0 ≤ x5_1) = true := decide_eq_true c4
     clear c4
     replace H := Option.bind_eq_some_iff.mp H
     obtain ⟨t102, A50, H⟩ := H
     replace H : (if t102 < 0 then (some (-1)) else (laws_heldIntSS.l0 k1 l0 t102 (wrap64 (x5_1 + 1)))) = some r := H
     have A5 := Aside0.mk A50
     clear A50
     by_cases c6 : t102 < 0
     ·rw [if_pos c6] at H
      have c6b0 : decide (t102 < 0) = true := decide_eq_true c6
      clear c6
      obtain rfl := Option.some.inj H
      have p101 : 0 ≤ (x5_1 : Int) := of_decide_eq_true (by first | (with_reducible assumption) | assumption)
      have q101 : x5_1 < (l0.length : Int) := of_decide_eq_true (by first | (with_reducible assumption) | assumption)
      obtain ⟨ad101, A101_0, c101_0, e101, hx101_0, hl101_0, hi101_0⟩ := at_Lii HR0.out x5_1 p101 q101
      cases e101
      have HR101_0 := Aside0.mk hi101_0
      have HC101_0 := Aside0.mk hl101_0
      clear hi101_0 hl101_0
      replace p101 := eq_true p101
      replace q101 := eq_true q101
      go_wp2_with (first | ((with_reducible refine gate_callee (f := 28) rfl ?_); refine gcall (some 17) Tryd.func28 #[.slice A101_0 (rd_Lii l0 x5_1).length c101_0, .int .i64 x1_1] rfl ?_; (with_reducible refine (laws_heldIntS.calls k1 _ _ (rd_Lii l0 x5_1) x1_1 t102 _ ?side1 ?side2 A5.out).mono ?_); (case side1 => repeat (first | exact HR101_0.out | (with_reducible refine Kd.C_alloc ?_ _) | (with_reducible refine Kd.C_drewN ?_ _) | (with_reducible refine Kd.C_drew ?_))); (case side2 => exact HC101_0.out); rintro e w' ⟨rfl, ⟨nd, rfl⟩⟩; refine ⟨_, rfl, ?_⟩))
      go_ret
      exact ⟨by first | rfl | (simp; done) | (simp [*]; done), by repeat (first | exact Drawn0.refl _ | apply Drawn0.step)⟩
     ·rw [if_neg c6] at H
      have c6b0 : decide (t102 < 0) = false := decide_eq_false c6
      clear c6
      have H' := Aside0.mk H
      clear H
      have p101 : 0 ≤ (x5_1 : Int) := of_decide_eq_true (by first | (with_reducible assumption) | assumption)
      have q101 : x5_1 < (l0.length : Int) := of_decide_eq_true (by first | (with_reducible assumption) | assumption)
      obtain ⟨ad101, A101_0, c101_0, e101, hx101_0, hl101_0, hi101_0⟩ := at_Lii HR0.out x5_1 p101 q101
      cases e101
      have HR101_0 := Aside0.mk hi101_0
      have HC101_0 := Aside0.mk hl101_0
      clear hi101_0 hl101_0
      replace p101 := eq_true p101
      replace q101 := eq_true q101
      go_wp2_with (first | ((with_reducible refine gate_callee (f := 28) rfl ?_); refine gcall (some 17) Tryd.func28 #[.slice A101_0 (rd_Lii l0 x5_1).length c101_0, .int .i64 x1_1] rfl ?_; (with_reducible refine (laws_heldIntS.calls k1 _ _ (rd_Lii l0 x5_1) x1_1 t102 _ ?side1 ?side2 A5.out).mono ?_); (case side1 => repeat (first | exact HR101_0.out | (with_reducible refine Kd.C_alloc ?_ _) | (with_reducible refine Kd.C_drewN ?_ _) | (with_reducible refine Kd.C_drew ?_))); (case side2 => exact HC101_0.out); rintro e w' ⟨rfl, ⟨nd, rfl⟩⟩; refine ⟨_, rfl, ?_⟩))
      go_roundg k1
      case measure => have := HK1.out; omega
      case rel => exact ⟨(t102), (wrap64 (x5_1 + 1)), (by first | rfl | (simp; done) | (simp [*]; done)), (by first | rfl | (simp; done) | (simp [*]; done)), H', ⟨by have := HK1.out; omega⟩, by repeat (first | exact Drawn0.refl _ | apply Drawn0.step)⟩
    ·rw [if_neg c4] at H
     exact absurd H (by simp)
   ·rw [if_neg c3] at H
    have c3b0 : decide (x5_1 < (l0.length : Int)) = false := decide_eq_false c3
    clear c3
    obtain rfl := Option.some.inj H
    go_wp2
    go_ret
    exact ⟨by first | rfl | (simp; done) | (simp [*]; done), by repeat (first | exact Drawn0.refl _ | apply Drawn0.step)⟩
end Go.Proofs.YtcpeldgnabfdmaaDoor.Q
end
