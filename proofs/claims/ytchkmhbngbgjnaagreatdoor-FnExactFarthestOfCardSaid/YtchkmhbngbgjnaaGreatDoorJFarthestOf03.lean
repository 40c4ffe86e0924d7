/- Texts of this claim, joined. -/
import Derived.Test.YtchkmhbngbgjnaaGreatDoorJFarthestOf02
import Derived.Test.YtchkmhbngbgjnaaGreatDoorJFarthestOf01
import Derived.WalkKit
import Derived.Laws.AppendOwn
import Derived.Shelf.SlicesE.Clone
import Derived.Carry
set_option linter.unusedVariables false
set_option linter.unusedSimpArgs false
set_option linter.unusedSectionVars false
section
namespace Go.Proofs.YtchkmhbngbgjnaaGreatDoor.Q
set_option linter.unusedSectionVars false
open Go.RowKit Go.Proofs.YtchkmhbngbgjnaaGreatDoorW.PrintWords Go.Proofs.YtchkmhbngbgjnaaGreatDoorW.PrintLast Go.Proofs.YtchkmhbngbgjnaaGreatDoorW.PrintMore
def rdS (xs : List (List Int)) (i : Int) : (List Int) := xs.getD i.toNat ([] : List Int)
theorem at_S {w : World} {A : Option Addr} {n : Nat} {xs : List (List Int)} (h : Kd.C (Kd.slice 3 (Kd.int .i64)) w A n xs) (i : Int) (h0 : 0 ≤ i) (h1 : i < n) : ∃ ad A0 c0, A = some ad ∧ w.cell? (ad.add i.toNat) = some (.slice A0 (rdS xs i).length c0) ∧ (rdS xs i).length ≤ c0 ∧ (Kd.int .i64).C w A0 (rdS xs i).length (rdS xs i) := by
 obtain ⟨ad, c, e, _, hK, hc0⟩ := Kd.C_get h ([] : List Int) i h0 h1
 have hc : ∀ j u, c[j]? = some u → w.cell? (ad.add (i.toNat * 1 + j)) = some u := hc0
 obtain ⟨A0, c0, rfl, l0, g0⟩ := hK
 exact ⟨ad, A0, c0, e, by have hq := hc 0 _ rfl; rwa [Nat.mul_one, Nat.add_zero] at hq, l0, g0⟩
mutual
def impl_tray_stretches.l0 : Nat → List (List Int) → List (List Int) → Int → Int → Int → Int → List Int → Option ((List (List Int)))
 | 0, _, _, _, _, _, _, _ => none
 | k + 1, x5, x14, x15, x16, x102000, x102001, x102002 => if x16 < x15 then (if 0 ≤ x16 then (if x16 < (x14.length : Int) then (impl_tray_stretches.l1 k x5 (([] : List Int)) x14 x15 x16 (rdS x14 x16) ((rdS x14 x16).length : Int) 0 x102000 x102001 x102002) else (none)) else (none)) else (slices_SortFunc_str.f x5)
def impl_tray_stretches.l1 : Nat → List (List Int) → List Int → List (List Int) → Int → Int → List Int → Int → Int → Int → Int → List Int → Option ((List (List Int)))
 | 0, _, _, _, _, _, _, _, _, _, _, _ => none
 | k + 1, x5, x8, x14, x15, x16, x21, x22, x23, x102000, x102001, x102002 => if x23 < x22 then (if 0 ≤ x23 then (if x23 < (x21.length : Int) then (if 0 ≤ (rd x21 x23) then (if (rd x21 x23) < (x102002.length : Int) then (if (rd x102002 (rd x21 x23)) = 35 then (if (x8.length : Int) > 0 then (if x5.length < 5864062014805 then (impl_tray_stretches.l1 k (x5 ++ [x8]) ([] : List Int) x14 x15 x16 x21 x22 (wrap64 (x23 + 1)) x102000 x102001 x102002) else (none)) else (impl_tray_stretches.l1 k x5 x8 x14 x15 x16 x21 x22 (wrap64 (x23 + 1)) x102000 x102001 x102002)) else (if x8.length < 17592186044416 then (impl_tray_stretches.l1 k x5 (x8 ++ [rd x21 x23]) x14 x15 x16 x21 x22 (wrap64 (x23 + 1)) x102000 x102001 x102002) else (none))) else (none)) else (none)) else (none)) else (none)) else (if (x8.length : Int) > 0 then (if x5.length < 5864062014805 then (impl_tray_stretches.l0 k (x5 ++ [x8]) x14 x15 (wrap64 (x16 + 1)) x102000 x102001 x102002) else (none)) else (impl_tray_stretches.l0 k x5 x14 x15 (wrap64 (x16 + 1)) x102000 x102001 x102002))
end
def impl_tray_stretches.f (k : Nat) (a0_0 : Int) (a0_1 : Int) (l0_2 : List Int) (a1 : Int) : Option ((List (List Int))) := (impl_tray_lines.f k a0_0 a0_1 l0_2 a1).bind fun t105 => (impl_tray_stretches.l0 k (([] : List (List Int))) t105 (t105.length : Int) 0 a0_0 a0_1 l0_2)
set_option maxHeartbeats 8000000 in
set_option maxRecDepth 100000 in
theorem impl_tray_stretches.calls (k : Nat) (a0_0 : Int) (a0_1 : Int) (A0_2 : Option Addr) (c0_2 : Nat) (l0_2 : List Int) (a1 : Int) (r : List (List Int)) (w : World) (hr0_2 : Kd.C (Kd.int .u8) w A0_2 l0_2.length l0_2) (hc0_2 : l0_2.length ≤ c0_2) (h : impl_tray_stretches.f k a0_0 a0_1 l0_2 a1 = some r) :
  Calls Tryz.prog 94 #[.agg #[.int .i64 a0_0, .int .i64 a0_1, .slice A0_2 l0_2.length c0_2], .int .u8 a1] w fun e w' => ∃ v0_ : Value, e = .returned (v0_) ∧ Kd.S (Kd.slice 3 (Kd.int .i64)) 22 w' w.heap.size (fun _ => True) v0_ r ∧ Below w.heap.size w w' := by
 have hu42 := Tryz.underlying75
 have HR0_2 := Aside0.mk hr0_2
 have HC0_2 := Aside0.mk hc0_2
 clear hr0_2 hc0_2
 have HB := Aside0.mk (Below.refl w.heap.size w)
 have H : ((impl_tray_lines.f k a0_0 a0_1 l0_2 a1).bind fun t105 => (impl_tray_stretches.l0 k (([] : List (List Int))) t105 (t105.length : Int) 0 a0_0 a0_1 l0_2)) = some r := h
 clear h
 obtain ⟨y102, hy102⟩ : ∃ y_ : List (List Int), y_ = (([] : List (List Int))) := ⟨_, rfl⟩
 replace H : ((impl_tray_lines.f k a0_0 a0_1 l0_2 a1).bind fun t105 => (impl_tray_stretches.l0 k y102 t105 (t105.length : Int) 0 a0_0 a0_1 l0_2)) = some r := rH hy102 H
 have Ny102 := Aside0.mk hy102
 clear hy102
 replace H := Option.bind_eq_some_iff.mp H
 obtain ⟨t105, A30, H⟩ := H
 replace H : (impl_tray_stretches.l0 k y102 t105 (t105.length : Int) 0 a0_0 a0_1 l0_2) = some r := H
 have A3 := Aside0.mk A30
 clear A30
 have H' := Aside0.mk H
 clear H
 go_enter Tryz.func94, Tryz.ntmps94
 go_wp2_with (first | ((with_reducible refine gate_dst (N := 2) rfl ?_); refine boxE (N := 2) (cs := #[.int .i64 a0_0, .int .i64 a0_1, .slice A0_2 l0_2.length c0_2]) (t := 75) ?_; intro gb101 hg w4 hbox hb; have n0_ := Aside0.mk (below_step (bel HB) hb); have n1_ := Aside0.mk (hbox); have n2_ := Aside0.mk (gsz hg (bel HB)); have n3_ := Aside0.mk (gsz hg (bel HB)); clear HB; have HB := n0_; have BK101 := n1_; have GW101 := n2_; have GE101 := n3_; clear n0_ n1_ n2_ n3_; clear hb hbox hg) | ((with_reducible refine gate_dst (N := 11) rfl ?_); refine Kd.S_lit (Kd.slice 3 (Kd.int .i64)) _ 22 ?hg (N := 11) ?hd (xs := ([] : List (List Int))) (inner := []) (ok := fun _ => True) (okp := fun _ => True) ?hr ?hp (fun _ hk => hk) trivial (Below.refl _ _) (Nat.le_refl _) (by simp) ?_; (case hd => rfl); (case hg => rfl); (case hr => first | (go_simp; done) | (go_simp; rfl)); (case hp => exact (Reps.none _ _)); intro v103 w5 ho6 hb hg_ hnew_; clear hg_ hnew_; (first | rw [← Ny102.out] at ho6 | (simp only [Int.reduceToNat] at ho6; rw [← Ny102.out] at ho6)); have n0_ := Aside0.mk (Kd.S_lower ho6 (below_size (bel HB))); have n1_ := Aside0.mk (blk_below (g := gb101) (o := .cells #[.int .i64 a0_0, .int .i64 a0_1, .slice A0_2 l0_2.length c0_2] 75 (0, 0)) blc hb); have n2_ := Aside0.mk (below_step (bel HB) hb); clear BK101; clear HB; have HO104 := n0_; have BK101 := n1_; have HB := n2_; clear n0_ n1_ n2_; clear hb ho6; have hcz7_0 : w5.cell? ⟨gb101, 0, none⟩ = some (.int .i64 a0_0) := (blk_cell BK101.out 0).trans rfl; have hcz7_1 : w5.cell? ⟨gb101, 1, none⟩ = some (.int .i64 a0_1) := (blk_cell BK101.out 1).trans rfl; have hcz7_2 : w5.cell? ⟨gb101, 2, none⟩ = some (.slice A0_2 l0_2.length c0_2) := (blk_cell BK101.out 2).trans rfl; have hfz7_0 := blk_frozen BK101.out 0; have hfz7_1 := blk_frozen BK101.out 1; have hfz7_2 := blk_frozen BK101.out 2) | ((with_reducible refine gate_callee (f := 109) rfl ?_); refine gcall (some 14) Tryz.func109 #[.agg #[.int .i64 a0_0, .int .i64 a0_1, .slice A0_2 l0_2.length c0_2], .int .u8 a1] rfl ?_; (with_reducible refine (impl_tray_lines.calls k a0_0 a0_1 _ _ l0_2 a1 t105 _ ?side1 ?side2 A3.out).mono ?_); (case side1 => repeat (first | exact (Kd.C_below HR0_2.out HB.out) | (with_reducible refine Kd.C_alloc ?_ _) | (with_reducible refine Kd.C_drewN ?_ _) | (with_reducible refine Kd.C_drew ?_))); (case side2 => exact HC0_2.out); rintro e w8 ⟨v106, rfl, ho0, hb⟩; refine ⟨_, rfl, ?_⟩; have n0_ := Aside0.mk (Kd.S_elder' (by (with_reducible repeat (first | apply Kd.S_alloc | apply Kd.S_drewN | apply Kd.S_drew)); (first | exact HO104.out | exact R_any HO104.out)) (Kd.S_base ho0) hb); have n1_ := Aside0.mk (Kd.S_lower (Kd.S_new' ho0 (Kd.S_lt (by (with_reducible repeat (first | apply Kd.S_alloc | apply Kd.S_drewN | apply Kd.S_drew)); (first | exact HO104.out | exact R_any HO104.out)))) (below_size (bel HB))); have n2_ := Aside0.mk (blk_below (g := gb101) (o := .cells #[.int .i64 a0_0, .int .i64 a0_1, .slice A0_2 l0_2.length c0_2] 75 (0, 0)) blc hb); have n3_ := Aside0.mk (below_step (bel HB) hb); clear HO104; clear BK101; clear HB; have HO104 := n0_; have HO107 := n1_; have BK101 := n2_; have HB := n3_; clear n0_ n1_ n2_ n3_; (try clear hb); (try clear hb2); (try clear hk); (try clear hi); (try clear ho0); obtain ⟨Ao9, co9, eo9⟩ := Kd.S_slice HO107.out; subst eo9))
 go_loopg [5, 16] k (fun kq v5 v16 w' => ∃ (x5_1 : List (List Int)) (x16_1 : Int), v16 = .int .i64 x16_1 ∧ Aside0 (impl_tray_stretches.l0 kq x5_1 t105 (t105.length : Int) x16_1 a0_0 a0_1 l0_2 = some r) ∧ Aside0 (kq ≤ k) ∧ Aside0 (Kd.S (Kd.slice 3 (Kd.int .i64)) 22 w' w.heap.size (fun k_ => some k_ ≠ ((.slice Ao9 t105.length co9) : Value).ownBlock) v5 x5_1) ∧ Aside0 (Kd.S (Kd.slice 3 (Kd.int .i64)) 22 w' w.heap.size (fun k_ => some k_ ≠ (v5 : Value).ownBlock) (.slice Ao9 t105.length co9) t105) ∧ Aside0 (w'.heap[gb101]? = some (.cells #[.int .i64 a0_0, .int .i64 a0_1, (.slice A0_2 l0_2.length c0_2)] 75 (0, 0))) ∧ Aside0 (Below w.heap.size w w'))
 case atStart => exact ⟨(y102), (0), (by first | rfl | (simp; done) | (simp [*]; done)), H', ⟨Nat.le_refl _⟩, ⟨by (with_reducible repeat (first | apply Kd.S_alloc | apply Kd.S_drewN | apply Kd.S_drew)); exact Kd.S_mono HO104.out (fun _ hk => hk.2)⟩, ⟨by (with_reducible repeat (first | apply Kd.S_alloc | apply Kd.S_drewN | apply Kd.S_drew)); exact Kd.S_mono HO107.out (fun _ hk => hk.2)⟩, ⟨blc⟩, ⟨bel HB⟩⟩
 case round =>
  clear H'
  try clear p2
  try clear c3
  try clear c5
  try clear hcz7_0
  try clear hcz7_1
  try clear hcz7_2
  try clear hfz7_0
  try clear hfz7_1
  try clear hfz7_2
  obtain ⟨x5_1, x16_1, rfl, HA, HK1, HO_5, HO_14, BK101, HB⟩ := hrel
  cases gk with
  | zero => exact absurd HA.out (by simp [impl_tray_stretches.l0])
  | succ k1 =>
   have H := HA.out
   clear HA
   simp only [impl_tray_stretches.l0] at H
   by_cases c10 : x16_1 < (t105.length : Int)
   ·rw [if_pos c10] at H
    have c10b0 : decide (x16_1 < (t105.length : Int)) = true := decide_eq_true c10
    clear c10
    by_cases c11 : 0 ≤ x16_1
    ·rw [if_pos c11] at H
     have c11b0 : decide (0 ≤ x16_1) = true := decide_eq_true c11
     clear c11
     by_cases c12 : x16_1 < (t105.length : Int)
     ·rw [if_pos c12] at H
      have c12b0 : decide (x16_1 < (t105.length : Int)) = true := decide_eq_true c12
      clear c12
      obtain ⟨y109, hy109⟩ : ∃ y_ : List Int, y_ = (([] : List Int)) := ⟨_, rfl⟩
      replace H : (impl_tray_stretches.l1 k1 x5_1 y109 t105 (t105.length : Int) x16_1 (rdS t105 x16_1) ((rdS t105 x16_1).length : Int) 0 a0_0 a0_1 l0_2) = some r := rH hy109 H
      have Ny109 := Aside0.mk hy109
      clear hy109
      have H' := Aside0.mk H
      clear H
      have p108 : 0 ≤ (x16_1 : Int) := of_decide_eq_true (by first | (with_reducible assumption) | assumption)
      have q108 : x16_1 < (t105.length : Int) := of_decide_eq_true (by first | (with_reducible assumption) | assumption)
      obtain ⟨ad108, A108_0, c108_0, e108, hx108_0, hl108_0, hi108_0⟩ := at_S (Kd.S_reads' HO_14.out).2.2 x16_1 p108 q108
      cases e108
      obtain ⟨ce108, hce108, hMe108, hcc108⟩ := Kd.S_get HO_14.out [] x16_1 p108 (by first | exact q108 | exact of_decide_eq_true (by first | (with_reducible assumption) | assumption) | (have e_ := (Kd.S_reads' HO_14.out).1; omega))
      obtain ⟨ve108_0, rfl, ge108_0⟩ := hMe108
      have hv108_0 := hcc108 0 _ rfl
      rw [Nat.add_zero, show ((Kd.slice 3 (Kd.int .i64))).sz = 1 from rfl, Nat.mul_one] at hv108_0
      replace hv108_0 := Option.some.inj (hv108_0.symm.trans hx108_0)
      rw [hv108_0] at ge108_0
      have HL108_0 := Aside0.mk (show Kd.R (Kd.int .i64) 3 _ _ _ _ (rdS t105 x16_1) from ge108_0)
      clear hv108_0 ge108_0
      clear hcc108 hce108
      have HR108_0 := Aside0.mk hi108_0
      have HC108_0 := Aside0.mk hl108_0
      clear hi108_0 hl108_0
      replace p108 := eq_true p108
      replace q108 := eq_true q108
      go_wp2_with (first | ((with_reducible refine gate_dst (N := 20) rfl ?_); refine R_litG (Kd.int .i64) _ 3 ?hg (N := 20) ?hd (xs := ([] : List Int)) (inner := []) (ok := fun _ => True) (okp := fun _ => True) ?hr ?hp (fun _ hk => hk) trivial (Below.refl _ _) (Nat.le_refl _) (by simp) ?_; (case hd => rfl); (case hg => first | rfl | decide | (simp [Region.wanted, yielded]; done) | (go_simp; done)); (case hr => first | (go_simp; done) | (go_simp; rfl)); (case hp => exact (Reps.none _ _)); intro v110 w13 ho14 hb hg_ hnew_; clear hg_ hnew_; (first | rw [← Ny109.out] at ho14 | (simp only [Int.reduceToNat] at ho14; rw [← Ny109.out] at ho14)); have n0_ := Aside0.mk (Kd.S_elder' (by (with_reducible repeat (first | apply Kd.S_alloc | apply Kd.S_drewN | apply Kd.S_drew)); (first | exact HO_5.out | exact R_any HO_5.out)) (Kd.R_base ho14) hb); have n1_ := Aside0.mk (Kd.S_elder' (by (with_reducible repeat (first | apply Kd.S_alloc | apply Kd.S_drewN | apply Kd.S_drew)); (first | exact HO_14.out | exact R_any HO_14.out)) (Kd.R_base ho14) hb); have n2_ := Aside0.mk (Kd.R_elder' (by (with_reducible repeat (first | apply Kd.R_alloc | apply Kd.R_drewN | apply Kd.R_drew)); exact HL108_0.out) (Kd.R_base ho14) hb); have n3_ := Aside0.mk (Kd.R_lower (Kd.R_new' ho14 (Kd.R_lt (by (with_reducible repeat (first | apply Kd.R_alloc | apply Kd.R_drewN | apply Kd.R_drew)); exact HL108_0.out))) (below_size (bel HB))); have n4_ := Aside0.mk (blk_below (g := gb101) (o := .cells #[.int .i64 a0_0, .int .i64 a0_1, .slice A0_2 l0_2.length c0_2] 75 (0, 0)) blc hb); have n5_ := Aside0.mk (Kd.C_below (by repeat (first | (with_reducible exact HR108_0.out) | (with_reducible refine Kd.C_alloc ?_ _) | (with_reducible refine Kd.C_drewN ?_ _) | (with_reducible refine Kd.C_drew ?_) | exact HR108_0.out)) hb); have n6_ := Aside0.mk (below_step (bel HB) hb); clear HO_5; clear HO_14; clear HL108_0; clear BK101; clear HR108_0; clear HB; have HO_5 := n0_; have HO_14 := n1_; have HL108_0 := n2_; have HO111 := n3_; have BK101 := n4_; have HR108_0 := n5_; have HB := n6_; clear n0_ n1_ n2_ n3_ n4_ n5_ n6_; clear hb ho14))
      go_loopg [5, 8, 23] k1 (fun kq v5 v8 v23 w' => ∃ (x5_2 : List (List Int)) (x8_2 : List Int) (x23_2 : Int), v23 = .int .i64 x23_2 ∧ Aside0 (impl_tray_stretches.l1 kq x5_2 x8_2 t105 (t105.length : Int) x16_1 (rdS t105 x16_1) ((rdS t105 x16_1).length : Int) x23_2 a0_0 a0_1 l0_2 = some r) ∧ Aside0 (kq ≤ k1) ∧ Aside0 (Kd.S (Kd.slice 3 (Kd.int .i64)) 22 w' w.heap.size (fun k_ => some k_ ≠ (v8 : Value).ownBlock ∧ some k_ ≠ ((.slice (some ad108) t105.length co9) : Value).ownBlock) v5 x5_2) ∧ Aside0 (Kd.R (Kd.int .i64) 3 w' w.heap.size (fun _ => True) v8 x8_2) ∧ Aside0 (Kd.S (Kd.slice 3 (Kd.int .i64)) 22 w' w.heap.size (fun k_ => some k_ ≠ (v5 : Value).ownBlock ∧ some k_ ≠ (v8 : Value).ownBlock) (.slice (some ad108) t105.length co9) t105) ∧ Aside0 (w'.heap[gb101]? = some (.cells #[.int .i64 a0_0, .int .i64 a0_1, (.slice A0_2 l0_2.length c0_2)] 75 (0, 0))) ∧ Aside0 (Kd.R (Kd.int .i64) 3 w' w.heap.size (fun k_ => some k_ ≠ (v8 : Value).ownBlock) (.slice A108_0 (rdS t105 x16_1).length c108_0) (rdS t105 x16_1)) ∧ Aside0 (Below w.heap.size w w'))
      case atStart => exact ⟨(x5_1), (y109), (0), (by first | rfl | (simp; done) | (simp [*]; done)), H', ⟨Nat.le_refl _⟩, ⟨by (with_reducible repeat (first | apply Kd.S_alloc | apply Kd.S_drewN | apply Kd.S_drew)); exact Kd.S_mono HO_5.out (fun _ hk => ⟨hk.2, hk.1⟩)⟩, ⟨by (with_reducible repeat (first | apply Kd.R_alloc | apply Kd.R_drewN | apply Kd.R_drew)); exact Kd.R_mono HO111.out (fun _ hk => trivial)⟩, ⟨by (with_reducible repeat (first | apply Kd.S_alloc | apply Kd.S_drewN | apply Kd.S_drew)); (first | exact HO_14.out | exact R_any HO_14.out)⟩, ⟨blc⟩, ⟨by (with_reducible repeat (first | apply Kd.R_alloc | apply Kd.R_drewN | apply Kd.R_drew)); exact Kd.R_mono HL108_0.out (fun _ hk => hk.2)⟩, ⟨bel HB⟩⟩
      case round =>
       clear H'
       try clear c1
       try clear p1
       try clear q1
       try clear hx1
       try clear p2
       try clear c3
       try clear c5
       try clear c10
       try clear c10b0
       try clear c10b0y
       try clear p10
       try clear q10
       try clear hx10
       try clear c11
       try clear c11b0
       try clear c11b0y
       try clear c12
       try clear c12b0
       try clear c12b0y
       try clear hcz7_0
       try clear hcz7_1
       try clear hcz7_2
       try clear hfz7_0
       try clear hfz7_1
       try clear hfz7_2
       try clear hx108_0
       try clear p108
       try clear p2
       try clear q108
       obtain ⟨x5_2, x8_2, x23_2, rfl, HA, HK2, HO_5, HO_8, HO_14, BK101, HL108_0, HB⟩ := hrel
       have HR108_0 := Aside0.mk (Kd.R_reads' HL108_0.out).2.2
       cases gk with
       | zero => exact absurd HA.out (by simp [impl_tray_stretches.l1])
       | succ k2 =>
        have H := HA.out
        clear HA
        simp only [impl_tray_stretches.l1] at H
        by_cases c15 : x23_2 < ((rdS t105 x16_1).length : Int)
        ·rw [if_pos c15] at H
         have c15b0 : decide (x23_2 < ((rdS t105 x16_1).length : Int)) = true := decide_eq_true c15
         clear c15
         by_cases c16 : 0 ≤ x23_2
         ·rw [if_pos c16] at H
          have c16b0 : decide (0 ≤ x23_2) = true := decide_eq_true c16
          clear c16
          by_cases c17 : x23_2 < ((rdS t105 x16_1).length : Int)
          ·rw [if_pos c17] at H
           have c17b0 : decide (x23_2 < ((rdS t105 x16_1).length : Int)) = true := decide_eq_true c17
           clear c17
           by_cases c18 : 0 ≤ (rd (rdS t105 x16_1) x23_2)
           ·rw [if_pos c18] at H
            have c18b0 : decide (0 ≤ (rd (rdS t105 x16_1) x23_2)) = true := decide_eq_true c18
            clear c18
            by_cases c19 : (rd (rdS t105 x16_1) x23_2) < (l0_2.length : Int)
            ·rw [if_pos c19] at H
             have c19b0 : decide ((rd (rdS t105 x16_1) x23_2) < (l0_2.length : Int)) = true := decide_eq_true c19
             clear c19
             by_cases c20 : (rd l0_2 (rd (rdS t105 x16_1) x23_2)) = 35
             ·rw [if_pos c20] at H
              have c20b0 : ((rd l0_2 (rd (rdS t105 x16_1) x23_2)) == 35) = true := beq_iff_eq.mpr c20
              have c20b1 : ((rd l0_2 (rd (rdS t105 x16_1) x23_2)) != 35) = false := bne_eq_false_iff_eq.mpr c20
              clear c20
              by_cases c21 : (x8_2.length : Int) > 0
              ·rw [if_pos c21] at H
               have c21b0 : decide (0 < (x8_2.length : Int)) = true := decide_eq_true c21
               have c21b1 : decide (0 < x8_2.length) = true := decide_eq_true (by omega)
               clear c21
               by_cases c22 : x5_2.length < 5864062014805
               ·rw [if_pos c22] at H
                have LMc22 := Aside0.mk c22
                clear c22
                obtain ⟨y117, hy117⟩ : ∃ y_ : List (List Int), y_ = (x5_2 ++ [x8_2]) := ⟨_, rfl⟩
                replace H : (impl_tray_stretches.l1 k2 y117 ([] : List Int) t105 (t105.length : Int) x16_1 (rdS t105 x16_1) ((rdS t105 x16_1).length : Int) (wrap64 (x23_2 + 1)) a0_0 a0_1 l0_2) = some r := rH hy117 H
                have Ny117 := Aside0.mk hy117
                clear hy117
                have H' := Aside0.mk H
                clear H
                have p115 : 0 ≤ (x23_2 : Int) := of_decide_eq_true (by first | (with_reducible assumption) | assumption)
                have q115 : x23_2 < ((rdS t105 x16_1).length : Int) := of_decide_eq_true (by first | (with_reducible assumption) | assumption)
                obtain ⟨ad115, e115, hx115_0⟩ := Kd.at_int HR108_0.out x23_2 p115 q115
                cases e115
                (try replace hx115_0 := (HB.out.cell (World.block_lt_of_cell? w _ hx115_0)).trans hx115_0)
                replace p115 := eq_true p115
                replace q115 := eq_true q115
                have hcz23_0 : wr.cell? ⟨gb101, 0, none⟩ = some (.int .i64 a0_0) := (blk_cell BK101.out 0).trans rfl
                have hcz23_1 : wr.cell? ⟨gb101, 1, none⟩ = some (.int .i64 a0_1) := (blk_cell BK101.out 1).trans rfl
                have hcz23_2 : wr.cell? ⟨gb101, 2, none⟩ = some (.slice A0_2 l0_2.length c0_2) := (blk_cell BK101.out 2).trans rfl
                have hfz23_0 := blk_frozen BK101.out 0
                have hfz23_1 := blk_frozen BK101.out 1
                have hfz23_2 := blk_frozen BK101.out 2
                have p116 : 0 ≤ ((rd (rdS t105 x16_1) x23_2) : Int) := of_decide_eq_true (by first | (with_reducible assumption) | assumption)
                have q116 : (rd (rdS t105 x16_1) x23_2) < (l0_2.length : Int) := of_decide_eq_true (by first | (with_reducible assumption) | assumption)
                obtain ⟨ad116, e116, hx116_0⟩ := Kd.at_int HR0_2.out (rd (rdS t105 x16_1) x23_2) p116 q116
                cases e116
                (try replace hx116_0 := (HB.out.cell (World.block_lt_of_cell? w _ hx116_0)).trans hx116_0)
                replace p116 := eq_true p116
                replace q116 := eq_true q116
                obtain ⟨Ao24, co24, eo24⟩ := Kd.R_slice HO_8.out
                subst eo24
                go_wp2_with (first | ((with_reducible refine gate_builtin (b := .append) (xs := #[.tmp 40, .tmp 42]) rfl ?_); at_builtin; refine Kd.S_append (Kd.slice 3 (Kd.int .i64)) (w0 := w) w.heap.size rfl (.tmp 40) (.tmp 42) 49 22 (.slice none 0 0) 24 rfl Tryz.underlying49 info22 rfl (by decide) (by omega) u5 x5_2 x8_2 [.slice Ao24 x8_2.length co24] (fun k_ => some k_ ≠ (.slice (some ad108) t105.length co9 : Value).ownBlock) (fun k_ => some k_ = (.slice Ao24 x8_2.length co24 : Value).ownBlock) rfl rfl ?aP (fun k_ hk_ => ((Kd.R_mono (ok' := fun k_ => ((fun k_ => some k_ ≠ (.slice (some ad108) t105.length co9 : Value).ownBlock)) k_ ∧ some k_ ≠ (u5 : Value).ownBlock) (Kd.R_apart' (Kd.R_apart' (HO_8.out) (Kd.S_typed HO_14.out) (by decide)) (Kd.S_typed HO_5.out) (by decide)) (fun k_ hk => ⟨hk.1.2, hk.2⟩))).1 k_ hk_.symm) ?aF ?aO ?aB ?aS ?aL ?_; (case aP => exact Kd.M_row (Kd.R_mono (Kd.R_tight rfl (Kd.R_mono (ok' := fun k_ => ((fun k_ => some k_ ≠ (.slice (some ad108) t105.length co9 : Value).ownBlock)) k_ ∧ some k_ ≠ (u5 : Value).ownBlock) (Kd.R_apart' (Kd.R_apart' (HO_8.out) (Kd.S_typed HO_14.out) (by decide)) (Kd.S_typed HO_5.out) (by decide)) (fun k_ hk => ⟨hk.1.2, hk.2⟩))) (fun _ h_ => h_))); (case aB => exact (bel HB)); (case aF => exact (fun k_ hk => Kd.fresh' (Kd.S_lt (by (with_reducible repeat (first | apply Kd.S_alloc | apply Kd.S_drewN | apply Kd.S_drew)); (first | exact HO_14.out | exact R_any HO_14.out))) k_ hk)); (case aO => exact (by (with_reducible repeat (first | apply Kd.S_alloc | apply Kd.S_drewN | apply Kd.S_drew)); exact Kd.S_mono HO_5.out (fun k_ hk => ⟨hk.2, fun e_ => hk.1 e_⟩))); (case aS => exact (below_size (bel HB))); (case aL => have := LMc22.out; omega); intro v118 w25 ho hb hg hat; rw [← Ny117.out] at ho; have n0_ := Aside0.mk (Kd.S_after (ok := (fun k_ => some k_ ≠ (.slice Ao24 x8_2.length co24 : Value).ownBlock)) (by (with_reducible repeat (first | apply Kd.S_alloc | apply Kd.S_drewN | apply Kd.S_drew)); exact Kd.S_mono HO_14.out (fun _ hk => ⟨hk.2, hk.1⟩)) hg hat); have n1_ := Aside0.mk (blk_grown (g := gb101) (o := .cells #[.int .i64 a0_0, .int .i64 a0_1, .slice (some ad116) l0_2.length c0_2] 75 (0, 0)) blc hg (Kd.S_ne HO_5.out BK101.out (by decide))); have n2_ := Aside0.mk (Kd.R_over' (by (with_reducible repeat (first | apply Kd.R_alloc | apply Kd.R_drewN | apply Kd.R_drew)); exact HL108_0.out) (Kd.S_typed (by (with_reducible repeat (first | apply Kd.S_alloc | apply Kd.S_drewN | apply Kd.S_drew)); (first | exact HO_5.out | exact R_any HO_5.out))) (by decide) hg); have n3_ := Aside0.mk (hb); have n4_ := Aside0.mk (ho); clear HO_14; clear BK101; clear HL108_0; clear HB; clear HO_5; clear HO_8; have HO_14 := n0_; have BK101 := n1_; have HL108_0 := n2_; have HB := n3_; have HO119 := n4_; clear n0_ n1_ n2_ n3_ n4_; clear ho hb hg hat))
                go_roundg k2
                case measure => have := HK1.out; have := HK2.out; omega
                case rel => exact ⟨(y117), (([] : List Int)), (wrap64 (x23_2 + 1)), (by first | rfl | (simp; done) | (simp [*]; done)), H', ⟨by have := HK1.out; have := HK2.out; omega⟩, ⟨by (with_reducible repeat (first | apply Kd.S_alloc | apply Kd.S_drewN | apply Kd.S_drew)); exact Kd.S_mono HO119.out (fun _ hk => ⟨(by simp [Value.ownBlock]), hk⟩)⟩, ⟨by first | exact Kd.R_nil _ _ _ _ _ | exact Kd.N_nil _ _ _ _ _ | exact Kd.V_nil _ _ _ _ _ | exact Kd.Q_nil _ _ _ _ _ | exact Kd.S_nil _ _ _ _ _⟩, ⟨by (with_reducible repeat (first | apply Kd.S_alloc | apply Kd.S_drewN | apply Kd.S_drew)); exact Kd.S_mono HO_14.out (fun _ hk => ⟨hk.2, (by simp [Value.ownBlock])⟩)⟩, ⟨blc⟩, ⟨by (with_reducible repeat (first | apply Kd.R_alloc | apply Kd.R_drewN | apply Kd.R_drew)); exact Kd.R_mono HL108_0.out (fun _ hk => (by simp [Value.ownBlock]))⟩, ⟨bel HB⟩⟩
               ·rw [if_neg c22] at H
                exact absurd H (by simp)
              ·rw [if_neg c21] at H
               have c21b0 : decide (0 < (x8_2.length : Int)) = false := decide_eq_false c21
               have c21b1 : decide (0 < x8_2.length) = false := decide_eq_false (by omega)
               clear c21
               have H' := Aside0.mk H
               clear H
               have p115 : 0 ≤ (x23_2 : Int) := of_decide_eq_true (by first | (with_reducible assumption) | assumption)
               have q115 : x23_2 < ((rdS t105 x16_1).length : Int) := of_decide_eq_true (by first | (with_reducible assumption) | assumption)
               obtain ⟨ad115, e115, hx115_0⟩ := Kd.at_int HR108_0.out x23_2 p115 q115
               cases e115
               (try replace hx115_0 := (HB.out.cell (World.block_lt_of_cell? w _ hx115_0)).trans hx115_0)
               replace p115 := eq_true p115
               replace q115 := eq_true q115
               have hcz26_0 : wr.cell? ⟨gb101, 0, none⟩ = some (.int .i64 a0_0) := (blk_cell BK101.out 0).trans rfl
               have hcz26_1 : wr.cell? ⟨gb101, 1, none⟩ = some (.int .i64 a0_1) := (blk_cell BK101.out 1).trans rfl
               have hcz26_2 : wr.cell? ⟨gb101, 2, none⟩ = some (.slice A0_2 l0_2.length c0_2) := (blk_cell BK101.out 2).trans rfl
               have hfz26_0 := blk_frozen BK101.out 0
               have hfz26_1 := blk_frozen BK101.out 1
               have hfz26_2 := blk_frozen BK101.out 2
               have p116 : 0 ≤ ((rd (rdS t105 x16_1) x23_2) : Int) := of_decide_eq_true (by first | (with_reducible assumption) | assumption)
               have q116 : (rd (rdS t105 x16_1) x23_2) < (l0_2.length : Int) := of_decide_eq_true (by first | (with_reducible assumption) | assumption)
               obtain ⟨ad116, e116, hx116_0⟩ := Kd.at_int HR0_2.out (rd (rdS t105 x16_1) x23_2) p116 q116
               cases e116
               (try replace hx116_0 := (HB.out.cell (World.block_lt_of_cell? w _ hx116_0)).trans hx116_0)
               replace p116 := eq_true p116
               replace q116 := eq_true q116
               obtain ⟨Ao27, co27, eo27⟩ := Kd.R_slice HO_8.out
               subst eo27
               go_wp2
               go_roundg k2
               case measure => have := HK1.out; have := HK2.out; omega
               case rel => exact ⟨(x5_2), (x8_2), (wrap64 (x23_2 + 1)), (by first | rfl | (simp; done) | (simp [*]; done)), H', ⟨by have := HK1.out; have := HK2.out; omega⟩, ⟨by (with_reducible repeat (first | apply Kd.S_alloc | apply Kd.S_drewN | apply Kd.S_drew)); (first | exact HO_5.out | exact R_any HO_5.out)⟩, ⟨rch HO_8⟩, ⟨by (with_reducible repeat (first | apply Kd.S_alloc | apply Kd.S_drewN | apply Kd.S_drew)); (first | exact HO_14.out | exact R_any HO_14.out)⟩, ⟨blc⟩, ⟨by (with_reducible repeat (first | apply Kd.R_alloc | apply Kd.R_drewN | apply Kd.R_drew)); exact HL108_0.out⟩, ⟨bel HB⟩⟩
             ·rw [if_neg c20] at H
              have c20b0 : ((rd l0_2 (rd (rdS t105 x16_1) x23_2)) == 35) = false := beq_eq_false_iff_ne.mpr c20
              have c20b1 : ((rd l0_2 (rd (rdS t105 x16_1) x23_2)) != 35) = true := bne_iff_ne.mpr c20
              by_cases c28 : x8_2.length < 17592186044416
              ·rw [if_pos c28] at H
               have LMc28 := Aside0.mk c28
               clear c28
               obtain ⟨y120, hy120⟩ : ∃ y_ : List Int, y_ = (x8_2 ++ [rd (rdS t105 x16_1) x23_2]) := ⟨_, rfl⟩
               replace H : (impl_tray_stretches.l1 k2 x5_2 y120 t105 (t105.length : Int) x16_1 (rdS t105 x16_1) ((rdS t105 x16_1).length : Int) (wrap64 (x23_2 + 1)) a0_0 a0_1 l0_2) = some r := rH hy120 H
               have Ny120 := Aside0.mk hy120
               clear hy120
               have H' := Aside0.mk H
               clear H
               have p115 : 0 ≤ (x23_2 : Int) := of_decide_eq_true (by first | (with_reducible assumption) | assumption)
               have q115 : x23_2 < ((rdS t105 x16_1).length : Int) := of_decide_eq_true (by first | (with_reducible assumption) | assumption)
               obtain ⟨ad115, e115, hx115_0⟩ := Kd.at_int HR108_0.out x23_2 p115 q115
               cases e115
               (try replace hx115_0 := (HB.out.cell (World.block_lt_of_cell? w _ hx115_0)).trans hx115_0)
               replace p115 := eq_true p115
               replace q115 := eq_true q115
               have hcz29_0 : wr.cell? ⟨gb101, 0, none⟩ = some (.int .i64 a0_0) := (blk_cell BK101.out 0).trans rfl
               have hcz29_1 : wr.cell? ⟨gb101, 1, none⟩ = some (.int .i64 a0_1) := (blk_cell BK101.out 1).trans rfl
               have hcz29_2 : wr.cell? ⟨gb101, 2, none⟩ = some (.slice A0_2 l0_2.length c0_2) := (blk_cell BK101.out 2).trans rfl
               have hfz29_0 := blk_frozen BK101.out 0
               have hfz29_1 := blk_frozen BK101.out 1
               have hfz29_2 := blk_frozen BK101.out 2
               have p116 : 0 ≤ ((rd (rdS t105 x16_1) x23_2) : Int) := of_decide_eq_true (by first | (with_reducible assumption) | assumption)
               have q116 : (rd (rdS t105 x16_1) x23_2) < (l0_2.length : Int) := of_decide_eq_true (by first | (with_reducible assumption) | assumption)
               obtain ⟨ad116, e116, hx116_0⟩ := Kd.at_int HR0_2.out (rd (rdS t105 x16_1) x23_2) p116 q116
               cases e116
               (try replace hx116_0 := (HB.out.cell (World.block_lt_of_cell? w _ hx116_0)).trans hx116_0)
               replace p116 := eq_true p116
               replace q116 := eq_true q116
               go_wp2_with (first | ((with_reducible refine gate_builtin (b := .append) (xs := #[.tmp 33, .tmp 35]) rfl ?_); at_builtin; refine Kd.R_append (Kd.int .i64) (w0 := w) w.heap.size rfl (.tmp 33) (.tmp 35) 22 3 (.int .i64 0) 8 rfl Tryz.underlying22 info3 rfl (by decide) (by omega) u8 x8_2 (rd (rdS t105 x16_1) x23_2) [.int .i64 (rd (rdS t105 x16_1) x23_2)] (fun _ => True) (fun _ => False) rfl rfl ?aP (fun _ hk => hk.elim) ?aF ?aO ?aB ?aS ?aL ?_; (case aP => exact rfl); (case aB => exact (bel HB)); (case aF => exact (fun _ _ => trivial)); (case aO => exact (rch HO_8)); (case aS => exact (below_size (bel HB))); (case aL => have := LMc28.out; omega); intro v121 w30 ho hb hg hat; rw [← Ny120.out] at ho; have n0_ := Aside0.mk (Kd.S_after (ok := (fun k_ => some k_ ≠ (.slice (some ad108) t105.length co9 : Value).ownBlock)) (by (with_reducible repeat (first | apply Kd.S_alloc | apply Kd.S_drewN | apply Kd.S_drew)); exact Kd.S_mono HO_5.out (fun _ hk => ⟨hk.2, hk.1⟩)) hg hat); have n1_ := Aside0.mk (Kd.S_after (ok := (fun k_ => some k_ ≠ (u5 : Value).ownBlock)) (by (with_reducible repeat (first | apply Kd.S_alloc | apply Kd.S_drewN | apply Kd.S_drew)); (first | exact HO_14.out | exact R_any HO_14.out)) hg hat); have n2_ := Aside0.mk (blk_grown (g := gb101) (o := .cells #[.int .i64 a0_0, .int .i64 a0_1, .slice (some ad116) l0_2.length c0_2] 75 (0, 0)) blc hg (Kd.R_ne HO_8.out BK101.out (by decide))); have n3_ := Aside0.mk (Kd.R_after (ok := (fun _ => True)) (by (with_reducible repeat (first | apply Kd.R_alloc | apply Kd.R_drewN | apply Kd.R_drew)); exact Kd.R_mono HL108_0.out (fun _ hk => ⟨trivial, hk⟩)) hg hat); have n4_ := Aside0.mk (hb); have n5_ := Aside0.mk (ho); clear HO_5; clear HO_14; clear BK101; clear HL108_0; clear HB; clear HO_8; have HO_5 := n0_; have HO_14 := n1_; have BK101 := n2_; have HL108_0 := n3_; have HB := n4_; have HO122 := n5_; clear n0_ n1_ n2_ n3_ n4_ n5_; clear ho hb hg hat))
               go_roundg k2
               case measure => have := HK1.out; have := HK2.out; omega
               case rel => exact ⟨(x5_2), (y120), (wrap64 (x23_2 + 1)), (by first | rfl | (simp; done) | (simp [*]; done)), H', ⟨by have := HK1.out; have := HK2.out; omega⟩, ⟨by (with_reducible repeat (first | apply Kd.S_alloc | apply Kd.S_drewN | apply Kd.S_drew)); exact Kd.S_mono HO_5.out (fun _ hk => ⟨hk.2, hk.1⟩)⟩, ⟨rch HO122⟩, ⟨by (with_reducible repeat (first | apply Kd.S_alloc | apply Kd.S_drewN | apply Kd.S_drew)); (first | exact HO_14.out | exact R_any HO_14.out)⟩, ⟨blc⟩, ⟨by (with_reducible repeat (first | apply Kd.R_alloc | apply Kd.R_drewN | apply Kd.R_drew)); exact Kd.R_mono HL108_0.out (fun _ hk => hk.2)⟩, ⟨bel HB⟩⟩
              ·rw [if_neg c28] at H
               exact absurd H (by simp)
            ·rw [if_neg c19] at H
             exact absurd H (by simp)
           ·rw [if_neg c18] at H
            exact absurd H (by simp)
          ·rw [if_neg c17] at H
           exact absurd H (by simp)
         ·rw [if_neg c16] at H
          exact absurd H (by simp)
        ·rw [if_neg c15] at H
         have c15b0 : decide (x23_2 < ((rdS t105 x16_1).length : Int)) = false := decide_eq_false c15
         clear c15
         by_cases c31 : (x8_2.length : Int) > 0
         ·rw [if_pos c31] at H
          have c31b0 : decide (0 < (x8_2.length : Int)) = true := decide_eq_true c31
          have c31b1 : decide (0 < x8_2.length) = true := decide_eq_true (by omega)
          clear c31
          by_cases c32 : x5_2.length < 5864062014805
          ·rw [if_pos c32] at H
           have LMc32 := Aside0.mk c32
           clear c32
           obtain ⟨y112, hy112⟩ : ∃ y_ : List (List Int), y_ = (x5_2 ++ [x8_2]) := ⟨_, rfl⟩
           replace H : (impl_tray_stretches.l0 k2 y112 t105 (t105.length : Int) (wrap64 (x16_1 + 1)) a0_0 a0_1 l0_2) = some r := rH hy112 H
           have Ny112 := Aside0.mk hy112
           clear hy112
           have H' := Aside0.mk H
           clear H
           obtain ⟨Ao33, co33, eo33⟩ := Kd.R_slice HO_8.out
           subst eo33
           go_wp2_with (first | ((with_reducible refine gate_builtin (b := .append) (xs := #[.tmp 48, .tmp 50]) rfl ?_); at_builtin; refine Kd.S_append (Kd.slice 3 (Kd.int .i64)) (w0 := w) w.heap.size rfl (.tmp 48) (.tmp 50) 49 22 (.slice none 0 0) 24 rfl Tryz.underlying49 info22 rfl (by decide) (by omega) u5 x5_2 x8_2 [.slice Ao33 x8_2.length co33] (fun k_ => some k_ ≠ (.slice (some ad108) t105.length co9 : Value).ownBlock) (fun k_ => some k_ = (.slice Ao33 x8_2.length co33 : Value).ownBlock) rfl rfl ?aP (fun k_ hk_ => ((Kd.R_mono (ok' := fun k_ => ((fun k_ => some k_ ≠ (.slice (some ad108) t105.length co9 : Value).ownBlock)) k_ ∧ some k_ ≠ (u5 : Value).ownBlock) (Kd.R_apart' (Kd.R_apart' (HO_8.out) (Kd.S_typed HO_14.out) (by decide)) (Kd.S_typed HO_5.out) (by decide)) (fun k_ hk => ⟨hk.1.2, hk.2⟩))).1 k_ hk_.symm) ?aF ?aO ?aB ?aS ?aL ?_; (case aP => exact Kd.M_row (Kd.R_mono (Kd.R_tight rfl (Kd.R_mono (ok' := fun k_ => ((fun k_ => some k_ ≠ (.slice (some ad108) t105.length co9 : Value).ownBlock)) k_ ∧ some k_ ≠ (u5 : Value).ownBlock) (Kd.R_apart' (Kd.R_apart' (HO_8.out) (Kd.S_typed HO_14.out) (by decide)) (Kd.S_typed HO_5.out) (by decide)) (fun k_ hk => ⟨hk.1.2, hk.2⟩))) (fun _ h_ => h_))); (case aB => exact (bel HB)); (case aF => exact (fun k_ hk => Kd.fresh' (Kd.S_lt (by (with_reducible repeat (first | apply Kd.S_alloc | apply Kd.S_drewN | apply Kd.S_drew)); (first | exact HO_14.out | exact R_any HO_14.out))) k_ hk)); (case aO => exact (by (with_reducible repeat (first | apply Kd.S_alloc | apply Kd.S_drewN | apply Kd.S_drew)); exact Kd.S_mono HO_5.out (fun k_ hk => ⟨hk.2, fun e_ => hk.1 e_⟩))); (case aS => exact (below_size (bel HB))); (case aL => have := LMc32.out; omega); intro v113 w34 ho hb hg hat; rw [← Ny112.out] at ho; have n0_ := Aside0.mk (Kd.S_after (ok := (fun k_ => some k_ ≠ (.slice Ao33 x8_2.length co33 : Value).ownBlock)) (by (with_reducible repeat (first | apply Kd.S_alloc | apply Kd.S_drewN | apply Kd.S_drew)); exact Kd.S_mono HO_14.out (fun _ hk => ⟨hk.2, hk.1⟩)) hg hat); have n1_ := Aside0.mk (blk_grown (g := gb101) (o := .cells #[.int .i64 a0_0, .int .i64 a0_1, .slice A0_2 l0_2.length c0_2] 75 (0, 0)) blc hg (Kd.S_ne HO_5.out BK101.out (by decide))); have n2_ := Aside0.mk (Kd.R_over' (by (with_reducible repeat (first | apply Kd.R_alloc | apply Kd.R_drewN | apply Kd.R_drew)); exact HL108_0.out) (Kd.S_typed (by (with_reducible repeat (first | apply Kd.S_alloc | apply Kd.S_drewN | apply Kd.S_drew)); (first | exact HO_5.out | exact R_any HO_5.out))) (by decide) hg); have n3_ := Aside0.mk (hb); have n4_ := Aside0.mk (ho); clear HO_14; clear BK101; clear HL108_0; clear HB; clear HO_5; clear HO_8; have HO_14 := n0_; have BK101 := n1_; have HL108_0 := n2_; have HB := n3_; have HO114 := n4_; clear n0_ n1_ n2_ n3_ n4_; clear ho hb hg hat))
           go_roundg k2
           case measure => have := HK1.out; have := HK2.out; omega
           case rel => exact ⟨(y112), (wrap64 (x16_1 + 1)), (by first | rfl | (simp; done) | (simp [*]; done)), H', ⟨by have := HK1.out; have := HK2.out; omega⟩, ⟨by (with_reducible repeat (first | apply Kd.S_alloc | apply Kd.S_drewN | apply Kd.S_drew)); (first | exact HO114.out | exact R_any HO114.out)⟩, ⟨by (with_reducible repeat (first | apply Kd.S_alloc | apply Kd.S_drewN | apply Kd.S_drew)); exact Kd.S_mono HO_14.out (fun _ hk => hk.2)⟩, ⟨blc⟩, ⟨bel HB⟩⟩
          ·rw [if_neg c32] at H
           exact absurd H (by simp)
         ·rw [if_neg c31] at H
          have c31b0 : decide (0 < (x8_2.length : Int)) = false := decide_eq_false c31
          have c31b1 : decide (0 < x8_2.length) = false := decide_eq_false (by omega)
          clear c31
          have H' := Aside0.mk H
          clear H
          obtain ⟨Ao35, co35, eo35⟩ := Kd.R_slice HO_8.out
          subst eo35
          go_wp2
          go_roundg k2
          case measure => have := HK1.out; have := HK2.out; omega
          case rel => exact ⟨(x5_2), (wrap64 (x16_1 + 1)), (by first | rfl | (simp; done) | (simp [*]; done)), H', ⟨by have := HK1.out; have := HK2.out; omega⟩, ⟨by (with_reducible repeat (first | apply Kd.S_alloc | apply Kd.S_drewN | apply Kd.S_drew)); exact Kd.S_mono HO_5.out (fun _ hk => hk.2)⟩, ⟨by (with_reducible repeat (first | apply Kd.S_alloc | apply Kd.S_drewN | apply Kd.S_drew)); exact Kd.S_mono HO_14.out (fun _ hk => hk.1)⟩, ⟨blc⟩, ⟨bel HB⟩⟩
     ·rw [if_neg c12] at H
      exact absurd H (by simp)
    ·rw [if_neg c11] at H
     exact absurd H (by simp)
   ·rw [if_neg c10] at H
    have c10b0 : decide (x16_1 < (t105.length : Int)) = false := decide_eq_false c10
    clear c10
    have A36 := Aside0.mk H
    obtain ⟨Ao37, co37, eo37⟩ := Kd.S_slice HO_5.out
    subst eo37
    go_wp2_with (first | ((with_reducible refine gate_callee (f := 110) rfl ?_); refine gcall (some 54) Tryz.func110 #[.slice Ao37 x5_1.length co37, .func (.func 111) #[] #[]] rfl ?_; (with_reducible refine (slices_SortFunc_str.calls (fun _ => True) _ x5_1 r w _ (bel HB) ?side1 A36.out).mono ?_); (case side1 => exact (by (with_reducible repeat (first | apply Kd.S_alloc | apply Kd.S_drewN | apply Kd.S_drew)); exact Kd.S_mono HO_5.out (fun _ hk => trivial))); rintro e w38 ⟨rfl, ho, hb⟩; refine ⟨_, rfl, ?_⟩; clear HO_5 HO_14 BK101 HB; have HO_5 := Aside0.mk ho; have HB := Aside0.mk hb))
    go_ret
    exact ⟨_, by first | rfl | (simp [errW_none, errW_some] <;> rfl) | (simp [*, errW_none, errW_some] <;> rfl), by (with_reducible repeat (first | apply Kd.S_alloc | apply Kd.S_drewN | apply Kd.S_drew)); exact Kd.S_mono HO_5.out (fun _ hk => trivial), bel HB⟩
end Go.Proofs.YtchkmhbngbgjnaaGreatDoor.Q
end
section
namespace Go.Proofs.YtchkmhbngbgjnaaGreatDoor.Q
set_option linter.unusedSectionVars false
open Go.RowKit Go.Proofs.YtchkmhbngbgjnaaGreatDoorW.PrintWords Go.Proofs.YtchkmhbngbgjnaaGreatDoorW.PrintLast Go.Proofs.YtchkmhbngbgjnaaGreatDoorW.PrintMore
def isB (a : Int) : Bool := decide (a = 111 ∨ (97 ≤ a ∧ a ≤ 102))
theorem tyBall_eq (a : Int) : spec_tyBall.f a = some (isB a) := by
 unfold spec_tyBall.f isB
 by_cases h1 : a = 111
 ·rw [if_pos h1, decide_eq_true (Or.inl h1)]
 ·rw [if_neg h1]
  by_cases h2 : a ≥ 97
  ·rw [if_pos h2]
   congr 1
   exact decide_eq_decide.2 (by omega)
  ·rw [if_neg h2, decide_eq_false (by omega)]
def bI (cs : List Int) (i : Int) : Bool := isB (rd cs i)
theorem rd_nat (L : List Int) (t : Nat) (h : t < L.length) : rd L (t : Int) = L[t] := by
 unfold rd
 rw [Int.toNat_natCast, List.getD_eq_getElem?_getD, List.getElem?_eq_getElem h]
 rfl
theorem nodup_len : ∀ (n : Nat) (q : List Int), q.Nodup → (∀ j ∈ q, 0 ≤ j ∧ j < n) → q.length ≤ n
 | 0, q, _, h => by
  rcases q with _ | ⟨a, q⟩
  ·simp
  ·have := h a List.mem_cons_self
   omega
 | n + 1, q, hq, h => by
  by_cases hm : (n : Int) ∈ q
  ·have h1 := nodup_len n (q.erase n) (hq.erase _) (fun j hj => by
    have h2 := (hq.mem_erase_iff).1 hj
    have h3 := h j h2.2
    omega)
   rw [List.length_erase_of_mem hm] at h1
   omega
  ·have h1 := nodup_len n q hq (fun j hj => by
    have h3 := h j hj
    have : j ≠ n := fun e => hm (e ▸ hj)
    omega)
   omega
def emptyC (cs : List Int) : List Int := cs.map fun c => if isB c = true then 46 else c
end Go.Proofs.YtchkmhbngbgjnaaGreatDoor.Q
end
section
namespace Go.Proofs.YtchkmhbngbgjnaaGreatDoor.Q
set_option linter.unusedSectionVars false
open Go.RowKit Go.Proofs.YtchkmhbngbgjnaaGreatDoorW.PrintWords Go.Proofs.YtchkmhbngbgjnaaGreatDoorW.PrintLast Go.Proofs.YtchkmhbngbgjnaaGreatDoorW.PrintMore
theorem isBall_eq (a : Int) : impl_isBall.f a = some (isB a) := by
 unfold impl_isBall.f impl_isName.f isB
 by_cases h1 : a = 111
 ·rw [if_pos h1, decide_eq_true (Or.inl h1)]
 ·rw [if_neg h1]
  by_cases h2 : a ≥ 97
  ·rw [if_pos h2, Option.bind_some]
   congr 1
   exact decide_eq_decide.2 (by omega)
  ·rw [if_neg h2, Option.bind_some, decide_eq_false (by omega)]
end Go.Proofs.YtchkmhbngbgjnaaGreatDoor.Q
end
section
namespace Go.Proofs.YtchkmhbngbgjnaaGreatDoor.Q
open Go.RowKit Go.Shelf Go.Proofs.YtchkmhbngbgjnaaGreatDoorW.PrintWords Go.Proofs.YtchkmhbngbgjnaaGreatDoorW.PrintLast Go.Proofs.YtchkmhbngbgjnaaGreatDoorW.PrintMore
def slices_Clone_u8.f (l0 : List Int) : Option (List Int) := if 1 ≤ l0.length ∧ l0.length ≤ 1000000 then some l0 else none
set_option maxHeartbeats 4000000 in
set_option maxRecDepth 100000 in
theorem slices_Clone_u8.calls (A0 : Option Addr) (c0 : Nat) (l0 : List Int) (r : List Int) (w : World) (hr0 : Kd.C (Kd.int .u8) w A0 l0.length l0) (hc0 : l0.length ≤ c0) (h : slices_Clone_u8.f l0 = some r) :
  Calls Tryz.prog 123 #[.slice A0 l0.length c0] w fun e w' => ∃ v0_ : Value, e = .returned (v0_) ∧ Kd.R (Kd.int .u8) 5 w' w.heap.size (fun _ => True) v0_ r ∧ Below w.heap.size w w' := by
 unfold slices_Clone_u8.f at h
 split at h
 case isFalse => cases h
 rename_i hn
 obtain rfl := Option.some.inj h
 obtain ⟨b, off, rfl, hb, hcell⟩ := bytes_at hr0 hn.1
 have q37 : ∀ (w : World) (a : Option Addr) (n c n' c' : Nat), (binOp .eql 43 (.slice a n c) (.slice none n' c')).run Tryz.prog w = .ok (.bool a.isNone) w := fun w a n c n' c' => Lib.run_eql_slice_nil w _ _ a n c n' c' Tryz.underlying43
 obtain ⟨i0, hi, hz0, hz1, hz2⟩ := info_parts info5
 have HC := Aside0.mk hcell
 clear hcell hr0 hc0 h
 go_enter Tryz.func123, Tryz.ntmps123
 go_wp2_with (at_builtin; refine wpList_append_own _ rfl _ _ 43 rfl w.heap.size 5 i0 (.int .u8 0) 1 1 Tryz.underlying43 hi hz0 hz1 hz2 rfl (by decide) _ _ _ rfl (World.ownsRow_made w #[] 0 (Nat.le_refl _) (Nat.zero_le _) (by simp)) ⟨b, off, none⟩ l0.length c0 (l0.map (Value.int .u8)) rfl ?qc1 ?qc2 ?qc3 ?qc4 ?qc5 ?qc6 ?_)
 case qc1 => simp
 case qc2 =>
  intro j u hj
  rw [Addr.add_lit]
  have hjl : j < l0.length := by
   have := (List.getElem?_eq_some_iff.1 hj).1
   simpa using this
  have h2 := HC.out j hjl
  rw [List.getElem?_map, List.getElem?_eq_getElem hjl] at hj
  obtain rfl := Option.some.inj hj
  rw [List.getD_eq_getElem?_getD, List.getElem?_eq_getElem hjl] at h2
  exact Lib.cell?_alloc_some _ h2
 case qc3 =>
  intro u hu
  obtain ⟨x, _, rfl⟩ := List.mem_map.1 hu
  rfl
 case qc4 => simp [maxLen]; omega
 case qc5 => omega
 case qc6 => simp
 intro v' w1 hown hgrow hnil
 go_wp2
 go_ret
 refine ⟨v', rfl, Kd.R_of_own (enc := Value.int .u8) (show w1.ownsRow w.heap.size 5 1 v' l0.length (l0.map (Value.int .u8)) by simpa using hown) (fun _ _ => trivial), ?_⟩
 exact ((Below.refl _ w).alloc (Nat.le_refl _) _).grown hgrow (by simp) (by intro k hk; simp [Value.ownBlock] at hk; omega)
end Go.Proofs.YtchkmhbngbgjnaaGreatDoor.Q
end
section
namespace Go.Proofs.YtchkmhbngbgjnaaGreatDoor.Q
open Go.RowKit Go.Proofs.YtchkmhbngbgjnaaGreatDoorW.PrintWords Go.Proofs.YtchkmhbngbgjnaaGreatDoorW.PrintLast Go.Proofs.YtchkmhbngbgjnaaGreatDoorW.PrintMore
attribute [local go_sem] max2_int min2_int max_two min_two max_three min_three max_four min_four
set_option linter.unusedVariables false
set_option linter.unusedSimpArgs false
def impl_tray_own.f (a0_0 : Int) (a0_1 : Int) (l0_2 : List Int) : Option (Int × Int × List Int) := (slices_Clone_u8.f l0_2).bind fun t103 => (some (a0_0, a0_1, t103))
def impl_tray_own.T1 : Bool × List (List Nat × List Nat) := (true, [([], []), ([0], [0]), ([], []), ([2], [2]), ([], []), ([4], [4]), ([5], [5]), ([1, 3, 6], [1, 3, 6]), ([7, 6, 0, 1, 2, 3, 4, 5, 6, 7], [7])])
def impl_tray_own.B1 : List Nat := [0, 1, 0, 4, 0, 16, 48, 127, 255]
theorem impl_tray_own.tab1 : rtab .any (opsOf Tryz.f108 1) = impl_tray_own.T1 := by kernel_rfl
theorem impl_tray_own.bits1 : waitsOk impl_tray_own.T1.2 impl_tray_own.B1 = true := by kernel_rfl
set_option maxHeartbeats 8000000 in
set_option maxRecDepth 100000 in
theorem impl_tray_own.calls (a0_0 : Int) (a0_1 : Int) (A0_2 : Option Addr) (c0_2 : Nat) (l0_2 : List Int) (r1 : Int) (r2 : Int) (r3 : List Int) (w : World) (hr0_2 : Kd.C (Kd.int .u8) w A0_2 l0_2.length l0_2) (hc0_2 : l0_2.length ≤ c0_2) (h : impl_tray_own.f a0_0 a0_1 l0_2 = some (r1, r2, r3)) :
  Calls Tryz.prog 108 #[.agg #[.int .i64 a0_0, .int .i64 a0_1, .slice A0_2 l0_2.length c0_2]] w fun e w' => ∃ v2_ : Value, e = .returned (.agg #[.int .i64 r1, .int .i64 r2, v2_]) ∧ Kd.R (Kd.int .u8) 5 w' w.heap.size (fun _ => True) v2_ r3 ∧ Below w.heap.size w w' := by
 have hu75 := Tryz.underlying75
 have HR0_2 := Aside0.mk hr0_2
 have HC0_2 := Aside0.mk hc0_2
 clear hr0_2 hc0_2
 have HB := Aside0.mk (Below.refl w.heap.size w)
 have H : ((slices_Clone_u8.f l0_2).bind fun t103 => (some (a0_0, a0_1, t103))) = some (r1, r2, r3) := h
 clear h
 replace H := Option.bind_eq_some_iff.mp H
 obtain ⟨t103, A20, H⟩ := H
 replace H : (some (a0_0, a0_1, t103)) = some (r1, r2, r3) := H
 have A2 := Aside0.mk A20
 clear A20
 simp only [Option.some.injEq, Prod.mk.injEq] at H
 obtain ⟨rfl, rfl, rfl⟩ := H
 go_enter Tryz.func108, Tryz.ntmps108
 try go_wp2_with (first | ((with_reducible refine gate_dst (N := 1) rfl ?_); refine boxE (N := 1) (cs := #[.int .i64 a0_0, .int .i64 a0_1, .slice A0_2 l0_2.length c0_2]) (t := 75) ?_; intro gb101 hg w3 hbox hb; have n0_ := Aside0.mk (below_step (bel HB) hb); have n1_ := Aside0.mk (hbox); have n2_ := Aside0.mk (gsz hg (bel HB)); have n3_ := Aside0.mk (gsz hg (bel HB)); clear HB; have HB := n0_; have BK101 := n1_; have GW101 := n2_; have GE101 := n3_; clear n0_ n1_ n2_ n3_; clear hb hbox hg) | ((with_reducible refine gate_dst (N := 2) rfl ?_); refine boxE (N := 2) (cs := #[.int .i64 0, .int .i64 0, .slice none 0 0]) (t := 75) ?_; intro gb102 hg w4 hbox hb; have n0_ := Aside0.mk (blk_below (g := gb101) (o := .cells #[.int .i64 a0_0, .int .i64 a0_1, .slice A0_2 l0_2.length c0_2] 75 (0, 0)) blc hb); have n1_ := Aside0.mk (below_step (bel HB) hb); have n2_ := Aside0.mk (hbox); have n3_ := Aside0.mk (gsz hg (bel HB)); have n4_ := Aside0.mk (gsz hg (bel HB)); have n5_ := Aside0.mk ((by rw [hg]; exact Nat.ne_of_lt (blk_lt (g := gb101) (o := .cells #[.int .i64 a0_0, .int .i64 a0_1, .slice A0_2 l0_2.length c0_2] 75 (0, 0)) blc) : gb101 ≠ gb102)); have n6_ := Aside0.mk ((by rw [hg]; exact Nat.ne_of_gt (blk_lt (g := gb101) (o := .cells #[.int .i64 a0_0, .int .i64 a0_1, .slice A0_2 l0_2.length c0_2] 75 (0, 0)) blc) : gb102 ≠ gb101)); clear BK101; clear HB; have BK101 := n0_; have HB := n1_; have BK102 := n2_; have GW102 := n3_; have GE102 := n4_; have NB101_102 := n5_; have NB102_101 := n6_; clear n0_ n1_ n2_ n3_ n4_ n5_ n6_; clear hb hbox hg))
 have n0_ := Aside0.mk (blk_drew BK101.out)
 have n1_ := Aside0.mk (blk_drew BK102.out)
 have n2_ := Aside0.mk (below_drew1 HB.out)
 clear BK101
 clear BK102
 clear HB
 have BK101 := n0_
 have BK102 := n1_
 have HB := n2_
 clear n0_ n1_ n2_
 refine start_ (n := 9) (S := fun w' => w'.cell? ⟨gb101, 0, none⟩ = some (.int .i64 a0_0) ∧ w'.cell? ⟨gb101, 1, none⟩ = some (.int .i64 a0_1) ∧ w'.cell? ⟨gb101, 2, none⟩ = some (.slice A0_2 l0_2.length c0_2)) (ds := []) #[false, false, false, false, false, false, false, false, false] (by kernel_rfl) rfl rfl ⟨(blk_cell BK101.out 0).trans rfl, (blk_cell BK101.out 1).trans rfl, (blk_cell BK101.out 2).trans rfl⟩ (fun hHeld => ?_); refine with_tabW impl_tray_own.tab1 impl_tray_own.bits1 (fun HT_ HW_ => ?_)
 generalize w4.drew = w5 at BK101 BK102 HB hHeld ⊢
 refine pure_ (i := 0) (N := some 3) (v := ?_) (a' := ?_) #[true, false, false, false, false, false, false, false, false] rfl rfl (any_of HT_.out (by kernel_rfl)) (fun _ _ _ h => h) (Or.inl ⟨by rfl, ?_⟩) ?_ ?_
 rotate_left
 ·intro w'
  go_simp
  with_reducible rfl
 rotate_left
 ·simp only [Act.put, List.setIfInBounds_toArray, List.set_cons_zero, List.set_cons_succ, i64_w, i32_w]
  rfl
 refine pure_ (i := 2) (N := some 5) (v := ?_) (a' := ?_) #[true, false, true, false, false, false, false, false, false] rfl rfl (any_of HT_.out (by kernel_rfl)) (fun _ _ _ h => h) (Or.inl ⟨by rfl, ?_⟩) ?_ ?_
 rotate_left
 ·intro w'
  go_simp
  with_reducible rfl
 rotate_left
 ·simp only [Act.put, List.setIfInBounds_toArray, List.set_cons_zero, List.set_cons_succ, i64_w, i32_w]
  rfl
 refine pure_ (i := 4) (N := some 7) (v := ?_) (a' := ?_) #[true, false, true, false, true, false, false, false, false] rfl rfl (any_of HT_.out (by kernel_rfl)) (fun _ _ _ h => h) (Or.inl ⟨by rfl, ?_⟩) ?_ ?_
 rotate_left
 ·intro w'
  go_simp
  with_reducible rfl
 rotate_left
 ·simp only [Act.put, List.setIfInBounds_toArray, List.set_cons_zero, List.set_cons_succ, i64_w, i32_w]
  rfl
 refine take_ (i := 1) (N := some 4) (v := ?_) (a' := ?_) #[true, true, true, false, true, false, false, false, false] rfl rfl (take_ofW HT_.out HW_.out (by kernel_rfl)) (fun _ _ _ h => h) (Or.inl ⟨by rfl, ?_⟩) hHeld ?_ ?_
 rotate_left
 ·rintro w' ⟨s0, s1, s2⟩
  go_simp
  with_reducible rfl
 rotate_left
 ·simp only [Act.put, List.setIfInBounds_toArray, List.set_cons_zero, List.set_cons_succ, i64_w, i32_w]
  rfl
 refine take_ (i := 3) (N := some 6) (v := ?_) (a' := ?_) #[true, true, true, true, true, false, false, false, false] rfl rfl (take_ofW HT_.out HW_.out (by kernel_rfl)) (fun _ _ _ h => h) (Or.inl ⟨by rfl, ?_⟩) hHeld ?_ ?_
 rotate_left
 ·rintro w' ⟨s0, s1, s2⟩
  go_simp
  with_reducible rfl
 rotate_left
 ·simp only [Act.put, List.setIfInBounds_toArray, List.set_cons_zero, List.set_cons_succ, i64_w, i32_w]
  rfl
 refine take_ (i := 5) (N := some 8) (v := ?_) (a' := ?_) #[true, true, true, true, true, true, false, false, false] rfl rfl (take_ofW HT_.out HW_.out (by kernel_rfl)) (fun _ _ _ h => h) (Or.inl ⟨by rfl, ?_⟩) hHeld ?_ ?_
 rotate_left
 ·rintro w' ⟨s0, s1, s2⟩
  go_simp
  with_reducible rfl
 rotate_left
 ·simp only [Act.put, List.setIfInBounds_toArray, List.set_cons_zero, List.set_cons_succ, i64_w, i32_w]
  rfl
 refine one_ (i := 6) (N := some 9) #[true, true, true, true, true, true, true, false, false] rfl rfl (one_of HT_.out (by kernel_rfl)) (by decide) (fun K hK => ?_)
 refine goes_ Tryz.func123 (by kernel_rfl) rfl #[.slice A0_2 l0_2.length c0_2] (by rfl) rfl rfl (by (try simp only [List.map_toArray, List.map_cons, List.map_nil]); first | done | rfl | (simp only [List.length_drop, List.length_take]; rfl)) ?_
 with_reducible refine (slices_Clone_u8.calls _ _ l0_2 t103 _ ?side1 ?side2 A2.out).mono ?_
 (case side1 => repeat (first | exact (Kd.C_below HR0_2.out HB.out) | (with_reducible refine Kd.C_alloc ?_ _) | (with_reducible refine Kd.C_drewN ?_ _) | (with_reducible refine Kd.C_drew ?_)))
 (case side2 => exact HC0_2.out)
 rintro e w6 ⟨v104, rfl, ho0, hb⟩
 refine ⟨_, rfl, ?_⟩
 have n0_ := Aside0.mk (Kd.R_lower ho0 (below_size (bel HB)))
 have n1_ := Aside0.mk (blk_below (g := gb101) (o := .cells #[.int .i64 a0_0, .int .i64 a0_1, .slice A0_2 l0_2.length c0_2] 75 (0, 0)) blc hb)
 have n2_ := Aside0.mk (blk_below (g := gb102) (o := .cells #[.int .i64 0, .int .i64 0, .slice none 0 0] 75 (0, 0)) blc hb)
 have n3_ := Aside0.mk (below_step (bel HB) hb)
 clear BK101
 clear BK102
 clear HB
 have HO105 := n0_
 have BK101 := n1_
 have BK102 := n2_
 have HB := n3_
 clear n0_ n1_ n2_ n3_
 (try clear hb)
 (try clear hb2)
 (try clear hk)
 (try clear hi)
 (try clear ho0)
 obtain ⟨Ao7, co7, eo7⟩ := Kd.R_slice HO105.out
 (first | subst eo7 | (injection eo7 with f1_ f2_ f3_; have f4_ := f1_.symm; have f5_ := f3_.symm; clear f1_ f2_ f3_; subst f4_; subst f5_))
 refine hK.out _ _ ⟨(blk_cell BK101.out 0).trans rfl, (blk_cell BK101.out 1).trans rfl, (blk_cell BK101.out 2).trans rfl⟩ (fun hHeld => ?_)
 clear hK K
 refine norm_ (a' := ?_) ?_ ?_
 rotate_left
 ·show Act.put _ (some 9) _ = _
  simp only [Act.put, List.setIfInBounds_toArray, List.set_cons_zero, List.set_cons_succ, i64_w, i32_w]
  rfl
 refine pure_ (i := 7) (N := some 10) (v := ?_) (a' := ?_) #[true, true, true, true, true, true, true, true, false] rfl rfl (any_of HT_.out (by kernel_rfl)) (fun _ _ _ h => h) (Or.inl ⟨by rfl, ?_⟩) ?_ ?_
 rotate_left
 ·intro w'
  go_simp
  with_reducible rfl
 rotate_left
 ·simp only [Act.put, List.setIfInBounds_toArray, List.set_cons_zero, List.set_cons_succ, i64_w, i32_w]
  rfl
 refine one_ (i := 8) (N := none) #[true, true, true, true, true, true, true, true, true] rfl rfl (one_of HT_.out (by kernel_rfl)) (by decide) (fun K hK => ?_)
 have hs8 : w6.cell? ⟨gb102, 0, none⟩ = some (.int .i64 0) := (blk_cell BK102.out 0).trans rfl
 have hfs8 := blk_frozen BK102.out 0
 have hns8_0 := NB101_102.out
 have hms8_0 := NB102_101.out
 have hs9 : w6.cell? ⟨gb102, 1, none⟩ = some (.int .i64 0) := (blk_cell BK102.out 1).trans rfl
 have hfs9 := blk_frozen BK102.out 1
 have hns9_0 := NB101_102.out
 have hms9_0 := NB102_101.out
 have hs10 : w6.cell? ⟨gb102, 2, none⟩ = some (.slice none 0 0) := (blk_cell BK102.out 2).trans rfl
 have hfs10 := blk_frozen BK102.out 2
 have hns10_0 := NB101_102.out
 have hms10_0 := NB102_101.out
 refine skip_ (w1 := ?_) (by rfl) rfl ?_ ?_
 rotate_left
 ·go_simp
  rfl
 refine hK.out _ _ ⟨((cell_far (p := ⟨gb102, _, none⟩) NB101_102.out _).trans (((cell_far (p := ⟨gb102, _, none⟩) NB101_102.out _).trans (((cell_far (p := ⟨gb102, _, none⟩) NB101_102.out _).trans (hHeld.1)))))), ((cell_far (p := ⟨gb102, _, none⟩) NB101_102.out _).trans (((cell_far (p := ⟨gb102, _, none⟩) NB101_102.out _).trans (((cell_far (p := ⟨gb102, _, none⟩) NB101_102.out _).trans (hHeld.2.1)))))), ((cell_far (p := ⟨gb102, _, none⟩) NB101_102.out _).trans (((cell_far (p := ⟨gb102, _, none⟩) NB101_102.out _).trans (((cell_far (p := ⟨gb102, _, none⟩) NB101_102.out _).trans (hHeld.2.2))))))⟩ (fun hHeld => ?_)
 clear hK K
 refine done_ (done_of HT_.out (by kernel_rfl)) ?_
 try go_wp2
 refine bodyPost_ret (results_cell_row rfl _ _ gb102 75 #[.int .i64 a0_0, .int .i64 a0_1, .slice Ao7 t103.length co7] (0, 0) _ rfl (by (with_reducible repeat (first | refine blk_drewN ?_ _ | refine blk_drew ?_ | refine blk_alloc ?_ _)); refine blk_put (cs := #[.int .i64 a0_0, .int .i64 a0_1, .slice none 0 0]) ?_ 2 _ rfl; (with_reducible repeat (first | refine blk_drewN ?_ _ | refine blk_drew ?_ | refine blk_alloc ?_ _)); refine blk_put (cs := #[.int .i64 a0_0, .int .i64 0, .slice none 0 0]) ?_ 1 _ rfl; (with_reducible repeat (first | refine blk_drewN ?_ _ | refine blk_drew ?_ | refine blk_alloc ?_ _)); refine blk_put (cs := #[.int .i64 0, .int .i64 0, .slice none 0 0]) ?_ 0 _ rfl; exact blc) Tryz.underlying75 rfl (by kernel_rfl)) rfl ?_
 exact ⟨_, by first | rfl | (simp [errW_none, errW_some] <;> rfl) | (simp [*, errW_none, errW_some] <;> rfl), by (with_reducible repeat (first | apply Kd.R_alloc | apply Kd.R_drewN | apply Kd.R_drew)); exact Kd.R_mono (Kd.R_far (p := ⟨gb102, 2, none⟩) (Kd.R_far (p := ⟨gb102, 1, none⟩) (Kd.R_far (p := ⟨gb102, 0, none⟩) (Kd.R_types HO105.out BK102.out (by decide)) (fun _ hk => hk.2) (.int .i64 a0_0)) (fun _ hk => hk.2) (.int .i64 a0_1)) (fun _ hk => hk.2) (.slice Ao7 t103.length co7)) (fun _ hk => trivial), bel HB⟩
end Go.Proofs.YtchkmhbngbgjnaaGreatDoor.Q
end
section
namespace Go.Proofs.YtchkmhbngbgjnaaGreatDoor.Q
open Go.RowKit Go.Proofs.YtchkmhbngbgjnaaGreatDoorW.PrintWords Go.Proofs.YtchkmhbngbgjnaaGreatDoorW.PrintLast Go.Proofs.YtchkmhbngbgjnaaGreatDoorW.PrintMore
def impl_tray_emptied.f (w h : Int) (cs : List Int) : Option (Int × Int × List Int) := if 0 < cs.length ∧ cs.length ≤ 1000 then some (w, h, emptyC cs) else none
def halfE (cs : List Int) (t : Nat) : List Int := emptyC (cs.take t) ++ cs.drop t
theorem own_val (w h : Int) (cs : List Int) (h0 : 0 < cs.length) (hl : cs.length ≤ 1000) : impl_tray_own.f w h cs = some (w, h, cs) := by
 unfold impl_tray_own.f slices_Clone_u8.f
 rw [if_pos ⟨h0, by omega⟩]
 rfl
theorem halfE_all (cs : List Int) : halfE cs cs.length = emptyC cs := by
 unfold halfE
 rw [List.take_length, List.drop_length, List.append_nil]
theorem halfE_at (cs : List Int) (t : Nat) (h : t < cs.length) : rdOf 0 (halfE cs t) (t : Int) = rd cs (t : Int) := by
 have hl : (emptyC (cs.take t)).length = t := by
  unfold emptyC
  simp
  omega
 unfold rdOf rd halfE
 rw [Int.toNat_natCast, List.getD_eq_getElem?_getD, List.getD_eq_getElem?_getD, List.getElem?_append_right (by omega), hl, Nat.sub_self, List.getElem?_drop, Nat.add_zero]
theorem halfE_succ (cs : List Int) (t : Nat) (h : t < cs.length) : halfE cs (t + 1) = if isB (rd cs (t : Int)) = true then (halfE cs t).set t 46 else halfE cs t := by
 have e1 : cs.take (t + 1) = cs.take t ++ [cs[t]] := List.take_succ_eq_append_getElem h
 have e2 : cs.drop t = cs[t] :: cs.drop (t + 1) := List.drop_eq_getElem_cons h
 have hl : (emptyC (cs.take t)).length = t := by
  unfold emptyC
  simp
  omega
 rw [rd_nat cs t h]
 unfold halfE
 rw [e1, e2]
 have e3 : emptyC (cs.take t ++ [cs[t]]) = emptyC (cs.take t) ++ [if isB cs[t] = true then 46 else cs[t]] := by
  unfold emptyC
  rw [List.map_append]
  rfl
 rw [e3, List.append_assoc]
 by_cases hb : isB cs[t] = true
 ·rw [if_pos hb, if_pos hb, List.set_append_right _ _ (by omega), hl, Nat.sub_self]
  rfl
 ·rw [if_neg hb, if_neg hb]
  rfl
structure EM (w W : World) (gr go gb : Nat) (a b : Int) (n c : Nat) (xs : List Int) : Prop where
 below : Below w.heap.size w W
 res : W.heap[gr]? = some (.cells #[.int .i64 0, .int .i64 0, .slice none 0 0] 75 (0, 0))
 out : W.heap[go]? = some (.cells #[.int .i64 a, .int .i64 b, .slice (some ⟨gb, 0, none⟩) n c] 75 (0, 0))
 row : Kd.R (Kd.int .u8) 5 W w.heap.size (fun _ => True) (.slice (some ⟨gb, 0, none⟩) n c) xs
 gr0 : w.heap.size ≤ gr
 go0 : w.heap.size ≤ go
 gb0 : w.heap.size ≤ gb
 ne : gr ≠ go
 len : xs.length = n
section
variable {w W W1 : World} {gr go gb n c : Nat} {a b : Int} {xs : List Int}
theorem EM.step (h : EM w W gr go gb a b n c xs) (hb : Below W.heap.size W W1) : EM w W1 gr go gb a b n c xs :=
 ⟨below_then h.below h.below.size hb, (hb.block _ (blk_lt h.res)).trans h.res, (hb.block _ (blk_lt h.out)).trans h.out, Kd.R_below h.row hb, h.gr0, h.go0, h.gb0, h.ne, h.len⟩
theorem EM.neb (h : EM w W gr go gb a b n c xs) : gr ≠ gb ∧ go ≠ gb :=
 ⟨fun e => Kd.R_ne h.row h.res (by decide) (by rw [e]; rfl), fun e => Kd.R_ne h.row h.out (by decide) (by rw [e]; rfl)⟩
theorem EM.set (h : EM w W gr go gb a b n c xs) (i x : Int) : EM w (W.setCell ⟨gb, i.toNat, none⟩ (.int .u8 x)) gr go gb a b n c (xs.set i.toNat x) := by
 obtain ⟨n1, n2⟩ := h.neb
 exact ⟨below_set h.below h.gb0, blk_far h.res n1 _, blk_far h.out n2 _, (Kd.R_putg h.row i x).1, h.gr0, h.go0, h.gb0, h.ne, by rw [List.length_set]; exact h.len⟩
end
set_option maxHeartbeats 16000000 in
set_option maxRecDepth 100000 in
theorem impl_tray_emptied.calls (a0_0 a0_1 : Int) (A0_2 : Option Addr) (c0_2 : Nat) (l0_2 : List Int) (r1 r2 : Int) (r3 : List Int) (w : World) (hr0_2 : Kd.C (Kd.int .u8) w A0_2 l0_2.length l0_2) (hc0_2 : l0_2.length ≤ c0_2) (h : impl_tray_emptied.f a0_0 a0_1 l0_2 = some (r1, r2, r3)) :
  Calls Tryz.prog 93 #[.agg #[.int .i64 a0_0, .int .i64 a0_1, .slice A0_2 l0_2.length c0_2]] w fun e w' => ∃ v2_ : Value, e = .returned (.agg #[.int .i64 r1, .int .i64 r2, v2_]) ∧ Kd.R (Kd.int .u8) 5 w' w.heap.size (fun _ => True) v2_ r3 ∧ Below w.heap.size w w' := by
 unfold impl_tray_emptied.f at h
 split at h
 case isFalse => cases h
 rename_i hl
 simp only [Option.some.injEq, Prod.mk.injEq] at h
 obtain ⟨rfl, rfl, rfl⟩ := h
 have hu := Tryz.underlying75
 have HR := Aside0.mk hr0_2
 have HC := Aside0.mk hc0_2
 have HL := Aside0.mk hl
 have HV := Aside0.mk (own_val a0_0 a0_1 l0_2 hl.1 hl.2)
 clear hr0_2 hc0_2 hl
 go_enter Tryz.func93, Tryz.ntmps93
 go_wp2_with (first
  | ((with_reducible refine gate_dst (N := 1) rfl ?_); refine box_event ?hg (N := 1) ?hd (cs := #[.int .i64 a0_0, .int .i64 a0_1, .slice A0_2 l0_2.length c0_2]) (t := 75) ?hr ?_; (case hd => rfl); (case hg => rfl); (case hr => first | (go_simp; done) | (go_simp; rfl)); intro gt hg w1 hbox hb; (have HB1 := Aside0.mk hb); (have HT := Aside0.mk hbox); clear hbox hb hg)
  | ((with_reducible refine gate_dst (N := 2) rfl ?_); refine box_event ?hg (N := 2) ?hd (cs := #[.int .i64 0, .int .i64 0, .slice none 0 0]) (t := 75) ?hr ?_; (case hd => rfl); (case hg => rfl); (case hr => first | (go_simp; done) | (go_simp; rfl)); intro gr hg w2 hbox hb; (have HG2 := Aside0.mk (show w.heap.size ≤ gr by rw [hg]; exact HB1.out.size)); (have HB2 := Aside0.mk (below_then HB1.out HB1.out.size hb)); (have HT2 := Aside0.mk ((hb.block gt (blk_lt HT.out)).trans HT.out)); (have HRS := Aside0.mk hbox); (have z0 := (blk_cell HT2.out 0).trans rfl); (have z1 := (blk_cell HT2.out 1).trans rfl); (have z2 := (blk_cell HT2.out 2).trans rfl); clear hbox hb hg HT HB1))
 refine (impl_tray_own.calls a0_0 a0_1 _ c0_2 l0_2 a0_0 a0_1 l0_2 _ (Kd.C_below HR.out HB2.out) HC.out HV.out).mono ?_
 rintro e w3 ⟨v2, rfl, ho, hb3⟩
 obtain ⟨gb, c, rfl, hgb, hlb, cl, hcl⟩ := Kd.R_form ho HL.out.1
 have HB3 := Aside0.mk (below_then HB2.out HB2.out.size hb3)
 have HRS3 := Aside0.mk ((hb3.block gr (blk_lt HRS.out)).trans HRS.out)
 have HO3 := Aside0.mk (Kd.R_lower ho HB2.out.size)
 have HGB := Aside0.mk (Nat.le_trans HB2.out.size hgb)
 clear z0 z1 z2 HT2 HRS HB2 ho hb3 hgb hlb hcl
 go_wp2_with (first
  | ((with_reducible refine gate_dst (N := 3) rfl ?_); refine box_event ?hg (N := 3) ?hd (cs := #[.int .i64 0, .int .i64 0, .slice none 0 0]) (t := 75) ?hr ?_; (case hd => rfl); (case hg => rfl); (case hr => first | (go_simp; done) | (go_simp; rfl)); intro go hg w4 hbox hb; (have HGO := Aside0.mk (show w.heap.size ≤ go by rw [hg]; exact HB3.out.size)); (have HNE := Aside0.mk (show gr ≠ go by rw [hg]; exact Nat.ne_of_lt (blk_lt HRS3.out))); (have HB4 := Aside0.mk (below_then HB3.out HB3.out.size hb)); (have HRS4 := Aside0.mk ((hb.block gr (blk_lt HRS3.out)).trans HRS3.out)); (have HO4 := Aside0.mk (Kd.R_below HO3.out hb)); (have HU := Aside0.mk hbox); (have y0 := (blk_cell HU.out 0).trans rfl); (have y1 := (blk_cell HU.out 1).trans rfl); (have y2 := (blk_cell HU.out 2).trans rfl); (have f0 := blk_frozen HU.out 0); (have f1 := blk_frozen HU.out 1); (have f2 := blk_frozen HU.out 2); clear hbox hb hg HB3 HRS3 HO3)
  | ((with_reducible refine gate_store (t := 75) (p := 3) rfl ?_); refine store_event (t := 75) (p := 3) (v := ?vo) (w1 := (((w4.setCell ⟨go, 0, none⟩ (.int .i64 a0_0)).setCell ⟨go, 1, none⟩ (.int .i64 a0_1)).setCell ⟨go, 2, none⟩ (.slice (some ⟨gb, 0, none⟩) l0_2.length c))) ?hg ?ho ?hn ?hr ?_; (case ho => rfl); (case hg => rfl); (case hn => rfl); (case hr => first | (go_simp; done) | (go_simp; rfl)); intro w5 hw; (have HE := Aside0.mk (show EM w w5 gr go gb a0_0 a0_1 l0_2.length c l0_2 from by rw [hw]; exact ⟨below_set (below_set (below_set HB4.out HGO.out) HGO.out) HGO.out, blk_far (blk_far (blk_far HRS4.out HNE.out _) HNE.out _) HNE.out _, (by refine blk_put (cs := #[.int .i64 a0_0, .int .i64 a0_1, .slice none 0 0]) ?_ 2 _ rfl; refine blk_put (cs := #[.int .i64 a0_0, .int .i64 0, .slice none 0 0]) ?_ 1 _ rfl; refine blk_put (cs := #[.int .i64 0, .int .i64 0, .slice none 0 0]) ?_ 0 _ rfl; exact HU.out), Kd.R_mono (Kd.R_far (p := ⟨go, 2, none⟩) (Kd.R_far (p := ⟨go, 1, none⟩) (Kd.R_far (p := ⟨go, 0, none⟩) (Kd.R_types HO4.out HU.out (by decide)) (fun _ hk => hk.2) (.int .i64 a0_0)) (fun _ hk => hk.2) (.int .i64 a0_1)) (fun _ hk => hk.2) (.slice (some ⟨gb, 0, none⟩) l0_2.length c)) (fun _ _ => trivial), HG2.out, HGO.out, HGB.out, HNE.out, rfl⟩)); clear hw HU HO4 HRS4 HB4 y0 y1 y2 f0 f1 f2; (have y0 := (blk_cell HE.out.out 0).trans rfl); (have y1 := (blk_cell HE.out.out 1).trans rfl); (have y2 := (blk_cell HE.out.out 2).trans rfl)))
 have HE0 := Aside0.mk (show EM w w5 gr go gb a0_0 a0_1 l0_2.length c (halfE l0_2 0) from HE.out)
 have HL2 := Aside0.mk HL.out.2
 clear HE y0 y1 y2
 go_loopg [11] l0_2.length (fun gg v11 wr => ∃ t : Nat, v11 = .int .i64 t ∧ Aside0 (t ≤ l0_2.length ∧ l0_2.length - t ≤ gg) ∧ Aside0 (EM w wr gr go gb a0_0 a0_1 l0_2.length c (halfE l0_2 t)))
 case atStart => exact ⟨0, rfl, ⟨Nat.zero_le _, by omega⟩, HE0⟩
 case round =>
  clear HE0
  obtain ⟨t, rfl, HA, HE⟩ := hrel
  have y0 := (blk_cell HE.out.out 0).trans rfl
  have y1 := (blk_cell HE.out.out 1).trans rfl
  have y2 := (blk_cell HE.out.out 2).trans rfl
  have hwt : wrap64 ((t : Int) + 1) = ((t + 1 : Nat) : Int) := by
   have := HA.out
   have := HL2.out
   unfold wrap64
   omega
  by_cases hlt : t < l0_2.length
  ·have c1 : decide ((t : Int) < (l0_2.length : Int)) = true := decide_eq_true (by omega)
   have p1 : (0 ≤ (t : Int)) = True := eq_true (by omega)
   have p2 : ((t : Int) < (l0_2.length : Int)) = True := eq_true (by omega)
   obtain ⟨x0, x1⟩ := Kd.R_celln 0 HE.out.row (t : Int) (by omega) (by omega)
   rw [halfE_at l0_2 t hlt] at x0
   rw [Int.toNat_natCast] at x0 x1
   have hsucc := halfE_succ l0_2 t hlt
   generalize rd l0_2 (t : Int) = v at x0 hsucc
   have HS := Aside0.mk hsucc
   clear hsucc
   cases hb : isB v with
   | true =>
    have hv := isBall_eq v
    rw [hb] at hv
    have HV2 := Aside0.mk hv
    clear hv
    go_wp2_with (go_at_call 95; refine (impl_isBall.calls v true _ HV2.out).mono ?_; rintro e w6 ⟨rfl, ⟨nd, rfl⟩⟩; (have HE6 := Aside0.mk (HE.out.step (pw_below_drewN (Below.refl _ _) nd))); clear y0 y1 y2 x0 x1; (have y0 := (blk_cell HE6.out.out 0).trans rfl); (have y1 := (blk_cell HE6.out.out 1).trans rfl); (have y2 := (blk_cell HE6.out.out 2).trans rfl); (obtain ⟨x0, x1⟩ := Kd.R_celln 0 HE6.out.row (t : Int) (by omega) (by omega)); rw [Int.toNat_natCast] at x0 x1)
    go_roundg (l0_2.length - (t + 1))
    case measure => have := HA.out; omega
    case rel =>
     refine ⟨t + 1, by first | rfl | rw [hwt], ⟨by have := HA.out; omega, Nat.le_refl _⟩, ?_⟩
     have h8 := HE6.out.set (t : Int) 46
     rw [Int.toNat_natCast] at h8
     rw [HS.out, if_pos hb]
     exact ⟨h8⟩
   | false =>
    have hv := isBall_eq v
    rw [hb] at hv
    have HV2 := Aside0.mk hv
    clear hv
    go_wp2_with (go_at_call 95; refine (impl_isBall.calls v false _ HV2.out).mono ?_; rintro e w6 ⟨rfl, ⟨nd, rfl⟩⟩; (have HE6 := Aside0.mk (HE.out.step (pw_below_drewN (Below.refl _ _) nd))); clear y0 y1 y2 x0 x1; (have y0 := (blk_cell HE6.out.out 0).trans rfl); (have y1 := (blk_cell HE6.out.out 1).trans rfl); (have y2 := (blk_cell HE6.out.out 2).trans rfl); (obtain ⟨x0, x1⟩ := Kd.R_celln 0 HE6.out.row (t : Int) (by omega) (by omega)); rw [Int.toNat_natCast] at x0 x1)
    go_roundg (l0_2.length - (t + 1))
    case measure => have := HA.out; omega
    case rel =>
     refine ⟨t + 1, by first | rfl | rw [hwt], ⟨by have := HA.out; omega, Nat.le_refl _⟩, ?_⟩
     rw [HS.out, if_neg (by rw [hb]; decide)]
     exact HE6
  ·have hAt := HA.out.1
   obtain rfl : t = l0_2.length := by omega
   have c1 : decide ((l0_2.length : Int) < (l0_2.length : Int)) = false := decide_eq_false (by omega)
   clear hAt HA hlt hwt
   rw [halfE_all] at HE
   have r0 := (blk_cell HE.out.res 0).trans rfl
   have r1 := (blk_cell HE.out.res 1).trans rfl
   have r2 := (blk_cell HE.out.res 2).trans rfl
   have g0 := blk_frozen HE.out.res 0
   have g1 := blk_frozen HE.out.res 1
   have g2 := blk_frozen HE.out.res 2
   go_wp2_with fail
   refine bodyPost_ret (results_cell_row rfl _ _ gr 75 #[.int .i64 a0_0, .int .i64 a0_1, .slice (some ⟨gb, 0, none⟩) l0_2.length c] (0, 0) _ rfl (by refine blk_put (cs := #[.int .i64 a0_0, .int .i64 a0_1, .slice none 0 0]) ?_ 2 _ rfl; refine blk_put (cs := #[.int .i64 a0_0, .int .i64 0, .slice none 0 0]) ?_ 1 _ rfl; refine blk_put (cs := #[.int .i64 0, .int .i64 0, .slice none 0 0]) ?_ 0 _ rfl; exact HE.out.res) Tryz.underlying75 rfl (by kernel_rfl)) rfl ?_
   exact ⟨_, rfl, Kd.R_mono (Kd.R_far (p := ⟨gr, 2, none⟩) (Kd.R_far (p := ⟨gr, 1, none⟩) (Kd.R_far (p := ⟨gr, 0, none⟩) (Kd.R_types HE.out.row HE.out.res (by decide)) (fun _ hk => hk.2) (.int .i64 a0_0)) (fun _ hk => hk.2) (.int .i64 a0_1)) (fun _ hk => hk.2) (.slice (some ⟨gb, 0, none⟩) l0_2.length c)) (fun _ _ => trivial), below_set (below_set (below_set HE.out.below HE.out.gr0) HE.out.gr0) HE.out.gr0⟩
end Go.Proofs.YtchkmhbngbgjnaaGreatDoor.Q
end
section
namespace Go.Proofs.YtchkmhbngbgjnaaGreatDoor.Q
set_option linter.unusedSectionVars false
open Go.RowKit Go.Proofs.YtchkmhbngbgjnaaGreatDoorW.PrintWords Go.Proofs.YtchkmhbngbgjnaaGreatDoorW.PrintLast Go.Proofs.YtchkmhbngbgjnaaGreatDoorW.PrintMore
def comes (f : Int → Option Int) (came : Int → Bool) (n : Nat) (j : Nat) : Option Nat := (List.range n).find? fun x : Nat => decide (f (x : Int) = some (j : Int)) && came (x : Int)
def laidCells (cs em : List Int) (f : Int → Option Int) (came : Int → Bool) : List Int := (List.range cs.length).map fun j : Nat => match comes f came cs.length j with | some x => rd cs (x : Int) | none => rd em (j : Int)
structure Fits (f : Int → Option Int) (n : Nat) : Prop where
 dom : ∀ x c, f x = some c → 0 ≤ x ∧ x < (n : Int) ∧ 0 ≤ c ∧ c < (n : Int)
 inj : ∀ x y c, f x = some c → f y = some c → x = y
theorem laid_none (cs em : List Int) (f : Int → Option Int) (hl : em.length = cs.length) : laidCells cs em f (fun _ => false) = em := by
 unfold laidCells comes
 refine List.ext_getElem (by simpa using hl.symm) fun j h1 h2 => ?_
 rw [List.getElem_map, List.getElem_range]
 rw [List.find?_eq_none.2 (fun x _ => by simp)]
 show rd em (j : Int) = _
 unfold rd
 rw [Int.toNat_natCast, List.getD_eq_getElem?_getD, List.getElem?_eq_getElem h2]
 rfl
theorem laid_len (cs em : List Int) (f : Int → Option Int) (came : Int → Bool) : (laidCells cs em f came).length = cs.length := by
 unfold laidCells
 rw [List.length_map, List.length_range]
theorem laid_step (cs em : List Int) (f : Int → Option Int) (came : Int → Bool) (hf : Fits f cs.length) (x c : Int) (hx : f x = some c) : laidCells cs em f (fun y => came y || decide (y = x)) = (laidCells cs em f came).set c.toNat (rd cs x) := by
 obtain ⟨h0, h1, h2, h3⟩ := hf.dom x c hx
 unfold laidCells
 refine List.ext_getElem (by simp) fun j h4 h5 => ?_
 rw [List.getElem_set, List.getElem_map, List.getElem_range]
 have hj : j < cs.length := by simpa using h4
 by_cases hc : c.toNat = j
 ·rw [if_pos hc]
  have hfd : comes f (fun y => came y || decide (y = x)) cs.length j = some x.toNat := by
   unfold comes
   have hsome : ∃ y, ((List.range cs.length).find? fun y : Nat => decide (f (y : Int) = some (j : Int)) && (came (y : Int) || decide ((y : Int) = x))) = some y := by
    rw [← Option.isSome_iff_exists, List.find?_isSome]
    refine ⟨x.toNat, List.mem_range.2 (by omega), ?_⟩
    rw [Int.toNat_of_nonneg h0, hx]
    have : c = (j : Int) := by omega
    simp [this]
   obtain ⟨y, hy⟩ := hsome
   have hp := List.find?_some hy
   simp only [Bool.and_eq_true, decide_eq_true_eq] at hp
   have hyx := hf.inj (y : Int) x c (by rw [hp.1]; congr 1; omega) hx
   rw [hy]
   congr 1
   omega
  rw [hfd]
  show rd cs (x.toNat : Int) = rd cs x
  rw [Int.toNat_of_nonneg h0]
 ·rw [if_neg hc, List.getElem_map, List.getElem_range]
  have he : comes f (fun y => came y || decide (y = x)) cs.length j = comes f came cs.length j := by
   unfold comes
   congr 1
   funext y
   by_cases hyx : (y : Int) = x
   ·have : ¬ f (y : Int) = some (j : Int) := by
     rw [hyx, hx]
     intro e
     have := Option.some.inj e
     omega
    rw [decide_eq_false this]
    rfl
   ·show (decide (f (y : Int) = some (j : Int)) && (came (y : Int) || decide ((y : Int) = x))) = _
    rw [decide_eq_false hyx, Bool.or_false]
  rw [he]
theorem find_congr {α : Type} {p q : α → Bool} : ∀ (l : List α), (∀ x ∈ l, p x = q x) → l.find? p = l.find? q
 | [], _ => rfl
 | a :: l, h => by
  rw [List.find?_cons, List.find?_cons, h a List.mem_cons_self, find_congr l fun x hx => h x (List.mem_cons_of_mem _ hx)]
theorem laid_congr (cs em : List Int) (f g : Int → Option Int) (ca cb : Int → Bool) (h : ∀ x : Nat, x < cs.length → f (x : Int) = g (x : Int) ∧ (f (x : Int) ≠ none → ca (x : Int) = cb (x : Int))) : laidCells cs em f ca = laidCells cs em g cb := by
 unfold laidCells
 congr 1
 funext j
 have he : comes f ca cs.length j = comes g cb cs.length j := by
  unfold comes
  refine find_congr _ fun x hx => ?_
  obtain ⟨h1, h2⟩ := h x (List.mem_range.1 hx)
  rw [← h1]
  by_cases h3 : f (x : Int) = some (j : Int)
  ·rw [h2 (by rw [h3]; simp)]
  ·rw [decide_eq_false h3]
   rfl
 rw [he]
end Go.Proofs.YtchkmhbngbgjnaaGreatDoor.Q
end
section
namespace Go.Proofs.YtchkmhbngbgjnaaGreatDoor.Q
set_option linter.unusedSectionVars false
open Go.RowKit Go.Proofs.YtchkmhbngbgjnaaGreatDoorW.PrintWords Go.Proofs.YtchkmhbngbgjnaaGreatDoorW.PrintLast Go.Proofs.YtchkmhbngbgjnaaGreatDoorW.PrintMore
theorem lk_same (x y : Int) : (lk x).sameKey (lk y) = decide (x = y) := by
 by_cases h : x = y
 ·rw [h, WideAt.sameKey_self (lk_key y)]
  simp
 ·rw [Maps.sameKey_ne (lk_ne h)]
  simp [h]
def cameL (left : Lit → Bool) (x : Int) : Bool := !left (lk x)
theorem came_start {D : DataW Unit} {f : Int → Option Int} (h : Holds D f) (cs em : List Int) (hl : em.length = cs.length) : laidCells cs em f (cameL (Maps.has D)) = em := by
 refine Eq.trans (laid_congr cs em f f _ (fun _ => false) fun x _ => ⟨rfl, fun hx => ?_⟩) (laid_none cs em f hl)
 unfold cameL
 rw [h.has']
 cases e : f (x : Int) with
 | none => exact absurd e hx
 | some c => rfl
theorem came_end (left : Lit → Bool) (h : ∀ kl, left kl = false) : cameL left = fun _ => true := by
 funext x
 unfold cameL
 rw [h]
 rfl
theorem came_step (left : Lit → Bool) (x : Int) : cameL (fun z => left z && !z.sameKey (lk x)) = fun y => cameL left y || decide (y = x) := by
 funext y
 unfold cameL
 show (!(left (lk y) && !(lk y).sameKey (lk x))) = _
 rw [lk_same]
 cases left (lk y) <;> cases decide (y = x) <;> rfl
theorem Holds.some {D : DataW Unit} {f : Int → Option Int} (h : Holds D f) {x c : Int} (ha : ∀ zd, D.atKey (lk x) zd = .lit (lk c)) : f x = some c := by
 have h1 := ha .nil
 rw [h.at'] at h1
 cases e : f x with
 | none =>
  rw [e] at h1
  cases h1
 | some c' =>
  rw [e] at h1
  injection h1 with h2
  injection h2 with h3 h4
  rw [h4]
theorem EM.turn {w W W1 : World} {gr go gb n c : Nat} {a b : Int} {xs : List Int} (h : EM w W gr go gb a b n c xs) {r : Nat} (hg : W.grownBy W1 (some r)) (hr : w.heap.size ≤ r) (hn : NC W r) : EM w W1 gr go gb a b n c xs :=
 ⟨h.below.grown hg h.below.size (fun k e => by cases e; exact hr), blk_turn h.res hg hn, blk_turn h.out hg hn, R_turn h.row hg hn, h.gr0, h.go0, h.gb0, h.ne, h.len⟩
set_option maxHeartbeats 16000000 in
set_option maxRecDepth 100000 in
theorem carried_calls (a0_0 a0_1 : Int) (A0_2 : Option Addr) (c0_2 : Nat) (l0_2 : List Int) (bm n : Nat) (f : Int → Option Int) (w : World) (hr0_2 : Kd.C (Kd.int .u8) w A0_2 l0_2.length l0_2) (hc0_2 : l0_2.length ≤ c0_2) (hl : 0 < l0_2.length ∧ l0_2.length ≤ 1000) (hm : MP w bm n f) (hf : Fits f l0_2.length) :
  Calls Tryz.prog 69 #[.agg #[.int .i64 a0_0, .int .i64 a0_1, .slice A0_2 l0_2.length c0_2], .map (some bm)] w fun e w' => ∃ v2_ : Value, e = .returned (.agg #[.int .i64 a0_0, .int .i64 a0_1, v2_]) ∧ Kd.R (Kd.int .u8) 5 w' w.heap.size (fun _ => True) v2_ (laidCells l0_2 (emptyC l0_2) f fun _ => true) ∧ Below w.heap.size w w' := by
 have hu := Tryz.underlying75
 have HR := Aside0.mk hr0_2
 have HC := Aside0.mk hc0_2
 have HL := Aside0.mk hl
 have HF := Aside0.mk hf
 have HV := Aside0.mk (show impl_tray_emptied.f a0_0 a0_1 l0_2 = some (a0_0, a0_1, emptyC l0_2) from if_pos hl)
 have hel : (emptyC l0_2).length = l0_2.length := by unfold emptyC; rw [List.length_map]
 obtain ⟨D, hown, hh⟩ := hm
 have MPD := Aside0.mk hown
 have HH := Aside0.mk hh
 obtain ⟨ad, ead, _⟩ := Kd.at_int hr0_2 0 (by omega) (by omega)
 cases ead
 generalize hem : emptyC l0_2 = em at HV hel ⊢
 have HEL := Aside0.mk hel
 clear hr0_2 hc0_2 hl hown hh hf hem hel
 go_enter Tryz.func69, Tryz.ntmps69
 go_wp2_with (first
  | ((with_reducible refine gate_dst (N := 2) rfl ?_); refine box_event ?hg (N := 2) ?hd (cs := #[.int .i64 a0_0, .int .i64 a0_1, .slice (some ad) l0_2.length c0_2]) (t := 75) ?hr ?_; (case hd => rfl); (case hg => rfl); (case hr => first | (go_simp; done) | (go_simp; rfl)); intro gt hg w1 hbox hb; (have HB1 := Aside0.mk hb); (have HT := Aside0.mk hbox); clear hbox hb hg)
  | ((with_reducible refine gate_dst (N := 4) rfl ?_); refine box_event ?hg (N := 4) ?hd (cs := #[.int .i64 0, .int .i64 0, .slice none 0 0]) (t := 75) ?hr ?_; (case hd => rfl); (case hg => rfl); (case hr => first | (go_simp; done) | (go_simp; rfl)); intro gr hg w2 hbox hb; (have HG2 := Aside0.mk (show w.heap.size ≤ gr by rw [hg]; exact HB1.out.size)); (have HB2 := Aside0.mk (below_then HB1.out HB1.out.size hb)); (have HT2 := Aside0.mk ((hb.block gt (blk_lt HT.out)).trans HT.out)); (have HRS := Aside0.mk hbox); (have z0 := (blk_cell HT2.out 0).trans rfl); (have z1 := (blk_cell HT2.out 1).trans rfl); (have z2 := (blk_cell HT2.out 2).trans rfl); clear hbox hb hg HT HB1))
 refine (impl_tray_emptied.calls a0_0 a0_1 _ c0_2 l0_2 a0_0 a0_1 em _ (Kd.C_below HR.out HB2.out) HC.out HV.out).mono ?_
 rintro e w3 ⟨v2, rfl, ho, hb3⟩
 have hen : em.length = l0_2.length := HEL.out
 obtain ⟨gb, c, rfl, hgb, hlb, cl, hcl⟩ := Kd.R_form ho (by have := HL.out; omega)
 rw [hen] at ho
 have HB3 := Aside0.mk (below_then HB2.out HB2.out.size hb3)
 have HRS3 := Aside0.mk ((hb3.block gr (blk_lt HRS.out)).trans HRS.out)
 have HT3 := Aside0.mk ((hb3.block gt (blk_lt HT2.out)).trans HT2.out)
 have HO3 := Aside0.mk (Kd.R_lower ho HB2.out.size)
 have HGB := Aside0.mk (Nat.le_trans HB2.out.size hgb)
 clear z0 z1 z2 HT2 HRS HB2 ho hb3 hgb hlb hcl
 have HEMR := Aside0.mk (came_start HH.out l0_2 em hen)
 go_wp2_with (first
  | ((with_reducible refine gate_dst (N := 5) rfl ?_); refine box_event ?hg (N := 5) ?hd (cs := #[.int .i64 0, .int .i64 0, .slice none 0 0]) (t := 75) ?hr ?_; (case hd => rfl); (case hg => rfl); (case hr => first | (go_simp; done) | (go_simp; rfl)); intro go hg w4 hbox hb; (have HGO := Aside0.mk (show w.heap.size ≤ go by rw [hg]; exact HB3.out.size)); (have HNE := Aside0.mk (show gr ≠ go by rw [hg]; exact Nat.ne_of_lt (blk_lt HRS3.out))); (have HNT := Aside0.mk (show gt ≠ go by rw [hg]; exact Nat.ne_of_lt (blk_lt HT3.out))); (have HB4 := Aside0.mk (below_then HB3.out HB3.out.size hb)); (have HRS4 := Aside0.mk ((hb.block gr (blk_lt HRS3.out)).trans HRS3.out)); (have HT4 := Aside0.mk ((hb.block gt (blk_lt HT3.out)).trans HT3.out)); (have HO4 := Aside0.mk (Kd.R_below HO3.out hb)); (have HU := Aside0.mk hbox); (have y0 := (blk_cell HU.out 0).trans rfl); (have y1 := (blk_cell HU.out 1).trans rfl); (have y2 := (blk_cell HU.out 2).trans rfl); (have f0 := blk_frozen HU.out 0); (have f1 := blk_frozen HU.out 1); (have f2 := blk_frozen HU.out 2); clear hbox hb hg HB3 HRS3 HT3 HO3)
  | ((with_reducible refine gate_store (t := 75) (p := 5) rfl ?_); refine store_event (t := 75) (p := 5) (v := ?vo) (w1 := (((w4.setCell ⟨go, 0, none⟩ (.int .i64 a0_0)).setCell ⟨go, 1, none⟩ (.int .i64 a0_1)).setCell ⟨go, 2, none⟩ (.slice (some ⟨gb, 0, none⟩) l0_2.length c))) ?hg ?ho ?hn ?hr ?_; (case ho => rfl); (case hg => rfl); (case hn => rfl); (case hr => first | (go_simp; done) | (go_simp; rfl)); intro w5 hw; (have HE := Aside0.mk (show EM w w5 gr go gb a0_0 a0_1 l0_2.length c em from by rw [hw]; exact ⟨below_set (below_set (below_set HB4.out HGO.out) HGO.out) HGO.out, blk_far (blk_far (blk_far HRS4.out HNE.out _) HNE.out _) HNE.out _, (by refine blk_put (cs := #[.int .i64 a0_0, .int .i64 a0_1, .slice none 0 0]) ?_ 2 _ rfl; refine blk_put (cs := #[.int .i64 a0_0, .int .i64 0, .slice none 0 0]) ?_ 1 _ rfl; refine blk_put (cs := #[.int .i64 0, .int .i64 0, .slice none 0 0]) ?_ 0 _ rfl; exact HU.out), Kd.R_mono (Kd.R_far (p := ⟨go, 2, none⟩) (Kd.R_far (p := ⟨go, 1, none⟩) (Kd.R_far (p := ⟨go, 0, none⟩) (Kd.R_types HO4.out HU.out (by decide)) (fun _ hk => hk.2) (.int .i64 a0_0)) (fun _ hk => hk.2) (.int .i64 a0_1)) (fun _ hk => hk.2) (.slice (some ⟨gb, 0, none⟩) l0_2.length c)) (fun _ _ => trivial), HG2.out, HGO.out, HGB.out, HNE.out, HEL.out⟩)); (have HT5 := Aside0.mk (show w5.heap[gt]? = some (.cells #[.int .i64 a0_0, .int .i64 a0_1, .slice (some ad) l0_2.length c0_2] 75 (0, 0)) from by rw [hw]; exact blk_far (blk_far (blk_far HT4.out HNT.out _) HNT.out _) HNT.out _)); clear hw HU HO4 HRS4 HT4 HB4 y0 y1 y2 f0 f1 f2)
  | (at_range; refine wpList_range_own _ rfl _ 91 rfl 3 3 keyI Tryz.underlying91 PE bm n D rfl (MPD.out.kept (grown_of_below HE.out.below none) (by simp)) ?_; intro w6 hrg hg6 hs6; (have HRG := Aside0.mk hrg); (have HE6 := Aside0.mk (HE.out.step (below_none hg6))); (have HT6 := Aside0.mk (((below_none hg6).block gt (blk_lt HT5.out)).trans HT5.out)); (have HRB := Aside0.mk HE.out.below.size); clear hrg hg6 hs6 HE HT5))
 go_frame
 generalize w5.heap.size = ri at HRG HRB ⊢
 have HE7 := Aside0.mk (show EM w w6 gr go gb a0_0 a0_1 l0_2.length c (laidCells l0_2 em f (cameL (Maps.has D))) by rw [HEMR.out]; exact HE6.out)
 have HLL := Aside0.mk (show ∀ ca, (laidCells l0_2 em f ca).length = l0_2.length from fun ca => laid_len _ _ _ _)
 clear HE6 HEMR
 go_loopg [] (Maps.size D) (fun gg wr => ∃ (left : Lit → Bool) (cnt : Nat), Aside0 (cnt ≤ gg) ∧ Aside0 (wr.ranges Tryz.prog 3 PE bm ri n D left cnt) ∧ Aside0 (EM w wr gr go gb a0_0 a0_1 l0_2.length c (laidCells l0_2 em f (cameL left))) ∧ Aside0 (wr.heap[gt]? = some (.cells #[.int .i64 a0_0, .int .i64 a0_1, .slice (some ad) l0_2.length c0_2] 75 (0, 0))))
 case atStart => exact ⟨_, _, ⟨Nat.le_refl _⟩, HRG, HE7, HT6⟩
 case round =>
  clear HRG HE7 HT6
  obtain ⟨left, cnt, HCN, HRG, HE, HT⟩ := hrel
  go_wp2_with (first
   | (at_next; refine wpList_next_ranges_ii _ rfl _ rfl 3 3 .i64 .i64 keyI Tryz.underlying3 Tryz.underlying3 bm ri n _ _ _ rfl HRG.out ?_ ?_))
  ·intro _ hl0
   have HE2 := Aside0.mk (show EM w wr gr go gb a0_0 a0_1 l0_2.length c (laidCells l0_2 em f fun _ => true) by rw [← came_end left hl0]; exact HE.out)
   clear HE HCN HRG hl0 HT
   have y0 := (blk_cell HE2.out.out 0).trans rfl
   have y1 := (blk_cell HE2.out.out 1).trans rfl
   have y2 := (blk_cell HE2.out.out 2).trans rfl
   have r0 := (blk_cell HE2.out.res 0).trans rfl
   have r1 := (blk_cell HE2.out.res 1).trans rfl
   have r2 := (blk_cell HE2.out.res 2).trans rfl
   have g0 := blk_frozen HE2.out.res 0
   have g1 := blk_frozen HE2.out.res 1
   have g2 := blk_frozen HE2.out.res 2
   go_wp2_with fail
   refine bodyPost_ret (results_cell_row rfl _ _ gr 75 #[.int .i64 a0_0, .int .i64 a0_1, .slice (some ⟨gb, 0, none⟩) l0_2.length c] (0, 0) _ rfl (by refine blk_put (cs := #[.int .i64 a0_0, .int .i64 a0_1, .slice none 0 0]) ?_ 2 _ rfl; refine blk_put (cs := #[.int .i64 a0_0, .int .i64 0, .slice none 0 0]) ?_ 1 _ rfl; refine blk_put (cs := #[.int .i64 0, .int .i64 0, .slice none 0 0]) ?_ 0 _ rfl; exact HE2.out.res) Tryz.underlying75 rfl (by kernel_rfl)) rfl ?_
   exact ⟨_, rfl, Kd.R_mono (Kd.R_far (p := ⟨gr, 2, none⟩) (Kd.R_far (p := ⟨gr, 1, none⟩) (Kd.R_far (p := ⟨gr, 0, none⟩) (Kd.R_types HE2.out.row HE2.out.res (by decide)) (fun _ hk => hk.2) (.int .i64 a0_0)) (fun _ hk => hk.2) (.int .i64 a0_1)) (fun _ hk => hk.2) (.slice (some ⟨gb, 0, none⟩) l0_2.length c)) (fun _ _ => trivial), below_set (below_set (below_set HE2.out.below HE2.out.gr0) HE2.out.gr0) HE2.out.gr0⟩
  ·intro x cx w7 cnt1 hwx hwc hlx hat hrg1 hlt hg1 hs1 hen1
   have hfx := HH.out.some hat
   obtain ⟨x0, x1, cx0, cx1⟩ := HF.out.dom x cx hfx
   have HE7 := Aside0.mk (HE.out.turn hg1 HRB.out (ranges_nc HRG.out))
   have HT7 := Aside0.mk (blk_turn HT.out hg1 (ranges_nc HRG.out))
   have HRG7 := Aside0.mk hrg1
   have HCN7 := Aside0.mk (show cnt1 < gk by have := HCN.out; omega)
   have hst := laid_step l0_2 em f (cameL left) HF.out x cx hfx
   rw [← came_step left x] at hst
   have HST := Aside0.mk (show laidCells l0_2 em f (cameL fun z => left z && !z.sameKey (.int .i64 x)) = (laidCells l0_2 em f (cameL left)).set cx.toNat (rd l0_2 x) from hst)
   have HTB := Aside0.mk (show gt ≠ gb from fun e => Kd.R_ne HE7.out.row HT7.out (by decide) (by rw [e]; rfl))
   clear hst hfx hat hrg1 hlt hg1 hs1 HE HT HRG HCN hlx hwx hwc
   have y0 := (blk_cell HE7.out.out 0).trans rfl
   have y1 := (blk_cell HE7.out.out 1).trans rfl
   have y2 := (blk_cell HE7.out.out 2).trans rfl
   have z0 := (blk_cell HT7.out 0).trans rfl
   have z1 := (blk_cell HT7.out 1).trans rfl
   have z2 := (blk_cell HT7.out 2).trans rfl
   have p1 : (0 ≤ x) = True := eq_true x0
   have p2 : (x < (l0_2.length : Int)) = True := eq_true x1
   have p3 : (0 ≤ cx) = True := eq_true cx0
   have p4 : (cx < (l0_2.length : Int)) = True := eq_true cx1
   obtain ⟨ad7, ead7, hx7⟩ := Kd.at_int (Kd.C_below HR.out HE7.out.below) x x0 x1
   cases ead7
   obtain ⟨_, fz⟩ := Kd.R_celln 0 HE7.out.row cx cx0 (by have e := HLL.out (cameL left); omega)
   go_wp2
   go_region
   go_wp2
   go_roundg cnt1
   case measure => exact HCN7.out
   case rel =>
    refine ⟨_, cnt1, ⟨Nat.le_refl _⟩, ⟨ranges_drew (ranges_set HRG7.out (R_nc HE7.out.row (ranges_mnc HRG7.out)) (R_nc HE7.out.row (ranges_nc HRG7.out)) _ _)⟩, ?_, ⟨blk_far HT7.out HTB.out _⟩⟩
    rw [HST.out]
    exact ⟨(HE7.out.set cx (rd l0_2 x)).step (Below.drew (Below.refl _ _))⟩
end Go.Proofs.YtchkmhbngbgjnaaGreatDoor.Q
end
section
namespace Go.Proofs.YtchkmhbngbgjnaaGreatDoor.Q
set_option linter.unusedSectionVars false
open Go.RowKit Go.Proofs.YtchkmhbngbgjnaaGreatDoorW.PrintWords Go.Proofs.YtchkmhbngbgjnaaGreatDoorW.PrintLast Go.Proofs.YtchkmhbngbgjnaaGreatDoorW.PrintMore
def asF : List (Int × Int) → Int → Option Int
 | [] => fun _ => none
 | (k, v) :: l => upd (asF l) k v
def fitsB (m : List (Int × Int)) (n : Nat) : Bool := m.all (fun p => decide (0 ≤ p.1) && decide (p.1 < (n : Int)) && decide (0 ≤ p.2) && decide (p.2 < (n : Int))) && m.all (fun p => m.all fun q => !decide (p.2 = q.2) || decide (p.1 = q.1))
theorem asF_mem : ∀ (m : List (Int × Int)) (x c : Int), asF m x = some c → (x, c) ∈ m
 | [], x, c, h => by cases h
 | (k, v) :: m, x, c, h => by
  unfold asF upd at h
  by_cases e : x = k
  ·rw [if_pos e] at h
   rw [e, ← Option.some.inj h]
   exact List.mem_cons_self
  ·rw [if_neg e] at h
   exact List.mem_cons_of_mem _ (asF_mem m x c h)
theorem wpList_put {P : Program} {ops : Array Oper} {rest : List Oper} {o : Oper} {a : Act} {Q : Exit → Act → World → Prop} (hP : P = Tryz.prog) (w : World) (hg : o.guard = none) (m x v : Operand) (t : TypeId) (hop : o.op = .mapUpdate t m x v) (ht : Tryz.prog.underlying t = some (.map 3 3))
  (b n : Nat) (f : Int → Option Int) (h : MP w b n f) (hn : n < 1000000) (kx c : Int) (hm : a.eval m = .map (some b)) (hx : a.eval x = .int .i64 kx) (hv : a.eval v = .int .i64 c) (hb : 0 ≤ kx ∧ kx ≤ 1000000 ∧ 0 ≤ c ∧ c ≤ 1000000)
  (hK : ∀ w', MP w' b (n + 1) (upd f kx c) → w.grownBy w' (some b) → wpList P ops Q rest (a.put o.dst undef) w') : wpList P ops Q (o :: rest) a w := by
 subst hP
 obtain ⟨D, hown, hh⟩ := h
 exact wpList_mapUpdate_own w hg m x v t hop 3 3 keyI ht PE b n D hm hown (by unfold maxLen; omega) _ _ (lk kx) hx hv (Maps.keyOf_int_mk Tryz.underlying3 (lk_wf hb.1 hb.2.1)) (.lit (lk c)) [] (pe_int (lk_wf hb.2.2.1 hb.2.2.2)) fun w' h1 h2 => hK w' ⟨_, h1, hh.put kx c⟩ h2
section
variable {α : Type} {d : Kd α} {e base b n : Nat} {ok : Nat → Prop} {w w1 : World} {v : Value} {xs : List α} {f : Int → Option Int}
theorem S_turn (h : Kd.S d e w base ok v xs) {r : Nat} (hg : w.grownBy w1 (some r)) (hn : NC w r) : Kd.S d e w1 base ok v xs := by
 obtain ⟨g, h⟩ := h
 exact ⟨g, R_turn h hg hn⟩
theorem S_blw (h : Kd.S d e w base ok v xs) (hb : Below w.heap.size w w1) : Kd.S d e w1 base ok v xs := by
 obtain ⟨g, h⟩ := h
 exact ⟨g, Kd.R_below h hb⟩
end
end Go.Proofs.YtchkmhbngbgjnaaGreatDoor.Q
end
section
namespace Go.Proofs.YtchkmhbngbgjnaaGreatDoor.Q
set_option linter.unusedSectionVars false
open Go.RowKit Go.Proofs.YtchkmhbngbgjnaaGreatDoorW.PrintWords Go.Proofs.YtchkmhbngbgjnaaGreatDoorW.PrintLast Go.Proofs.YtchkmhbngbgjnaaGreatDoorW.PrintMore
def slC (cs own : List Int) : List Int → Nat → List (Int × Int) → Option (List (Int × Int))
 | [], _, m => some m
 | x :: l, nx, m => if 0 ≤ x ∧ x < (cs.length : Int) ∧ x ≤ 1000000 then (impl_isBall.f (rd cs x)).bind fun b => if b = true then (if nx < own.length ∧ 0 ≤ own.getD nx 0 ∧ own.getD nx 0 ≤ 1000000 ∧ m.length < 1000000 then slC cs own l (nx + 1) ((x, own.getD nx 0) :: m) else none) else slC cs own l nx m else none
def slP (cs : List Int) : List (List Int) → List (Int × Int) → Option (List (Int × Int))
 | [], m => some m
 | p :: P, m => if p.length ≤ 1000 then (slC cs p p 0 m).bind fun m => slP cs P m else none
def impl_tray_slide.f (k : Nat) (w h : Int) (cs : List Int) (dir : Int) : Option (List (Int × Int)) :=
 (impl_tray_stretches.f k w h cs dir).bind fun P => if P.length ≤ 1000 then slP cs P [] else none
theorem fits_tilt {m : List (Int × Int)} {n : Nat} (h : fitsB m n = true) : Fits (asF m) n := by
 unfold fitsB at h
 rw [Bool.and_eq_true, List.all_eq_true, List.all_eq_true] at h
 refine ⟨fun x c hx => ?_, fun x y c hx hy => ?_⟩
 ·have h1 := h.1 _ (asF_mem m x c hx)
  simp only [Bool.and_eq_true, decide_eq_true_eq] at h1
  omega
 ·have h1 := List.all_eq_true.1 (h.2 _ (asF_mem m x c hx)) _ (asF_mem m y c hy)
  simpa using h1
theorem drop_at {α : Type} (L : List α) (d : α) (i : Nat) (h : i < L.length) : L.drop i = L.getD i d :: L.drop (i + 1) := by
 rw [List.drop_eq_getElem_cons h, List.getD_eq_getElem?_getD, List.getElem?_eq_getElem h]
 rfl
theorem wrap64_nat (n : Nat) (h : n < 1000000) : wrap64 ((n : Int) + 1) = ((n + 1 : Nat) : Int) := by unfold wrap64; omega
set_option maxHeartbeats 16000000 in
set_option maxRecDepth 100000 in
theorem impl_tray_slide.calls (k : Nat) (a0_0 a0_1 : Int) (A0_2 : Option Addr) (c0_2 : Nat) (l0_2 : List Int) (a1 : Int) (r : List (Int × Int)) (w : World) (hr0_2 : Kd.C (Kd.int .u8) w A0_2 l0_2.length l0_2) (hc0_2 : l0_2.length ≤ c0_2) (h : impl_tray_slide.f k a0_0 a0_1 l0_2 a1 = some r) :
  Calls Tryz.prog 70 #[.agg #[.int .i64 a0_0, .int .i64 a0_1, .slice A0_2 l0_2.length c0_2], .int .u8 a1] w fun e w' => ∃ bm : Nat, e = .returned (.map (some bm)) ∧ w.heap.size ≤ bm ∧ MP w' bm r.length (asF r) ∧ Below w.heap.size w w' := by
 unfold impl_tray_slide.f at h
 obtain ⟨P, hP, h⟩ := Option.bind_eq_some_iff.1 h
 split at h
 case isFalse => cases h
 rename_i hlen
 have HR := Aside0.mk hr0_2
 have HC := Aside0.mk hc0_2
 have HP := Aside0.mk hP
 have HSL := Aside0.mk h
 have HLEN := Aside0.mk hlen
 have hu := Tryz.underlying75
 clear hr0_2 hc0_2 hP h hlen
 go_enter Tryz.func70, Tryz.ntmps70
 go_wp2_with (first
  | ((with_reducible refine gate_dst (N := 2) rfl ?_); refine box_event ?hg (N := 2) ?hd (cs := #[.int .i64 a0_0, .int .i64 a0_1, .slice A0_2 l0_2.length c0_2]) (t := 75) ?hr ?_; (case hd => rfl); (case hg => rfl); (case hr => first | (go_simp; done) | (go_simp; rfl)); intro gt hg w1 hbox hb; (have HB2 := Aside0.mk (below_alloc hb (.map #[] 0))); (have HBM := Aside0.mk hb.size); (have HT := Aside0.mk (blk_alloc hbox (.map #[] 0))); (have HM := Aside0.mk (MP.made w1)); (have hmm := run_makeMap (P := Tryz.prog) 91 w1); (have z0 := (blk_cell HT.out 0).trans rfl); (have z1 := (blk_cell HT.out 1).trans rfl); (have z2 := (blk_cell HT.out 2).trans rfl); clear hbox hb hg)
  | (go_at_call 94; refine (impl_tray_stretches.calls k a0_0 a0_1 A0_2 c0_2 l0_2 a1 P _ (Kd.C_below HR.out HB2.out) HC.out HP.out).mono ?_))
 rintro e w3 ⟨v0, rfl, hS, hb3⟩
 have HB3 := Aside0.mk (below_then HB2.out HB2.out.size hb3)
 have HM3 := Aside0.mk (HM.out.below hb3)
 have HT3 := Aside0.mk ((hb3.block gt (blk_lt HT.out)).trans HT.out)
 have HO3 := Aside0.mk (Kd.S_lower hS HB2.out.size)
 clear z0 z1 z2 hS hb3 HM HT HB2 hmm
 generalize w1.heap.size = bm at HM3 HBM ⊢
 obtain ⟨As, cs, es⟩ := Kd.S_slice HO3.out
 subst es
 go_wp2_with fail
 go_loopg [16] P.length (fun gg v16 wr => ∃ (i : Nat) (m1 : List (Int × Int)), v16 = .int .i64 i ∧ Aside0 (i ≤ P.length ∧ P.length - i ≤ gg ∧ slP l0_2 (P.drop i) m1 = some r) ∧ Aside0 (MP wr bm m1.length (asF m1)) ∧ Aside0 (Kd.S (Kd.slice 3 (Kd.int .i64)) 22 wr w.heap.size (fun _ => True) (.slice As P.length cs) P) ∧ Aside0 (wr.heap[gt]? = some (.cells #[.int .i64 a0_0, .int .i64 a0_1, .slice A0_2 l0_2.length c0_2] 75 (0, 0))) ∧ Aside0 (Below w.heap.size w wr))
 case atStart => exact ⟨0, [], rfl, ⟨Nat.zero_le _, Nat.le_refl _, by rw [List.drop_zero]; exact HSL.out⟩, HM3, HO3, HT3, HB3⟩
 case round =>
  clear HM3 HO3 HT3 HB3 HSL
  obtain ⟨i, m1, rfl, HA, HM, HO, HT, HB⟩ := hrel
  by_cases hli : i < P.length
  ·have c2 : decide ((i : Int) < (P.length : Int)) = true := decide_eq_true (by omega)
   have p1 : (0 ≤ (i : Int)) = True := eq_true (by omega)
   have p2 : ((i : Int) < (P.length : Int)) = True := eq_true (by omega)
   have hsp := HA.out.2.2
   rw [drop_at P [] i hli] at hsp
   obtain ⟨hpl, hsp⟩ : (P.getD i []).length ≤ 1000 ∧ ((slC l0_2 (P.getD i []) (P.getD i []) 0 m1).bind fun m => slP l0_2 (P.drop (i + 1)) m) = some r := by
    unfold slP at hsp
    split at hsp
    ·rename_i hc
     exact ⟨hc, hsp⟩
    ·cases hsp
   obtain ⟨m2, hsc, hsp⟩ := Option.bind_eq_some_iff.1 hsp
   have HSP := Aside0.mk hsp
   obtain ⟨ad5, A5, c5, e5, hx5, hl5, hi5⟩ := at_S (Kd.S_reads' HO.out).2.2 (i : Int) (by omega) (by omega)
   cases e5
   obtain ⟨ce5, hce5, hMe5, hcc5⟩ := Kd.S_get HO.out [] (i : Int) (by omega) (by omega)
   obtain ⟨ve5, rfl, ge5⟩ := hMe5
   have hv5 := hcc5 0 _ rfl
   rw [Nat.add_zero, show ((Kd.slice 3 (Kd.int .i64))).sz = 1 from rfl, Nat.mul_one] at hv5
   replace hv5 := Option.some.inj (hv5.symm.trans hx5)
   rw [hv5] at ge5
   have hrd : rdS P (i : Int) = P.getD i [] := by unfold rdS; rw [Int.toNat_natCast]
   have HL5 := Aside0.mk (show Kd.R (Kd.int .i64) 3 wr w.heap.size (fun _ => True) (.slice A5 (rdS P (i : Int)).length c5) (rdS P (i : Int)) from Kd.R_mono ge5 (fun _ _ => trivial))
   rw [hrd] at HL5 hx5 hl5
   rw [Int.toNat_natCast] at hx5
   clear hv5 hcc5 hce5 hi5 ge5 hrd hsp
   generalize P.getD i [] = pc at hpl hsc HL5 hx5 hl5
   have HPC := Aside0.mk hpl
   have HSC := Aside0.mk hsc
   have HCP := Aside0.mk hl5
   have HGK2 := Aside0.mk (show P.length - i ≤ gk ∧ i < P.length from ⟨HA.out.2.1, hli⟩)
   clear hsc hpl HA hli hl5
   go_wp2_with fail
   go_loopg [8, 22] pc.length (fun gg v8 v22 wr => ∃ (u nx : Nat) (m3 : List (Int × Int)), v8 = .int .i64 nx ∧ v22 = .int .i64 u ∧ Aside0 (u ≤ pc.length ∧ pc.length - u ≤ gg ∧ nx ≤ u ∧ slC l0_2 pc (pc.drop u) nx m3 = some m2) ∧ Aside0 (MP wr bm m3.length (asF m3)) ∧ Aside0 (Kd.S (Kd.slice 3 (Kd.int .i64)) 22 wr w.heap.size (fun _ => True) (.slice (some ad5) P.length cs) P) ∧ Aside0 (Kd.R (Kd.int .i64) 3 wr w.heap.size (fun _ => True) (.slice A5 pc.length c5) pc) ∧ Aside0 (wr.heap[gt]? = some (.cells #[.int .i64 a0_0, .int .i64 a0_1, .slice A0_2 l0_2.length c0_2] 75 (0, 0))) ∧ Aside0 (Below w.heap.size w wr))
   case atStart => exact ⟨0, 0, m1, rfl, rfl, ⟨Nat.zero_le _, by omega, Nat.le_refl _, by rw [List.drop_zero]; exact HSC.out⟩, HM, HO, HL5, HT, HB⟩
   case round =>
    clear HSC HM HO HL5 HT HB hx5 c2 p1 p2
    obtain ⟨u, nx, m3, rfl, rfl, HA3, HMX, HOX, HLX, HTX, HBX⟩ := hrel
    by_cases hlu : u < pc.length
    ·have c3 : decide ((u : Int) < (pc.length : Int)) = true := decide_eq_true (by omega)
     have p3 : (0 ≤ (u : Int)) = True := eq_true (by omega)
     have p4 : ((u : Int) < (pc.length : Int)) = True := eq_true (by omega)
     have hbq := HA3.out.2.2.2
     rw [drop_at pc 0 u hlu] at hbq
     obtain ⟨ad3, e3, hx3⟩ := Kd.at_int (Kd.R_reads' HLX.out).2.2 (u : Int) (by omega) (by omega)
     cases e3
     rw [Int.toNat_natCast] at hx3
     rw [show rd pc (u : Int) = pc.getD u 0 from by unfold rd; rw [Int.toNat_natCast]] at hx3
     generalize pc.getD u 0 = x at hx3 hbq
     unfold slC at hbq
     split at hbq
     case isFalse => cases hbq
     rename_i hxr
     obtain ⟨b, hb1, hbq⟩ := Option.bind_eq_some_iff.1 hbq
     have p5 : (0 ≤ x) = True := eq_true hxr.1
     have p6 : (x < (l0_2.length : Int)) = True := eq_true hxr.2.1
     obtain ⟨ad7, e7, hx7⟩ := Kd.at_int (Kd.C_below HR.out HBX.out) x hxr.1 hxr.2.1
     cases e7
     have HXR := Aside0.mk hxr
     have HIB := Aside0.mk hb1
     have HNXT := Aside0.mk hbq
     have HGK3 := Aside0.mk (show pc.length - u ≤ gk ∧ u < pc.length ∧ nx ≤ u from ⟨HA3.out.2.1, hlu, HA3.out.2.2.1⟩)
     have z0 := (blk_cell HTX.out 0).trans rfl
     have z1 := (blk_cell HTX.out 1).trans rfl
     have z2 := (blk_cell HTX.out 2).trans rfl
     clear hbq hb1 hxr HA3 hlu
     go_wp2_with fail
     refine (impl_isBall.calls (rd l0_2 x) b _ HIB.out).mono ?_
     rintro e w6 ⟨rfl, hd⟩
     have hb9 := hd.below
     have HM6 := Aside0.mk (HMX.out.below hb9)
     have HO6 := Aside0.mk (S_blw HOX.out hb9)
     have HL6 := Aside0.mk (Kd.R_below HLX.out hb9)
     have HT6 := Aside0.mk ((hb9.block gt (blk_lt HTX.out)).trans HTX.out)
     have HB6 := Aside0.mk (below_then HBX.out HBX.out.size hb9)
     clear hd hb9 hx3 hx7 z0 z1 z2 HMX HOX HLX HTX HBX HIB p3 p4 p5 p6 c3
     cases b with
     | true =>
      have hnx := HNXT.out
      rw [if_pos rfl] at hnx
      split at hnx
      case isFalse => cases hnx
      rename_i hcn
      have HCN := Aside0.mk hcn
      have HN2 := Aside0.mk hnx
      obtain ⟨ad8, e8, hx8⟩ := Kd.at_int (Kd.R_reads' HL6.out).2.2 (nx : Int) (by omega) (by omega)
      cases e8
      rw [Int.toNat_natCast] at hx8
      rw [show rd pc (nx : Int) = pc.getD nx 0 from by unfold rd; rw [Int.toNat_natCast]] at hx8
      have p3 : (0 ≤ (nx : Int)) = True := eq_true (by omega)
      have p4 : ((nx : Int) < (pc.length : Int)) = True := eq_true (by omega)
      clear hcn hnx HNXT
      go_wp2_with (first
       | (at_mapUpdate; refine wpList_put rfl _ rfl _ _ _ 91 rfl Tryz.underlying91 bm m3.length (asF m3) HM6.out HCN.out.2.2.2 x (pc.getD nx 0) rfl rfl rfl ⟨HXR.out.1, HXR.out.2.2, HCN.out.2.1, HCN.out.2.2.1⟩ ?_; intro w8 hm8 hg8; (have HM8 := Aside0.mk hm8); (have HL8 := Aside0.mk (R_turn HL6.out hg8 HM6.out.nc)); (have HO8 := Aside0.mk (S_turn HO6.out hg8 HM6.out.nc)); (have HT8 := Aside0.mk (blk_turn HT6.out hg8 HM6.out.nc)); (have HB8 := Aside0.mk (HB6.out.grown hg8 HB6.out.size (fun k e => by cases e; exact HBM.out))); clear hm8 hg8 HM6 HL6 HO6 HT6 HB6 hx8))
      go_roundg (pc.length - (u + 1))
      case measure => have := HGK3.out; omega
      case rel => exact ⟨u + 1, nx + 1, (x, pc.getD nx 0) :: m3, by first | rfl | rw [wrap64_nat nx (by have := HGK3.out; have := HPC.out; omega)] | simp, by first | rfl | rw [wrap64_nat u (by have := HGK3.out; have := HPC.out; omega)] | simp, ⟨by have := HGK3.out; omega, Nat.le_refl _, by have := HGK3.out; omega, HN2.out⟩, HM8, HO8, HL8, HT8, HB8⟩
     | false =>
      have hnx := HNXT.out
      rw [if_neg (by decide)] at hnx
      have HN2 := Aside0.mk hnx
      clear hnx HNXT
      go_wp2
      go_roundg (pc.length - (u + 1))
      case measure => have := HGK3.out; omega
      case rel => exact ⟨u + 1, nx, m3, rfl, by first | rfl | rw [wrap64_nat u (by have := HGK3.out; have := HPC.out; omega)] | simp, ⟨by have := HGK3.out; omega, Nat.le_refl _, by have := HGK3.out; omega, HN2.out⟩, HM6, HO6, HL6, HT6, HB6⟩
    ·obtain rfl : u = pc.length := by have := HA3.out.1; omega
     have c3 : decide ((pc.length : Int) < (pc.length : Int)) = false := decide_eq_false (by omega)
     have he := HA3.out.2.2.2
     rw [List.drop_length] at he
     obtain rfl : m3 = m2 := Option.some.inj he
     clear he HA3 hlu
     go_wp2
     go_roundg (P.length - (i + 1))
     case measure => have := HGK2.out; omega
     case rel => exact ⟨i + 1, m3, by first | rfl | rw [wrap64_nat i (by have := HGK2.out; have := HLEN.out; omega)] | simp, ⟨by have := HGK2.out; omega, Nat.le_refl _, HSP.out⟩, HMX, HOX, HTX, HBX⟩
  ·obtain rfl : i = P.length := by have := HA.out.1; omega
   have c2 : decide ((P.length : Int) < (P.length : Int)) = false := decide_eq_false (by omega)
   have he := HA.out.2.2
   rw [List.drop_length] at he
   obtain rfl : m1 = r := Option.some.inj he
   clear he HA hli
   go_wp2
   go_ret
   exact ⟨bm, rfl, HBM.out, HM.out, HB.out⟩
end Go.Proofs.YtchkmhbngbgjnaaGreatDoor.Q
end
section
namespace Go.Proofs.YtchkmhbngbgjnaaGreatDoor.Q
set_option linter.unusedSectionVars false
open Go.RowKit Go.Proofs.YtchkmhbngbgjnaaGreatDoorW.PrintWords Go.Proofs.YtchkmhbngbgjnaaGreatDoorW.PrintLast Go.Proofs.YtchkmhbngbgjnaaGreatDoorW.PrintMore
def impl_tray_tilted.f (k : Nat) (w h : Int) (cs : List Int) (dir : Int) : Option (Int × Int × List Int) :=
 (impl_tray_slide.f k w h cs dir).bind fun m => if (0 < cs.length ∧ cs.length ≤ 1000) ∧ fitsB m cs.length = true then some (w, h, laidCells cs (emptyC cs) (asF m) (fun _ => true)) else none
set_option maxHeartbeats 16000000 in
set_option maxRecDepth 100000 in
theorem impl_tray_tilted.calls (k : Nat) (a0_0 a0_1 : Int) (A0_2 : Option Addr) (c0_2 : Nat) (l0_2 : List Int) (a1 : Int) (r1 r2 : Int) (r3 : List Int) (w : World) (hr0_2 : Kd.C (Kd.int .u8) w A0_2 l0_2.length l0_2) (hc0_2 : l0_2.length ≤ c0_2) (h : impl_tray_tilted.f k a0_0 a0_1 l0_2 a1 = some (r1, r2, r3)) :
  Calls Tryz.prog 51 #[.agg #[.int .i64 a0_0, .int .i64 a0_1, .slice A0_2 l0_2.length c0_2], .int .u8 a1] w fun e w' => ∃ v2_ : Value, e = .returned (.agg #[.int .i64 r1, .int .i64 r2, v2_]) ∧ Kd.R (Kd.int .u8) 5 w' w.heap.size (fun _ => True) v2_ r3 ∧ Below w.heap.size w w' := by
 unfold impl_tray_tilted.f at h
 obtain ⟨m, hm, h⟩ := Option.bind_eq_some_iff.1 h
 split at h
 case isFalse => cases h
 rename_i hcond
 simp only [Option.some.injEq, Prod.mk.injEq] at h
 obtain ⟨rfl, rfl, rfl⟩ := h
 have HR := Aside0.mk hr0_2
 have HC := Aside0.mk hc0_2
 have HP := Aside0.mk hm
 have HCD := Aside0.mk hcond
 have hu := Tryz.underlying75
 clear hr0_2 hc0_2 hm hcond
 go_enter Tryz.func51, Tryz.ntmps51
 go_wp2_with (first
  | ((with_reducible refine gate_dst (N := 2) rfl ?_); refine box_event ?hg (N := 2) ?hd (cs := #[.int .i64 a0_0, .int .i64 a0_1, .slice A0_2 l0_2.length c0_2]) (t := 75) ?hr ?_; (case hd => rfl); (case hg => rfl); (case hr => first | (go_simp; done) | (go_simp; rfl)); intro gt hg w1 hbox hb; (have HB1 := Aside0.mk hb); (have HT := Aside0.mk hbox); clear hbox hb hg)
  | ((with_reducible refine gate_dst (N := 4) rfl ?_); refine box_event ?hg (N := 4) ?hd (cs := #[.int .i64 0, .int .i64 0, .slice none 0 0]) (t := 75) ?hr ?_; (case hd => rfl); (case hg => rfl); (case hr => first | (go_simp; done) | (go_simp; rfl)); intro gr hg w2 hbox hb; (have HG2 := Aside0.mk (show w.heap.size ≤ gr by rw [hg]; exact HB1.out.size)); (have HB2 := Aside0.mk (below_drew1 (below_then HB1.out HB1.out.size hb))); (have HT2 := Aside0.mk (blk_drew ((hb.block gt (blk_lt HT.out)).trans HT.out))); (have HRS := Aside0.mk (blk_drew hbox)); (have z0 := (blk_cell HT2.out 0).trans rfl); (have z1 := (blk_cell HT2.out 1).trans rfl); (have z2 := (blk_cell HT2.out 2).trans rfl); clear hbox hb hg HT HB1))
 go_region_with (first
  | (refine (impl_tray_slide.calls k a0_0 a0_1 A0_2 c0_2 l0_2 a1 m _ (Kd.C_below HR.out HB2.out) HC.out HP.out).mono ?_; rintro e w3 ⟨bm, rfl, hbm, hM, hb3⟩; (have HB3 := Aside0.mk (below_then HB2.out HB2.out.size hb3)); (have HM3 := Aside0.mk hM); (have HT3 := Aside0.mk ((hb3.block gt (blk_lt HT2.out)).trans HT2.out)); (have HRS3 := Aside0.mk ((hb3.block gr (blk_lt HRS.out)).trans HRS.out)); (have y0 := (blk_cell HT3.out 0).trans rfl); (have y1 := (blk_cell HT3.out 1).trans rfl); (have y2 := (blk_cell HT3.out 2).trans rfl); clear hM hb3)
  | (refine (carried_calls a0_0 a0_1 A0_2 c0_2 l0_2 bm m.length (asF m) _ (Kd.C_below HR.out HB3.out) HC.out HCD.out.1 HM3.out (fits_tilt HCD.out.2)).mono ?_; rintro e w9 ⟨v2, rfl, hr, hb9⟩; (have HR9 := Aside0.mk (Kd.R_lower hr HB3.out.size)); (have HG9 := Aside0.mk ((hb9.block gr (blk_lt HRS3.out)).trans HRS3.out)); (have HB9 := Aside0.mk (below_then HB3.out HB3.out.size hb9)); (obtain ⟨Ar, cr, rfl⟩ := Kd.R_slice HR9.out); (have g0 := blk_frozen HG9.out 0); (have g1 := blk_frozen HG9.out 1); (have g2 := blk_frozen HG9.out 2); (have r0 := (blk_cell HG9.out 0).trans rfl); (have r1 := (blk_cell HG9.out 1).trans rfl); (have r2 := (blk_cell HG9.out 2).trans rfl); clear hr hb9))
 all_goals go_wp2
 all_goals
  refine bodyPost_ret (results_cell_row rfl _ _ gr 75 #[.int .i64 a0_0, .int .i64 a0_1, .slice Ar (laidCells l0_2 (emptyC l0_2) (asF m) fun _ => true).length cr] (0, 0) _ rfl (by refine blk_put (cs := #[.int .i64 a0_0, .int .i64 a0_1, .slice none 0 0]) ?_ 2 _ rfl; refine blk_put (cs := #[.int .i64 a0_0, .int .i64 0, .slice none 0 0]) ?_ 1 _ rfl; refine blk_put (cs := #[.int .i64 0, .int .i64 0, .slice none 0 0]) ?_ 0 _ rfl; exact HG9.out) Tryz.underlying75 rfl (by kernel_rfl)) rfl ?_
  exact ⟨_, rfl, Kd.R_mono (Kd.R_far (p := ⟨gr, 2, none⟩) (Kd.R_far (p := ⟨gr, 1, none⟩) (Kd.R_far (p := ⟨gr, 0, none⟩) (Kd.R_types HR9.out HG9.out (by decide)) (fun _ hk => hk.2) (.int .i64 a0_0)) (fun _ hk => hk.2) (.int .i64 a0_1)) (fun _ hk => hk.2) (.slice Ar (laidCells l0_2 (emptyC l0_2) (asF m) fun _ => true).length cr)) (fun _ _ => trivial), below_set (below_set (below_set HB9.out HG2.out) HG2.out) HG2.out⟩
end Go.Proofs.YtchkmhbngbgjnaaGreatDoor.Q
end
section
namespace Go.Proofs.YtchkmhbngbgjnaaGreatDoor.Q
open Go.RowKit Go.Proofs.YtchkmhbngbgjnaaGreatDoorW.PrintWords Go.Proofs.YtchkmhbngbgjnaaGreatDoorW.PrintLast Go.Proofs.YtchkmhbngbgjnaaGreatDoorW.PrintMore
attribute [local go_sem] max2_int min2_int max_two min_two max_three min_three max_four min_four
set_option linter.unusedVariables false
set_option linter.unusedSimpArgs false
def spec_tyText.l0 : Nat → ByteArray → Int → Int → Int → List Int → Option (ByteArray)
 | 0, _, _, _, _, _ => none
 | k + 1, x3, x4, x102000, x102001, x102002 => if x4 < x102001 then (if x4 > 0 then (if x3.size + 1 ≤ 9223372036854775807 then (if 0 ≤ (wrap64 (x4 * x102000)) then (if (wrap64 (x4 * x102000)) ≤ (wrap64 ((wrap64 (x4 + 1)) * x102000)) then (if (wrap64 ((wrap64 (x4 + 1)) * x102000)) ≤ (x102002.length : Int) then (if (x3 ++ (⟨#[47]⟩ : ByteArray)).size + (strOfNums ((x102002.take ((wrap64 ((wrap64 (x4 + 1)) * x102000)) : Int).toNat).drop ((wrap64 (x4 * x102000)) : Int).toNat)).size ≤ 9223372036854775807 then (spec_tyText.l0 k ((x3 ++ (⟨#[47]⟩ : ByteArray)) ++ (strOfNums ((x102002.take ((wrap64 ((wrap64 (x4 + 1)) * x102000)) : Int).toNat).drop ((wrap64 (x4 * x102000)) : Int).toNat))) (wrap64 (x4 + 1)) x102000 x102001 x102002) else (none)) else (none)) else (none)) else (none)) else (none)) else (if 0 ≤ (wrap64 (x4 * x102000)) then (if (wrap64 (x4 * x102000)) ≤ (wrap64 ((wrap64 (x4 + 1)) * x102000)) then (if (wrap64 ((wrap64 (x4 + 1)) * x102000)) ≤ (x102002.length : Int) then (if x3.size + (strOfNums ((x102002.take ((wrap64 ((wrap64 (x4 + 1)) * x102000)) : Int).toNat).drop ((wrap64 (x4 * x102000)) : Int).toNat)).size ≤ 9223372036854775807 then (spec_tyText.l0 k (x3 ++ (strOfNums ((x102002.take ((wrap64 ((wrap64 (x4 + 1)) * x102000)) : Int).toNat).drop ((wrap64 (x4 * x102000)) : Int).toNat))) (wrap64 (x4 + 1)) x102000 x102001 x102002) else (none)) else (none)) else (none)) else (none))) else (some x3)
def spec_tyText.f (k : Nat) (a0_0 : Int) (a0_1 : Int) (l0_2 : List Int) : Option (ByteArray) := spec_tyText.l0 k (⟨#[]⟩ : ByteArray) 0 a0_0 a0_1 l0_2
set_option maxHeartbeats 8000000 in
set_option maxRecDepth 100000 in
theorem spec_tyText.calls (k : Nat) (a0_0 : Int) (a0_1 : Int) (A0_2 : Option Addr) (c0_2 : Nat) (l0_2 : List Int) (r : ByteArray) (w : World) (hr0_2 : Kd.C (Kd.int .u8) w A0_2 l0_2.length l0_2) (hc0_2 : l0_2.length ≤ c0_2) (h : spec_tyText.f k a0_0 a0_1 l0_2 = some r) :
  Calls Tryz.prog 48 #[.agg #[.int .i64 a0_0, .int .i64 a0_1, .slice A0_2 l0_2.length c0_2]] w fun e w' => e = .returned (.string r) ∧ Below w.heap.size w w' := by
 have hu45 := Tryz.underlying45
 have HR0_2 := Aside0.mk hr0_2
 have HC0_2 := Aside0.mk hc0_2
 clear hr0_2 hc0_2
 have HB := Aside0.mk (Below.refl w.heap.size w)
 have H : (spec_tyText.l0 k (⟨#[]⟩ : ByteArray) 0 a0_0 a0_1 l0_2) = some r := h
 clear h
 have H' := Aside0.mk H
 clear H
 go_enter Tryz.func48, Tryz.ntmps48
 go_wp2_with (first | ((with_reducible refine gate_dst (N := 1) rfl ?_); refine boxE (N := 1) (cs := #[.int .i64 a0_0, .int .i64 a0_1, .slice A0_2 l0_2.length c0_2]) (t := 45) ?_; intro gb101 hg w2 hbox hb; have n0_ := Aside0.mk (below_step (bel HB) hb); have n1_ := Aside0.mk (hbox); have n2_ := Aside0.mk (gsz hg (bel HB)); have n3_ := Aside0.mk (gsz hg (bel HB)); clear HB; have HB := n0_; have BK101 := n1_; have GW101 := n2_; have GE101 := n3_; clear n0_ n1_ n2_ n3_; clear hb hbox hg))
 go_loopg [3, 4] k (fun kq v3 v4 w' => ∃ (x3_1 : ByteArray) (x4_1 : Int), v3 = .string x3_1 ∧ v4 = .int .i64 x4_1 ∧ Aside0 (spec_tyText.l0 kq x3_1 x4_1 a0_0 a0_1 l0_2 = some r) ∧ Aside0 (kq ≤ k) ∧ Aside0 (w'.heap[gb101]? = some (.cells #[.int .i64 a0_0, .int .i64 a0_1, (.slice A0_2 l0_2.length c0_2)] 45 (0, 0))) ∧ Aside0 (Below w.heap.size w w'))
 case atStart => exact ⟨((⟨#[]⟩ : ByteArray)), (0), (by first | rfl | (simp; done) | (simp [*]; done)), (by first | rfl | (simp; done) | (simp [*]; done)), H', ⟨Nat.le_refl _⟩, ⟨blc⟩, ⟨bel HB⟩⟩
 case round =>
  clear H'
  try clear p2
  obtain ⟨x3_1, x4_1, rfl, rfl, HA, HK1, BK101, HB⟩ := hrel
  cases gk with
  | zero => exact absurd HA.out (by simp [spec_tyText.l0])
  | succ k1 =>
   have H := HA.out
   clear HA
   simp only [spec_tyText.l0] at H
   by_cases c3 : x4_1 < a0_1
   ·rw [if_pos c3] at H
    have c3b0 : decide (x4_1 < a0_1) = true := decide_eq_true c3
    clear c3
    by_cases c4 : x4_1 > 0
    ·rw [if_pos c4] at H
     have c4b0 : decide (0 < x4_1) = true := decide_eq_true c4
     clear c4
     by_cases c5 : x3_1.size + 1 ≤ 9223372036854775807
     ·rw [if_pos c5] at H
      have c5b0 := eq_true c5
      have c5b1 : decide (x3_1.size + 1 ≤ 9223372036854775807) = true := decide_eq_true c5
      try have c5b2 : (9223372036854775807 < x3_1.size + 1) = False := eq_false (Nat.not_lt.2 c5)
      obtain ⟨ji6, hji6⟩ : ∃ j_ : Int, (wrap64 (x4_1 * a0_0)) = j_ := ⟨_, rfl⟩
      replace H : (if 0 ≤ (ji6) then (if (ji6) ≤ (wrap64 ((wrap64 (x4_1 + 1)) * a0_0)) then (if (wrap64 ((wrap64 (x4_1 + 1)) * a0_0)) ≤ (l0_2.length : Int) then (if (x3_1 ++ (⟨#[47]⟩ : ByteArray)).size + (strOfNums ((l0_2.take ((wrap64 ((wrap64 (x4_1 + 1)) * a0_0)) : Int).toNat).drop ((ji6) : Int).toNat)).size ≤ 9223372036854775807 then (spec_tyText.l0 k1 ((x3_1 ++ (⟨#[47]⟩ : ByteArray)) ++ (strOfNums ((l0_2.take ((wrap64 ((wrap64 (x4_1 + 1)) * a0_0)) : Int).toNat).drop ((ji6) : Int).toNat))) (wrap64 (x4_1 + 1)) a0_0 a0_1 l0_2) else (none)) else (none)) else (none)) else (none)) = some r := by first | (rw [hji6] at H; exact H) | (simp only [hji6] at H ⊢; exact H)
      have hji6w : (IntKind.i64.wrap (x4_1 * a0_0)) = ji6 := (i64_w _).trans hji6
      by_cases c7 : 0 ≤ (ji6)
      ·rw [if_pos c7] at H
       have c7b0 := eq_true c7
       have c7b1 : decide (0 ≤ (ji6)) = true := decide_eq_true c7
       clear c7
       by_cases c8 : (ji6) ≤ (wrap64 ((wrap64 (x4_1 + 1)) * a0_0))
       ·rw [if_pos c8] at H
        have c8b0 := eq_true c8
        have c8b1 : decide ((ji6) ≤ (wrap64 ((wrap64 (x4_1 + 1)) * a0_0))) = true := decide_eq_true c8
        by_cases c9 : (wrap64 ((wrap64 (x4_1 + 1)) * a0_0)) ≤ (l0_2.length : Int)
        ·rw [if_pos c9] at H
         have c9b0 := eq_true c9
         have c9b1 : decide ((wrap64 ((wrap64 (x4_1 + 1)) * a0_0)) ≤ (l0_2.length : Int)) = true := decide_eq_true c9
         by_cases c10 : (x3_1 ++ (⟨#[47]⟩ : ByteArray)).size + (strOfNums ((l0_2.take ((wrap64 ((wrap64 (x4_1 + 1)) * a0_0)) : Int).toNat).drop ((ji6) : Int).toNat)).size ≤ 9223372036854775807
         ·rw [if_pos c10] at H
          have c10b0 := eq_true c10
          have c10b1 : decide ((x3_1 ++ (⟨#[47]⟩ : ByteArray)).size + (strOfNums ((l0_2.take ((wrap64 ((wrap64 (x4_1 + 1)) * a0_0)) : Int).toNat).drop ((ji6) : Int).toNat)).size ≤ 9223372036854775807) = true := decide_eq_true c10
          try have c10b2 : (9223372036854775807 < (x3_1 ++ (⟨#[47]⟩ : ByteArray)).size + (strOfNums ((l0_2.take ((wrap64 ((wrap64 (x4_1 + 1)) * a0_0)) : Int).toNat).drop ((ji6) : Int).toNat)).size) = False := eq_false (Nat.not_lt.2 c10)
          try have c10b3 : (9223372036854775807 < x3_1.size + 1 + (strOfNums ((l0_2.take ((wrap64 ((wrap64 (x4_1 + 1)) * a0_0)) : Int).toNat).drop ((ji6) : Int).toNat)).size) = False := eq_false (Nat.not_lt.2 (by simp only [ByteArray.size_append] at c10; exact c10))
          have H' := Aside0.mk H
          clear H
          have hcz11_0 : wr.cell? ⟨gb101, 0, none⟩ = some (.int .i64 a0_0) := (blk_cell BK101.out 0).trans rfl
          have hcz11_1 : wr.cell? ⟨gb101, 1, none⟩ = some (.int .i64 a0_1) := (blk_cell BK101.out 1).trans rfl
          have hcz11_2 : wr.cell? ⟨gb101, 2, none⟩ = some (.slice A0_2 l0_2.length c0_2) := (blk_cell BK101.out 2).trans rfl
          have hfz11_0 := blk_frozen BK101.out 0
          have hfz11_1 := blk_frozen BK101.out 1
          have hfz11_2 := blk_frozen BK101.out 2
          obtain ⟨i012, hi012, _, hsz12, _⟩ := info_parts info5
          obtain ⟨A12, hcut12, hA12, hC12⟩ := print_mid_of (P := Tryz.prog) (Value.int .u8) 0 43 5 .i64 .i64 Tryz.underlying43 hi012 hsz12 A0_2 c0_2 l0_2 (ji6) (wrap64 ((wrap64 (x4_1 + 1)) * a0_0)) (of_decide_eq_true (by first | (with_reducible assumption) | assumption)) (by first | omega | exact of_decide_eq_true (by first | (with_reducible assumption) | assumption)) (of_decide_eq_true (by first | (with_reducible assumption) | assumption)) HC0_2.out
          have HR102 := Aside0.mk (Kd.C_of_reads (h1 := fun _ => rfl) (hA12 _ (Kd.reads_of_C HR0_2.out)))
          have HC102 := Aside0.mk hC12
          clear hA12 hC12 hi012 hsz12
          have hcv13 := Kd.C_string (P := Tryz.prog) (A := A12) (c := (c0_2 - (ji6).toNat)) Tryz.underlying43 Tryz.underlying5 Tryz.underlying9 (Kd.C_below HR102.out HB.out)
          try (rw [cut_len] at hcv13; rotate_left; exact Int.toNat_le.2 (of_decide_eq_true (by first | (with_reducible assumption) | assumption)))
          go_wp2
          go_roundg k1
          case measure => have := HK1.out; omega
          case rel => exact ⟨((x3_1 ++ (⟨#[47]⟩ : ByteArray)) ++ (strOfNums ((l0_2.take ((wrap64 ((wrap64 (x4_1 + 1)) * a0_0)) : Int).toNat).drop ((ji6) : Int).toNat))), (wrap64 (x4_1 + 1)), (by first | rfl | (simp; done) | (simp only [← hji6] <;> (first | rfl | simp)) | (simp [*]; done)), (by first | rfl | (simp; done) | (simp [*]; done)), H', ⟨by have := HK1.out; omega⟩, ⟨blc⟩, ⟨bel HB⟩⟩
         ·rw [if_neg c10] at H
          exact absurd H (by simp)
        ·rw [if_neg c9] at H
         exact absurd H (by simp)
       ·rw [if_neg c8] at H
        exact absurd H (by simp)
      ·rw [if_neg c7] at H
       exact absurd H (by simp)
     ·rw [if_neg c5] at H
      exact absurd H (by simp)
    ·rw [if_neg c4] at H
     have c4b0 : decide (0 < x4_1) = false := decide_eq_false c4
     clear c4
     obtain ⟨ji14, hji14⟩ : ∃ j_ : Int, (wrap64 (x4_1 * a0_0)) = j_ := ⟨_, rfl⟩
     replace H : (if 0 ≤ (ji14) then (if (ji14) ≤ (wrap64 ((wrap64 (x4_1 + 1)) * a0_0)) then (if (wrap64 ((wrap64 (x4_1 + 1)) * a0_0)) ≤ (l0_2.length : Int) then (if x3_1.size + (strOfNums ((l0_2.take ((wrap64 ((wrap64 (x4_1 + 1)) * a0_0)) : Int).toNat).drop ((ji14) : Int).toNat)).size ≤ 9223372036854775807 then (spec_tyText.l0 k1 (x3_1 ++ (strOfNums ((l0_2.take ((wrap64 ((wrap64 (x4_1 + 1)) * a0_0)) : Int).toNat).drop ((ji14) : Int).toNat))) (wrap64 (x4_1 + 1)) a0_0 a0_1 l0_2) else (none)) else (none)) else (none)) else (none)) = some r := by first | (rw [hji14] at H; exact H) | (simp only [hji14] at H ⊢; exact H)
     have hji14w : (IntKind.i64.wrap (x4_1 * a0_0)) = ji14 := (i64_w _).trans hji14
     by_cases c15 : 0 ≤ (ji14)
     ·rw [if_pos c15] at H
      have c15b0 := eq_true c15
      have c15b1 : decide (0 ≤ (ji14)) = true := decide_eq_true c15
      clear c15
      by_cases c16 : (ji14) ≤ (wrap64 ((wrap64 (x4_1 + 1)) * a0_0))
      ·rw [if_pos c16] at H
       have c16b0 := eq_true c16
       have c16b1 : decide ((ji14) ≤ (wrap64 ((wrap64 (x4_1 + 1)) * a0_0))) = true := decide_eq_true c16
       by_cases c17 : (wrap64 ((wrap64 (x4_1 + 1)) * a0_0)) ≤ (l0_2.length : Int)
       ·rw [if_pos c17] at H
        have c17b0 := eq_true c17
        have c17b1 : decide ((wrap64 ((wrap64 (x4_1 + 1)) * a0_0)) ≤ (l0_2.length : Int)) = true := decide_eq_true c17
        by_cases c18 : x3_1.size + (strOfNums ((l0_2.take ((wrap64 ((wrap64 (x4_1 + 1)) * a0_0)) : Int).toNat).drop ((ji14) : Int).toNat)).size ≤ 9223372036854775807
        ·rw [if_pos c18] at H
         have c18b0 := eq_true c18
         have c18b1 : decide (x3_1.size + (strOfNums ((l0_2.take ((wrap64 ((wrap64 (x4_1 + 1)) * a0_0)) : Int).toNat).drop ((ji14) : Int).toNat)).size ≤ 9223372036854775807) = true := decide_eq_true c18
         try have c18b2 : (9223372036854775807 < x3_1.size + (strOfNums ((l0_2.take ((wrap64 ((wrap64 (x4_1 + 1)) * a0_0)) : Int).toNat).drop ((ji14) : Int).toNat)).size) = False := eq_false (Nat.not_lt.2 c18)
         have H' := Aside0.mk H
         clear H
         have hcz19_0 : wr.cell? ⟨gb101, 0, none⟩ = some (.int .i64 a0_0) := (blk_cell BK101.out 0).trans rfl
         have hcz19_1 : wr.cell? ⟨gb101, 1, none⟩ = some (.int .i64 a0_1) := (blk_cell BK101.out 1).trans rfl
         have hcz19_2 : wr.cell? ⟨gb101, 2, none⟩ = some (.slice A0_2 l0_2.length c0_2) := (blk_cell BK101.out 2).trans rfl
         have hfz19_0 := blk_frozen BK101.out 0
         have hfz19_1 := blk_frozen BK101.out 1
         have hfz19_2 := blk_frozen BK101.out 2
         obtain ⟨i020, hi020, _, hsz20, _⟩ := info_parts info5
         obtain ⟨A20, hcut20, hA20, hC20⟩ := print_mid_of (P := Tryz.prog) (Value.int .u8) 0 43 5 .i64 .i64 Tryz.underlying43 hi020 hsz20 A0_2 c0_2 l0_2 (ji14) (wrap64 ((wrap64 (x4_1 + 1)) * a0_0)) (of_decide_eq_true (by first | (with_reducible assumption) | assumption)) (by first | omega | exact of_decide_eq_true (by first | (with_reducible assumption) | assumption)) (of_decide_eq_true (by first | (with_reducible assumption) | assumption)) HC0_2.out
         have HR103 := Aside0.mk (Kd.C_of_reads (h1 := fun _ => rfl) (hA20 _ (Kd.reads_of_C HR0_2.out)))
         have HC103 := Aside0.mk hC20
         clear hA20 hC20 hi020 hsz20
         have hcv21 := Kd.C_string (P := Tryz.prog) (A := A20) (c := (c0_2 - (ji14).toNat)) Tryz.underlying43 Tryz.underlying5 Tryz.underlying9 (Kd.C_below HR103.out HB.out)
         try (rw [cut_len] at hcv21; rotate_left; exact Int.toNat_le.2 (of_decide_eq_true (by first | (with_reducible assumption) | assumption)))
         go_wp2
         go_roundg k1
         case measure => have := HK1.out; omega
         case rel => exact ⟨(x3_1 ++ (strOfNums ((l0_2.take ((wrap64 ((wrap64 (x4_1 + 1)) * a0_0)) : Int).toNat).drop ((ji14) : Int).toNat))), (wrap64 (x4_1 + 1)), (by first | rfl | (simp; done) | (simp only [← hji14] <;> (first | rfl | simp)) | (simp [*]; done)), (by first | rfl | (simp; done) | (simp [*]; done)), H', ⟨by have := HK1.out; omega⟩, ⟨blc⟩, ⟨bel HB⟩⟩
        ·rw [if_neg c18] at H
         exact absurd H (by simp)
       ·rw [if_neg c17] at H
        exact absurd H (by simp)
      ·rw [if_neg c16] at H
       exact absurd H (by simp)
     ·rw [if_neg c15] at H
      exact absurd H (by simp)
   ·rw [if_neg c3] at H
    have c3b0 : decide (x4_1 < a0_1) = false := decide_eq_false c3
    clear c3
    obtain rfl := Option.some.inj H
    have hcz22_0 : wr.cell? ⟨gb101, 0, none⟩ = some (.int .i64 a0_0) := (blk_cell BK101.out 0).trans rfl
    have hcz22_1 : wr.cell? ⟨gb101, 1, none⟩ = some (.int .i64 a0_1) := (blk_cell BK101.out 1).trans rfl
    have hcz22_2 : wr.cell? ⟨gb101, 2, none⟩ = some (.slice A0_2 l0_2.length c0_2) := (blk_cell BK101.out 2).trans rfl
    have hfz22_0 := blk_frozen BK101.out 0
    have hfz22_1 := blk_frozen BK101.out 1
    have hfz22_2 := blk_frozen BK101.out 2
    go_wp2
    go_ret
    exact ⟨by first | rfl | (simp [errW_none, errW_some] <;> rfl) | (simp [*, errW_none, errW_some] <;> rfl), bel HB⟩
end Go.Proofs.YtchkmhbngbgjnaaGreatDoor.Q
end
section
namespace Go.Proofs.YtchkmhbngbgjnaaGreatDoor.Q
open Go.RowKit Go.Proofs.YtchkmhbngbgjnaaGreatDoorW.PrintWords Go.Proofs.YtchkmhbngbgjnaaGreatDoorW.PrintLast Go.Proofs.YtchkmhbngbgjnaaGreatDoorW.PrintMore
attribute [local go_sem] max2_int min2_int max_two min_two max_three min_three max_four min_four
set_option linter.unusedVariables false
set_option linter.unusedSimpArgs false
def spec_l1In.f (a0 : Int) (a1 : Int) (a2 : Int) : Option (Bool) := if a0 ≥ a1 then (some (decide (a0 ≤ a2))) else (some false)
set_option maxHeartbeats 8000000 in
set_option maxRecDepth 100000 in
theorem spec_l1In.calls (a0 : Int) (a1 : Int) (a2 : Int) (r : Bool) (w : World) (h : spec_l1In.f a0 a1 a2 = some r) :
  Calls Tryz.prog 120 #[.int .i64 a0, .int .i64 a1, .int .i64 a2] w fun e w' => e = .returned (.bool r) ∧ Drawn0 w w' := by
 have H : (if a0 ≥ a1 then (some (decide (a0 ≤ a2))) else (some false)) = some r := h
 clear h
 by_cases c4 : a0 ≥ a1
 ·rw [if_pos c4] at H
  have c4b0 : decide (a1 ≤ a0) = true := decide_eq_true c4
  clear c4
  obtain rfl := Option.some.inj H
  go_enter Tryz.func120, Tryz.ntmps120
  go_wp2
  go_ret
  exact ⟨by first | rfl | (simp; done) | (simp [*]; done), by repeat (first | exact Drawn0.refl _ | apply Drawn0.step)⟩
 ·rw [if_neg c4] at H
  have c4b0 : decide (a1 ≤ a0) = false := decide_eq_false c4
  clear c4
  obtain rfl := Option.some.inj H
  go_enter Tryz.func120, Tryz.ntmps120
  go_wp2
  go_ret
  exact ⟨by first | rfl | (simp; done) | (simp [*]; done), by repeat (first | exact Drawn0.refl _ | apply Drawn0.step)⟩
end Go.Proofs.YtchkmhbngbgjnaaGreatDoor.Q
end
section
namespace Go.Proofs.YtchkmhbngbgjnaaGreatDoor.Q
open Go.RowKit Go.Proofs.YtchkmhbngbgjnaaGreatDoorW.PrintWords Go.Proofs.YtchkmhbngbgjnaaGreatDoorW.PrintLast Go.Proofs.YtchkmhbngbgjnaaGreatDoorW.PrintMore
attribute [local go_sem] max2_int min2_int max_two min_two max_three min_three max_four min_four
set_option linter.unusedVariables false
set_option linter.unusedSimpArgs false
def spec_tyCell.f (a0_0 : Int) (a0_1 : Int) (l0_2 : List Int) (a1 : Int) (a2 : Int) : Option (Bool) := (spec_l1In.f a1 0 (wrap64 (a0_0 - 1))).bind fun t102 => (if t102 = true then ((spec_l1In.f a2 0 (wrap64 (a0_1 - 1))).bind fun t103 => (some t103)) else (some false))
set_option maxHeartbeats 8000000 in
set_option maxRecDepth 100000 in
theorem spec_tyCell.calls (a0_0 : Int) (a0_1 : Int) (A0_2 : Option Addr) (c0_2 : Nat) (l0_2 : List Int) (a1 : Int) (a2 : Int) (r : Bool) (w : World) (hr0_2 : Kd.C (Kd.int .u8) w A0_2 l0_2.length l0_2) (hc0_2 : l0_2.length ≤ c0_2) (h : spec_tyCell.f a0_0 a0_1 l0_2 a1 a2 = some r) :
  Calls Tryz.prog 104 #[.agg #[.int .i64 a0_0, .int .i64 a0_1, .slice A0_2 l0_2.length c0_2], .int .i64 a1, .int .i64 a2] w fun e w' => e = .returned (.bool r) ∧ Below w.heap.size w w' := by
 have hu45 := Tryz.underlying45
 have HR0_2 := Aside0.mk hr0_2
 have HC0_2 := Aside0.mk hc0_2
 clear hr0_2 hc0_2
 have HB := Aside0.mk (Below.refl w.heap.size w)
 have H : ((spec_l1In.f a1 0 (wrap64 (a0_0 - 1))).bind fun t102 => (if t102 = true then ((spec_l1In.f a2 0 (wrap64 (a0_1 - 1))).bind fun t103 => (some t103)) else (some false))) = some r := h
 clear h
 replace H := Option.bind_eq_some_iff.mp H
 obtain ⟨t102, A40, H⟩ := H
 replace H : (if t102 = true then ((spec_l1In.f a2 0 (wrap64 (a0_1 - 1))).bind fun t103 => (some t103)) else (some false)) = some r := H
 have A4 := Aside0.mk A40
 clear A40
 by_cases c5 : t102 = true
 ·subst c5
  have H1 : ((spec_l1In.f a2 0 (wrap64 (a0_1 - 1))).bind fun t103 => (some t103)) = some r := by rw [if_pos rfl] at H; exact H
  clear H
  have H := H1
  clear H1
  replace H := Option.bind_eq_some_iff.mp H
  obtain ⟨t103, A60, H⟩ := H
  replace H : (some t103) = some r := H
  have A6 := Aside0.mk A60
  clear A60
  obtain rfl := Option.some.inj H
  go_enter Tryz.func104, Tryz.ntmps104
  go_wp2_with (first | ((with_reducible refine gate_dst (N := 3) rfl ?_); refine boxE (N := 3) (cs := #[.int .i64 a0_0, .int .i64 a0_1, .slice A0_2 l0_2.length c0_2]) (t := 45) ?_; intro gb101 hg w7 hbox hb; have n0_ := Aside0.mk (below_step (bel HB) hb); have n1_ := Aside0.mk (hbox); have n2_ := Aside0.mk (gsz hg (bel HB)); have n3_ := Aside0.mk (gsz hg (bel HB)); clear HB; have HB := n0_; have BK101 := n1_; have GW101 := n2_; have GE101 := n3_; clear n0_ n1_ n2_ n3_; clear hb hbox hg; have hcz8_0 : w7.cell? ⟨gb101, 0, none⟩ = some (.int .i64 a0_0) := (blk_cell BK101.out 0).trans rfl; have hcz8_1 : w7.cell? ⟨gb101, 1, none⟩ = some (.int .i64 a0_1) := (blk_cell BK101.out 1).trans rfl; have hcz8_2 : w7.cell? ⟨gb101, 2, none⟩ = some (.slice A0_2 l0_2.length c0_2) := (blk_cell BK101.out 2).trans rfl; have hfz8_0 := blk_frozen BK101.out 0; have hfz8_1 := blk_frozen BK101.out 1; have hfz8_2 := blk_frozen BK101.out 2) | ((with_reducible refine gate_callee (f := 120) rfl ?_); refine gcall (some 11) Tryz.func120 #[.int .i64 a1, .int .i64 0, .int .i64 (wrap64 (a0_0 - 1))] rfl ?_; (with_reducible refine (spec_l1In.calls a1 0 (wrap64 (a0_0 - 1)) true _ A4.out).mono ?_); rintro e w' ⟨rfl, ⟨nd, rfl⟩⟩; refine ⟨_, rfl, ?_⟩) | (go_at_call 120; (with_reducible refine (spec_l1In.calls a2 0 (wrap64 (a0_1 - 1)) t103 _ A6.out).mono ?_); rintro e w' ⟨rfl, ⟨nd, rfl⟩⟩))
  go_ret
  exact ⟨by first | rfl | (simp [errW_none, errW_some] <;> rfl) | (simp [*, errW_none, errW_some] <;> rfl), bel HB⟩
 ·replace c5 := Bool.eq_false_iff.mpr c5
  subst c5
  have H1 : (some false) = some r := by rw [if_neg (show ¬ (false = true) by decide)] at H; exact H
  clear H
  have H := H1
  clear H1
  obtain rfl := Option.some.inj H
  go_enter Tryz.func104, Tryz.ntmps104
  go_wp2_with (first | ((with_reducible refine gate_dst (N := 3) rfl ?_); refine boxE (N := 3) (cs := #[.int .i64 a0_0, .int .i64 a0_1, .slice A0_2 l0_2.length c0_2]) (t := 45) ?_; intro gb101 hg w9 hbox hb; have n0_ := Aside0.mk (below_step (bel HB) hb); have n1_ := Aside0.mk (hbox); have n2_ := Aside0.mk (gsz hg (bel HB)); have n3_ := Aside0.mk (gsz hg (bel HB)); clear HB; have HB := n0_; have BK101 := n1_; have GW101 := n2_; have GE101 := n3_; clear n0_ n1_ n2_ n3_; clear hb hbox hg; have hcz10_0 : w9.cell? ⟨gb101, 0, none⟩ = some (.int .i64 a0_0) := (blk_cell BK101.out 0).trans rfl; have hcz10_1 : w9.cell? ⟨gb101, 1, none⟩ = some (.int .i64 a0_1) := (blk_cell BK101.out 1).trans rfl; have hcz10_2 : w9.cell? ⟨gb101, 2, none⟩ = some (.slice A0_2 l0_2.length c0_2) := (blk_cell BK101.out 2).trans rfl; have hfz10_0 := blk_frozen BK101.out 0; have hfz10_1 := blk_frozen BK101.out 1; have hfz10_2 := blk_frozen BK101.out 2) | ((with_reducible refine gate_callee (f := 120) rfl ?_); refine gcall (some 11) Tryz.func120 #[.int .i64 a1, .int .i64 0, .int .i64 (wrap64 (a0_0 - 1))] rfl ?_; (with_reducible refine (spec_l1In.calls a1 0 (wrap64 (a0_0 - 1)) false _ A4.out).mono ?_); rintro e w' ⟨rfl, ⟨nd, rfl⟩⟩; refine ⟨_, rfl, ?_⟩))
  go_ret
  exact ⟨by first | rfl | (simp [errW_none, errW_some] <;> rfl) | (simp [*, errW_none, errW_some] <;> rfl), bel HB⟩
end Go.Proofs.YtchkmhbngbgjnaaGreatDoor.Q
end
section
namespace Go.Proofs.YtchkmhbngbgjnaaGreatDoor.Q
set_option linter.unusedSectionVars false
open Go.RowKit Go.Proofs.YtchkmhbngbgjnaaGreatDoorW.PrintWords Go.Proofs.YtchkmhbngbgjnaaGreatDoorW.PrintLast Go.Proofs.YtchkmhbngbgjnaaGreatDoorW.PrintMore
structure Bx (W : World) (g : Nat) (a b : Int) (A : Option Addr) (c : Nat) (l : List Int) : Prop where
 c0 : W.cell? ⟨g, 0, none⟩ = some (.int .i64 a)
 c1 : W.cell? ⟨g, 1, none⟩ = some (.int .i64 b)
 c2 : W.cell? ⟨g, 2, none⟩ = some (.slice A l.length c)
 lt : g < W.heap.size
 reads : Kd.C (Kd.int .u8) W A l.length l
theorem Bx.below {W W' : World} {g : Nat} {a b : Int} {A : Option Addr} {c : Nat} {l : List Int} (h : Bx W g a b A c l) (hb : Below W.heap.size W W') : Bx W' g a b A c l :=
 ⟨(hb.cell (p := ⟨g, 0, none⟩) h.lt).trans h.c0, (hb.cell (p := ⟨g, 1, none⟩) h.lt).trans h.c1, (hb.cell (p := ⟨g, 2, none⟩) h.lt).trans h.c2, Nat.lt_of_lt_of_le h.lt hb.size, Kd.C_below h.reads hb⟩
end Go.Proofs.YtchkmhbngbgjnaaGreatDoor.Q
end
section
namespace Go.Proofs.YtchkmhbngbgjnaaGreatDoor.Q
set_option linter.unusedVariables false
set_option linter.unusedSectionVars false
open Go.RowKit Go.Proofs.YtchkmhbngbgjnaaGreatDoorW.PrintWords Go.Proofs.YtchkmhbngbgjnaaGreatDoorW.PrintLast Go.Proofs.YtchkmhbngbgjnaaGreatDoorW.PrintMore
def spec_tiAhead.f (a0_0 : Int) (a0_1 : Int) (l0_2 : List Int) (a1 : Int) (a2 : Int) : Option (Int) := if a0_0 = 0 then (none) else (if a2 = 0 then ((spec_tyCell.f a0_0 a0_1 l0_2 (Int.tmod a1 a0_0) (wrap64 ((wrap64 (Int.tdiv a1 a0_0)) - 1))).bind fun t102 => (if t102 = true then (if 0 ≤ (wrap64 ((wrap64 ((wrap64 ((wrap64 (Int.tdiv a1 a0_0)) - 1)) * a0_0)) + (Int.tmod a1 a0_0))) then (if (wrap64 ((wrap64 ((wrap64 ((wrap64 (Int.tdiv a1 a0_0)) - 1)) * a0_0)) + (Int.tmod a1 a0_0))) < (l0_2.length : Int) then (if (rd l0_2 (wrap64 ((wrap64 ((wrap64 ((wrap64 (Int.tdiv a1 a0_0)) - 1)) * a0_0)) + (Int.tmod a1 a0_0)))) = 35 then (some (-1)) else (some (wrap64 ((wrap64 ((wrap64 ((wrap64 (Int.tdiv a1 a0_0)) - 1)) * a0_0)) + (Int.tmod a1 a0_0))))) else (none)) else (none)) else (some (-1)))) else (if a2 = 1 then ((spec_tyCell.f a0_0 a0_1 l0_2 (wrap64 ((Int.tmod a1 a0_0) + 1)) (wrap64 (Int.tdiv a1 a0_0))).bind fun t104 => (if t104 = true then (if 0 ≤ (wrap64 ((wrap64 ((wrap64 (Int.tdiv a1 a0_0)) * a0_0)) + (wrap64 ((Int.tmod a1 a0_0) + 1)))) then (if (wrap64 ((wrap64 ((wrap64 (Int.tdiv a1 a0_0)) * a0_0)) + (wrap64 ((Int.tmod a1 a0_0) + 1)))) < (l0_2.length : Int) then (if (rd l0_2 (wrap64 ((wrap64 ((wrap64 (Int.tdiv a1 a0_0)) * a0_0)) + (wrap64 ((Int.tmod a1 a0_0) + 1))))) = 35 then (some (-1)) else (some (wrap64 ((wrap64 ((wrap64 (Int.tdiv a1 a0_0)) * a0_0)) + (wrap64 ((Int.tmod a1 a0_0) + 1)))))) else (none)) else (none)) else (some (-1)))) else (if a2 = 2 then ((spec_tyCell.f a0_0 a0_1 l0_2 (Int.tmod a1 a0_0) (wrap64 ((wrap64 (Int.tdiv a1 a0_0)) + 1))).bind fun t106 => (if t106 = true then (if 0 ≤ (wrap64 ((wrap64 ((wrap64 ((wrap64 (Int.tdiv a1 a0_0)) + 1)) * a0_0)) + (Int.tmod a1 a0_0))) then (if (wrap64 ((wrap64 ((wrap64 ((wrap64 (Int.tdiv a1 a0_0)) + 1)) * a0_0)) + (Int.tmod a1 a0_0))) < (l0_2.length : Int) then (if (rd l0_2 (wrap64 ((wrap64 ((wrap64 ((wrap64 (Int.tdiv a1 a0_0)) + 1)) * a0_0)) + (Int.tmod a1 a0_0)))) = 35 then (some (-1)) else (some (wrap64 ((wrap64 ((wrap64 ((wrap64 (Int.tdiv a1 a0_0)) + 1)) * a0_0)) + (Int.tmod a1 a0_0))))) else (none)) else (none)) else (some (-1)))) else ((spec_tyCell.f a0_0 a0_1 l0_2 (wrap64 ((Int.tmod a1 a0_0) - 1)) (wrap64 (Int.tdiv a1 a0_0))).bind fun t108 => (if t108 = true then (if 0 ≤ (wrap64 ((wrap64 ((wrap64 (Int.tdiv a1 a0_0)) * a0_0)) + (wrap64 ((Int.tmod a1 a0_0) - 1)))) then (if (wrap64 ((wrap64 ((wrap64 (Int.tdiv a1 a0_0)) * a0_0)) + (wrap64 ((Int.tmod a1 a0_0) - 1)))) < (l0_2.length : Int) then (if (rd l0_2 (wrap64 ((wrap64 ((wrap64 (Int.tdiv a1 a0_0)) * a0_0)) + (wrap64 ((Int.tmod a1 a0_0) - 1))))) = 35 then (some (-1)) else (some (wrap64 ((wrap64 ((wrap64 (Int.tdiv a1 a0_0)) * a0_0)) + (wrap64 ((Int.tmod a1 a0_0) - 1)))))) else (none)) else (none)) else (some (-1)))))))
def tailA (w h : Int) (cs : List Int) (x y : Int) : Option Int := (spec_tyCell.f w h cs x y).bind fun t => (if t = true then (if 0 ≤ (wrap64 ((wrap64 (y * w)) + x)) then (if (wrap64 ((wrap64 (y * w)) + x)) < (cs.length : Int) then (if (rd cs (wrap64 ((wrap64 (y * w)) + x))) = 35 then (some (-1)) else (some (wrap64 ((wrap64 (y * w)) + x)))) else (none)) else (none)) else (some (-1)))
theorem tiA_tail {w h : Int} {cs : List Int} {a d r : Int} (hr : spec_tiAhead.f w h cs a d = some r) : w ≠ 0 ∧ ∃ x y, ((d = 0 ∧ x = Int.tmod a w ∧ y = wrap64 ((wrap64 (Int.tdiv a w)) - 1)) ∨ (d = 1 ∧ x = wrap64 ((Int.tmod a w) + 1) ∧ y = wrap64 (Int.tdiv a w)) ∨ (d = 2 ∧ x = Int.tmod a w ∧ y = wrap64 ((wrap64 (Int.tdiv a w)) + 1)) ∨ ((d == 0) = false ∧ (d == 1) = false ∧ (d == 2) = false ∧ x = wrap64 ((Int.tmod a w) - 1) ∧ y = wrap64 (Int.tdiv a w))) ∧ tailA w h cs x y = some r := by
 unfold spec_tiAhead.f at hr
 by_cases h0 : w = 0
 ·rw [if_pos h0] at hr
  cases hr
 ·rw [if_neg h0] at hr
  refine ⟨h0, ?_⟩
  by_cases d0 : d = 0
  ·rw [if_pos d0] at hr
   exact ⟨_, _, .inl ⟨d0, rfl, rfl⟩, hr⟩
  ·rw [if_neg d0] at hr
   by_cases d1 : d = 1
   ·rw [if_pos d1] at hr
    exact ⟨_, _, .inr (.inl ⟨d1, rfl, rfl⟩), hr⟩
   ·rw [if_neg d1] at hr
    by_cases d2 : d = 2
    ·rw [if_pos d2] at hr
     exact ⟨_, _, .inr (.inr (.inl ⟨d2, rfl, rfl⟩)), hr⟩
    ·rw [if_neg d2] at hr
     exact ⟨_, _, .inr (.inr (.inr ⟨beq_eq_false_iff_ne.2 d0, beq_eq_false_iff_ne.2 d1, beq_eq_false_iff_ne.2 d2, rfl, rfl⟩)), hr⟩
set_option maxHeartbeats 16000000 in
set_option maxRecDepth 100000 in
theorem spec_tiAhead.calls (a0_0 : Int) (a0_1 : Int) (A0_2 : Option Addr) (c0_2 : Nat) (l0_2 : List Int) (a1 : Int) (a2 : Int) (r : Int) (w : World) (hr0_2 : Kd.C (Kd.int .u8) w A0_2 l0_2.length l0_2) (hc0_2 : l0_2.length ≤ c0_2) (h : spec_tiAhead.f a0_0 a0_1 l0_2 a1 a2 = some r) :
  Calls Tryz.prog 88 #[.agg #[.int .i64 a0_0, .int .i64 a0_1, .slice A0_2 l0_2.length c0_2], .int .i64 a1, .int .i64 a2] w fun e w' => e = .returned (.int .i64 r) ∧ Below w.heap.size w w' := by
 have hu := Tryz.underlying45
 have HR := Aside0.mk hr0_2
 have HC := Aside0.mk hc0_2
 obtain ⟨hw0, x, y, hsw, ht⟩ := tiA_tail h
 have e0 : (a0_0 == 0) = false := beq_eq_false_iff_ne.2 hw0
 have e1 : (a0_0 != 0) = true := bne_iff_ne.2 hw0
 unfold tailA at ht
 obtain ⟨t, hcell, ht2⟩ := Option.bind_eq_some_iff.1 ht
 clear ht
 have ht := ht2
 clear ht2
 have HT := Aside0.mk hcell
 have HB := Aside0.mk (Below.refl w.heap.size w)
 have key : ∃ b : Bool, (t = true → (0 ≤ (wrap64 ((wrap64 (y * a0_0)) + x)) ∧ (wrap64 ((wrap64 (y * a0_0)) + x)) < (l0_2.length : Int)) ∧ (rd l0_2 (wrap64 ((wrap64 (y * a0_0)) + x)) == 35) = b) ∧ r = if t = true ∧ b = false then (wrap64 ((wrap64 (y * a0_0)) + x)) else -1 := by
  refine ⟨rd l0_2 (wrap64 ((wrap64 (y * a0_0)) + x)) == 35, ?_⟩
  cases t with
  | false =>
   refine ⟨fun h => (by cases h), ?_⟩
   rw [if_neg (by simp)]
   exact (Option.some.inj ht).symm
  | true =>
   rw [if_pos rfl] at ht
   split at ht
   ·rename_i g0
    split at ht
    ·rename_i g1
     refine ⟨fun _ => ⟨⟨g0, g1⟩, rfl⟩, ?_⟩
     split at ht
     ·rename_i g2
      rw [if_neg (by simp [g2])]
      exact (Option.some.inj ht).symm
     ·rename_i g2
      rw [if_pos ⟨rfl, beq_eq_false_iff_ne.2 g2⟩]
      exact (Option.some.inj ht).symm
    ·cases ht
   ·cases ht
 obtain ⟨b, hk, rfl⟩ := key
 obtain ⟨j, hj⟩ : ∃ j : Int, (wrap64 ((wrap64 (y * a0_0)) + x)) = j := ⟨_, rfl⟩
 have hjw : IntKind.i64.wrap ((wrap64 (y * a0_0)) + x) = j := (i64_w _).trans hj
 rw [hj] at hk
 rw [hj]
 have HK := Aside0.mk hk
 clear ht hcell hr0_2 hc0_2 h hk HB
 cases t with
 | false =>
  rw [if_neg (show ¬ (false = true ∧ b = false) by simp)]
  rcases hsw with ⟨rfl, rfl, rfl⟩ | ⟨rfl, rfl, rfl⟩ | ⟨rfl, rfl, rfl⟩ | ⟨d0, d1, d2, rfl, rfl⟩ <;> (
   go_enter Tryz.func88, Tryz.ntmps88
   go_wp2_with ((with_reducible refine gate_dst (N := 3) rfl ?_); refine boxE (N := 3) (cs := #[.int .i64 a0_0, .int .i64 a0_1, .slice A0_2 l0_2.length c0_2]) (t := 45) ?_; intro gt hg w3 hbox hb; (have HB3 := Aside0.mk hb); (have HX3 := Aside0.mk (Bx.mk ((blk_cell hbox 0).trans rfl) ((blk_cell hbox 1).trans rfl) ((blk_cell hbox 2).trans rfl) (blk_lt hbox) (Kd.C_below HR.out hb) : Bx w3 gt a0_0 a0_1 A0_2 c0_2 l0_2)); clear hbox hg hb; (have z0 := HX3.out.c0); (have z1 := HX3.out.c1); (have z2 := HX3.out.c2))
   repeat (go_quiet (fail); try go_wp2_with (go_at_call 104; (with_reducible refine (spec_tyCell.calls a0_0 a0_1 _ _ l0_2 _ _ _ _ ?side1 ?side2 HT.out).mono ?_); (case side1 => repeat (first | exact HX3.out.reads | (with_reducible refine Kd.C_alloc ?_ _) | (with_reducible refine Kd.C_drewN ?_ _) | (with_reducible refine Kd.C_drew ?_))); (case side2 => exact HC.out); rintro e w5 ⟨rfl, hb⟩; (have HX5 := Aside0.mk ((HX3.out.below (by (with_reducible repeat (first | apply pw_below_drewN | apply below_drew1)); exact Below.refl _ _)).below hb)); (have HB5 := Aside0.mk (below_step (bel HB3) hb)); clear HX3 HB3 z0 z1 z2 hb; (have z0 := HX5.out.c0); (have z1 := HX5.out.c1); (have z2 := HX5.out.c2)))
   go_ret
   exact ⟨by first | rfl | simp, bel HB5⟩)
 | true =>
  obtain ⟨⟨g0, g1⟩, g2⟩ := HK.out rfl
  have p0 := eq_true g0
  have p1 := eq_true g1
  have HG := Aside0.mk (And.intro g0 g1)
  clear g0 g1
  rcases hsw with ⟨rfl, rfl, rfl⟩ | ⟨rfl, rfl, rfl⟩ | ⟨rfl, rfl, rfl⟩ | ⟨d0, d1, d2, rfl, rfl⟩ <;> rcases b with _ | _ <;> (
   first | rw [if_pos (And.intro rfl rfl)] | rw [if_neg (show ¬ (true = true ∧ true = false) by simp)]
   go_enter Tryz.func88, Tryz.ntmps88
   go_wp2_with ((with_reducible refine gate_dst (N := 3) rfl ?_); refine boxE (N := 3) (cs := #[.int .i64 a0_0, .int .i64 a0_1, .slice A0_2 l0_2.length c0_2]) (t := 45) ?_; intro gt hg w3 hbox hb; (have HB3 := Aside0.mk hb); (have HX3 := Aside0.mk (Bx.mk ((blk_cell hbox 0).trans rfl) ((blk_cell hbox 1).trans rfl) ((blk_cell hbox 2).trans rfl) (blk_lt hbox) (Kd.C_below HR.out hb) : Bx w3 gt a0_0 a0_1 A0_2 c0_2 l0_2)); clear hbox hg hb; (have z0 := HX3.out.c0); (have z1 := HX3.out.c1); (have z2 := HX3.out.c2))
   repeat (go_quiet (fail); try go_wp2_with (go_at_call 104; (with_reducible refine (spec_tyCell.calls a0_0 a0_1 _ _ l0_2 _ _ _ _ ?side1 ?side2 HT.out).mono ?_); (case side1 => repeat (first | exact HX3.out.reads | (with_reducible refine Kd.C_alloc ?_ _) | (with_reducible refine Kd.C_drewN ?_ _) | (with_reducible refine Kd.C_drew ?_))); (case side2 => exact HC.out); rintro e w5 ⟨rfl, hb⟩; (have HX5 := Aside0.mk ((HX3.out.below (by (with_reducible repeat (first | apply pw_below_drewN | apply below_drew1)); exact Below.refl _ _)).below hb)); (have HB5 := Aside0.mk (below_step (bel HB3) hb)); clear HX3 HB3 z0 z1 z2 hb; obtain ⟨ad, ead, hx⟩ := Kd.at_int HX5.out.reads _ HG.out.1 HG.out.2; cases ead; (have z0 := HX5.out.c0); (have z1 := HX5.out.c1); (have z2 := HX5.out.c2)))
   go_ret
   exact ⟨by first | rfl | simp, bel HB5⟩)
end Go.Proofs.YtchkmhbngbgjnaaGreatDoor.Q
end
