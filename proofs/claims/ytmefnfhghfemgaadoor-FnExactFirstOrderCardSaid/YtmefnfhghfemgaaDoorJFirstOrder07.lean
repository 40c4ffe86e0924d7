/- Texts of this claim, joined. -/
import Derived.Test.YtmefnfhghfemgaaDoorJFirstOrder01
import Derived.Test.YtmefnfhghfemgaaDoorJFirstOrder04
import Derived.Test.YtmefnfhghfemgaaDoorJFirstOrder05
import Derived.Test.YtmefnfhghfemgaaDoorJFirstOrder06
set_option linter.unusedVariables false
set_option linter.unusedSimpArgs false
set_option linter.unusedSectionVars false
section
namespace Go.Proofs.YtmefnfhghfemgaaDoor.Q
open Go.RowKit Go.Proofs.YtmefnfhghfemgaaDoorW.PrintWords Go.Proofs.YtmefnfhghfemgaaDoorW.PrintLast Go.Proofs.YtmefnfhghfemgaaDoorW.PrintMore
attribute [local go_sem] max2_int min2_int max_two min_two max_three min_three max_four min_four
set_option linter.unusedVariables false
set_option linter.unusedSimpArgs false
mutual
def spec_buGoes.l0 : Nat → Int → List Int → List Int → List Int → Int → Int → Int → Int → List Int → Int → Int → List Int → Option (Bool × List Int)
 | 0, _, _, _, _, _, _, _, _, _, _, _, _ => none
 | k + 1, x1, x2, x7, x36, x37, x38, x102000, x102001, x102002, x113000, x113001, x113002 => if x38 < x37 then (if 0 ≤ x38 then (if x38 < (x36.length : Int) then (if (Int.tmod (shr .i64 x1 x38) 2) = 1 then (if 0 ≤ (rd x36 x38) then (if (rd x36 x38) < (x113002.length : Int) then (spec_buGoes.l0 k x1 x2 x7 x36 x37 (wrap64 (x38 + 1)) x102000 x102001 x102002 x113000 x113001 (x113002.set ((rd x36 x38) : Int).toNat 111)) else (none)) else (none)) else (spec_buGoes.l0 k x1 x2 x7 x36 x37 (wrap64 (x38 + 1)) x102000 x102001 x102002 x113000 x113001 x113002)) else (none)) else (none)) else (if 0 ≤ x1 then (if x1 < (x2.length : Int) then (spec_buGoes.l1 k x1 (x2.set (x1 : Int).toNat 1) x7 (x7.length : Int) 0 x102000 x102001 x102002 x113000 x113001 x113002) else (none)) else (none))
def spec_buGoes.l1 : Nat → Int → List Int → List Int → Int → Int → Int → Int → List Int → Int → Int → List Int → Option (Bool × List Int)
 | 0, _, _, _, _, _, _, _, _, _, _, _ => none
 | k + 1, x1, x2, x56, x57, x58, x102000, x102001, x102002, x113000, x113001, x113002 => if x58 < x57 then (if 0 ≤ x58 then (if x58 < (x56.length : Int) then (if (Int.tmod (shr .i64 x1 x58) 2) = 0 then ((spec_buWay.f k x113000 x113001 x113002 (rd x56 x58)).bind fun t117 => (if t117 ≥ 0 then ((spec_buGoes.f k x102000 x102001 x102002 (wrap64 (x1 + (shl .i64 1 x58))) x2).bind fun bt118 => (if bt118.1 = true then (if 0 ≤ x1 then (if x1 < (x2.length : Int) then (some (true, (bt118.2.set (x1 : Int).toNat 2))) else (none)) else (none)) else (spec_buGoes.l1 k x1 bt118.2 x56 x57 (wrap64 (x58 + 1)) x102000 x102001 x102002 x113000 x113001 x113002))) else (spec_buGoes.l1 k x1 x2 x56 x57 (wrap64 (x58 + 1)) x102000 x102001 x102002 x113000 x113001 x113002))) else (spec_buGoes.l1 k x1 x2 x56 x57 (wrap64 (x58 + 1)) x102000 x102001 x102002 x113000 x113001 x113002)) else (none)) else (none)) else (some (false, x2))
def spec_buGoes.f : Nat → Int → Int → List Int → Int → List Int → Option (Bool × List Int)
 | 0, _, _, _, _, _ => none
 | k + 1, a0_0, a0_1, l0_2, a1, l2 => (spec_tyBalls.f k a0_0 a0_1 l0_2).bind fun t102 => (if a1 = (wrap64 ((shl .i64 1 (t102.length : Int)) - 1)) then (some (true, l2)) else (if 0 ≤ a1 then (if a1 < (l2.length : Int) then (if (rd l2 a1) > 0 then (some (((rd l2 a1) == 2), l2)) else ((spec_tyEmpty.f k a0_0 a0_1).bind fun bt107 => (spec_buGoes.l0 k a1 l2 t102 t102 (t102.length : Int) 0 a0_0 a0_1 l0_2 bt107.1 bt107.2.1 bt107.2.2))) else (none)) else (none)))
end
def spec_buGoes.T17 : Bool × List (List Nat × List Nat) := (true, [([], []), ([], []), ([0, 1], [0, 1]), ([2], [2]), ([3], [3]), ([4], [4]), ([5], [5]), ([5], [5]), ([6, 7, 5, 5], [5, 6, 7]), ([8, 5], [5, 8]), ([5, 9], [5, 9]), ([10, 8], [10]), ([11], [11]), ([11], [11]), ([11], [11]), ([14, 11], [11, 14]), ([13, 15, 11], [11, 13, 15]), ([11], [11]), ([12, 16, 17, 11, 11], [11, 12, 16, 17]), ([11, 18], [11, 18])])
def spec_buGoes.B17 : List Nat := [0, 0, 3, 7, 15, 31, 63, 63, 255, 511, 1023, 2047, 4095, 4095, 4095, 20479, 61439, 4095, 262143, 524287]
theorem spec_buGoes.tab17 : rtab .any (opsOf Tryd.f39 17) = spec_buGoes.T17 := by kernel_rfl
theorem spec_buGoes.bits17 : waitsOk spec_buGoes.T17.2 spec_buGoes.B17 = true := by kernel_rfl
set_option maxHeartbeats 8000000 in
set_option maxRecDepth 100000 in
theorem spec_buGoes.calls (k : Nat) : ∀ (a0_0 : Int) (a0_1 : Int) (A0_2 : Option Addr) (c0_2 : Nat) (l0_2 : List Int) (a1 : Int) (P2_ : Nat → Prop) (u9000_ : Value) (l2 : List Int) (r1 : Bool) (r2 : List Int) (w0 w : World) (hB : Below w0.heap.size w0 w) (hr0_2 : ∀ W_, Kept w W_ (fun k_ => P2_ k_) → Kd.C (Kd.int .u8) W_ A0_2 l0_2.length l0_2) (hc0_2 : l0_2.length ≤ c0_2) (ho2 : Kd.R (Kd.int .i64) 3 w w0.heap.size P2_ u9000_ l2) (h : spec_buGoes.f k a0_0 a0_1 l0_2 a1 l2 = some (r1, r2)),
  Calls Tryd.prog 39 #[.agg #[.int .i64 a0_0, .int .i64 a0_1, .slice A0_2 l0_2.length c0_2], .int .i64 a1, u9000_] w fun e w' => e = .returned (.bool r1) ∧ Kd.R (Kd.int .i64) 3 w' w0.heap.size (fun k_ => (P2_ k_ ∨ w.heap.size ≤ k_)) u9000_ r2 ∧ Below w0.heap.size w0 w' ∧ Kept w w' (fun k_ => P2_ k_) := by
 induction k using Nat.strongRecOn with
 | _ k ih =>
 intro a0_0 a0_1 A0_2 c0_2 l0_2 a1 P2_ u9000_ l2 r1 r2 w0 w hB hr0_2 hc0_2 ho2 h
 cases k with
 | zero => exact absurd h (by simp [spec_buGoes.f])
 | succ k =>
 simp only [spec_buGoes.f] at h
 have hu40 := Tryd.underlying40
 have HR0_2 := Aside0.mk hr0_2
 have HC0_2 := Aside0.mk hc0_2
 clear hr0_2 hc0_2
 have HO2 := Aside0.mk (show Kd.R (Kd.int .i64) 3 w w0.heap.size (fun k_ => (P2_ k_ ∨ w.heap.size ≤ k_)) u9000_ l2 from Kd.R_mono ho2 (fun k_ hk => (.inl hk)))
 have HK := Aside0.mk (Kept.refl w (fun k_ => P2_ k_))
 have HW0 := Aside0.mk hB.size
 have HB := Aside0.mk hB
 clear hB
 have H : ((spec_tyBalls.f k a0_0 a0_1 l0_2).bind fun t102 => (if a1 = (wrap64 ((shl .i64 1 (t102.length : Int)) - 1)) then (some (true, l2)) else (if 0 ≤ a1 then (if a1 < (l2.length : Int) then (if (rd l2 a1) > 0 then (some (((rd l2 a1) == 2), l2)) else ((spec_tyEmpty.f k a0_0 a0_1).bind fun bt107 => (spec_buGoes.l0 k a1 l2 t102 t102 (t102.length : Int) 0 a0_0 a0_1 l0_2 bt107.1 bt107.2.1 bt107.2.2))) else (none)) else (none)))) = some (r1, r2) := h
 clear h
 replace H := Option.bind_eq_some_iff.mp H
 obtain ⟨t102, A40, H⟩ := H
 replace H : (if a1 = (wrap64 ((shl .i64 1 (t102.length : Int)) - 1)) then (some (true, l2)) else (if 0 ≤ a1 then (if a1 < (l2.length : Int) then (if (rd l2 a1) > 0 then (some (((rd l2 a1) == 2), l2)) else ((spec_tyEmpty.f k a0_0 a0_1).bind fun bt107 => (spec_buGoes.l0 k a1 l2 t102 t102 (t102.length : Int) 0 a0_0 a0_1 l0_2 bt107.1 bt107.2.1 bt107.2.2))) else (none)) else (none))) = some (r1, r2) := H
 have A4 := Aside0.mk A40
 clear A40
 obtain ⟨ji5, hji5⟩ : ∃ j_ : Int, (shl .i64 1 (t102.length : Int)) = j_ := ⟨_, rfl⟩
 replace H : (if a1 = (wrap64 ((ji5) - 1)) then (some (true, l2)) else (if 0 ≤ a1 then (if a1 < (l2.length : Int) then (if (rd l2 a1) > 0 then (some (((rd l2 a1) == 2), l2)) else ((spec_tyEmpty.f k a0_0 a0_1).bind fun bt107 => (spec_buGoes.l0 k a1 l2 t102 t102 (t102.length : Int) 0 a0_0 a0_1 l0_2 bt107.1 bt107.2.1 bt107.2.2))) else (none)) else (none))) = some (r1, r2) := by first | (rw [hji5] at H; exact H) | (simp only [hji5] at H ⊢; exact H)
 (try rw [hji5] at A4)
 have hji5_ : (IntKind.i64.wrap (1 * 2 ^ min (t102.length : Int).toNat 64)) = ji5 := hji5
 have hji5z : (t102.length : Int) ≤ 64 → (IntKind.i64.wrap (1 * 2 ^ (t102.length : Int).toNat)) = ji5 := shl_small hji5
 have hji5p : (IntKind.i64.wrap (1 * 2 ^ min t102.length 64)) = ji5 := hji5_
 have hji5q : (t102.length : Int) ≤ 64 → (IntKind.i64.wrap (1 * 2 ^ t102.length)) = ji5 := hji5z
 have hji5r : (IntKind.i64.wrap (2 ^ min t102.length 64)) = ji5 := by have h_ := hji5p; rw [Int.one_mul] at h_; exact h_
 have hji5s : (t102.length : Int) ≤ 64 → (IntKind.i64.wrap (2 ^ t102.length)) = ji5 := fun hle_ => by have h_ := hji5q hle_; rw [Int.one_mul] at h_; exact h_
 have hji5u : (IntKind.i64.wrap (2 ^ min (t102.length : Int).toNat 64)) = ji5 := by have h_ := hji5_; rw [Int.one_mul] at h_; exact h_
 have hji5v : (t102.length : Int) ≤ 64 → (IntKind.i64.wrap (2 ^ (t102.length : Int).toNat)) = ji5 := fun hle_ => by have h_ := hji5z hle_; rw [Int.one_mul] at h_; exact h_
 have hji5y : (wrap64 (1 * 2 ^ min (t102.length : Int).toNat 64)) = ji5 := (i64_w _).symm.trans hji5_
 have hji5x : (t102.length : Int) ≤ 64 → (wrap64 (1 * 2 ^ (t102.length : Int).toNat)) = ji5 := fun h_ => (i64_w _).symm.trans (hji5z h_)
 by_cases c6 : a1 = (wrap64 ((ji5) - 1))
 ·rw [if_pos c6] at H
  have c6b0 : (a1 == (wrap64 ((ji5) - 1))) = true := beq_iff_eq.mpr c6
  have c6b1 : (a1 != (wrap64 ((ji5) - 1))) = false := bne_eq_false_iff_eq.mpr c6
  clear c6
  simp only [Option.some.injEq, Prod.mk.injEq] at H
  obtain ⟨rfl, rfl⟩ := H
  go_enter Tryd.func39, Tryd.ntmps39
  go_wp2_with (first | ((with_reducible refine gate_dst (N := 3) rfl ?_); refine boxE (N := 3) (cs := #[.int .i64 a0_0, .int .i64 a0_1, .slice A0_2 l0_2.length c0_2]) (t := 40) ?_; intro gb101 hg w7 hbox hb; have n0_ := Aside0.mk (Kd.R_below (rch HO2) hb); have n1_ := Aside0.mk (Kept.below (S := (fun k_ => P2_ k_)) (by repeat (first | (with_reducible first | exact HK.out | apply Kept.alloc | apply Kept.drewN | apply Kept.drew) | exact HK.out)) hb); have n2_ := Aside0.mk (below_step (bel HB) hb); have n3_ := Aside0.mk (hbox); have n4_ := Aside0.mk ((by rw [hg]; exact (by first | exact HK.out.1 | exact (show Kept w _ (fun k_ => P2_ k_) from by repeat (first | (with_reducible first | exact HK.out | apply Kept.alloc | apply Kept.drewN | apply Kept.drew) | exact HK.out)).1) : w.heap.size ≤ gb101)); have n5_ := Aside0.mk ((by rw [hg]; exact (below_size (bel HB)) : w0.heap.size ≤ gb101)); clear HO2; clear HK; clear HB; have HO2 := n0_; have HK := n1_; have HB := n2_; have BK101 := n3_; have GW101 := n4_; have GE101 := n5_; clear n0_ n1_ n2_ n3_ n4_ n5_; clear hb hbox hg; have hcz8_0 : w7.cell? ⟨gb101, 0, none⟩ = some (.int .i64 a0_0) := (blk_cell BK101.out 0).trans rfl; have hcz8_1 : w7.cell? ⟨gb101, 1, none⟩ = some (.int .i64 a0_1) := (blk_cell BK101.out 1).trans rfl; have hcz8_2 : w7.cell? ⟨gb101, 2, none⟩ = some (.slice A0_2 l0_2.length c0_2) := (blk_cell BK101.out 2).trans rfl; have hfz8_0 := blk_frozen BK101.out 0; have hfz8_1 := blk_frozen BK101.out 1; have hfz8_2 := blk_frozen BK101.out 2) | ((with_reducible refine gate_callee (f := 34) rfl ?_); refine gcall (some 14) Tryd.func34 #[.agg #[.int .i64 a0_0, .int .i64 a0_1, .slice A0_2 l0_2.length c0_2]] rfl ?_; (with_reducible refine (spec_tyBalls.calls k a0_0 a0_1 _ _ l0_2 t102 _ ?side1 ?side2 A4.out).mono ?_); (case side1 => exact Kd.C_kept_now HR0_2.out (by repeat (first | (with_reducible first | exact HK.out | apply Kept.alloc | apply Kept.drewN | apply Kept.drew | refine Kept.setCell ?_ (.inr GW101.out) _) | exact HK.out))); (case side2 => exact HC0_2.out); rintro e w9 ⟨v103, rfl, ho0, hb⟩; refine ⟨_, rfl, ?_⟩; have n0_ := Aside0.mk (Kd.R_elder' (rch HO2) (Kd.R_base ho0) hb); have n1_ := Aside0.mk (Kd.R_lower (Kd.R_new' (Kd.R_newM (M := fun k_ => (P2_ k_ ∨ w.heap.size ≤ k_)) ho0 (by first | exact HK.out.1 | exact (show Kept w _ (fun k_ => P2_ k_) from by repeat (first | (with_reducible first | exact HK.out | apply Kept.alloc | apply Kept.drewN | apply Kept.drew | refine Kept.setCell ?_ (.inr GW101.out) _) | exact HK.out)).1) (fun k_ h_ => .inr h_)) (Kd.R_lt (rch HO2))) (below_size (bel HB))); have n2_ := Aside0.mk (blk_below (g := gb101) (o := .cells #[.int .i64 a0_0, .int .i64 a0_1, .slice A0_2 l0_2.length c0_2] 40 (0, 0)) blc hb); have n3_ := Aside0.mk (Kept.below (S := (fun k_ => P2_ k_)) (by repeat (first | (with_reducible first | exact HK.out | apply Kept.alloc | apply Kept.drewN | apply Kept.drew | refine Kept.setCell ?_ (.inr GW101.out) _) | exact HK.out)) hb); have n4_ := Aside0.mk (below_step (bel HB) hb); clear HO2; clear BK101; clear HK; clear HB; have HO2 := n0_; have HO104 := n1_; have BK101 := n2_; have HK := n3_; have HB := n4_; clear n0_ n1_ n2_ n3_ n4_; (try clear hb); (try clear hb2); (try clear hk); (try clear hi); (try clear ho0); obtain ⟨Ao10, co10, eo10⟩ := Kd.R_slice HO104.out; subst eo10))
  go_ret
  exact ⟨by first | rfl | (simp [errW_none, errW_some] <;> rfl) | (simp only [← hji5]; first | rfl | (simp [errW_none, errW_some] <;> rfl)) | (simp [*, errW_none, errW_some] <;> rfl), by (with_reducible repeat (first | apply Kd.R_alloc | apply Kd.R_drewN | apply Kd.R_drew)); exact Kd.R_mono HO2.out (fun _ hk => hk.1), by repeat (first | (with_reducible first | exact HB.out | apply below_alloc | apply pw_below_drewN | apply below_drew1 | refine below_set ?_ GE101.out) | exact HB.out), by repeat (first | (with_reducible first | exact HK.out | apply Kept.alloc | apply Kept.drewN | apply Kept.drew | refine Kept.setCell ?_ (.inr GW101.out) _) | exact HK.out)⟩
 ·rw [if_neg c6] at H
  have c6b0 : (a1 == (wrap64 ((ji5) - 1))) = false := beq_eq_false_iff_ne.mpr c6
  have c6b1 : (a1 != (wrap64 ((ji5) - 1))) = true := bne_iff_ne.mpr c6
  by_cases c11 : 0 ≤ a1
  ·rw [if_pos c11] at H
   have c11b0 : decide (0 ≤ a1) = true := decide_eq_true c11
   clear c11
   by_cases c12 : a1 < (l2.length : Int)
   ·rw [if_pos c12] at H
    have c12b0 : decide (a1 < (l2.length : Int)) = true := decide_eq_true c12
    clear c12
    by_cases c13 : (rd l2 a1) > 0
    ·rw [if_pos c13] at H
     have c13b0 : decide (0 < (rd l2 a1)) = true := decide_eq_true c13
     clear c13
     simp only [Option.some.injEq, Prod.mk.injEq] at H
     obtain ⟨rfl, rfl⟩ := H
     go_enter Tryd.func39, Tryd.ntmps39
     go_wp2_with (first | ((with_reducible refine gate_dst (N := 3) rfl ?_); refine boxE (N := 3) (cs := #[.int .i64 a0_0, .int .i64 a0_1, .slice A0_2 l0_2.length c0_2]) (t := 40) ?_; intro gb101 hg w14 hbox hb; have n0_ := Aside0.mk (Kd.R_below (rch HO2) hb); have n1_ := Aside0.mk (Kept.below (S := (fun k_ => P2_ k_)) (by repeat (first | (with_reducible first | exact HK.out | apply Kept.alloc | apply Kept.drewN | apply Kept.drew) | exact HK.out)) hb); have n2_ := Aside0.mk (below_step (bel HB) hb); have n3_ := Aside0.mk (hbox); have n4_ := Aside0.mk ((by rw [hg]; exact (by first | exact HK.out.1 | exact (show Kept w _ (fun k_ => P2_ k_) from by repeat (first | (with_reducible first | exact HK.out | apply Kept.alloc | apply Kept.drewN | apply Kept.drew) | exact HK.out)).1) : w.heap.size ≤ gb101)); have n5_ := Aside0.mk ((by rw [hg]; exact (below_size (bel HB)) : w0.heap.size ≤ gb101)); clear HO2; clear HK; clear HB; have HO2 := n0_; have HK := n1_; have HB := n2_; have BK101 := n3_; have GW101 := n4_; have GE101 := n5_; clear n0_ n1_ n2_ n3_ n4_ n5_; clear hb hbox hg; have hcz15_0 : w14.cell? ⟨gb101, 0, none⟩ = some (.int .i64 a0_0) := (blk_cell BK101.out 0).trans rfl; have hcz15_1 : w14.cell? ⟨gb101, 1, none⟩ = some (.int .i64 a0_1) := (blk_cell BK101.out 1).trans rfl; have hcz15_2 : w14.cell? ⟨gb101, 2, none⟩ = some (.slice A0_2 l0_2.length c0_2) := (blk_cell BK101.out 2).trans rfl; have hfz15_0 := blk_frozen BK101.out 0; have hfz15_1 := blk_frozen BK101.out 1; have hfz15_2 := blk_frozen BK101.out 2) | ((with_reducible refine gate_callee (f := 34) rfl ?_); refine gcall (some 14) Tryd.func34 #[.agg #[.int .i64 a0_0, .int .i64 a0_1, .slice A0_2 l0_2.length c0_2]] rfl ?_; (with_reducible refine (spec_tyBalls.calls k a0_0 a0_1 _ _ l0_2 t102 _ ?side1 ?side2 A4.out).mono ?_); (case side1 => exact Kd.C_kept_now HR0_2.out (by repeat (first | (with_reducible first | exact HK.out | apply Kept.alloc | apply Kept.drewN | apply Kept.drew | refine Kept.setCell ?_ (.inr GW101.out) _) | exact HK.out))); (case side2 => exact HC0_2.out); rintro e w16 ⟨v103, rfl, ho0, hb⟩; refine ⟨_, rfl, ?_⟩; have n0_ := Aside0.mk (Kd.R_elder' (rch HO2) (Kd.R_base ho0) hb); have n1_ := Aside0.mk (Kd.R_lower (Kd.R_new' (Kd.R_newM (M := fun k_ => (P2_ k_ ∨ w.heap.size ≤ k_)) ho0 (by first | exact HK.out.1 | exact (show Kept w _ (fun k_ => P2_ k_) from by repeat (first | (with_reducible first | exact HK.out | apply Kept.alloc | apply Kept.drewN | apply Kept.drew | refine Kept.setCell ?_ (.inr GW101.out) _) | exact HK.out)).1) (fun k_ h_ => .inr h_)) (Kd.R_lt (rch HO2))) (below_size (bel HB))); have n2_ := Aside0.mk (blk_below (g := gb101) (o := .cells #[.int .i64 a0_0, .int .i64 a0_1, .slice A0_2 l0_2.length c0_2] 40 (0, 0)) blc hb); have n3_ := Aside0.mk (Kept.below (S := (fun k_ => P2_ k_)) (by repeat (first | (with_reducible first | exact HK.out | apply Kept.alloc | apply Kept.drewN | apply Kept.drew | refine Kept.setCell ?_ (.inr GW101.out) _) | exact HK.out)) hb); have n4_ := Aside0.mk (below_step (bel HB) hb); clear HO2; clear BK101; clear HK; clear HB; have HO2 := n0_; have HO104 := n1_; have BK101 := n2_; have HK := n3_; have HB := n4_; clear n0_ n1_ n2_ n3_ n4_; (try clear hb); (try clear hb2); (try clear hk); (try clear hi); (try clear ho0); obtain ⟨Ao17, co17, eo17⟩ := Kd.R_slice HO104.out; subst eo17; obtain ⟨Ao18, co18, eo18⟩ := Kd.R_slice HO2.out; subst eo18; have p105 : 0 ≤ (a1 : Int) := of_decide_eq_true (by first | (with_reducible assumption) | assumption); have q105 : a1 < (l2.length : Int) := of_decide_eq_true (by first | (with_reducible assumption) | assumption); obtain ⟨ad105, e105, hx105_0⟩ := Kd.at_int (Kd.R_reads' HO2.out).2.2 a1 p105 q105; cases e105; replace p105 := eq_true p105; replace q105 := eq_true q105; have p106 : 0 ≤ (a1 : Int) := of_decide_eq_true (by first | (with_reducible assumption) | assumption); have q106 : a1 < (l2.length : Int) := of_decide_eq_true (by first | (with_reducible assumption) | assumption); obtain ⟨ad106, e106, hx106_0⟩ := Kd.at_int (Kd.R_reads' HO2.out).2.2 a1 p106 q106; obtain rfl : ad105 = ad106 := (by injection e106); replace p106 := eq_true p106; replace q106 := eq_true q106))
     go_ret
     exact ⟨by first | rfl | (simp [errW_none, errW_some] <;> rfl) | (simp only [← hji5]; first | rfl | (simp [errW_none, errW_some] <;> rfl)) | (simp [*, errW_none, errW_some] <;> rfl), by (with_reducible repeat (first | apply Kd.R_alloc | apply Kd.R_drewN | apply Kd.R_drew)); exact Kd.R_mono HO2.out (fun _ hk => hk.1), by repeat (first | (with_reducible first | exact HB.out | apply below_alloc | apply pw_below_drewN | apply below_drew1 | refine below_set ?_ GE101.out) | exact HB.out), by repeat (first | (with_reducible first | exact HK.out | apply Kept.alloc | apply Kept.drewN | apply Kept.drew | refine Kept.setCell ?_ (.inr GW101.out) _) | exact HK.out)⟩
    ·rw [if_neg c13] at H
     have c13b0 : decide (0 < (rd l2 a1)) = false := decide_eq_false c13
     clear c13
     replace H := Option.bind_eq_some_iff.mp H
     obtain ⟨⟨t107, t108, t109⟩, A190, H⟩ := H
     replace H : (spec_buGoes.l0 k a1 l2 t102 t102 (t102.length : Int) 0 a0_0 a0_1 l0_2 t107 t108 t109) = some (r1, r2) := H
     have A19 := Aside0.mk A190
     clear A190
     have H' := Aside0.mk H
     clear H
     go_enter Tryd.func39, Tryd.ntmps39
     go_wp2_with (first | ((with_reducible refine gate_dst (N := 3) rfl ?_); refine boxE (N := 3) (cs := #[.int .i64 a0_0, .int .i64 a0_1, .slice A0_2 l0_2.length c0_2]) (t := 40) ?_; intro gb101 hg w20 hbox hb; have n0_ := Aside0.mk (Kd.R_below (rch HO2) hb); have n1_ := Aside0.mk (Kept.below (S := (fun k_ => P2_ k_)) (by repeat (first | (with_reducible first | exact HK.out | apply Kept.alloc | apply Kept.drewN | apply Kept.drew) | exact HK.out)) hb); have n2_ := Aside0.mk (below_step (bel HB) hb); have n3_ := Aside0.mk (hbox); have n4_ := Aside0.mk ((by rw [hg]; exact (by first | exact HK.out.1 | exact (show Kept w _ (fun k_ => P2_ k_) from by repeat (first | (with_reducible first | exact HK.out | apply Kept.alloc | apply Kept.drewN | apply Kept.drew) | exact HK.out)).1) : w.heap.size ≤ gb101)); have n5_ := Aside0.mk ((by rw [hg]; exact (below_size (bel HB)) : w0.heap.size ≤ gb101)); clear HO2; clear HK; clear HB; have HO2 := n0_; have HK := n1_; have HB := n2_; have BK101 := n3_; have GW101 := n4_; have GE101 := n5_; clear n0_ n1_ n2_ n3_ n4_ n5_; clear hb hbox hg; have hcz21_0 : w20.cell? ⟨gb101, 0, none⟩ = some (.int .i64 a0_0) := (blk_cell BK101.out 0).trans rfl; have hcz21_1 : w20.cell? ⟨gb101, 1, none⟩ = some (.int .i64 a0_1) := (blk_cell BK101.out 1).trans rfl; have hcz21_2 : w20.cell? ⟨gb101, 2, none⟩ = some (.slice A0_2 l0_2.length c0_2) := (blk_cell BK101.out 2).trans rfl; have hfz21_0 := blk_frozen BK101.out 0; have hfz21_1 := blk_frozen BK101.out 1; have hfz21_2 := blk_frozen BK101.out 2) | ((with_reducible refine gate_callee (f := 34) rfl ?_); refine gcall (some 14) Tryd.func34 #[.agg #[.int .i64 a0_0, .int .i64 a0_1, .slice A0_2 l0_2.length c0_2]] rfl ?_; (with_reducible refine (spec_tyBalls.calls k a0_0 a0_1 _ _ l0_2 t102 _ ?side1 ?side2 A4.out).mono ?_); (case side1 => exact Kd.C_kept_now HR0_2.out (by repeat (first | (with_reducible first | exact HK.out | apply Kept.alloc | apply Kept.drewN | apply Kept.drew | refine Kept.setCell ?_ (.inr GW101.out) _) | exact HK.out))); (case side2 => exact HC0_2.out); rintro e w22 ⟨v103, rfl, ho0, hb⟩; refine ⟨_, rfl, ?_⟩; have n0_ := Aside0.mk (Kd.R_elder' (rch HO2) (Kd.R_base ho0) hb); have n1_ := Aside0.mk (Kd.R_lower (Kd.R_new' (Kd.R_newM (M := fun k_ => (P2_ k_ ∨ w.heap.size ≤ k_)) ho0 (by first | exact HK.out.1 | exact (show Kept w _ (fun k_ => P2_ k_) from by repeat (first | (with_reducible first | exact HK.out | apply Kept.alloc | apply Kept.drewN | apply Kept.drew | refine Kept.setCell ?_ (.inr GW101.out) _) | exact HK.out)).1) (fun k_ h_ => .inr h_)) (Kd.R_lt (rch HO2))) (below_size (bel HB))); have n2_ := Aside0.mk (blk_below (g := gb101) (o := .cells #[.int .i64 a0_0, .int .i64 a0_1, .slice A0_2 l0_2.length c0_2] 40 (0, 0)) blc hb); have n3_ := Aside0.mk (Kept.below (S := (fun k_ => P2_ k_)) (by repeat (first | (with_reducible first | exact HK.out | apply Kept.alloc | apply Kept.drewN | apply Kept.drew | refine Kept.setCell ?_ (.inr GW101.out) _) | exact HK.out)) hb); have n4_ := Aside0.mk (below_step (bel HB) hb); clear HO2; clear BK101; clear HK; clear HB; have HO2 := n0_; have HO104 := n1_; have BK101 := n2_; have HK := n3_; have HB := n4_; clear n0_ n1_ n2_ n3_ n4_; (try clear hb); (try clear hb2); (try clear hk); (try clear hi); (try clear ho0); obtain ⟨Ao23, co23, eo23⟩ := Kd.R_slice HO104.out; subst eo23; obtain ⟨Ao24, co24, eo24⟩ := Kd.R_slice HO2.out; subst eo24; have p105 : 0 ≤ (a1 : Int) := of_decide_eq_true (by first | (with_reducible assumption) | assumption); have q105 : a1 < (l2.length : Int) := of_decide_eq_true (by first | (with_reducible assumption) | assumption); obtain ⟨ad105, e105, hx105_0⟩ := Kd.at_int (Kd.R_reads' HO2.out).2.2 a1 p105 q105; cases e105; replace p105 := eq_true p105; replace q105 := eq_true q105; have hcz25_0 : w22.cell? ⟨gb101, 0, none⟩ = some (.int .i64 a0_0) := (blk_cell BK101.out 0).trans rfl; have hcz25_1 : w22.cell? ⟨gb101, 1, none⟩ = some (.int .i64 a0_1) := (blk_cell BK101.out 1).trans rfl; have hcz25_2 : w22.cell? ⟨gb101, 2, none⟩ = some (.slice A0_2 l0_2.length c0_2) := (blk_cell BK101.out 2).trans rfl; have hfz25_0 := blk_frozen BK101.out 0; have hfz25_1 := blk_frozen BK101.out 1; have hfz25_2 := blk_frozen BK101.out 2) | ((with_reducible refine gate_callee (f := 37) rfl ?_); refine gcall (some 35) Tryd.func37 #[.int .i64 a0_0, .int .i64 a0_1] rfl ?_; (with_reducible refine (spec_tyEmpty.calls k a0_0 a0_1 t107 t108 t109 _ A19.out).mono ?_); rintro e w26 ⟨v110, rfl, ho0, hb⟩; refine ⟨_, rfl, ?_⟩; have n0_ := Aside0.mk (Kd.R_below (rch HO2) hb); have n1_ := Aside0.mk (Kd.R_below (rch HO104) hb); have n2_ := Aside0.mk (Kd.R_lower (Kd.R_newM (M := fun k_ => (P2_ k_ ∨ w.heap.size ≤ k_)) ho0 (by first | exact HK.out.1 | exact (show Kept w _ (fun k_ => P2_ k_) from by repeat (first | (with_reducible first | exact HK.out | apply Kept.alloc | apply Kept.drewN | apply Kept.drew | refine Kept.setCell ?_ (.inr GW101.out) _) | exact HK.out)).1) (fun k_ h_ => .inr h_)) (below_size (bel HB))); have n3_ := Aside0.mk (blk_below (g := gb101) (o := .cells #[.int .i64 a0_0, .int .i64 a0_1, .slice A0_2 l0_2.length c0_2] 40 (0, 0)) blc hb); have n4_ := Aside0.mk (Kept.below (S := (fun k_ => P2_ k_)) (by repeat (first | (with_reducible first | exact HK.out | apply Kept.alloc | apply Kept.drewN | apply Kept.drew | refine Kept.setCell ?_ (.inr GW101.out) _) | exact HK.out)) hb); have n5_ := Aside0.mk (below_step (bel HB) hb); clear HO2; clear HO104; clear BK101; clear HK; clear HB; have HO2 := n0_; have HO104 := n1_; have HO111 := n2_; have BK101 := n3_; have HK := n4_; have HB := n5_; clear n0_ n1_ n2_ n3_ n4_ n5_; (try clear hb); (try clear hb2); (try clear hk); (try clear hi); (try clear ho0)) | ((with_reducible refine gate_dst (N := 8) rfl ?_); refine boxE (N := 8) (cs := #[.int .i64 0, .int .i64 0, .slice none 0 0]) (t := 40) ?_; intro gb112 hg w27 hbox hb; have n0_ := Aside0.mk (Kd.R_below (rch HO2) hb); have n1_ := Aside0.mk (Kd.R_below (rch HO104) hb); have n2_ := Aside0.mk (Kd.R_below (rch HO111) hb); have n3_ := Aside0.mk (blk_below (g := gb101) (o := .cells #[.int .i64 a0_0, .int .i64 a0_1, .slice A0_2 l0_2.length c0_2] 40 (0, 0)) blc hb); have n4_ := Aside0.mk (Kept.below (S := (fun k_ => P2_ k_)) (by repeat (first | (with_reducible first | exact HK.out | apply Kept.alloc | apply Kept.drewN | apply Kept.drew | refine Kept.setCell ?_ (.inr GW101.out) _) | exact HK.out)) hb); have n5_ := Aside0.mk (below_step (bel HB) hb); have n6_ := Aside0.mk (hbox); have n7_ := Aside0.mk ((by rw [hg]; exact (by first | exact HK.out.1 | exact (show Kept w _ (fun k_ => P2_ k_) from by repeat (first | (with_reducible first | exact HK.out | apply Kept.alloc | apply Kept.drewN | apply Kept.drew | refine Kept.setCell ?_ (.inr GW101.out) _) | exact HK.out)).1) : w.heap.size ≤ gb112)); have n8_ := Aside0.mk ((by rw [hg]; exact (below_size (bel HB)) : w0.heap.size ≤ gb112)); have n9_ := Aside0.mk ((by rw [hg]; exact Nat.ne_of_lt (blk_lt (g := gb101) (o := .cells #[.int .i64 a0_0, .int .i64 a0_1, .slice A0_2 l0_2.length c0_2] 40 (0, 0)) blc) : gb101 ≠ gb112)); have n10_ := Aside0.mk ((by rw [hg]; exact Nat.ne_of_gt (blk_lt (g := gb101) (o := .cells #[.int .i64 a0_0, .int .i64 a0_1, .slice A0_2 l0_2.length c0_2] 40 (0, 0)) blc) : gb112 ≠ gb101)); clear HO2; clear HO104; clear HO111; clear BK101; clear HK; clear HB; have HO2 := n0_; have HO104 := n1_; have HO111 := n2_; have BK101 := n3_; have HK := n4_; have HB := n5_; have BK112 := n6_; have GW112 := n7_; have GE112 := n8_; have NB101_112 := n9_; have NB112_101 := n10_; clear n0_ n1_ n2_ n3_ n4_ n5_ n6_ n7_ n8_ n9_ n10_; clear hb hbox hg; have hnb28 := NB112_101.out; have hnc28 := NB101_112.out; have hcz29_0 : w27.cell? ⟨gb112, 0, none⟩ = some (.int .i64 0) := (blk_cell BK112.out 0).trans rfl; have hcz29_1 : w27.cell? ⟨gb112, 1, none⟩ = some (.int .i64 0) := (blk_cell BK112.out 1).trans rfl; have hcz29_2 : w27.cell? ⟨gb112, 2, none⟩ = some (.slice none 0 0) := (blk_cell BK112.out 2).trans rfl; have hfz29_0 := blk_frozen BK112.out 0; have hfz29_1 := blk_frozen BK112.out 1; have hfz29_2 := blk_frozen BK112.out 2; obtain ⟨Ao30, co30, eo30⟩ := Kd.R_slice HO111.out; subst eo30))
     go_loopg [38] k (fun kq v38 w' => ∃ (x38_1 : Int) (x113002_1 : List Int) (u113002 : Value), v38 = .int .i64 x38_1 ∧ Aside0 (spec_buGoes.l0 kq a1 l2 t102 t102 (t102.length : Int) x38_1 a0_0 a0_1 l0_2 t107 t108 x113002_1 = some (r1, r2)) ∧ Aside0 (kq ≤ k) ∧ Aside0 (Kd.R (Kd.int .i64) 3 w' w0.heap.size (fun k_ => (P2_ k_ ∨ w.heap.size ≤ k_) ∧ some k_ ≠ ((.slice Ao23 t102.length co23) : Value).ownBlock ∧ some k_ ≠ ((.slice Ao23 t102.length co23) : Value).ownBlock) (.slice (some ad105) l2.length co24) l2) ∧ Aside0 (Kd.R (Kd.int .i64) 3 w' w0.heap.size (fun k_ => (P2_ k_ ∨ w.heap.size ≤ k_) ∧ some k_ ≠ ((.slice (some ad105) l2.length co24) : Value).ownBlock) (.slice Ao23 t102.length co23) t102) ∧ Aside0 (Kd.R (Kd.int .i64) 3 w' w0.heap.size (fun k_ => (P2_ k_ ∨ w.heap.size ≤ k_) ∧ some k_ ≠ ((.slice (some ad105) l2.length co24) : Value).ownBlock) (.slice Ao23 t102.length co23) t102) ∧ Aside0 (Kd.R (Kd.int .u8) 5 w' w0.heap.size (fun k_ => (P2_ k_ ∨ w.heap.size ≤ k_)) u113002 x113002_1) ∧ Aside0 (w'.heap[gb101]? = some (.cells #[.int .i64 a0_0, .int .i64 a0_1, (.slice A0_2 l0_2.length c0_2)] 40 (0, 0))) ∧ Aside0 (w'.heap[gb112]? = some (.cells #[.int .i64 t107, .int .i64 t108, u113002] 40 (0, 0))) ∧ Aside0 (Kept w w' (fun k_ => P2_ k_)) ∧ Aside0 (Below w0.heap.size w0 w'))
     case atStart => exact ⟨(0), (t109), (.slice Ao30 t109.length co30), (by first | rfl | (simp; done) | (simp [*]; done)), H', ⟨Nat.le_refl _⟩, ⟨by (with_reducible repeat (first | apply Kd.R_alloc | apply Kd.R_drewN | apply Kd.R_drew)); exact Kd.R_mono (Kd.R_far (p := ⟨gb112, 2, none⟩) (Kd.R_far (p := ⟨gb112, 1, none⟩) (Kd.R_far (p := ⟨gb112, 0, none⟩) (Kd.R_types HO2.out BK112.out (by decide)) (fun _ hk => hk.2) (.int .i64 t107)) (fun _ hk => hk.2) (.int .i64 t108)) (fun _ hk => hk.2) (.slice Ao30 t109.length co30)) (fun _ hk => ⟨hk.1.1, ⟨hk.1.2, hk.1.2⟩⟩)⟩, ⟨by (with_reducible repeat (first | apply Kd.R_alloc | apply Kd.R_drewN | apply Kd.R_drew)); exact Kd.R_mono (Kd.R_far (p := ⟨gb112, 2, none⟩) (Kd.R_far (p := ⟨gb112, 1, none⟩) (Kd.R_far (p := ⟨gb112, 0, none⟩) (Kd.R_types HO104.out BK112.out (by decide)) (fun _ hk => hk.2) (.int .i64 t107)) (fun _ hk => hk.2) (.int .i64 t108)) (fun _ hk => hk.2) (.slice Ao30 t109.length co30)) (fun _ hk => ⟨hk.1.1.1, hk.1.2⟩)⟩, ⟨by (with_reducible repeat (first | apply Kd.R_alloc | apply Kd.R_drewN | apply Kd.R_drew)); exact Kd.R_mono (Kd.R_far (p := ⟨gb112, 2, none⟩) (Kd.R_far (p := ⟨gb112, 1, none⟩) (Kd.R_far (p := ⟨gb112, 0, none⟩) (Kd.R_types HO104.out BK112.out (by decide)) (fun _ hk => hk.2) (.int .i64 t107)) (fun _ hk => hk.2) (.int .i64 t108)) (fun _ hk => hk.2) (.slice Ao30 t109.length co30)) (fun _ hk => ⟨hk.1.1.1, hk.1.2⟩)⟩, ⟨by (with_reducible repeat (first | apply Kd.R_alloc | apply Kd.R_drewN | apply Kd.R_drew)); exact Kd.R_mono (Kd.R_far (p := ⟨gb112, 2, none⟩) (Kd.R_far (p := ⟨gb112, 1, none⟩) (Kd.R_far (p := ⟨gb112, 0, none⟩) (Kd.R_types HO111.out BK112.out (by decide)) (fun _ hk => hk.2) (.int .i64 t107)) (fun _ hk => hk.2) (.int .i64 t108)) (fun _ hk => hk.2) (.slice Ao30 t109.length co30)) (fun _ hk => hk.1.1)⟩, ⟨by (with_reducible repeat (first | refine blk_drewN ?_ _ | refine blk_drew ?_ | refine blk_alloc ?_ _)); refine blk_far ?_ NB101_112.out _; (with_reducible repeat (first | refine blk_drewN ?_ _ | refine blk_drew ?_ | refine blk_alloc ?_ _)); refine blk_far ?_ NB101_112.out _; (with_reducible repeat (first | refine blk_drewN ?_ _ | refine blk_drew ?_ | refine blk_alloc ?_ _)); refine blk_far ?_ NB101_112.out _; exact blc⟩, ⟨by (with_reducible repeat (first | refine blk_drewN ?_ _ | refine blk_drew ?_ | refine blk_alloc ?_ _)); refine blk_put (cs := #[.int .i64 t107, .int .i64 t108, .slice none 0 0]) ?_ 2 _ rfl; (with_reducible repeat (first | refine blk_drewN ?_ _ | refine blk_drew ?_ | refine blk_alloc ?_ _)); refine blk_put (cs := #[.int .i64 t107, .int .i64 0, .slice none 0 0]) ?_ 1 _ rfl; (with_reducible repeat (first | refine blk_drewN ?_ _ | refine blk_drew ?_ | refine blk_alloc ?_ _)); refine blk_put (cs := #[.int .i64 0, .int .i64 0, .slice none 0 0]) ?_ 0 _ rfl; exact blc⟩, ⟨by repeat (first | (with_reducible first | exact HK.out | apply Kept.alloc | apply Kept.drewN | apply Kept.drew | refine Kept.setCell ?_ (.inr GW101.out) _ | refine Kept.setCell ?_ (.inr GW112.out) _) | exact HK.out)⟩, ⟨bel HB⟩⟩
     case round =>
      clear H'
      try clear c1
      try clear p1
      try clear q1
      try clear hx1
      try clear c2
      try clear p2
      try clear c3
      try clear c6
      try clear c6b0
      try clear c6b0y
      try clear c6b1
      try clear p6
      try clear p10
      try clear q10
      try clear hx10
      try clear c11
      try clear c11b0
      try clear c11b0y
      try clear c12
      try clear c12b0
      try clear c12b0y
      try clear c13
      try clear c13b0
      try clear c13b0y
      try clear c28
      try clear hcz15_0
      try clear hcz15_1
      try clear hcz15_2
      try clear hcz21_0
      try clear hcz21_1
      try clear hcz21_2
      try clear hcz25_0
      try clear hcz25_1
      try clear hcz25_2
      try clear hcz29_0
      try clear hcz29_1
      try clear hcz29_2
      try clear hcz8_0
      try clear hcz8_1
      try clear hcz8_2
      try clear hfz15_0
      try clear hfz15_1
      try clear hfz15_2
      try clear hfz21_0
      try clear hfz21_1
      try clear hfz21_2
      try clear hfz25_0
      try clear hfz25_1
      try clear hfz25_2
      try clear hfz29_0
      try clear hfz29_1
      try clear hfz29_2
      try clear hfz8_0
      try clear hfz8_1
      try clear hfz8_2
      try clear hx105_0
      try clear hx106_0
      try clear p105
      try clear p106
      try clear q105
      try clear q106
      obtain ⟨x38_1, x113002_1, u113002, rfl, HA, HK1, HO_2, HO_7, HO_36, HO_113002, BK101, BK112, HK, HB⟩ := hrel
      cases gk with
      | zero => exact absurd HA.out (by simp [spec_buGoes.l0])
      | succ k1 =>
       have H := HA.out
       clear HA
       simp only [spec_buGoes.l0] at H
       by_cases c31 : x38_1 < (t102.length : Int)
       ·rw [if_pos c31] at H
        have c31b0 : decide (x38_1 < (t102.length : Int)) = true := decide_eq_true c31
        clear c31
        by_cases c32 : 0 ≤ x38_1
        ·rw [if_pos c32] at H
         have c32b0 : decide (0 ≤ x38_1) = true := decide_eq_true c32
         clear c32
         by_cases c33 : x38_1 < (t102.length : Int)
         ·rw [if_pos c33] at H
          have c33b0 : decide (x38_1 < (t102.length : Int)) = true := decide_eq_true c33
          clear c33
          have c34b0 := eq_true (of_decide_eq_true (by first | (with_reducible assumption) | assumption) : 0 ≤ x38_1)
          obtain ⟨ji35, hji35⟩ : ∃ j_ : Int, (shr .i64 a1 x38_1) = j_ := ⟨_, rfl⟩
          replace H : (if (Int.tmod (ji35) 2) = 1 then (if 0 ≤ (rd t102 x38_1) then (if (rd t102 x38_1) < (x113002_1.length : Int) then (spec_buGoes.l0 k1 a1 l2 t102 t102 (t102.length : Int) (wrap64 (x38_1 + 1)) a0_0 a0_1 l0_2 t107 t108 (x113002_1.set ((rd t102 x38_1) : Int).toNat 111)) else (none)) else (none)) else (spec_buGoes.l0 k1 a1 l2 t102 t102 (t102.length : Int) (wrap64 (x38_1 + 1)) a0_0 a0_1 l0_2 t107 t108 x113002_1)) = some (r1, r2) := by first | (rw [hji35] at H; exact H) | (simp only [hji35] at H ⊢; exact H)
          have hji35_ : (a1 / 2 ^ min x38_1.toNat 64) = ji35 := hji35
          have hji35z : x38_1 ≤ 64 → (a1 / 2 ^ x38_1.toNat) = ji35 := shr_small hji35
          by_cases c36 : (Int.tmod (ji35) 2) = 1
          ·rw [if_pos c36] at H
           have c36b0 : ((Int.tmod (ji35) 2) == 1) = true := beq_iff_eq.mpr c36
           have c36b1 : ((Int.tmod (ji35) 2) != 1) = false := bne_eq_false_iff_eq.mpr c36
           clear c36
           by_cases c37 : 0 ≤ (rd t102 x38_1)
           ·rw [if_pos c37] at H
            have c37b0 : decide (0 ≤ (rd t102 x38_1)) = true := decide_eq_true c37
            clear c37
            by_cases c38 : (rd t102 x38_1) < (x113002_1.length : Int)
            ·rw [if_pos c38] at H
             have c38b0 : decide ((rd t102 x38_1) < (x113002_1.length : Int)) = true := decide_eq_true c38
             clear c38
             obtain ⟨y114, hy114⟩ : ∃ y_ : List Int, y_ = (x113002_1.set ((rd t102 x38_1) : Int).toNat 111) := ⟨_, rfl⟩
             replace H : (spec_buGoes.l0 k1 a1 l2 t102 t102 (t102.length : Int) (wrap64 (x38_1 + 1)) a0_0 a0_1 l0_2 t107 t108 y114) = some (r1, r2) := rH hy114 H
             have Ny114 := Aside0.mk hy114
             clear hy114
             have H' := Aside0.mk H
             clear H
             have p113 : 0 ≤ (x38_1 : Int) := of_decide_eq_true (by first | (with_reducible assumption) | assumption)
             have q113 : x38_1 < (t102.length : Int) := of_decide_eq_true (by first | (with_reducible assumption) | assumption)
             obtain ⟨ad113, e113, hx113_0⟩ := Kd.at_int (Kd.R_reads' HO_36.out).2.2 x38_1 p113 q113
             cases e113
             replace p113 := eq_true p113
             replace q113 := eq_true q113
             have hnb40 := NB112_101.out
             have hnc40 := NB101_112.out
             have hcz41_0 : wr.cell? ⟨gb112, 0, none⟩ = some (.int .i64 t107) := (blk_cell BK112.out 0).trans rfl
             have hcz41_1 : wr.cell? ⟨gb112, 1, none⟩ = some (.int .i64 t108) := (blk_cell BK112.out 1).trans rfl
             have hcz41_2 : wr.cell? ⟨gb112, 2, none⟩ = some (u113002) := (blk_cell BK112.out 2).trans rfl
             have hfz41_0 := blk_frozen BK112.out 0
             have hfz41_1 := blk_frozen BK112.out 1
             have hfz41_2 := blk_frozen BK112.out 2
             have p39 : 0 ≤ ((rd t102 x38_1) : Int) := of_decide_eq_true (by first | (with_reducible assumption) | assumption)
             have q39 : ((rd t102 x38_1) : Int) < ((x113002_1.length : Int) : Int) := of_decide_eq_true (by first | (with_reducible assumption) | assumption)
             obtain ⟨go39, co39, eo39, gb39, gl39, cl39, HG39⟩ := Kd.R_form HO_113002.out (by omega)
             (first | cases eo39 | (injection eo39 with ea_ en_ ec_; (first | subst ea_ | (injection ea_ with ea_; subst ea_)); subst ec_; clear en_))
             have GB39 := Aside0.mk gb39
             have GG39 := Aside0.mk HG39
             clear gb39 gl39 HG39
             have HMgo39 := Aside0.mk (show (P2_ go39 ∨ w.heap.size ≤ go39) from (HO_113002.out.1 _ rfl))
             obtain ⟨hx39_0, hf39_0⟩ := Kd.R_celln 0 HO_113002.out ((rd t102 x38_1) : Int) p39 q39
             replace p39 := eq_true p39
             replace q39 := eq_true q39
             have HP42 := Kd.R_putg HO_113002.out ((rd t102 x38_1) : Int) 111
             go_wp2_with (first | ((with_reducible refine gate_store (t := 5) (p := 51) rfl ?_); refine store_event (t := 5) (p := 51) (v := ?vo_w43) (w1 := (wr.setCell ⟨go39, ((rd t102 x38_1) : Int).toNat, none⟩ (.int .u8 111))) ?hg ?ho ?hn ?hr ?_; (case ho => rfl); (case hg => rfl); (case hn => rfl); (case hr => first | (go_simp; done) | (go_simp; rfl)); intro w43 hw; have hg : wr.grownBy w43 (some go39) := (by rw [hw]; exact HP42.2); have hp_ : Kd.R (Kd.int .u8) 5 w43 w0.heap.size (fun k_ => (P2_ k_ ∨ w.heap.size ≤ k_)) (.slice (some ⟨go39, 0, none⟩) x113002_1.length co39) y114 := (by rw [hw, Ny114.out]; (first | exact HP42.1 | exact R_any HP42.1)); clear HP42; have n0_ := Aside0.mk (Kd.R_over' (v := (.slice (some ⟨go39, 0, none⟩) x113002_1.length co39)) (rch HO_2) (Kd.R_typed HO_113002.out) (by decide) hg); have n1_ := Aside0.mk (Kd.R_over' (v := (.slice (some ⟨go39, 0, none⟩) x113002_1.length co39)) (rch HO_7) (Kd.R_typed HO_113002.out) (by decide) hg); have n2_ := Aside0.mk (Kd.R_over' (v := (.slice (some ⟨go39, 0, none⟩) x113002_1.length co39)) (rch HO_36) (Kd.R_typed HO_113002.out) (by decide) hg); have n3_ := Aside0.mk (hp_); have n4_ := Aside0.mk (blk_grown (g := gb101) (o := .cells #[.int .i64 a0_0, .int .i64 a0_1, .slice A0_2 l0_2.length c0_2] 40 (0, 0)) blc hg (Kd.R_ne HO_113002.out BK101.out (by decide))); have n5_ := Aside0.mk (blk_grown (g := gb112) (o := .cells #[.int .i64 t107, .int .i64 t108, .slice (some ⟨go39, 0, none⟩) x113002_1.length co39] 40 (0, 0)) blc hg (Kd.R_ne HO_113002.out BK112.out (by decide))); have n6_ := Aside0.mk ((by rw [hw]; exact below_set (HB.out) GB39.out : Below w0.heap.size w0 w43)); have n7_ := Aside0.mk (Kept.of_grown (S := (fun k_ => P2_ k_)) hg (by repeat (first | (with_reducible first | exact HK.out | apply Kept.alloc | apply Kept.drewN | apply Kept.drew | refine Kept.setCell ?_ (.inr GW101.out) _ | refine Kept.setCell ?_ (.inr GW112.out) _) | exact HK.out)) (fun k_ e_ => (HO_113002.out.1 k_ e_))); clear HO_2; clear HO_7; clear HO_36; clear HO_113002; clear BK101; clear BK112; clear HB; clear HK; have HO_2 := n0_; have HO_7 := n1_; have HO_36 := n2_; have HO_113002 := n3_; have BK101 := n4_; have BK112 := n5_; have HB := n6_; have HK := n7_; clear n0_ n1_ n2_ n3_ n4_ n5_ n6_ n7_; clear hg hw hp_))
             go_roundg k1
             case measure => have := HK1.out; omega
             case rel => exact ⟨(wrap64 (x38_1 + 1)), (y114), (.slice (some ⟨go39, 0, none⟩) x113002_1.length co39), (by first | rfl | (simp; done) | (simp [*]; done)), H', ⟨by have := HK1.out; omega⟩, ⟨rch HO_2⟩, ⟨rch HO_7⟩, ⟨rch HO_36⟩, ⟨rch HO_113002⟩, ⟨blc⟩, ⟨blc⟩, ⟨by repeat (first | (with_reducible first | exact HK.out | apply Kept.alloc | apply Kept.drewN | apply Kept.drew | refine Kept.setCell ?_ (.inr GW101.out) _ | refine Kept.setCell ?_ (.inr GW112.out) _) | exact HK.out)⟩, ⟨bel HB⟩⟩
            ·rw [if_neg c38] at H
             exact absurd H (by simp)
           ·rw [if_neg c37] at H
            exact absurd H (by simp)
          ·rw [if_neg c36] at H
           have c36b0 : ((Int.tmod (ji35) 2) == 1) = false := beq_eq_false_iff_ne.mpr c36
           have c36b1 : ((Int.tmod (ji35) 2) != 1) = true := bne_iff_ne.mpr c36
           have H' := Aside0.mk H
           clear H
           have p113 : 0 ≤ (x38_1 : Int) := of_decide_eq_true (by first | (with_reducible assumption) | assumption)
           have q113 : x38_1 < (t102.length : Int) := of_decide_eq_true (by first | (with_reducible assumption) | assumption)
           obtain ⟨ad113, e113, hx113_0⟩ := Kd.at_int (Kd.R_reads' HO_36.out).2.2 x38_1 p113 q113
           cases e113
           replace p113 := eq_true p113
           replace q113 := eq_true q113
           go_wp2
           go_roundg k1
           case measure => have := HK1.out; omega
           case rel => exact ⟨(wrap64 (x38_1 + 1)), (x113002_1), (u113002), (by first | rfl | (simp; done) | (simp [*]; done)), H', ⟨by have := HK1.out; omega⟩, ⟨rch HO_2⟩, ⟨rch HO_7⟩, ⟨rch HO_36⟩, ⟨rch HO_113002⟩, ⟨blc⟩, ⟨blc⟩, ⟨by repeat (first | (with_reducible first | exact HK.out | apply Kept.alloc | apply Kept.drewN | apply Kept.drew | refine Kept.setCell ?_ (.inr GW101.out) _ | refine Kept.setCell ?_ (.inr GW112.out) _) | exact HK.out)⟩, ⟨bel HB⟩⟩
         ·rw [if_neg c33] at H
          exact absurd H (by simp)
        ·rw [if_neg c32] at H
         exact absurd H (by simp)
       ·rw [if_neg c31] at H
        have c31b0 : decide (x38_1 < (t102.length : Int)) = false := decide_eq_false c31
        clear c31
        by_cases c44 : 0 ≤ a1
        ·rw [if_pos c44] at H
         have c44b0 : decide (0 ≤ a1) = true := decide_eq_true c44
         clear c44
         by_cases c45 : a1 < (l2.length : Int)
         ·rw [if_pos c45] at H
          have c45b0 : decide (a1 < (l2.length : Int)) = true := decide_eq_true c45
          clear c45
          obtain ⟨y115, hy115⟩ : ∃ y_ : List Int, y_ = (l2.set (a1 : Int).toNat 1) := ⟨_, rfl⟩
          replace H : (spec_buGoes.l1 k1 a1 y115 t102 (t102.length : Int) 0 a0_0 a0_1 l0_2 t107 t108 x113002_1) = some (r1, r2) := rH hy115 H
          have Ny115 := Aside0.mk hy115
          clear hy115
          have H' := Aside0.mk H
          clear H
          have p46 : 0 ≤ (a1 : Int) := of_decide_eq_true (by first | (with_reducible assumption) | assumption)
          have q46 : (a1 : Int) < ((l2.length : Int) : Int) := of_decide_eq_true (by first | (with_reducible assumption) | assumption)
          obtain ⟨go46, co46, eo46, gb46, gl46, cl46, HG46⟩ := Kd.R_form HO_2.out (by omega)
          (first | cases eo46 | (injection eo46 with ea_ en_ ec_; (first | subst ea_ | (injection ea_ with ea_; subst ea_)); subst ec_; clear en_))
          have GB46 := Aside0.mk gb46
          have GG46 := Aside0.mk HG46
          clear gb46 gl46 HG46
          have HMgo46 := Aside0.mk (show (P2_ go46 ∨ w.heap.size ≤ go46) from (HO_2.out.1 _ rfl).1)
          (first | simp only [add_plain] at hx105_0 | skip)
          (first | simp only [add_plain] at hx106_0 | skip)
          obtain ⟨hx46_0, hf46_0⟩ := Kd.R_celln 0 HO_2.out (a1 : Int) p46 q46
          replace p46 := eq_true p46
          replace q46 := eq_true q46
          have HP47 := Kd.R_putg HO_2.out (a1 : Int) 1
          go_wp2_with (first | ((with_reducible refine gate_store (t := 3) (p := 55) rfl ?_); refine store_event (t := 3) (p := 55) (v := ?vo_w48) (w1 := (wr.setCell ⟨go46, (a1 : Int).toNat, none⟩ (.int .i64 1))) ?hg ?ho ?hn ?hr ?_; (case ho => rfl); (case hg => rfl); (case hn => rfl); (case hr => first | (go_simp; done) | (go_simp; rfl)); intro w48 hw; have hg : wr.grownBy w48 (some go46) := (by rw [hw]; exact HP47.2); have hp_ : Kd.R (Kd.int .i64) 3 w48 w0.heap.size (fun k_ => (P2_ k_ ∨ w.heap.size ≤ k_) ∧ some k_ ≠ (.slice Ao23 t102.length co23 : Value).ownBlock ∧ some k_ ≠ (.slice Ao23 t102.length co23 : Value).ownBlock) (.slice (some ⟨go46, 0, none⟩) l2.length co24) y115 := (by rw [hw, Ny115.out]; (first | exact HP47.1 | exact R_any HP47.1)); clear HP47; have n0_ := Aside0.mk (hp_); have n1_ := Aside0.mk (Kd.R_after (v := (.slice (some ⟨go46, 0, none⟩) l2.length co24)) (v1 := (.slice (some ⟨go46, 0, none⟩) l2.length co24)) (ok := (fun k_ => (P2_ k_ ∨ w.heap.size ≤ k_))) (rch HO_7) hg (.inl rfl)); have n2_ := Aside0.mk (Kd.R_after (v := (.slice (some ⟨go46, 0, none⟩) l2.length co24)) (v1 := (.slice (some ⟨go46, 0, none⟩) l2.length co24)) (ok := (fun k_ => (P2_ k_ ∨ w.heap.size ≤ k_))) (rch HO_36) hg (.inl rfl)); have n3_ := Aside0.mk (Kd.R_over' (v := (.slice (some ⟨go46, 0, none⟩) l2.length co24)) (rch HO_113002) (Kd.R_typed HO_2.out) (by decide) hg); have n4_ := Aside0.mk (blk_grown (g := gb101) (o := .cells #[.int .i64 a0_0, .int .i64 a0_1, .slice A0_2 l0_2.length c0_2] 40 (0, 0)) blc hg (Kd.R_ne HO_2.out BK101.out (by decide))); have n5_ := Aside0.mk (blk_grown (g := gb112) (o := .cells #[.int .i64 t107, .int .i64 t108, u113002] 40 (0, 0)) blc hg (Kd.R_ne HO_2.out BK112.out (by decide))); have n6_ := Aside0.mk ((by rw [hw]; exact below_set (HB.out) GB46.out : Below w0.heap.size w0 w48)); have n7_ := Aside0.mk (Kept.of_grown (S := (fun k_ => P2_ k_)) hg (by repeat (first | (with_reducible first | exact HK.out | apply Kept.alloc | apply Kept.drewN | apply Kept.drew | refine Kept.setCell ?_ (.inr GW101.out) _ | refine Kept.setCell ?_ (.inr GW112.out) _) | exact HK.out)) (fun k_ e_ => (HO_2.out.1 k_ e_).1)); clear HO_2; clear HO_7; clear HO_36; clear HO_113002; clear BK101; clear BK112; clear HB; clear HK; have HO_2 := n0_; have HO_7 := n1_; have HO_36 := n2_; have HO_113002 := n3_; have BK101 := n4_; have BK112 := n5_; have HB := n6_; have HK := n7_; clear n0_ n1_ n2_ n3_ n4_ n5_ n6_ n7_; clear hg hw hp_))
          go_loopg [58] k1 (fun kq v58 w' => ∃ (x2_2 : List Int) (x58_2 : Int), v58 = .int .i64 x58_2 ∧ Aside0 (spec_buGoes.l1 kq a1 x2_2 t102 (t102.length : Int) x58_2 a0_0 a0_1 l0_2 t107 t108 x113002_1 = some (r1, r2)) ∧ Aside0 (kq ≤ k1) ∧ Aside0 (Kd.R (Kd.int .i64) 3 w' w0.heap.size (fun k_ => (P2_ k_ ∨ w.heap.size ≤ k_) ∧ some k_ ≠ ((.slice Ao23 t102.length co23) : Value).ownBlock) (.slice (some ⟨go46, 0, none⟩) l2.length co24) x2_2) ∧ Aside0 (Kd.R (Kd.int .i64) 3 w' w0.heap.size (fun k_ => (P2_ k_ ∨ w.heap.size ≤ k_) ∧ some k_ ≠ ((.slice (some ⟨go46, 0, none⟩) l2.length co24) : Value).ownBlock) (.slice Ao23 t102.length co23) t102) ∧ Aside0 (Kd.R (Kd.int .u8) 5 w' w0.heap.size (fun k_ => (P2_ k_ ∨ w.heap.size ≤ k_)) u113002 x113002_1) ∧ Aside0 (w'.heap[gb101]? = some (.cells #[.int .i64 a0_0, .int .i64 a0_1, (.slice A0_2 l0_2.length c0_2)] 40 (0, 0))) ∧ Aside0 (w'.heap[gb112]? = some (.cells #[.int .i64 t107, .int .i64 t108, u113002] 40 (0, 0))) ∧ Aside0 (Kept w w' (fun k_ => P2_ k_)) ∧ Aside0 (Below w0.heap.size w0 w'))
          case atStart => exact ⟨(y115), (0), (by first | rfl | (simp; done) | (simp [*]; done)), H', ⟨Nat.le_refl _⟩, ⟨by (with_reducible repeat (first | apply Kd.R_alloc | apply Kd.R_drewN | apply Kd.R_drew)); exact Kd.R_mono HO_2.out (fun _ hk => ⟨hk.1, hk.2.1⟩)⟩, ⟨rch HO_7⟩, ⟨rch HO_113002⟩, ⟨blc⟩, ⟨blc⟩, ⟨by repeat (first | (with_reducible first | exact HK.out | apply Kept.alloc | apply Kept.drewN | apply Kept.drew | refine Kept.setCell ?_ (.inr GW101.out) _ | refine Kept.setCell ?_ (.inr GW112.out) _) | exact HK.out)⟩, ⟨bel HB⟩⟩
          case round =>
           clear H'
           try clear c1
           try clear p1
           try clear q1
           try clear hx1
           try clear c2
           try clear p2
           try clear c3
           try clear p3
           try clear q3
           try clear hx3
           try clear hf3
           try clear c4
           try clear p4
           try clear q4
           try clear hx4
           try clear hf4
           try clear c6
           try clear c6b0
           try clear c6b0y
           try clear c6b1
           try clear p6
           try clear p10
           try clear q10
           try clear hx10
           try clear c11
           try clear c11b0
           try clear c11b0y
           try clear p11
           try clear q11
           try clear hx11
           try clear c12
           try clear c12b0
           try clear c12b0y
           try clear c13
           try clear c13b0
           try clear c13b0y
           try clear c28
           try clear c31
           try clear c31b0
           try clear c31b0y
           try clear c32
           try clear c32b0
           try clear c32b0y
           try clear c33
           try clear c33b0
           try clear c33b0y
           try clear c34
           try clear c34b0
           try clear c34b0y
           try clear c36
           try clear c36b0
           try clear c36b0y
           try clear c36b1
           try clear c37
           try clear c37b0
           try clear c37b0y
           try clear c38
           try clear c38b0
           try clear c38b0y
           try clear c39
           try clear p39
           try clear q39
           try clear hx39
           try clear hf39
           try clear c40
           try clear c44
           try clear c44b0
           try clear c44b0y
           try clear c45
           try clear c45b0
           try clear c45b0y
           try clear p46
           try clear q46
           try clear hx46
           try clear hf46
           try clear hcz15_0
           try clear hcz15_1
           try clear hcz15_2
           try clear hcz21_0
           try clear hcz21_1
           try clear hcz21_2
           try clear hcz25_0
           try clear hcz25_1
           try clear hcz25_2
           try clear hcz29_0
           try clear hcz29_1
           try clear hcz29_2
           try clear hcz41_0
           try clear hcz41_1
           try clear hcz41_2
           try clear hcz8_0
           try clear hcz8_1
           try clear hcz8_2
           try clear hfz15_0
           try clear hfz15_1
           try clear hfz15_2
           try clear hfz21_0
           try clear hfz21_1
           try clear hfz21_2
           try clear hfz25_0
           try clear hfz25_1
           try clear hfz25_2
           try clear hfz29_0
           try clear hfz29_1
           try clear hfz29_2
           try clear hfz41_0
           try clear hfz41_1
           try clear hfz41_2
           try clear hfz8_0
           try clear hfz8_1
           try clear hfz8_2
           try clear hx105_0
           try clear hx106_0
           try clear hx113_0
           try clear hx39_0
           try clear hx46_0
           try clear p1
           try clear p10
           try clear p105
           try clear p106
           try clear p113
           try clear p2
           try clear p39
           try clear p46
           try clear p6
           try clear q1
           try clear q10
           try clear q105
           try clear q106
           try clear q113
           try clear q39
           try clear q46
           obtain ⟨x2_2, x58_2, rfl, HA, HK2, HO_2, HO_56, HO_113002, BK101, BK112, HK, HB⟩ := hrel
           have hl2_2 := (Kd.R_reads' HO_2.out).1
           rw [hl2_2] at HO_2
           (try simp only [hl2_2])
           (try simp only [hl2_2] at BK101)
           (try simp only [hl2_2] at BK112)
           (try simp only [hl2_2] at HO_56)
           (try simp only [hl2_2] at HO_113002)
           cases gk with
           | zero => exact absurd HA.out (by simp [spec_buGoes.l1])
           | succ k2 =>
            have H := HA.out
            clear HA
            simp only [spec_buGoes.l1] at H
            by_cases c49 : x58_2 < (t102.length : Int)
            ·rw [if_pos c49] at H
             have c49b0 : decide (x58_2 < (t102.length : Int)) = true := decide_eq_true c49
             clear c49
             by_cases c50 : 0 ≤ x58_2
             ·rw [if_pos c50] at H
              have c50b0 : decide (0 ≤ x58_2) = true := decide_eq_true c50
              clear c50
              by_cases c51 : x58_2 < (t102.length : Int)
              ·rw [if_pos c51] at H
               have c51b0 : decide (x58_2 < (t102.length : Int)) = true := decide_eq_true c51
               clear c51
               have c52b0 := eq_true (of_decide_eq_true (by first | (with_reducible assumption) | assumption) : 0 ≤ x58_2)
               obtain ⟨ji53, hji53⟩ : ∃ j_ : Int, (shr .i64 a1 x58_2) = j_ := ⟨_, rfl⟩
               replace H : (if (Int.tmod (ji53) 2) = 0 then ((spec_buWay.f k2 t107 t108 x113002_1 (rd t102 x58_2)).bind fun t117 => (if t117 ≥ 0 then ((spec_buGoes.f k2 a0_0 a0_1 l0_2 (wrap64 (a1 + (shl .i64 1 x58_2))) x2_2).bind fun bt118 => (if bt118.1 = true then (if 0 ≤ a1 then (if a1 < (x2_2.length : Int) then (some (true, (bt118.2.set (a1 : Int).toNat 2))) else (none)) else (none)) else (spec_buGoes.l1 k2 a1 bt118.2 t102 (t102.length : Int) (wrap64 (x58_2 + 1)) a0_0 a0_1 l0_2 t107 t108 x113002_1))) else (spec_buGoes.l1 k2 a1 x2_2 t102 (t102.length : Int) (wrap64 (x58_2 + 1)) a0_0 a0_1 l0_2 t107 t108 x113002_1))) else (spec_buGoes.l1 k2 a1 x2_2 t102 (t102.length : Int) (wrap64 (x58_2 + 1)) a0_0 a0_1 l0_2 t107 t108 x113002_1)) = some (r1, r2) := by first | (rw [hji53] at H; exact H) | (simp only [hji53] at H ⊢; exact H)
               have hji53_ : (a1 / 2 ^ min x58_2.toNat 64) = ji53 := hji53
               have hji53z : x58_2 ≤ 64 → (a1 / 2 ^ x58_2.toNat) = ji53 := shr_small hji53
               by_cases c54 : (Int.tmod (ji53) 2) = 0
               ·rw [if_pos c54] at H
                have c54b0 : ((Int.tmod (ji53) 2) == 0) = true := beq_iff_eq.mpr c54
                have c54b1 : ((Int.tmod (ji53) 2) != 0) = false := bne_eq_false_iff_eq.mpr c54
                clear c54
                replace H := Option.bind_eq_some_iff.mp H
                obtain ⟨t117, A550, H⟩ := H
                replace H : (if t117 ≥ 0 then ((spec_buGoes.f k2 a0_0 a0_1 l0_2 (wrap64 (a1 + (shl .i64 1 x58_2))) x2_2).bind fun bt118 => (if bt118.1 = true then (if 0 ≤ a1 then (if a1 < (x2_2.length : Int) then (some (true, (bt118.2.set (a1 : Int).toNat 2))) else (none)) else (none)) else (spec_buGoes.l1 k2 a1 bt118.2 t102 (t102.length : Int) (wrap64 (x58_2 + 1)) a0_0 a0_1 l0_2 t107 t108 x113002_1))) else (spec_buGoes.l1 k2 a1 x2_2 t102 (t102.length : Int) (wrap64 (x58_2 + 1)) a0_0 a0_1 l0_2 t107 t108 x113002_1)) = some (r1, r2) := H
                have A55 := Aside0.mk A550
                clear A550
                by_cases c56 : t117 ≥ 0
                ·rw [if_pos c56] at H
                 have c56b0 : decide (0 ≤ t117) = true := decide_eq_true c56
                 clear c56
                 have c57b0 := eq_true (of_decide_eq_true (by first | (with_reducible assumption) | assumption) : 0 ≤ x58_2)
                 obtain ⟨ji58, hji58⟩ : ∃ j_ : Int, (shl .i64 1 x58_2) = j_ := ⟨_, rfl⟩
                 replace H : ((spec_buGoes.f k2 a0_0 a0_1 l0_2 (wrap64 (a1 + (ji58))) x2_2).bind fun bt118 => (if bt118.1 = true then (if 0 ≤ a1 then (if a1 < (x2_2.length : Int) then (some (true, (bt118.2.set (a1 : Int).toNat 2))) else (none)) else (none)) else (spec_buGoes.l1 k2 a1 bt118.2 t102 (t102.length : Int) (wrap64 (x58_2 + 1)) a0_0 a0_1 l0_2 t107 t108 x113002_1))) = some (r1, r2) := by first | (rw [hji58] at H; exact H) | (simp only [hji58] at H ⊢; exact H)
                 (try rw [hji58] at A55)
                 have hji58_ : (IntKind.i64.wrap (1 * 2 ^ min x58_2.toNat 64)) = ji58 := hji58
                 have hji58z : x58_2 ≤ 64 → (IntKind.i64.wrap (1 * 2 ^ x58_2.toNat)) = ji58 := shl_small hji58
                 have hji58u : (IntKind.i64.wrap (2 ^ min x58_2.toNat 64)) = ji58 := by have h_ := hji58_; rw [Int.one_mul] at h_; exact h_
                 have hji58v : x58_2 ≤ 64 → (IntKind.i64.wrap (2 ^ x58_2.toNat)) = ji58 := fun hle_ => by have h_ := hji58z hle_; rw [Int.one_mul] at h_; exact h_
                 have hji58y : (wrap64 (1 * 2 ^ min x58_2.toNat 64)) = ji58 := (i64_w _).symm.trans hji58_
                 have hji58x : x58_2 ≤ 64 → (wrap64 (1 * 2 ^ x58_2.toNat)) = ji58 := fun h_ => (i64_w _).symm.trans (hji58z h_)
                 replace H := Option.bind_eq_some_iff.mp H
                 obtain ⟨⟨t118, t119⟩, A590, H⟩ := H
                 replace H : (if t118 = true then (if 0 ≤ a1 then (if a1 < (x2_2.length : Int) then (some (true, (t119.set (a1 : Int).toNat 2))) else (none)) else (none)) else (spec_buGoes.l1 k2 a1 t119 t102 (t102.length : Int) (wrap64 (x58_2 + 1)) a0_0 a0_1 l0_2 t107 t108 x113002_1)) = some (r1, r2) := H
                 have A59 := Aside0.mk A590
                 clear A590
                 by_cases c60 : t118 = true
                 ·subst c60
                  have H1 : (if 0 ≤ a1 then (if a1 < (x2_2.length : Int) then (some (true, (t119.set (a1 : Int).toNat 2))) else (none)) else (none)) = some (r1, r2) := by rw [if_pos rfl] at H; exact H
                  clear H
                  have H := H1
                  clear H1
                  by_cases c61 : 0 ≤ a1
                  ·rw [if_pos c61] at H
                   have c61b0 : decide (0 ≤ a1) = true := decide_eq_true c61
                   clear c61
                   by_cases c62 : a1 < (x2_2.length : Int)
                   ·rw [if_pos c62] at H
                    have c62b0 : decide (a1 < (x2_2.length : Int)) = true := decide_eq_true c62
                    clear c62
                    obtain ⟨y120, hy120⟩ : ∃ y_ : List Int, y_ = (t119.set (a1 : Int).toNat 2) := ⟨_, rfl⟩
                    replace H : (some (true, y120)) = some (r1, r2) := rH hy120 H
                    have Ny120 := Aside0.mk hy120
                    clear hy120
                    simp only [Option.some.injEq, Prod.mk.injEq] at H
                    obtain ⟨rfl, rfl⟩ := H
                    have p116 : 0 ≤ (x58_2 : Int) := of_decide_eq_true (by first | (with_reducible assumption) | assumption)
                    have q116 : x58_2 < (t102.length : Int) := of_decide_eq_true (by first | (with_reducible assumption) | assumption)
                    obtain ⟨ad116, e116, hx116_0⟩ := Kd.at_int (Kd.R_reads' HO_56.out).2.2 x58_2 p116 q116
                    cases e116
                    replace p116 := eq_true p116
                    replace q116 := eq_true q116
                    try go_wp2
                    have n0_ := Aside0.mk (Kd.R_drew HO_2.out)
                    have n1_ := Aside0.mk (Kd.R_drew HO_56.out)
                    have n2_ := Aside0.mk (Kd.R_drew HO_113002.out)
                    have n3_ := Aside0.mk (blk_drew BK101.out)
                    have n4_ := Aside0.mk (blk_drew BK112.out)
                    have n5_ := Aside0.mk (Kept.drew HK.out)
                    have n6_ := Aside0.mk (below_drew1 HB.out)
                    clear HO_2
                    clear HO_56
                    clear HO_113002
                    clear BK101
                    clear BK112
                    clear HK
                    clear HB
                    have HO_2 := n0_
                    have HO_56 := n1_
                    have HO_113002 := n2_
                    have BK101 := n3_
                    have BK112 := n4_
                    have HK := n5_
                    have HB := n6_
                    clear n0_ n1_ n2_ n3_ n4_ n5_ n6_
                    obtain ⟨Ao65, co65, eo65⟩ := Kd.R_slice HO_113002.out
                    (first | subst eo65 | (injection eo65 with f1_ f2_ f3_; have f4_ := f1_.symm; have f5_ := f3_.symm; clear f1_ f2_ f3_; subst f4_; subst f5_))
                    refine start_ (n := 20) (S := fun w' => w'.cell? ⟨gb112, 0, none⟩ = some (.int .i64 t107) ∧ w'.cell? ⟨gb112, 1, none⟩ = some (.int .i64 t108) ∧ w'.cell? ⟨gb112, 2, none⟩ = some (.slice Ao65 x113002_1.length co65) ∧ w'.cell? ⟨gb101, 0, none⟩ = some (.int .i64 a0_0) ∧ w'.cell? ⟨gb101, 1, none⟩ = some (.int .i64 a0_1) ∧ w'.cell? ⟨gb101, 2, none⟩ = some (.slice A0_2 l0_2.length c0_2)) (ds := []) #[false, false, false, false, false, false, false, false, false, false, false, false, false, false, false, false, false, false, false, false] (by kernel_rfl) rfl rfl ⟨(blk_cell BK112.out 0).trans rfl, (blk_cell BK112.out 1).trans rfl, (blk_cell BK112.out 2).trans rfl, (blk_cell BK101.out 0).trans rfl, (blk_cell BK101.out 1).trans rfl, (blk_cell BK101.out 2).trans rfl⟩ (fun hHeld => ?_); refine with_tabW spec_buGoes.tab17 spec_buGoes.bits17 (fun HT_ HW_ => ?_)
                    generalize wr.drew = w64 at HO_2 HO_56 HO_113002 BK101 BK112 HK HB hHeld ⊢
                    refine pure_ (i := 0) (N := some 63) (v := ?_) (a' := ?_) #[true, false, false, false, false, false, false, false, false, false, false, false, false, false, false, false, false, false, false, false] rfl rfl (any_of HT_.out (by kernel_rfl)) (fun _ _ _ h => h) (Or.inl ⟨by rfl, ?_⟩) ?_ ?_
                    rotate_left
                    ·intro w'
                     go_simp
                     with_reducible rfl
                    rotate_left
                    ·simp only [Act.put, List.setIfInBounds_toArray, List.set_cons_zero, List.set_cons_succ, i64_w, i32_w]
                     rfl
                    refine pure_ (i := 1) (N := some 64) (v := ?_) (a' := ?_) #[true, true, false, false, false, false, false, false, false, false, false, false, false, false, false, false, false, false, false, false] rfl rfl (any_of HT_.out (by kernel_rfl)) (fun _ _ _ h => h) (Or.inl ⟨by rfl, ?_⟩) ?_ ?_
                    rotate_left
                    ·intro w'
                     go_simp
                     with_reducible rfl
                    rotate_left
                    ·simp only [Act.put, List.setIfInBounds_toArray, List.set_cons_zero, List.set_cons_succ, i64_w, i32_w]
                     rfl
                    refine pure_ (i := 2) (N := some 65) (v := ?_) (a' := ?_) #[true, true, true, false, false, false, false, false, false, false, false, false, false, false, false, false, false, false, false, false] rfl rfl (any_of HT_.out (by kernel_rfl)) (fun _ _ _ h => h) (Or.inl ⟨by rfl, ?_⟩) ?_ ?_
                    rotate_left
                    ·intro w'
                     go_simp
                     with_reducible rfl
                    rotate_left
                    ·simp only [Act.put, List.setIfInBounds_toArray, List.set_cons_zero, List.set_cons_succ, i64_w, i32_w]
                     rfl
                    refine pure_ (i := 3) (N := some 66) (v := ?_) (a' := ?_) #[true, true, true, true, false, false, false, false, false, false, false, false, false, false, false, false, false, false, false, false] rfl rfl (any_of HT_.out (by kernel_rfl)) (fun _ _ _ h => h) (Or.inl ⟨by rfl, ?_⟩) ?_ ?_
                    rotate_left
                    ·intro w'
                     go_simp
                     with_reducible rfl
                    rotate_left
                    ·simp only [Act.put, List.setIfInBounds_toArray, List.set_cons_zero, List.set_cons_succ, i64_w, i32_w]
                     rfl
                    refine pure_ (i := 4) (N := some 67) (v := ?_) (a' := ?_) #[true, true, true, true, true, false, false, false, false, false, false, false, false, false, false, false, false, false, false, false] rfl rfl (any_of HT_.out (by kernel_rfl)) (fun _ _ _ h => h) (Or.inl ⟨by rfl, ?_⟩) ?_ ?_
                    rotate_left
                    ·intro w'
                     go_simp
                     with_reducible rfl
                    rotate_left
                    ·simp only [Act.put, List.setIfInBounds_toArray, List.set_cons_zero, List.set_cons_succ, i64_w, i32_w]
                     rfl
                    refine pure_ (i := 5) (N := some 68) (v := ?_) (a' := ?_) #[true, true, true, true, true, true, false, false, false, false, false, false, false, false, false, false, false, false, false, false] rfl rfl (any_of HT_.out (by kernel_rfl)) (fun _ _ _ h => h) (Or.inl ⟨by rfl, ?_⟩) ?_ ?_
                    rotate_left
                    ·intro w'
                     go_simp
                     with_reducible rfl
                    rotate_left
                    ·simp only [Act.put, List.setIfInBounds_toArray, List.set_cons_zero, List.set_cons_succ, i64_w, i32_w]
                     rfl
                    refine pure_ (i := 7) (N := some 70) (v := ?_) (a' := ?_) #[true, true, true, true, true, true, false, true, false, false, false, false, false, false, false, false, false, false, false, false] rfl rfl (any_of HT_.out (by kernel_rfl)) (fun _ _ _ h => h) (Or.inl ⟨by rfl, ?_⟩) ?_ ?_
                    rotate_left
                    ·intro w'
                     go_simp
                     with_reducible rfl
                    rotate_left
                    ·simp only [Act.put, List.setIfInBounds_toArray, List.set_cons_zero, List.set_cons_succ, i64_w, i32_w]
                     rfl
                    refine take_ (i := 6) (N := some 69) (v := ?_) (a' := ?_) #[true, true, true, true, true, true, true, true, false, false, false, false, false, false, false, false, false, false, false, false] rfl rfl (take_ofW HT_.out HW_.out (by kernel_rfl)) (fun _ _ _ h => h) (Or.inl ⟨by rfl, ?_⟩) hHeld ?_ ?_
                    rotate_left
                    ·rintro w' ⟨s0, s1, s2, s3, s4, s5⟩
                     go_simp
                     with_reducible rfl
                    rotate_left
                    ·simp only [Act.put, List.setIfInBounds_toArray, List.set_cons_zero, List.set_cons_succ, i64_w, i32_w]
                     rfl
                    refine one_ (i := 8) (N := some 71) #[true, true, true, true, true, true, true, true, true, false, false, false, false, false, false, false, false, false, false, false] rfl rfl (one_of HT_.out (by kernel_rfl)) (by decide) (fun K hK => ?_)
                    refine goes_ Tryd.func38 (by kernel_rfl) rfl #[.agg #[.int .i64 t107, .int .i64 t108, .slice Ao65 x113002_1.length co65], .int .i64 (rd t102 x58_2)] (by rfl) rfl rfl (by (try simp only [List.map_toArray, List.map_cons, List.map_nil]); first | done | rfl | (simp only [List.length_drop, List.length_take]; rfl)) ?_
                    with_reducible refine (spec_buWay.calls k2 t107 t108 _ _ x113002_1 (rd t102 x58_2) t117 _ ?side1 ?side2 A55.out).mono ?_
                    (case side1 => repeat (first | exact (Kd.R_reads' HO_113002.out).2.2 | (with_reducible refine Kd.C_alloc ?_ _) | (with_reducible refine Kd.C_drewN ?_ _) | (with_reducible refine Kd.C_drew ?_)))
                    (case side2 => exact (Kd.R_reads' HO_113002.out).2.1)
                    rintro e w66 ⟨rfl, hb⟩
                    refine ⟨_, rfl, ?_⟩
                    have n0_ := Aside0.mk (Kd.R_below (rch HO_2) hb)
                    have n1_ := Aside0.mk (Kd.R_below (rch HO_56) hb)
                    have n2_ := Aside0.mk (Kd.R_below (rch HO_113002) hb)
                    have n3_ := Aside0.mk (blk_below (g := gb101) (o := .cells #[.int .i64 a0_0, .int .i64 a0_1, .slice A0_2 l0_2.length c0_2] 40 (0, 0)) blc hb)
                    have n4_ := Aside0.mk (blk_below (g := gb112) (o := .cells #[.int .i64 t107, .int .i64 t108, .slice Ao65 x113002_1.length co65] 40 (0, 0)) blc hb)
                    have n5_ := Aside0.mk (Kept.below (S := (fun k_ => P2_ k_)) (by repeat (first | (with_reducible first | exact HK.out | apply Kept.alloc | apply Kept.drewN | apply Kept.drew | refine Kept.setCell ?_ (.inr GW101.out) _ | refine Kept.setCell ?_ (.inr GW112.out) _) | exact HK.out)) hb)
                    have n6_ := Aside0.mk (below_step (bel HB) hb)
                    clear HO_2
                    clear HO_56
                    clear HO_113002
                    clear BK101
                    clear BK112
                    clear HK
                    clear HB
                    have HO_2 := n0_
                    have HO_56 := n1_
                    have HO_113002 := n2_
                    have BK101 := n3_
                    have BK112 := n4_
                    have HK := n5_
                    have HB := n6_
                    clear n0_ n1_ n2_ n3_ n4_ n5_ n6_
                    (try clear hb)
                    (try clear hb2)
                    (try clear hk)
                    (try clear hi)
                    refine hK.out _ _ ⟨(blk_cell BK112.out 0).trans rfl, (blk_cell BK112.out 1).trans rfl, (blk_cell BK112.out 2).trans rfl, (blk_cell BK101.out 0).trans rfl, (blk_cell BK101.out 1).trans rfl, (blk_cell BK101.out 2).trans rfl⟩ (fun hHeld => ?_)
                    clear hK K
                    refine norm_ (a' := ?_) ?_ ?_
                    rotate_left
                    ·show Act.put _ (some 71) _ = _
                     simp only [Act.put, List.setIfInBounds_toArray, List.set_cons_zero, List.set_cons_succ, i64_w, i32_w]
                     rfl
                    refine pure_ (i := 9) (N := some 72) (v := ?_) (a' := ?_) #[true, true, true, true, true, true, true, true, true, true, false, false, false, false, false, false, false, false, false, false] rfl rfl (any_of HT_.out (by kernel_rfl)) (fun _ _ _ h => h) (Or.inl ⟨by rfl, ?_⟩) ?_ ?_
                    rotate_left
                    ·intro w'
                     go_simp
                     with_reducible rfl
                    rotate_left
                    ·simp only [Act.put, List.setIfInBounds_toArray, List.set_cons_zero, List.set_cons_succ, i64_w, i32_w]
                     rfl
                    refine pure_ (i := 10) (N := some 73) (v := ?_) (a' := ?_) #[true, true, true, true, true, true, true, true, true, true, true, false, false, false, false, false, false, false, false, false] rfl rfl (any_of HT_.out (by kernel_rfl)) (fun _ _ _ h => h) (Or.inl ⟨by rfl, ?_⟩) ?_ ?_
                    rotate_left
                    ·intro w'
                     go_simp
                     with_reducible rfl
                    rotate_left
                    ·simp only [Act.put, List.setIfInBounds_toArray, List.set_cons_zero, List.set_cons_succ, i64_w, i32_w]
                     rfl
                    refine pure_ (i := 11) (N := some 74) (v := ?_) (a' := ?_) #[true, true, true, true, true, true, true, true, true, true, true, true, false, false, false, false, false, false, false, false] rfl rfl (any_of HT_.out (by kernel_rfl)) (fun _ _ _ h => h) (Or.inl ⟨by rfl, ?_⟩) ?_ ?_
                    rotate_left
                    ·intro w'
                     go_simp
                     with_reducible rfl
                    rotate_left
                    ·simp only [Act.put, List.setIfInBounds_toArray, List.set_cons_zero, List.set_cons_succ, i64_w, i32_w]
                     rfl
                    refine pure_ (i := 13) (N := some 76) (v := ?_) (a' := ?_) #[true, true, true, true, true, true, true, true, true, true, true, true, false, true, false, false, false, false, false, false] rfl rfl (any_of HT_.out (by kernel_rfl)) (fun _ _ _ h => h) (Or.inl ⟨by rfl, ?_⟩) ?_ ?_
                    rotate_left
                    ·intro w'
                     go_simp
                     with_reducible rfl
                    rotate_left
                    ·simp only [Act.put, List.setIfInBounds_toArray, List.set_cons_zero, List.set_cons_succ, i64_w, i32_w]
                     rfl
                    refine pure_ (i := 14) (N := some 77) (v := ?_) (a' := ?_) #[true, true, true, true, true, true, true, true, true, true, true, true, false, true, true, false, false, false, false, false] rfl rfl (any_of HT_.out (by kernel_rfl)) (fun _ _ _ h => h) (Or.inl ⟨by rfl, ?_⟩) ?_ ?_
                    rotate_left
                    ·intro w'
                     go_simp
                     with_reducible rfl
                    rotate_left
                    ·simp only [Act.put, List.setIfInBounds_toArray, List.set_cons_zero, List.set_cons_succ, i64_w, i32_w]
                     rfl
                    refine pure_ (i := 15) (N := some 78) (v := ?_) (a' := ?_) #[true, true, true, true, true, true, true, true, true, true, true, true, false, true, true, true, false, false, false, false] rfl rfl (any_of HT_.out (by kernel_rfl)) (fun _ _ _ h => h) (Or.inl ⟨by rfl, ?_⟩) ?_ ?_
                    rotate_left
                    ·intro w'
                     go_simp
                     with_reducible rfl
                    rotate_left
                    ·simp only [Act.put, List.setIfInBounds_toArray, List.set_cons_zero, List.set_cons_succ, i64_w, i32_w]
                     rfl
                    refine pure_ (i := 16) (N := some 79) (v := ?_) (a' := ?_) #[true, true, true, true, true, true, true, true, true, true, true, true, false, true, true, true, true, false, false, false] rfl rfl (any_of HT_.out (by kernel_rfl)) (fun _ _ _ h => h) (Or.inl ⟨by rfl, ?_⟩) ?_ ?_
                    rotate_left
                    ·intro w'
                     go_simp
                     with_reducible rfl
                    rotate_left
                    ·simp only [Act.put, List.setIfInBounds_toArray, List.set_cons_zero, List.set_cons_succ, i64_w, i32_w]
                     rfl
                    refine pure_ (i := 17) (N := some 80) (v := ?_) (a' := ?_) #[true, true, true, true, true, true, true, true, true, true, true, true, false, true, true, true, true, true, false, false] rfl rfl (any_of HT_.out (by kernel_rfl)) (fun _ _ _ h => h) (Or.inl ⟨by rfl, ?_⟩) ?_ ?_
                    rotate_left
                    ·intro w'
                     go_simp
                     with_reducible rfl
                    rotate_left
                    ·simp only [Act.put, List.setIfInBounds_toArray, List.set_cons_zero, List.set_cons_succ, i64_w, i32_w]
                     rfl
                    refine take_ (i := 12) (N := some 75) (v := ?_) (a' := ?_) #[true, true, true, true, true, true, true, true, true, true, true, true, true, true, true, true, true, true, false, false] rfl rfl (take_ofW HT_.out HW_.out (by kernel_rfl)) (fun _ _ _ h => h) (Or.inl ⟨by rfl, ?_⟩) hHeld ?_ ?_
                    rotate_left
                    ·rintro w' ⟨s0, s1, s2, s3, s4, s5⟩
                     go_simp
                     with_reducible rfl
                    rotate_left
                    ·simp only [Act.put, List.setIfInBounds_toArray, List.set_cons_zero, List.set_cons_succ, i64_w, i32_w]
                     rfl
                    refine one_ (i := 18) (N := some 81) #[true, true, true, true, true, true, true, true, true, true, true, true, true, true, true, true, true, true, true, false] rfl rfl (one_of HT_.out (by kernel_rfl)) (by decide) (fun K hK => ?_)
                    refine goes_ Tryd.func39 (by kernel_rfl) rfl #[.agg #[.int .i64 a0_0, .int .i64 a0_1, .slice A0_2 l0_2.length c0_2], .int .i64 (wrap64 (a1 + (ji58))), .slice (some ⟨go46, 0, none⟩) x2_2.length co24] (by rfl) rfl rfl (by (try simp only [List.map_toArray, List.map_cons, List.map_nil]); first | done | (simp only [hji58]; rfl) | rfl | (simp only [List.length_drop, List.length_take]; rfl)) ?_
                    with_reducible refine (ih k2 (by have := HK1.out; have := HK2.out; omega) a0_0 a0_1 _ _ l0_2 (wrap64 (a1 + (ji58))) (fun k_ => some k_ = (.slice (some ⟨go46, 0, none⟩) x2_2.length co24 : Value).ownBlock) (.slice (some ⟨go46, 0, none⟩) x2_2.length co24) x2_2 true t119 w0 _ ?side1 ?side2 ?side3 ?side4 A59.out).mono ?_
                    (case side1 => repeat (first | (with_reducible first | exact HB.out | apply below_alloc | apply pw_below_drewN | apply below_drew1 | refine below_set ?_ GE101.out | refine below_set ?_ GE112.out) | exact HB.out))
                    (case side2 => exact Kd.C_kept_call HR0_2.out (by repeat (first | (with_reducible first | exact HK.out | apply Kept.alloc | apply Kept.drewN | apply Kept.drew | refine Kept.setCell ?_ (.inr GW101.out) _ | refine Kept.setCell ?_ (.inr GW112.out) _) | exact HK.out)) (fun k_ hs_ => (fun e_ => (HO_2.out.1 k_ e_.symm).1) hs_))
                    (case side3 => exact HC0_2.out)
                    (case side4 => exact Kd.R_tight rfl HO_2.out)
                    rintro e w67 ⟨rfl, hy0, hb, hkp⟩
                    refine ⟨_, rfl, ?_⟩
                    have n0_ := Aside0.mk (Kd.R_reok rfl hy0 (fun k_ e_ => HO_2.out.1 k_ e_))
                    have n1_ := Aside0.mk (Kd.R_mono (ok' := fun k_ => (P2_ k_ ∨ w.heap.size ≤ k_) ∧ some k_ ≠ (.slice (some ⟨go46, 0, none⟩) x2_2.length co24 : Value).ownBlock) (Kd.R_keptB (HO_56.out) hkp (fun k_ hk_ hs_ => (hk_.2) hs_)) (fun k_ hk_ => ⟨hk_.1.1, hk_.1.2⟩))
                    have n2_ := Aside0.mk (Kd.R_mono (ok' := fun k_ => (P2_ k_ ∨ w.heap.size ≤ k_)) (Kd.R_keptB ((Kd.R_apart' HO_113002.out (Kd.R_typed HO_2.out) (by decide))) hkp (fun k_ hk_ hs_ => (hk_.2) hs_)) (fun k_ hk_ => hk_.1.1))
                    have n3_ := Aside0.mk (blk_kept blc hkp (fun hs_ => (fun e_ => (Kd.R_ne HO_2.out BK101.out (by decide)) e_) hs_))
                    have n4_ := Aside0.mk (blk_kept blc hkp (fun hs_ => (fun e_ => (Kd.R_ne HO_2.out BK112.out (by decide)) e_) hs_))
                    have n5_ := Aside0.mk (Kept.then_ (S := (fun k_ => P2_ k_)) (by repeat (first | (with_reducible first | exact HK.out | apply Kept.alloc | apply Kept.drewN | apply Kept.drew | refine Kept.setCell ?_ (.inr GW101.out) _ | refine Kept.setCell ?_ (.inr GW112.out) _) | exact HK.out)) hkp (fun k_ hs_ => (fun e_ => (HO_2.out.1 k_ e_.symm).1) hs_))
                    have n6_ := Aside0.mk (hb)
                    clear HO_2
                    clear HO_56
                    clear HO_113002
                    clear BK101
                    clear BK112
                    clear HK
                    clear HB
                    have HO_2 := n0_
                    have HO_56 := n1_
                    have HO_113002 := n2_
                    have BK101 := n3_
                    have BK112 := n4_
                    have HK := n5_
                    have HB := n6_
                    clear n0_ n1_ n2_ n3_ n4_ n5_ n6_
                    (try clear hb)
                    (try clear hkp)
                    (try clear hy0)
                    refine hK.out _ _ ⟨(blk_cell BK112.out 0).trans rfl, (blk_cell BK112.out 1).trans rfl, (blk_cell BK112.out 2).trans rfl, (blk_cell BK101.out 0).trans rfl, (blk_cell BK101.out 1).trans rfl, (blk_cell BK101.out 2).trans rfl⟩ (fun hHeld => ?_)
                    clear hK K
                    refine norm_ (a' := ?_) ?_ ?_
                    rotate_left
                    ·show Act.put _ (some 81) _ = _
                     simp only [Act.put, List.setIfInBounds_toArray, List.set_cons_zero, List.set_cons_succ, i64_w, i32_w]
                     rfl
                    refine pure_ (i := 19) (N := some 82) (v := ?_) (a' := ?_) #[true, true, true, true, true, true, true, true, true, true, true, true, true, true, true, true, true, true, true, true] rfl rfl (any_of HT_.out (by kernel_rfl)) (fun _ _ _ h => h) (Or.inl ⟨by rfl, ?_⟩) ?_ ?_
                    rotate_left
                    ·intro w'
                     go_simp
                     with_reducible rfl
                    rotate_left
                    ·simp only [Act.put, List.setIfInBounds_toArray, List.set_cons_zero, List.set_cons_succ, i64_w, i32_w]
                     rfl
                    refine done_ (done_of HT_.out (by kernel_rfl)) ?_
                    have p63 : 0 ≤ (a1 : Int) := of_decide_eq_true (by first | (with_reducible assumption) | assumption)
                    have q63 : (a1 : Int) < ((x2_2.length : Int) : Int) := of_decide_eq_true (by first | (with_reducible assumption) | assumption)
                    obtain ⟨hx63_0, hf63_0⟩ := Kd.R_celln 0 HO_2.out (a1 : Int) p63 q63
                    replace p63 := eq_true p63
                    replace q63 := eq_true q63
                    obtain ⟨hy68_, hz68_⟩ := Kd.R_celln 0 HO_2.out (a1 : Int) (of_decide_eq_true (by first | (with_reducible assumption) | assumption)) (of_decide_eq_true (by first | (with_reducible assumption) | assumption))
                    have HP68 := Kd.R_putg HO_2.out (a1 : Int) 2
                    try go_wp2_with (first | ((with_reducible refine gate_store (t := 3) (p := 85) rfl ?_); refine store_event (t := 3) (p := 85) (v := ?vo_w69) (w1 := (w67.setCell ⟨go46, (a1 : Int).toNat, none⟩ (.int .i64 2))) ?hg ?ho ?hn ?hr ?_; (case ho => rfl); (case hg => rfl); (case hn => rfl); (case hr => first | (go_simp; done) | (go_simp; rfl)); intro w69 hw; have hg : w67.grownBy w69 (some go46) := (by rw [hw]; exact HP68.2); have hp_ : Kd.R (Kd.int .i64) 3 w69 w0.heap.size (fun k_ => (P2_ k_ ∨ w.heap.size ≤ k_) ∧ some k_ ≠ (.slice (some ad116) t102.length co23 : Value).ownBlock) (.slice (some ⟨go46, 0, none⟩) x2_2.length co24) y120 := (by rw [hw, Ny120.out]; (first | exact HP68.1 | exact R_any HP68.1)); clear HP68; have n0_ := Aside0.mk (hp_); have n1_ := Aside0.mk (Kd.R_after (v := (.slice (some ⟨go46, 0, none⟩) x2_2.length co24)) (v1 := (.slice (some ⟨go46, 0, none⟩) x2_2.length co24)) (ok := (fun k_ => (P2_ k_ ∨ w.heap.size ≤ k_))) (rch HO_56) hg (.inl rfl)); have n2_ := Aside0.mk (Kd.R_over' (v := (.slice (some ⟨go46, 0, none⟩) x2_2.length co24)) (rch HO_113002) (Kd.R_typed HO_2.out) (by decide) hg); have n3_ := Aside0.mk (blk_grown (g := gb101) (o := .cells #[.int .i64 a0_0, .int .i64 a0_1, .slice A0_2 l0_2.length c0_2] 40 (0, 0)) blc hg (Kd.R_ne HO_2.out BK101.out (by decide))); have n4_ := Aside0.mk (blk_grown (g := gb112) (o := .cells #[.int .i64 t107, .int .i64 t108, .slice Ao65 x113002_1.length co65] 40 (0, 0)) blc hg (Kd.R_ne HO_2.out BK112.out (by decide))); have n5_ := Aside0.mk ((by rw [hw]; exact below_set (HB.out) GB46.out : Below w0.heap.size w0 w69)); have n6_ := Aside0.mk (Kept.of_grown (S := (fun k_ => P2_ k_)) hg (by repeat (first | (with_reducible first | exact HK.out | apply Kept.alloc | apply Kept.drewN | apply Kept.drew | refine Kept.setCell ?_ (.inr GW101.out) _ | refine Kept.setCell ?_ (.inr GW112.out) _) | exact HK.out)) (fun k_ e_ => (HO_2.out.1 k_ e_).1)); clear HO_2; clear HO_56; clear HO_113002; clear BK101; clear BK112; clear HB; clear HK; have HO_2 := n0_; have HO_56 := n1_; have HO_113002 := n2_; have BK101 := n3_; have BK112 := n4_; have HB := n5_; have HK := n6_; clear n0_ n1_ n2_ n3_ n4_ n5_ n6_; clear hg hw hp_))
                    go_ret
                    exact ⟨by first | rfl | (simp [errW_none, errW_some] <;> rfl) | (simp only [← hji5, ← hji53, ← hji58]; first | rfl | (simp [errW_none, errW_some] <;> rfl)) | (simp [*, errW_none, errW_some] <;> rfl), (by first | exact (by (with_reducible repeat (first | apply Kd.R_alloc | apply Kd.R_drewN | apply Kd.R_drew)); exact Kd.R_mono HO_2.out (fun _ hk => hk.1)) | (simp only [hl2_2]; exact (by (with_reducible repeat (first | apply Kd.R_alloc | apply Kd.R_drewN | apply Kd.R_drew)); exact Kd.R_mono HO_2.out (fun _ hk => hk.1)))), by repeat (first | (with_reducible first | exact HB.out | apply below_alloc | apply pw_below_drewN | apply below_drew1 | refine below_set ?_ GE101.out | refine below_set ?_ GE112.out) | exact HB.out), by repeat (first | (with_reducible first | exact HK.out | apply Kept.alloc | apply Kept.drewN | apply Kept.drew | refine Kept.setCell ?_ (.inr GW101.out) _ | refine Kept.setCell ?_ (.inr GW112.out) _) | exact HK.out)⟩
                   ·rw [if_neg c62] at H
                    exact absurd H (by simp)
                  ·rw [if_neg c61] at H
                   exact absurd H (by simp)
                 ·replace c60 := Bool.eq_false_iff.mpr c60
                  subst c60
                  have H1 : (spec_buGoes.l1 k2 a1 t119 t102 (t102.length : Int) (wrap64 (x58_2 + 1)) a0_0 a0_1 l0_2 t107 t108 x113002_1) = some (r1, r2) := by rw [if_neg (show ¬ (false = true) by decide)] at H; exact H
                  clear H
                  have H := H1
                  clear H1
                  have H' := Aside0.mk H
                  clear H
                  have p116 : 0 ≤ (x58_2 : Int) := of_decide_eq_true (by first | (with_reducible assumption) | assumption)
                  have q116 : x58_2 < (t102.length : Int) := of_decide_eq_true (by first | (with_reducible assumption) | assumption)
                  obtain ⟨ad116, e116, hx116_0⟩ := Kd.at_int (Kd.R_reads' HO_56.out).2.2 x58_2 p116 q116
                  cases e116
                  replace p116 := eq_true p116
                  replace q116 := eq_true q116
                  try go_wp2
                  have n0_ := Aside0.mk (Kd.R_drew HO_2.out)
                  have n1_ := Aside0.mk (Kd.R_drew HO_56.out)
                  have n2_ := Aside0.mk (Kd.R_drew HO_113002.out)
                  have n3_ := Aside0.mk (blk_drew BK101.out)
                  have n4_ := Aside0.mk (blk_drew BK112.out)
                  have n5_ := Aside0.mk (Kept.drew HK.out)
                  have n6_ := Aside0.mk (below_drew1 HB.out)
                  clear HO_2
                  clear HO_56
                  clear HO_113002
                  clear BK101
                  clear BK112
                  clear HK
                  clear HB
                  have HO_2 := n0_
                  have HO_56 := n1_
                  have HO_113002 := n2_
                  have BK101 := n3_
                  have BK112 := n4_
                  have HK := n5_
                  have HB := n6_
                  clear n0_ n1_ n2_ n3_ n4_ n5_ n6_
                  obtain ⟨Ao71, co71, eo71⟩ := Kd.R_slice HO_113002.out
                  (first | subst eo71 | (injection eo71 with f1_ f2_ f3_; have f4_ := f1_.symm; have f5_ := f3_.symm; clear f1_ f2_ f3_; subst f4_; subst f5_))
                  refine start_ (n := 20) (S := fun w' => w'.cell? ⟨gb112, 0, none⟩ = some (.int .i64 t107) ∧ w'.cell? ⟨gb112, 1, none⟩ = some (.int .i64 t108) ∧ w'.cell? ⟨gb112, 2, none⟩ = some (.slice Ao71 x113002_1.length co71) ∧ w'.cell? ⟨gb101, 0, none⟩ = some (.int .i64 a0_0) ∧ w'.cell? ⟨gb101, 1, none⟩ = some (.int .i64 a0_1) ∧ w'.cell? ⟨gb101, 2, none⟩ = some (.slice A0_2 l0_2.length c0_2)) (ds := []) #[false, false, false, false, false, false, false, false, false, false, false, false, false, false, false, false, false, false, false, false] (by kernel_rfl) rfl rfl ⟨(blk_cell BK112.out 0).trans rfl, (blk_cell BK112.out 1).trans rfl, (blk_cell BK112.out 2).trans rfl, (blk_cell BK101.out 0).trans rfl, (blk_cell BK101.out 1).trans rfl, (blk_cell BK101.out 2).trans rfl⟩ (fun hHeld => ?_); refine with_tabW spec_buGoes.tab17 spec_buGoes.bits17 (fun HT_ HW_ => ?_)
                  generalize wr.drew = w70 at HO_2 HO_56 HO_113002 BK101 BK112 HK HB hHeld ⊢
                  refine pure_ (i := 0) (N := some 63) (v := ?_) (a' := ?_) #[true, false, false, false, false, false, false, false, false, false, false, false, false, false, false, false, false, false, false, false] rfl rfl (any_of HT_.out (by kernel_rfl)) (fun _ _ _ h => h) (Or.inl ⟨by rfl, ?_⟩) ?_ ?_
                  rotate_left
                  ·intro w'
                   go_simp
                   with_reducible rfl
                  rotate_left
                  ·simp only [Act.put, List.setIfInBounds_toArray, List.set_cons_zero, List.set_cons_succ, i64_w, i32_w]
                   rfl
                  refine pure_ (i := 1) (N := some 64) (v := ?_) (a' := ?_) #[true, true, false, false, false, false, false, false, false, false, false, false, false, false, false, false, false, false, false, false] rfl rfl (any_of HT_.out (by kernel_rfl)) (fun _ _ _ h => h) (Or.inl ⟨by rfl, ?_⟩) ?_ ?_
                  rotate_left
                  ·intro w'
                   go_simp
                   with_reducible rfl
                  rotate_left
                  ·simp only [Act.put, List.setIfInBounds_toArray, List.set_cons_zero, List.set_cons_succ, i64_w, i32_w]
                   rfl
                  refine pure_ (i := 2) (N := some 65) (v := ?_) (a' := ?_) #[true, true, true, false, false, false, false, false, false, false, false, false, false, false, false, false, false, false, false, false] rfl rfl (any_of HT_.out (by kernel_rfl)) (fun _ _ _ h => h) (Or.inl ⟨by rfl, ?_⟩) ?_ ?_
                  rotate_left
                  ·intro w'
                   go_simp
                   with_reducible rfl
                  rotate_left
                  ·simp only [Act.put, List.setIfInBounds_toArray, List.set_cons_zero, List.set_cons_succ, i64_w, i32_w]
                   rfl
                  refine pure_ (i := 3) (N := some 66) (v := ?_) (a' := ?_) #[true, true, true, true, false, false, false, false, false, false, false, false, false, false, false, false, false, false, false, false] rfl rfl (any_of HT_.out (by kernel_rfl)) (fun _ _ _ h => h) (Or.inl ⟨by rfl, ?_⟩) ?_ ?_
                  rotate_left
                  ·intro w'
                   go_simp
                   with_reducible rfl
                  rotate_left
                  ·simp only [Act.put, List.setIfInBounds_toArray, List.set_cons_zero, List.set_cons_succ, i64_w, i32_w]
                   rfl
                  refine pure_ (i := 4) (N := some 67) (v := ?_) (a' := ?_) #[true, true, true, true, true, false, false, false, false, false, false, false, false, false, false, false, false, false, false, false] rfl rfl (any_of HT_.out (by kernel_rfl)) (fun _ _ _ h => h) (Or.inl ⟨by rfl, ?_⟩) ?_ ?_
                  rotate_left
                  ·intro w'
                   go_simp
                   with_reducible rfl
                  rotate_left
                  ·simp only [Act.put, List.setIfInBounds_toArray, List.set_cons_zero, List.set_cons_succ, i64_w, i32_w]
                   rfl
                  refine pure_ (i := 5) (N := some 68) (v := ?_) (a' := ?_) #[true, true, true, true, true, true, false, false, false, false, false, false, false, false, false, false, false, false, false, false] rfl rfl (any_of HT_.out (by kernel_rfl)) (fun _ _ _ h => h) (Or.inl ⟨by rfl, ?_⟩) ?_ ?_
                  rotate_left
                  ·intro w'
                   go_simp
                   with_reducible rfl
                  rotate_left
                  ·simp only [Act.put, List.setIfInBounds_toArray, List.set_cons_zero, List.set_cons_succ, i64_w, i32_w]
                   rfl
                  refine pure_ (i := 7) (N := some 70) (v := ?_) (a' := ?_) #[true, true, true, true, true, true, false, true, false, false, false, false, false, false, false, false, false, false, false, false] rfl rfl (any_of HT_.out (by kernel_rfl)) (fun _ _ _ h => h) (Or.inl ⟨by rfl, ?_⟩) ?_ ?_
                  rotate_left
                  ·intro w'
                   go_simp
                   with_reducible rfl
                  rotate_left
                  ·simp only [Act.put, List.setIfInBounds_toArray, List.set_cons_zero, List.set_cons_succ, i64_w, i32_w]
                   rfl
                  refine take_ (i := 6) (N := some 69) (v := ?_) (a' := ?_) #[true, true, true, true, true, true, true, true, false, false, false, false, false, false, false, false, false, false, false, false] rfl rfl (take_ofW HT_.out HW_.out (by kernel_rfl)) (fun _ _ _ h => h) (Or.inl ⟨by rfl, ?_⟩) hHeld ?_ ?_
                  rotate_left
                  ·rintro w' ⟨s0, s1, s2, s3, s4, s5⟩
                   go_simp
                   with_reducible rfl
                  rotate_left
                  ·simp only [Act.put, List.setIfInBounds_toArray, List.set_cons_zero, List.set_cons_succ, i64_w, i32_w]
                   rfl
                  refine one_ (i := 8) (N := some 71) #[true, true, true, true, true, true, true, true, true, false, false, false, false, false, false, false, false, false, false, false] rfl rfl (one_of HT_.out (by kernel_rfl)) (by decide) (fun K hK => ?_)
                  refine goes_ Tryd.func38 (by kernel_rfl) rfl #[.agg #[.int .i64 t107, .int .i64 t108, .slice Ao71 x113002_1.length co71], .int .i64 (rd t102 x58_2)] (by rfl) rfl rfl (by (try simp only [List.map_toArray, List.map_cons, List.map_nil]); first | done | rfl | (simp only [List.length_drop, List.length_take]; rfl)) ?_
                  with_reducible refine (spec_buWay.calls k2 t107 t108 _ _ x113002_1 (rd t102 x58_2) t117 _ ?side1 ?side2 A55.out).mono ?_
                  (case side1 => repeat (first | exact (Kd.R_reads' HO_113002.out).2.2 | (with_reducible refine Kd.C_alloc ?_ _) | (with_reducible refine Kd.C_drewN ?_ _) | (with_reducible refine Kd.C_drew ?_)))
                  (case side2 => exact (Kd.R_reads' HO_113002.out).2.1)
                  rintro e w72 ⟨rfl, hb⟩
                  refine ⟨_, rfl, ?_⟩
                  have n0_ := Aside0.mk (Kd.R_below (rch HO_2) hb)
                  have n1_ := Aside0.mk (Kd.R_below (rch HO_56) hb)
                  have n2_ := Aside0.mk (Kd.R_below (rch HO_113002) hb)
                  have n3_ := Aside0.mk (blk_below (g := gb101) (o := .cells #[.int .i64 a0_0, .int .i64 a0_1, .slice A0_2 l0_2.length c0_2] 40 (0, 0)) blc hb)
                  have n4_ := Aside0.mk (blk_below (g := gb112) (o := .cells #[.int .i64 t107, .int .i64 t108, .slice Ao71 x113002_1.length co71] 40 (0, 0)) blc hb)
                  have n5_ := Aside0.mk (Kept.below (S := (fun k_ => P2_ k_)) (by repeat (first | (with_reducible first | exact HK.out | apply Kept.alloc | apply Kept.drewN | apply Kept.drew | refine Kept.setCell ?_ (.inr GW101.out) _ | refine Kept.setCell ?_ (.inr GW112.out) _) | exact HK.out)) hb)
                  have n6_ := Aside0.mk (below_step (bel HB) hb)
                  clear HO_2
                  clear HO_56
                  clear HO_113002
                  clear BK101
                  clear BK112
                  clear HK
                  clear HB
                  have HO_2 := n0_
                  have HO_56 := n1_
                  have HO_113002 := n2_
                  have BK101 := n3_
                  have BK112 := n4_
                  have HK := n5_
                  have HB := n6_
                  clear n0_ n1_ n2_ n3_ n4_ n5_ n6_
                  (try clear hb)
                  (try clear hb2)
                  (try clear hk)
                  (try clear hi)
                  refine hK.out _ _ ⟨(blk_cell BK112.out 0).trans rfl, (blk_cell BK112.out 1).trans rfl, (blk_cell BK112.out 2).trans rfl, (blk_cell BK101.out 0).trans rfl, (blk_cell BK101.out 1).trans rfl, (blk_cell BK101.out 2).trans rfl⟩ (fun hHeld => ?_)
                  clear hK K
                  refine norm_ (a' := ?_) ?_ ?_
                  rotate_left
                  ·show Act.put _ (some 71) _ = _
                   simp only [Act.put, List.setIfInBounds_toArray, List.set_cons_zero, List.set_cons_succ, i64_w, i32_w]
                   rfl
                  refine pure_ (i := 9) (N := some 72) (v := ?_) (a' := ?_) #[true, true, true, true, true, true, true, true, true, true, false, false, false, false, false, false, false, false, false, false] rfl rfl (any_of HT_.out (by kernel_rfl)) (fun _ _ _ h => h) (Or.inl ⟨by rfl, ?_⟩) ?_ ?_
                  rotate_left
                  ·intro w'
                   go_simp
                   with_reducible rfl
                  rotate_left
                  ·simp only [Act.put, List.setIfInBounds_toArray, List.set_cons_zero, List.set_cons_succ, i64_w, i32_w]
                   rfl
                  refine pure_ (i := 10) (N := some 73) (v := ?_) (a' := ?_) #[true, true, true, true, true, true, true, true, true, true, true, false, false, false, false, false, false, false, false, false] rfl rfl (any_of HT_.out (by kernel_rfl)) (fun _ _ _ h => h) (Or.inl ⟨by rfl, ?_⟩) ?_ ?_
                  rotate_left
                  ·intro w'
                   go_simp
                   with_reducible rfl
                  rotate_left
                  ·simp only [Act.put, List.setIfInBounds_toArray, List.set_cons_zero, List.set_cons_succ, i64_w, i32_w]
                   rfl
                  refine pure_ (i := 11) (N := some 74) (v := ?_) (a' := ?_) #[true, true, true, true, true, true, true, true, true, true, true, true, false, false, false, false, false, false, false, false] rfl rfl (any_of HT_.out (by kernel_rfl)) (fun _ _ _ h => h) (Or.inl ⟨by rfl, ?_⟩) ?_ ?_
                  rotate_left
                  ·intro w'
                   go_simp
                   with_reducible rfl
                  rotate_left
                  ·simp only [Act.put, List.setIfInBounds_toArray, List.set_cons_zero, List.set_cons_succ, i64_w, i32_w]
                   rfl
                  refine pure_ (i := 13) (N := some 76) (v := ?_) (a' := ?_) #[true, true, true, true, true, true, true, true, true, true, true, true, false, true, false, false, false, false, false, false] rfl rfl (any_of HT_.out (by kernel_rfl)) (fun _ _ _ h => h) (Or.inl ⟨by rfl, ?_⟩) ?_ ?_
                  rotate_left
                  ·intro w'
                   go_simp
                   with_reducible rfl
                  rotate_left
                  ·simp only [Act.put, List.setIfInBounds_toArray, List.set_cons_zero, List.set_cons_succ, i64_w, i32_w]
                   rfl
                  refine pure_ (i := 14) (N := some 77) (v := ?_) (a' := ?_) #[true, true, true, true, true, true, true, true, true, true, true, true, false, true, true, false, false, false, false, false] rfl rfl (any_of HT_.out (by kernel_rfl)) (fun _ _ _ h => h) (Or.inl ⟨by rfl, ?_⟩) ?_ ?_
                  rotate_left
                  ·intro w'
                   go_simp
                   with_reducible rfl
                  rotate_left
                  ·simp only [Act.put, List.setIfInBounds_toArray, List.set_cons_zero, List.set_cons_succ, i64_w, i32_w]
                   rfl
                  refine pure_ (i := 15) (N := some 78) (v := ?_) (a' := ?_) #[true, true, true, true, true, true, true, true, true, true, true, true, false, true, true, true, false, false, false, false] rfl rfl (any_of HT_.out (by kernel_rfl)) (fun _ _ _ h => h) (Or.inl ⟨by rfl, ?_⟩) ?_ ?_
                  rotate_left
                  ·intro w'
                   go_simp
                   with_reducible rfl
                  rotate_left
                  ·simp only [Act.put, List.setIfInBounds_toArray, List.set_cons_zero, List.set_cons_succ, i64_w, i32_w]
                   rfl
                  refine pure_ (i := 16) (N := some 79) (v := ?_) (a' := ?_) #[true, true, true, true, true, true, true, true, true, true, true, true, false, true, true, true, true, false, false, false] rfl rfl (any_of HT_.out (by kernel_rfl)) (fun _ _ _ h => h) (Or.inl ⟨by rfl, ?_⟩) ?_ ?_
                  rotate_left
                  ·intro w'
                   go_simp
                   with_reducible rfl
                  rotate_left
                  ·simp only [Act.put, List.setIfInBounds_toArray, List.set_cons_zero, List.set_cons_succ, i64_w, i32_w]
                   rfl
                  refine pure_ (i := 17) (N := some 80) (v := ?_) (a' := ?_) #[true, true, true, true, true, true, true, true, true, true, true, true, false, true, true, true, true, true, false, false] rfl rfl (any_of HT_.out (by kernel_rfl)) (fun _ _ _ h => h) (Or.inl ⟨by rfl, ?_⟩) ?_ ?_
                  rotate_left
                  ·intro w'
                   go_simp
                   with_reducible rfl
                  rotate_left
                  ·simp only [Act.put, List.setIfInBounds_toArray, List.set_cons_zero, List.set_cons_succ, i64_w, i32_w]
                   rfl
                  refine take_ (i := 12) (N := some 75) (v := ?_) (a' := ?_) #[true, true, true, true, true, true, true, true, true, true, true, true, true, true, true, true, true, true, false, false] rfl rfl (take_ofW HT_.out HW_.out (by kernel_rfl)) (fun _ _ _ h => h) (Or.inl ⟨by rfl, ?_⟩) hHeld ?_ ?_
                  rotate_left
                  ·rintro w' ⟨s0, s1, s2, s3, s4, s5⟩
                   go_simp
                   with_reducible rfl
                  rotate_left
                  ·simp only [Act.put, List.setIfInBounds_toArray, List.set_cons_zero, List.set_cons_succ, i64_w, i32_w]
                   rfl
                  refine one_ (i := 18) (N := some 81) #[true, true, true, true, true, true, true, true, true, true, true, true, true, true, true, true, true, true, true, false] rfl rfl (one_of HT_.out (by kernel_rfl)) (by decide) (fun K hK => ?_)
                  refine goes_ Tryd.func39 (by kernel_rfl) rfl #[.agg #[.int .i64 a0_0, .int .i64 a0_1, .slice A0_2 l0_2.length c0_2], .int .i64 (wrap64 (a1 + (ji58))), .slice (some ⟨go46, 0, none⟩) x2_2.length co24] (by rfl) rfl rfl (by (try simp only [List.map_toArray, List.map_cons, List.map_nil]); first | done | (simp only [hji58]; rfl) | rfl | (simp only [List.length_drop, List.length_take]; rfl)) ?_
                  with_reducible refine (ih k2 (by have := HK1.out; have := HK2.out; omega) a0_0 a0_1 _ _ l0_2 (wrap64 (a1 + (ji58))) (fun k_ => some k_ = (.slice (some ⟨go46, 0, none⟩) x2_2.length co24 : Value).ownBlock) (.slice (some ⟨go46, 0, none⟩) x2_2.length co24) x2_2 false t119 w0 _ ?side1 ?side2 ?side3 ?side4 A59.out).mono ?_
                  (case side1 => repeat (first | (with_reducible first | exact HB.out | apply below_alloc | apply pw_below_drewN | apply below_drew1 | refine below_set ?_ GE101.out | refine below_set ?_ GE112.out) | exact HB.out))
                  (case side2 => exact Kd.C_kept_call HR0_2.out (by repeat (first | (with_reducible first | exact HK.out | apply Kept.alloc | apply Kept.drewN | apply Kept.drew | refine Kept.setCell ?_ (.inr GW101.out) _ | refine Kept.setCell ?_ (.inr GW112.out) _) | exact HK.out)) (fun k_ hs_ => (fun e_ => (HO_2.out.1 k_ e_.symm).1) hs_))
                  (case side3 => exact HC0_2.out)
                  (case side4 => exact Kd.R_tight rfl HO_2.out)
                  rintro e w73 ⟨rfl, hy0, hb, hkp⟩
                  refine ⟨_, rfl, ?_⟩
                  have n0_ := Aside0.mk (Kd.R_reok rfl hy0 (fun k_ e_ => HO_2.out.1 k_ e_))
                  have n1_ := Aside0.mk (Kd.R_mono (ok' := fun k_ => (P2_ k_ ∨ w.heap.size ≤ k_) ∧ some k_ ≠ (.slice (some ⟨go46, 0, none⟩) x2_2.length co24 : Value).ownBlock) (Kd.R_keptB (HO_56.out) hkp (fun k_ hk_ hs_ => (hk_.2) hs_)) (fun k_ hk_ => ⟨hk_.1.1, hk_.1.2⟩))
                  have n2_ := Aside0.mk (Kd.R_mono (ok' := fun k_ => (P2_ k_ ∨ w.heap.size ≤ k_)) (Kd.R_keptB ((Kd.R_apart' HO_113002.out (Kd.R_typed HO_2.out) (by decide))) hkp (fun k_ hk_ hs_ => (hk_.2) hs_)) (fun k_ hk_ => hk_.1.1))
                  have n3_ := Aside0.mk (blk_kept blc hkp (fun hs_ => (fun e_ => (Kd.R_ne HO_2.out BK101.out (by decide)) e_) hs_))
                  have n4_ := Aside0.mk (blk_kept blc hkp (fun hs_ => (fun e_ => (Kd.R_ne HO_2.out BK112.out (by decide)) e_) hs_))
                  have n5_ := Aside0.mk (Kept.then_ (S := (fun k_ => P2_ k_)) (by repeat (first | (with_reducible first | exact HK.out | apply Kept.alloc | apply Kept.drewN | apply Kept.drew | refine Kept.setCell ?_ (.inr GW101.out) _ | refine Kept.setCell ?_ (.inr GW112.out) _) | exact HK.out)) hkp (fun k_ hs_ => (fun e_ => (HO_2.out.1 k_ e_.symm).1) hs_))
                  have n6_ := Aside0.mk (hb)
                  clear HO_2
                  clear HO_56
                  clear HO_113002
                  clear BK101
                  clear BK112
                  clear HK
                  clear HB
                  have HO_2 := n0_
                  have HO_56 := n1_
                  have HO_113002 := n2_
                  have BK101 := n3_
                  have BK112 := n4_
                  have HK := n5_
                  have HB := n6_
                  clear n0_ n1_ n2_ n3_ n4_ n5_ n6_
                  (try clear hb)
                  (try clear hkp)
                  (try clear hy0)
                  refine hK.out _ _ ⟨(blk_cell BK112.out 0).trans rfl, (blk_cell BK112.out 1).trans rfl, (blk_cell BK112.out 2).trans rfl, (blk_cell BK101.out 0).trans rfl, (blk_cell BK101.out 1).trans rfl, (blk_cell BK101.out 2).trans rfl⟩ (fun hHeld => ?_)
                  clear hK K
                  refine norm_ (a' := ?_) ?_ ?_
                  rotate_left
                  ·show Act.put _ (some 81) _ = _
                   simp only [Act.put, List.setIfInBounds_toArray, List.set_cons_zero, List.set_cons_succ, i64_w, i32_w]
                   rfl
                  refine pure_ (i := 19) (N := some 82) (v := ?_) (a' := ?_) #[true, true, true, true, true, true, true, true, true, true, true, true, true, true, true, true, true, true, true, true] rfl rfl (any_of HT_.out (by kernel_rfl)) (fun _ _ _ h => h) (Or.inl ⟨by rfl, ?_⟩) ?_ ?_
                  rotate_left
                  ·intro w'
                   go_simp
                   with_reducible rfl
                  rotate_left
                  ·simp only [Act.put, List.setIfInBounds_toArray, List.set_cons_zero, List.set_cons_succ, i64_w, i32_w]
                   rfl
                  refine done_ (done_of HT_.out (by kernel_rfl)) ?_
                  try go_wp2
                  (try simp only [← hl2_2])
                  go_roundg k2
                  case measure => have := HK1.out; have := HK2.out; omega
                  case rel => exact ⟨(t119), (wrap64 (x58_2 + 1)), (by first | rfl | (simp; done) | (simp [*]; done)), H', ⟨by have := HK1.out; have := HK2.out; omega⟩, ⟨by (try simp only [hl2_2]); (with_reducible repeat (first | apply Kd.R_alloc | apply Kd.R_drewN | apply Kd.R_drew)); (first | exact HO_2.out | exact R_any HO_2.out)⟩, ⟨by (try simp only [hl2_2]); (with_reducible repeat (first | apply Kd.R_alloc | apply Kd.R_drewN | apply Kd.R_drew)); (first | exact HO_56.out | exact R_any HO_56.out)⟩, ⟨by (try simp only [hl2_2]); (with_reducible repeat (first | apply Kd.R_alloc | apply Kd.R_drewN | apply Kd.R_drew)); (first | exact HO_113002.out | exact R_any HO_113002.out)⟩, ⟨by (try simp only [hl2_2]); exact blc⟩, ⟨by (try simp only [hl2_2]); exact blc⟩, ⟨by repeat (first | (with_reducible first | exact HK.out | apply Kept.alloc | apply Kept.drewN | apply Kept.drew | refine Kept.setCell ?_ (.inr GW101.out) _ | refine Kept.setCell ?_ (.inr GW112.out) _) | exact HK.out)⟩, ⟨bel HB⟩⟩
                ·rw [if_neg c56] at H
                 have c56b0 : decide (0 ≤ t117) = false := decide_eq_false c56
                 clear c56
                 have H' := Aside0.mk H
                 clear H
                 have p116 : 0 ≤ (x58_2 : Int) := of_decide_eq_true (by first | (with_reducible assumption) | assumption)
                 have q116 : x58_2 < (t102.length : Int) := of_decide_eq_true (by first | (with_reducible assumption) | assumption)
                 obtain ⟨ad116, e116, hx116_0⟩ := Kd.at_int (Kd.R_reads' HO_56.out).2.2 x58_2 p116 q116
                 cases e116
                 replace p116 := eq_true p116
                 replace q116 := eq_true q116
                 try go_wp2
                 have n0_ := Aside0.mk (Kd.R_drew HO_2.out)
                 have n1_ := Aside0.mk (Kd.R_drew HO_56.out)
                 have n2_ := Aside0.mk (Kd.R_drew HO_113002.out)
                 have n3_ := Aside0.mk (blk_drew BK101.out)
                 have n4_ := Aside0.mk (blk_drew BK112.out)
                 have n5_ := Aside0.mk (Kept.drew HK.out)
                 have n6_ := Aside0.mk (below_drew1 HB.out)
                 clear HO_2
                 clear HO_56
                 clear HO_113002
                 clear BK101
                 clear BK112
                 clear HK
                 clear HB
                 have HO_2 := n0_
                 have HO_56 := n1_
                 have HO_113002 := n2_
                 have BK101 := n3_
                 have BK112 := n4_
                 have HK := n5_
                 have HB := n6_
                 clear n0_ n1_ n2_ n3_ n4_ n5_ n6_
                 obtain ⟨Ao75, co75, eo75⟩ := Kd.R_slice HO_113002.out
                 (first | subst eo75 | (injection eo75 with f1_ f2_ f3_; have f4_ := f1_.symm; have f5_ := f3_.symm; clear f1_ f2_ f3_; subst f4_; subst f5_))
                 refine start_ (n := 20) (S := fun w' => w'.cell? ⟨gb112, 0, none⟩ = some (.int .i64 t107) ∧ w'.cell? ⟨gb112, 1, none⟩ = some (.int .i64 t108) ∧ w'.cell? ⟨gb112, 2, none⟩ = some (.slice Ao75 x113002_1.length co75)) (ds := []) #[false, false, false, false, false, false, false, false, false, false, false, false, false, false, false, false, false, false, false, false] (by kernel_rfl) rfl rfl ⟨(blk_cell BK112.out 0).trans rfl, (blk_cell BK112.out 1).trans rfl, (blk_cell BK112.out 2).trans rfl⟩ (fun hHeld => ?_); refine with_tabW spec_buGoes.tab17 spec_buGoes.bits17 (fun HT_ HW_ => ?_)
                 generalize wr.drew = w74 at HO_2 HO_56 HO_113002 BK101 BK112 HK HB hHeld ⊢
                 refine pure_ (i := 0) (N := some 63) (v := ?_) (a' := ?_) #[true, false, false, false, false, false, false, false, false, false, false, false, false, false, false, false, false, false, false, false] rfl rfl (any_of HT_.out (by kernel_rfl)) (fun _ _ _ h => h) (Or.inl ⟨by rfl, ?_⟩) ?_ ?_
                 rotate_left
                 ·intro w'
                  go_simp
                  with_reducible rfl
                 rotate_left
                 ·simp only [Act.put, List.setIfInBounds_toArray, List.set_cons_zero, List.set_cons_succ, i64_w, i32_w]
                  rfl
                 refine pure_ (i := 1) (N := some 64) (v := ?_) (a' := ?_) #[true, true, false, false, false, false, false, false, false, false, false, false, false, false, false, false, false, false, false, false] rfl rfl (any_of HT_.out (by kernel_rfl)) (fun _ _ _ h => h) (Or.inl ⟨by rfl, ?_⟩) ?_ ?_
                 rotate_left
                 ·intro w'
                  go_simp
                  with_reducible rfl
                 rotate_left
                 ·simp only [Act.put, List.setIfInBounds_toArray, List.set_cons_zero, List.set_cons_succ, i64_w, i32_w]
                  rfl
                 refine pure_ (i := 2) (N := some 65) (v := ?_) (a' := ?_) #[true, true, true, false, false, false, false, false, false, false, false, false, false, false, false, false, false, false, false, false] rfl rfl (any_of HT_.out (by kernel_rfl)) (fun _ _ _ h => h) (Or.inl ⟨by rfl, ?_⟩) ?_ ?_
                 rotate_left
                 ·intro w'
                  go_simp
                  with_reducible rfl
                 rotate_left
                 ·simp only [Act.put, List.setIfInBounds_toArray, List.set_cons_zero, List.set_cons_succ, i64_w, i32_w]
                  rfl
                 refine pure_ (i := 3) (N := some 66) (v := ?_) (a' := ?_) #[true, true, true, true, false, false, false, false, false, false, false, false, false, false, false, false, false, false, false, false] rfl rfl (any_of HT_.out (by kernel_rfl)) (fun _ _ _ h => h) (Or.inl ⟨by rfl, ?_⟩) ?_ ?_
                 rotate_left
                 ·intro w'
                  go_simp
                  with_reducible rfl
                 rotate_left
                 ·simp only [Act.put, List.setIfInBounds_toArray, List.set_cons_zero, List.set_cons_succ, i64_w, i32_w]
                  rfl
                 refine pure_ (i := 4) (N := some 67) (v := ?_) (a' := ?_) #[true, true, true, true, true, false, false, false, false, false, false, false, false, false, false, false, false, false, false, false] rfl rfl (any_of HT_.out (by kernel_rfl)) (fun _ _ _ h => h) (Or.inl ⟨by rfl, ?_⟩) ?_ ?_
                 rotate_left
                 ·intro w'
                  go_simp
                  with_reducible rfl
                 rotate_left
                 ·simp only [Act.put, List.setIfInBounds_toArray, List.set_cons_zero, List.set_cons_succ, i64_w, i32_w]
                  rfl
                 refine pure_ (i := 5) (N := some 68) (v := ?_) (a' := ?_) #[true, true, true, true, true, true, false, false, false, false, false, false, false, false, false, false, false, false, false, false] rfl rfl (any_of HT_.out (by kernel_rfl)) (fun _ _ _ h => h) (Or.inl ⟨by rfl, ?_⟩) ?_ ?_
                 rotate_left
                 ·intro w'
                  go_simp
                  with_reducible rfl
                 rotate_left
                 ·simp only [Act.put, List.setIfInBounds_toArray, List.set_cons_zero, List.set_cons_succ, i64_w, i32_w]
                  rfl
                 refine pure_ (i := 7) (N := some 70) (v := ?_) (a' := ?_) #[true, true, true, true, true, true, false, true, false, false, false, false, false, false, false, false, false, false, false, false] rfl rfl (any_of HT_.out (by kernel_rfl)) (fun _ _ _ h => h) (Or.inl ⟨by rfl, ?_⟩) ?_ ?_
                 rotate_left
                 ·intro w'
                  go_simp
                  with_reducible rfl
                 rotate_left
                 ·simp only [Act.put, List.setIfInBounds_toArray, List.set_cons_zero, List.set_cons_succ, i64_w, i32_w]
                  rfl
                 refine take_ (i := 6) (N := some 69) (v := ?_) (a' := ?_) #[true, true, true, true, true, true, true, true, false, false, false, false, false, false, false, false, false, false, false, false] rfl rfl (take_ofW HT_.out HW_.out (by kernel_rfl)) (fun _ _ _ h => h) (Or.inl ⟨by rfl, ?_⟩) hHeld ?_ ?_
                 rotate_left
                 ·rintro w' ⟨s0, s1, s2⟩
                  go_simp
                  with_reducible rfl
                 rotate_left
                 ·simp only [Act.put, List.setIfInBounds_toArray, List.set_cons_zero, List.set_cons_succ, i64_w, i32_w]
                  rfl
                 refine one_ (i := 8) (N := some 71) #[true, true, true, true, true, true, true, true, true, false, false, false, false, false, false, false, false, false, false, false] rfl rfl (one_of HT_.out (by kernel_rfl)) (by decide) (fun K hK => ?_)
                 refine goes_ Tryd.func38 (by kernel_rfl) rfl #[.agg #[.int .i64 t107, .int .i64 t108, .slice Ao75 x113002_1.length co75], .int .i64 (rd t102 x58_2)] (by rfl) rfl rfl (by (try simp only [List.map_toArray, List.map_cons, List.map_nil]); first | done | rfl | (simp only [List.length_drop, List.length_take]; rfl)) ?_
                 with_reducible refine (spec_buWay.calls k2 t107 t108 _ _ x113002_1 (rd t102 x58_2) t117 _ ?side1 ?side2 A55.out).mono ?_
                 (case side1 => repeat (first | exact (Kd.R_reads' HO_113002.out).2.2 | (with_reducible refine Kd.C_alloc ?_ _) | (with_reducible refine Kd.C_drewN ?_ _) | (with_reducible refine Kd.C_drew ?_)))
                 (case side2 => exact (Kd.R_reads' HO_113002.out).2.1)
                 rintro e w76 ⟨rfl, hb⟩
                 refine ⟨_, rfl, ?_⟩
                 have n0_ := Aside0.mk (Kd.R_below (rch HO_2) hb)
                 have n1_ := Aside0.mk (Kd.R_below (rch HO_56) hb)
                 have n2_ := Aside0.mk (Kd.R_below (rch HO_113002) hb)
                 have n3_ := Aside0.mk (blk_below (g := gb101) (o := .cells #[.int .i64 a0_0, .int .i64 a0_1, .slice A0_2 l0_2.length c0_2] 40 (0, 0)) blc hb)
                 have n4_ := Aside0.mk (blk_below (g := gb112) (o := .cells #[.int .i64 t107, .int .i64 t108, .slice Ao75 x113002_1.length co75] 40 (0, 0)) blc hb)
                 have n5_ := Aside0.mk (Kept.below (S := (fun k_ => P2_ k_)) (by repeat (first | (with_reducible first | exact HK.out | apply Kept.alloc | apply Kept.drewN | apply Kept.drew | refine Kept.setCell ?_ (.inr GW101.out) _ | refine Kept.setCell ?_ (.inr GW112.out) _) | exact HK.out)) hb)
                 have n6_ := Aside0.mk (below_step (bel HB) hb)
                 clear HO_2
                 clear HO_56
                 clear HO_113002
                 clear BK101
                 clear BK112
                 clear HK
                 clear HB
                 have HO_2 := n0_
                 have HO_56 := n1_
                 have HO_113002 := n2_
                 have BK101 := n3_
                 have BK112 := n4_
                 have HK := n5_
                 have HB := n6_
                 clear n0_ n1_ n2_ n3_ n4_ n5_ n6_
                 (try clear hb)
                 (try clear hb2)
                 (try clear hk)
                 (try clear hi)
                 refine hK.out _ _ ⟨(blk_cell BK112.out 0).trans rfl, (blk_cell BK112.out 1).trans rfl, (blk_cell BK112.out 2).trans rfl⟩ (fun hHeld => ?_)
                 clear hK K
                 refine norm_ (a' := ?_) ?_ ?_
                 rotate_left
                 ·show Act.put _ (some 71) _ = _
                  simp only [Act.put, List.setIfInBounds_toArray, List.set_cons_zero, List.set_cons_succ, i64_w, i32_w]
                  rfl
                 refine pure_ (i := 9) (N := some 72) (v := ?_) (a' := ?_) #[true, true, true, true, true, true, true, true, true, true, false, false, false, false, false, false, false, false, false, false] rfl rfl (any_of HT_.out (by kernel_rfl)) (fun _ _ _ h => h) (Or.inl ⟨by rfl, ?_⟩) ?_ ?_
                 rotate_left
                 ·intro w'
                  go_simp
                  with_reducible rfl
                 rotate_left
                 ·simp only [Act.put, List.setIfInBounds_toArray, List.set_cons_zero, List.set_cons_succ, i64_w, i32_w]
                  rfl
                 refine pure_ (i := 10) (N := some 73) (v := ?_) (a' := ?_) #[true, true, true, true, true, true, true, true, true, true, true, false, false, false, false, false, false, false, false, false] rfl rfl (any_of HT_.out (by kernel_rfl)) (fun _ _ _ h => h) (Or.inl ⟨by rfl, ?_⟩) ?_ ?_
                 rotate_left
                 ·intro w'
                  go_simp
                  with_reducible rfl
                 rotate_left
                 ·simp only [Act.put, List.setIfInBounds_toArray, List.set_cons_zero, List.set_cons_succ, i64_w, i32_w]
                  rfl
                 refine pure_ (i := 11) (N := some 74) (v := ?_) (a' := ?_) #[true, true, true, true, true, true, true, true, true, true, true, true, false, false, false, false, false, false, false, false] rfl rfl (any_of HT_.out (by kernel_rfl)) (fun _ _ _ h => h) (Or.inl ⟨by rfl, ?_⟩) ?_ ?_
                 rotate_left
                 ·intro w'
                  go_simp
                  with_reducible rfl
                 rotate_left
                 ·simp only [Act.put, List.setIfInBounds_toArray, List.set_cons_zero, List.set_cons_succ, i64_w, i32_w]
                  rfl
                 refine pure_ (i := 12) (N := some 75) (v := undef) (a' := ?_) #[true, true, true, true, true, true, true, true, true, true, true, true, true, false, false, false, false, false, false, false] rfl rfl (any_of HT_.out (by kernel_rfl)) (fun _ _ _ h => h) (Or.inr ⟨by rfl, rfl⟩) ?_ ?_
                 rotate_left
                 ·simp only [Act.put, List.setIfInBounds_toArray, List.set_cons_zero, List.set_cons_succ, i64_w, i32_w]
                  rfl
                 refine pure_ (i := 13) (N := some 76) (v := undef) (a' := ?_) #[true, true, true, true, true, true, true, true, true, true, true, true, true, true, false, false, false, false, false, false] rfl rfl (any_of HT_.out (by kernel_rfl)) (fun _ _ _ h => h) (Or.inr ⟨by rfl, rfl⟩) ?_ ?_
                 rotate_left
                 ·simp only [Act.put, List.setIfInBounds_toArray, List.set_cons_zero, List.set_cons_succ, i64_w, i32_w]
                  rfl
                 refine pure_ (i := 14) (N := some 77) (v := undef) (a' := ?_) #[true, true, true, true, true, true, true, true, true, true, true, true, true, true, true, false, false, false, false, false] rfl rfl (any_of HT_.out (by kernel_rfl)) (fun _ _ _ h => h) (Or.inr ⟨by rfl, rfl⟩) ?_ ?_
                 rotate_left
                 ·simp only [Act.put, List.setIfInBounds_toArray, List.set_cons_zero, List.set_cons_succ, i64_w, i32_w]
                  rfl
                 refine pure_ (i := 15) (N := some 78) (v := undef) (a' := ?_) #[true, true, true, true, true, true, true, true, true, true, true, true, true, true, true, true, false, false, false, false] rfl rfl (any_of HT_.out (by kernel_rfl)) (fun _ _ _ h => h) (Or.inr ⟨by rfl, rfl⟩) ?_ ?_
                 rotate_left
                 ·simp only [Act.put, List.setIfInBounds_toArray, List.set_cons_zero, List.set_cons_succ, i64_w, i32_w]
                  rfl
                 refine pure_ (i := 16) (N := some 79) (v := undef) (a' := ?_) #[true, true, true, true, true, true, true, true, true, true, true, true, true, true, true, true, true, false, false, false] rfl rfl (any_of HT_.out (by kernel_rfl)) (fun _ _ _ h => h) (Or.inr ⟨by rfl, rfl⟩) ?_ ?_
                 rotate_left
                 ·simp only [Act.put, List.setIfInBounds_toArray, List.set_cons_zero, List.set_cons_succ, i64_w, i32_w]
                  rfl
                 refine pure_ (i := 17) (N := some 80) (v := undef) (a' := ?_) #[true, true, true, true, true, true, true, true, true, true, true, true, true, true, true, true, true, true, false, false] rfl rfl (any_of HT_.out (by kernel_rfl)) (fun _ _ _ h => h) (Or.inr ⟨by rfl, rfl⟩) ?_ ?_
                 rotate_left
                 ·simp only [Act.put, List.setIfInBounds_toArray, List.set_cons_zero, List.set_cons_succ, i64_w, i32_w]
                  rfl
                 refine pure_ (i := 18) (N := some 81) (v := undef) (a' := ?_) #[true, true, true, true, true, true, true, true, true, true, true, true, true, true, true, true, true, true, true, false] rfl rfl (any_of HT_.out (by kernel_rfl)) (fun _ _ _ h => h) (Or.inr ⟨by rfl, rfl⟩) ?_ ?_
                 rotate_left
                 ·simp only [Act.put, List.setIfInBounds_toArray, List.set_cons_zero, List.set_cons_succ, i64_w, i32_w]
                  rfl
                 refine pure_ (i := 19) (N := some 82) (v := ?_) (a' := ?_) #[true, true, true, true, true, true, true, true, true, true, true, true, true, true, true, true, true, true, true, true] rfl rfl (any_of HT_.out (by kernel_rfl)) (fun _ _ _ h => h) (Or.inl ⟨by rfl, ?_⟩) ?_ ?_
                 rotate_left
                 ·intro w'
                  go_simp
                  with_reducible rfl
                 rotate_left
                 ·simp only [Act.put, List.setIfInBounds_toArray, List.set_cons_zero, List.set_cons_succ, i64_w, i32_w]
                  rfl
                 refine done_ (done_of HT_.out (by kernel_rfl)) ?_
                 try go_wp2
                 (try simp only [← hl2_2])
                 go_roundg k2
                 case measure => have := HK1.out; have := HK2.out; omega
                 case rel => exact ⟨(x2_2), (wrap64 (x58_2 + 1)), (by first | rfl | (simp; done) | (simp [*]; done)), H', ⟨by have := HK1.out; have := HK2.out; omega⟩, ⟨by (try simp only [hl2_2]); (with_reducible repeat (first | apply Kd.R_alloc | apply Kd.R_drewN | apply Kd.R_drew)); (first | exact HO_2.out | exact R_any HO_2.out)⟩, ⟨by (try simp only [hl2_2]); (with_reducible repeat (first | apply Kd.R_alloc | apply Kd.R_drewN | apply Kd.R_drew)); (first | exact HO_56.out | exact R_any HO_56.out)⟩, ⟨by (try simp only [hl2_2]); (with_reducible repeat (first | apply Kd.R_alloc | apply Kd.R_drewN | apply Kd.R_drew)); (first | exact HO_113002.out | exact R_any HO_113002.out)⟩, ⟨by (try simp only [hl2_2]); exact blc⟩, ⟨by (try simp only [hl2_2]); exact blc⟩, ⟨by repeat (first | (with_reducible first | exact HK.out | apply Kept.alloc | apply Kept.drewN | apply Kept.drew | refine Kept.setCell ?_ (.inr GW101.out) _ | refine Kept.setCell ?_ (.inr GW112.out) _) | exact HK.out)⟩, ⟨bel HB⟩⟩
               ·rw [if_neg c54] at H
                have c54b0 : ((Int.tmod (ji53) 2) == 0) = false := beq_eq_false_iff_ne.mpr c54
                have c54b1 : ((Int.tmod (ji53) 2) != 0) = true := bne_iff_ne.mpr c54
                have H' := Aside0.mk H
                clear H
                have p116 : 0 ≤ (x58_2 : Int) := of_decide_eq_true (by first | (with_reducible assumption) | assumption)
                have q116 : x58_2 < (t102.length : Int) := of_decide_eq_true (by first | (with_reducible assumption) | assumption)
                obtain ⟨ad116, e116, hx116_0⟩ := Kd.at_int (Kd.R_reads' HO_56.out).2.2 x58_2 p116 q116
                cases e116
                replace p116 := eq_true p116
                replace q116 := eq_true q116
                try go_wp2
                have n0_ := Aside0.mk (Kd.R_drew HO_2.out)
                have n1_ := Aside0.mk (Kd.R_drew HO_56.out)
                have n2_ := Aside0.mk (Kd.R_drew HO_113002.out)
                have n3_ := Aside0.mk (blk_drew BK101.out)
                have n4_ := Aside0.mk (blk_drew BK112.out)
                have n5_ := Aside0.mk (Kept.drew HK.out)
                have n6_ := Aside0.mk (below_drew1 HB.out)
                clear HO_2
                clear HO_56
                clear HO_113002
                clear BK101
                clear BK112
                clear HK
                clear HB
                have HO_2 := n0_
                have HO_56 := n1_
                have HO_113002 := n2_
                have BK101 := n3_
                have BK112 := n4_
                have HK := n5_
                have HB := n6_
                clear n0_ n1_ n2_ n3_ n4_ n5_ n6_
                refine start_ (n := 20) (S := fun w' => True) (ds := []) #[false, false, false, false, false, false, false, false, false, false, false, false, false, false, false, false, false, false, false, false] (by kernel_rfl) rfl rfl trivial (fun hHeld => ?_); refine with_tabW spec_buGoes.tab17 spec_buGoes.bits17 (fun HT_ HW_ => ?_)
                generalize wr.drew = w77 at HO_2 HO_56 HO_113002 BK101 BK112 HK HB hHeld ⊢
                refine pure_ (i := 0) (N := some 63) (v := ?_) (a' := ?_) #[true, false, false, false, false, false, false, false, false, false, false, false, false, false, false, false, false, false, false, false] rfl rfl (any_of HT_.out (by kernel_rfl)) (fun _ _ _ h => h) (Or.inl ⟨by rfl, ?_⟩) ?_ ?_
                rotate_left
                ·intro w'
                 go_simp
                 with_reducible rfl
                rotate_left
                ·simp only [Act.put, List.setIfInBounds_toArray, List.set_cons_zero, List.set_cons_succ, i64_w, i32_w]
                 rfl
                refine pure_ (i := 1) (N := some 64) (v := ?_) (a' := ?_) #[true, true, false, false, false, false, false, false, false, false, false, false, false, false, false, false, false, false, false, false] rfl rfl (any_of HT_.out (by kernel_rfl)) (fun _ _ _ h => h) (Or.inl ⟨by rfl, ?_⟩) ?_ ?_
                rotate_left
                ·intro w'
                 go_simp
                 with_reducible rfl
                rotate_left
                ·simp only [Act.put, List.setIfInBounds_toArray, List.set_cons_zero, List.set_cons_succ, i64_w, i32_w]
                 rfl
                refine pure_ (i := 2) (N := some 65) (v := ?_) (a' := ?_) #[true, true, true, false, false, false, false, false, false, false, false, false, false, false, false, false, false, false, false, false] rfl rfl (any_of HT_.out (by kernel_rfl)) (fun _ _ _ h => h) (Or.inl ⟨by rfl, ?_⟩) ?_ ?_
                rotate_left
                ·intro w'
                 go_simp
                 with_reducible rfl
                rotate_left
                ·simp only [Act.put, List.setIfInBounds_toArray, List.set_cons_zero, List.set_cons_succ, i64_w, i32_w]
                 rfl
                refine pure_ (i := 3) (N := some 66) (v := ?_) (a' := ?_) #[true, true, true, true, false, false, false, false, false, false, false, false, false, false, false, false, false, false, false, false] rfl rfl (any_of HT_.out (by kernel_rfl)) (fun _ _ _ h => h) (Or.inl ⟨by rfl, ?_⟩) ?_ ?_
                rotate_left
                ·intro w'
                 go_simp
                 with_reducible rfl
                rotate_left
                ·simp only [Act.put, List.setIfInBounds_toArray, List.set_cons_zero, List.set_cons_succ, i64_w, i32_w]
                 rfl
                refine pure_ (i := 4) (N := some 67) (v := ?_) (a' := ?_) #[true, true, true, true, true, false, false, false, false, false, false, false, false, false, false, false, false, false, false, false] rfl rfl (any_of HT_.out (by kernel_rfl)) (fun _ _ _ h => h) (Or.inl ⟨by rfl, ?_⟩) ?_ ?_
                rotate_left
                ·intro w'
                 go_simp
                 with_reducible rfl
                rotate_left
                ·simp only [Act.put, List.setIfInBounds_toArray, List.set_cons_zero, List.set_cons_succ, i64_w, i32_w]
                 rfl
                refine pure_ (i := 5) (N := some 68) (v := ?_) (a' := ?_) #[true, true, true, true, true, true, false, false, false, false, false, false, false, false, false, false, false, false, false, false] rfl rfl (any_of HT_.out (by kernel_rfl)) (fun _ _ _ h => h) (Or.inl ⟨by rfl, ?_⟩) ?_ ?_
                rotate_left
                ·intro w'
                 go_simp
                 with_reducible rfl
                rotate_left
                ·simp only [Act.put, List.setIfInBounds_toArray, List.set_cons_zero, List.set_cons_succ, i64_w, i32_w]
                 rfl
                refine pure_ (i := 6) (N := some 69) (v := undef) (a' := ?_) #[true, true, true, true, true, true, true, false, false, false, false, false, false, false, false, false, false, false, false, false] rfl rfl (any_of HT_.out (by kernel_rfl)) (fun _ _ _ h => h) (Or.inr ⟨by rfl, rfl⟩) ?_ ?_
                rotate_left
                ·simp only [Act.put, List.setIfInBounds_toArray, List.set_cons_zero, List.set_cons_succ, i64_w, i32_w]
                 rfl
                refine pure_ (i := 7) (N := some 70) (v := undef) (a' := ?_) #[true, true, true, true, true, true, true, true, false, false, false, false, false, false, false, false, false, false, false, false] rfl rfl (any_of HT_.out (by kernel_rfl)) (fun _ _ _ h => h) (Or.inr ⟨by rfl, rfl⟩) ?_ ?_
                rotate_left
                ·simp only [Act.put, List.setIfInBounds_toArray, List.set_cons_zero, List.set_cons_succ, i64_w, i32_w]
                 rfl
                refine pure_ (i := 8) (N := some 71) (v := undef) (a' := ?_) #[true, true, true, true, true, true, true, true, true, false, false, false, false, false, false, false, false, false, false, false] rfl rfl (any_of HT_.out (by kernel_rfl)) (fun _ _ _ h => h) (Or.inr ⟨by rfl, rfl⟩) ?_ ?_
                rotate_left
                ·simp only [Act.put, List.setIfInBounds_toArray, List.set_cons_zero, List.set_cons_succ, i64_w, i32_w]
                 rfl
                refine pure_ (i := 9) (N := some 72) (v := undef) (a' := ?_) #[true, true, true, true, true, true, true, true, true, true, false, false, false, false, false, false, false, false, false, false] rfl rfl (any_of HT_.out (by kernel_rfl)) (fun _ _ _ h => h) (Or.inr ⟨by rfl, rfl⟩) ?_ ?_
                rotate_left
                ·simp only [Act.put, List.setIfInBounds_toArray, List.set_cons_zero, List.set_cons_succ, i64_w, i32_w]
                 rfl
                refine pure_ (i := 10) (N := some 73) (v := ?_) (a' := ?_) #[true, true, true, true, true, true, true, true, true, true, true, false, false, false, false, false, false, false, false, false] rfl rfl (any_of HT_.out (by kernel_rfl)) (fun _ _ _ h => h) (Or.inl ⟨by rfl, ?_⟩) ?_ ?_
                rotate_left
                ·intro w'
                 go_simp
                 with_reducible rfl
                rotate_left
                ·simp only [Act.put, List.setIfInBounds_toArray, List.set_cons_zero, List.set_cons_succ, i64_w, i32_w]
                 rfl
                refine pure_ (i := 11) (N := some 74) (v := ?_) (a' := ?_) #[true, true, true, true, true, true, true, true, true, true, true, true, false, false, false, false, false, false, false, false] rfl rfl (any_of HT_.out (by kernel_rfl)) (fun _ _ _ h => h) (Or.inl ⟨by rfl, ?_⟩) ?_ ?_
                rotate_left
                ·intro w'
                 go_simp
                 with_reducible rfl
                rotate_left
                ·simp only [Act.put, List.setIfInBounds_toArray, List.set_cons_zero, List.set_cons_succ, i64_w, i32_w]
                 rfl
                refine pure_ (i := 12) (N := some 75) (v := undef) (a' := ?_) #[true, true, true, true, true, true, true, true, true, true, true, true, true, false, false, false, false, false, false, false] rfl rfl (any_of HT_.out (by kernel_rfl)) (fun _ _ _ h => h) (Or.inr ⟨by rfl, rfl⟩) ?_ ?_
                rotate_left
                ·simp only [Act.put, List.setIfInBounds_toArray, List.set_cons_zero, List.set_cons_succ, i64_w, i32_w]
                 rfl
                refine pure_ (i := 13) (N := some 76) (v := undef) (a' := ?_) #[true, true, true, true, true, true, true, true, true, true, true, true, true, true, false, false, false, false, false, false] rfl rfl (any_of HT_.out (by kernel_rfl)) (fun _ _ _ h => h) (Or.inr ⟨by rfl, rfl⟩) ?_ ?_
                rotate_left
                ·simp only [Act.put, List.setIfInBounds_toArray, List.set_cons_zero, List.set_cons_succ, i64_w, i32_w]
                 rfl
                refine pure_ (i := 14) (N := some 77) (v := undef) (a' := ?_) #[true, true, true, true, true, true, true, true, true, true, true, true, true, true, true, false, false, false, false, false] rfl rfl (any_of HT_.out (by kernel_rfl)) (fun _ _ _ h => h) (Or.inr ⟨by rfl, rfl⟩) ?_ ?_
                rotate_left
                ·simp only [Act.put, List.setIfInBounds_toArray, List.set_cons_zero, List.set_cons_succ, i64_w, i32_w]
                 rfl
                refine pure_ (i := 15) (N := some 78) (v := undef) (a' := ?_) #[true, true, true, true, true, true, true, true, true, true, true, true, true, true, true, true, false, false, false, false] rfl rfl (any_of HT_.out (by kernel_rfl)) (fun _ _ _ h => h) (Or.inr ⟨by rfl, rfl⟩) ?_ ?_
                rotate_left
                ·simp only [Act.put, List.setIfInBounds_toArray, List.set_cons_zero, List.set_cons_succ, i64_w, i32_w]
                 rfl
                refine pure_ (i := 16) (N := some 79) (v := undef) (a' := ?_) #[true, true, true, true, true, true, true, true, true, true, true, true, true, true, true, true, true, false, false, false] rfl rfl (any_of HT_.out (by kernel_rfl)) (fun _ _ _ h => h) (Or.inr ⟨by rfl, rfl⟩) ?_ ?_
                rotate_left
                ·simp only [Act.put, List.setIfInBounds_toArray, List.set_cons_zero, List.set_cons_succ, i64_w, i32_w]
                 rfl
                refine pure_ (i := 17) (N := some 80) (v := undef) (a' := ?_) #[true, true, true, true, true, true, true, true, true, true, true, true, true, true, true, true, true, true, false, false] rfl rfl (any_of HT_.out (by kernel_rfl)) (fun _ _ _ h => h) (Or.inr ⟨by rfl, rfl⟩) ?_ ?_
                rotate_left
                ·simp only [Act.put, List.setIfInBounds_toArray, List.set_cons_zero, List.set_cons_succ, i64_w, i32_w]
                 rfl
                refine pure_ (i := 18) (N := some 81) (v := undef) (a' := ?_) #[true, true, true, true, true, true, true, true, true, true, true, true, true, true, true, true, true, true, true, false] rfl rfl (any_of HT_.out (by kernel_rfl)) (fun _ _ _ h => h) (Or.inr ⟨by rfl, rfl⟩) ?_ ?_
                rotate_left
                ·simp only [Act.put, List.setIfInBounds_toArray, List.set_cons_zero, List.set_cons_succ, i64_w, i32_w]
                 rfl
                refine pure_ (i := 19) (N := some 82) (v := ?_) (a' := ?_) #[true, true, true, true, true, true, true, true, true, true, true, true, true, true, true, true, true, true, true, true] rfl rfl (any_of HT_.out (by kernel_rfl)) (fun _ _ _ h => h) (Or.inl ⟨by rfl, ?_⟩) ?_ ?_
                rotate_left
                ·intro w'
                 go_simp
                 with_reducible rfl
                rotate_left
                ·simp only [Act.put, List.setIfInBounds_toArray, List.set_cons_zero, List.set_cons_succ, i64_w, i32_w]
                 rfl
                refine done_ (done_of HT_.out (by kernel_rfl)) ?_
                try go_wp2
                (try simp only [← hl2_2])
                go_roundg k2
                case measure => have := HK1.out; have := HK2.out; omega
                case rel => exact ⟨(x2_2), (wrap64 (x58_2 + 1)), (by first | rfl | (simp; done) | (simp [*]; done)), H', ⟨by have := HK1.out; have := HK2.out; omega⟩, ⟨by (try simp only [hl2_2]); (with_reducible repeat (first | apply Kd.R_alloc | apply Kd.R_drewN | apply Kd.R_drew)); (first | exact HO_2.out | exact R_any HO_2.out)⟩, ⟨by (try simp only [hl2_2]); (with_reducible repeat (first | apply Kd.R_alloc | apply Kd.R_drewN | apply Kd.R_drew)); (first | exact HO_56.out | exact R_any HO_56.out)⟩, ⟨by (try simp only [hl2_2]); (with_reducible repeat (first | apply Kd.R_alloc | apply Kd.R_drewN | apply Kd.R_drew)); (first | exact HO_113002.out | exact R_any HO_113002.out)⟩, ⟨by (try simp only [hl2_2]); exact blc⟩, ⟨by (try simp only [hl2_2]); exact blc⟩, ⟨by repeat (first | (with_reducible first | exact HK.out | apply Kept.alloc | apply Kept.drewN | apply Kept.drew | refine Kept.setCell ?_ (.inr GW101.out) _ | refine Kept.setCell ?_ (.inr GW112.out) _) | exact HK.out)⟩, ⟨bel HB⟩⟩
              ·rw [if_neg c51] at H
               exact absurd H (by simp)
             ·rw [if_neg c50] at H
              exact absurd H (by simp)
            ·rw [if_neg c49] at H
             have c49b0 : decide (x58_2 < (t102.length : Int)) = false := decide_eq_false c49
             (try (have c49b0y := c49b0; first | rw [hl2_2] at c49b0y))
             clear c49
             simp only [Option.some.injEq, Prod.mk.injEq] at H
             obtain ⟨rfl, rfl⟩ := H
             go_wp2
             go_ret
             exact ⟨by first | rfl | (simp [errW_none, errW_some] <;> rfl) | (simp only [← hji5]; first | rfl | (simp [errW_none, errW_some] <;> rfl)) | (simp [*, errW_none, errW_some] <;> rfl), (by first | exact (by (with_reducible repeat (first | apply Kd.R_alloc | apply Kd.R_drewN | apply Kd.R_drew)); exact Kd.R_mono HO_2.out (fun _ hk => hk.1)) | (simp only [hl2_2]; exact (by (with_reducible repeat (first | apply Kd.R_alloc | apply Kd.R_drewN | apply Kd.R_drew)); exact Kd.R_mono HO_2.out (fun _ hk => hk.1)))), by repeat (first | (with_reducible first | exact HB.out | apply below_alloc | apply pw_below_drewN | apply below_drew1 | refine below_set ?_ GE101.out | refine below_set ?_ GE112.out) | exact HB.out), by repeat (first | (with_reducible first | exact HK.out | apply Kept.alloc | apply Kept.drewN | apply Kept.drew | refine Kept.setCell ?_ (.inr GW101.out) _ | refine Kept.setCell ?_ (.inr GW112.out) _) | exact HK.out)⟩
         ·rw [if_neg c45] at H
          exact absurd H (by simp)
        ·rw [if_neg c44] at H
         exact absurd H (by simp)
   ·rw [if_neg c12] at H
    exact absurd H (by simp)
  ·rw [if_neg c11] at H
   exact absurd H (by simp)
end Go.Proofs.YtmefnfhghfemgaaDoor.Q
end
section
namespace Go.Proofs.YtmefnfhghfemgaaDoor.Q
open Go.RowKit Go.Proofs.YtmefnfhghfemgaaDoorW.PrintWords Go.Proofs.YtmefnfhghfemgaaDoorW.PrintLast Go.Proofs.YtmefnfhghfemgaaDoorW.PrintMore
attribute [local go_sem] max2_int min2_int max_two min_two max_three min_three max_four min_four
set_option linter.unusedVariables false
set_option linter.unusedSimpArgs false
def impl_waysOf.l0 : Nat → List Int → List Int → Int → Int → Int → Int → List Int → Option (ByteArray × Bool)
 | 0, _, _, _, _, _, _, _ => none
 | k + 1, x7, x15, x16, x17, x115000, x115001, x115002 => if x17 < x16 then (if 0 ≤ x17 then (if x17 < (x15.length : Int) then (if x17 > 0 then ((impl_tray_added.f k x115000 x115001 x115002 (rd x15 x17)).bind fun t116 => (if t116.toList = ([] : List UInt8) then (some ((⟨#[]⟩ : ByteArray), false)) else (if 0 < (t116.size : Int) then (if x7.length < 140737488355328 then (if 0 ≤ (rd x15 x17) then (if (rd x15 x17) < (x115002.length : Int) then (impl_waysOf.l0 k (x7 ++ [bt t116 0]) x15 x16 (wrap64 (x17 + 1)) x115000 x115001 (x115002.set ((rd x15 x17) : Int).toNat 111)) else (none)) else (none)) else (none)) else (none)))) else (if 0 ≤ (rd x15 x17) then (if (rd x15 x17) < (x115002.length : Int) then (impl_waysOf.l0 k x7 x15 x16 (wrap64 (x17 + 1)) x115000 x115001 (x115002.set ((rd x15 x17) : Int).toNat 111)) else (none)) else (none))) else (none)) else (none)) else (some (strOfNums x7, true))
def impl_waysOf.f (k : Nat) (a0 : ByteArray) (l1 : List Int) : Option (ByteArray × Bool) := (impl_read.f a0).bind fun bt101 => ((impl_tray_emptied.f bt101.1 bt101.2.1 bt101.2.2).bind fun bt106 => (impl_waysOf.l0 k (([] : List Int)) l1 (l1.length : Int) 0 bt106.1 bt106.2.1 bt106.2.2))
set_option maxHeartbeats 8000000 in
set_option maxRecDepth 100000 in
theorem impl_waysOf.calls (k : Nat) (a0 : ByteArray) (A1 : Option Addr) (c1 : Nat) (l1 : List Int) (r1 : ByteArray) (r2 : Bool) (w : World) (hG : GoodW w) (hr1 : Kd.C (Kd.int .i64) w A1 l1.length l1) (hc1 : l1.length ≤ c1) (h : impl_waysOf.f k a0 l1 = some (r1, r2)) :
  Calls Tryd.prog 72 #[.string a0, .slice A1 l1.length c1] w fun e w' => e = .returned (.tuple #[.string r1, .bool r2]) ∧ Below w.heap.size w w' := by
 have hu46 := Tryd.underlying46
 have HR1 := Aside0.mk hr1
 have HC1 := Aside0.mk hc1
 clear hr1 hc1
 have HG := Aside0.mk hG
 clear hG
 have HB := Aside0.mk (Below.refl w.heap.size w)
 have H : ((impl_read.f a0).bind fun bt101 => ((impl_tray_emptied.f bt101.1 bt101.2.1 bt101.2.2).bind fun bt106 => (impl_waysOf.l0 k (([] : List Int)) l1 (l1.length : Int) 0 bt106.1 bt106.2.1 bt106.2.2))) = some (r1, r2) := h
 clear h
 replace H := Option.bind_eq_some_iff.mp H
 obtain ⟨⟨t101, t102, t103⟩, A30, H⟩ := H
 replace H : ((impl_tray_emptied.f t101 t102 t103).bind fun bt106 => (impl_waysOf.l0 k (([] : List Int)) l1 (l1.length : Int) 0 bt106.1 bt106.2.1 bt106.2.2)) = some (r1, r2) := H
 have A3 := Aside0.mk A30
 clear A30
 replace H := Option.bind_eq_some_iff.mp H
 obtain ⟨⟨t106, t107, t108⟩, A40, H⟩ := H
 replace H : (impl_waysOf.l0 k (([] : List Int)) l1 (l1.length : Int) 0 t106 t107 t108) = some (r1, r2) := H
 have A4 := Aside0.mk A40
 clear A40
 obtain ⟨y111, hy111⟩ : ∃ y_ : List Int, y_ = (([] : List Int)) := ⟨_, rfl⟩
 replace H : (impl_waysOf.l0 k y111 l1 (l1.length : Int) 0 t106 t107 t108) = some (r1, r2) := rH hy111 H
 have Ny111 := Aside0.mk hy111
 clear hy111
 have H' := Aside0.mk H
 clear H
 go_enter Tryd.func72, Tryd.ntmps72
 go_wp2_with (first | ((with_reducible refine gate_callee (f := 27) rfl ?_); refine gcall (some 12) Tryd.func27 #[.string a0] rfl ?_; (with_reducible refine (impl_read.calls a0 t101 t102 t103 _ ?side1 A3.out).mono ?_); (case side1 => (refine GoodW.below HG.out ?_); exact bel HB); rintro e w5 ⟨v104, rfl, ho0, hb⟩; refine ⟨_, rfl, ?_⟩; have n0_ := Aside0.mk (Kd.V_lower (Kd.V_mono (ok' := fun k_ => True) ho0 (fun k_ hk_ => trivial)) (below_size (bel HB))); have n1_ := Aside0.mk (below_step (bel HB) hb); clear HB; have HO105 := n0_; have HB := n1_; clear n0_ n1_; (try clear hb); (try clear hb2); (try clear hk); (try clear hi); (try clear ho0); obtain ⟨Ao6, co6, eo6⟩ := Kd.V_slice HO105.out; subst eo6) | ((with_reducible refine gate_callee (f := 68) rfl ?_); refine gcall (some 13) Tryd.func68 #[.agg #[.int .i64 t101, .int .i64 t102, .slice Ao6 t103.length co6]] rfl ?_; (with_reducible refine (impl_tray_emptied.calls t101 t102 _ _ t103 t106 t107 t108 _ ?side1 ?side2 A4.out).mono ?_); (case side1 => repeat (first | exact (Kd.V_reads' HO105.out).2.2 | (with_reducible refine Kd.C_alloc ?_ _) | (with_reducible refine Kd.C_drewN ?_ _) | (with_reducible refine Kd.C_drew ?_))); (case side2 => exact (Kd.V_reads' HO105.out).2.1); rintro e w7 ⟨v109, rfl, ho0, hb⟩; refine ⟨_, rfl, ?_⟩; have n0_ := Aside0.mk (Kd.V_elder' (by (with_reducible repeat (first | apply Kd.V_alloc | apply Kd.V_drewN | apply Kd.V_drew)); (first | exact HO105.out | exact R_any HO105.out)) (Kd.R_base ho0) hb); have n1_ := Aside0.mk (Kd.R_lower ho0 (below_size (bel HB))); have n2_ := Aside0.mk (below_step (bel HB) hb); clear HO105; clear HB; have HO105 := n0_; have HO110 := n1_; have HB := n2_; clear n0_ n1_ n2_; (try clear hb); (try clear hb2); (try clear hk); (try clear hi); (try clear ho0)) | ((with_reducible refine gate_dst (N := 14) rfl ?_); refine R_litG (Kd.int .u8) _ 5 ?hg (N := 14) ?hd (xs := ([] : List Int)) (inner := []) (ok := fun _ => True) (okp := fun _ => True) ?hr ?hp (fun _ hk => hk) trivial (Below.refl _ _) (Nat.le_refl _) (by simp) ?_; (case hd => rfl); (case hg => first | rfl | decide | (simp [Region.wanted, yielded]; done) | (go_simp; done)); (case hr => first | (go_simp; done) | (go_simp; rfl)); (case hp => exact (Reps.none _ _)); intro v112 w8 ho9 hb hg_ hnew_; clear hg_ hnew_; (first | rw [← Ny111.out] at ho9 | (simp only [Int.reduceToNat] at ho9; rw [← Ny111.out] at ho9)); have n0_ := Aside0.mk (Kd.V_elder' (by (with_reducible repeat (first | apply Kd.V_alloc | apply Kd.V_drewN | apply Kd.V_drew)); (first | exact HO105.out | exact R_any HO105.out)) (Kd.R_base ho9) hb); have n1_ := Aside0.mk (Kd.R_elder' (rch HO110) (Kd.R_base ho9) hb); have n2_ := Aside0.mk (Kd.R_lower (Kd.R_new' ho9 (Kd.R_lt (rch HO110))) (below_size (bel HB))); have n3_ := Aside0.mk (below_step (bel HB) hb); clear HO105; clear HO110; clear HB; have HO105 := n0_; have HO110 := n1_; have HO113 := n2_; have HB := n3_; clear n0_ n1_ n2_ n3_; clear hb ho9) | ((with_reducible refine gate_dst (N := 6) rfl ?_); refine boxE (N := 6) (cs := #[.int .i64 0, .int .i64 0, .slice none 0 0]) (t := 46) ?_; intro gb114 hg w10 hbox hb; have n0_ := Aside0.mk (Kd.V_below (Kd.V_elderB (by (with_reducible repeat (first | apply Kd.V_alloc | apply Kd.V_drewN | apply Kd.V_drew)); (first | exact HO105.out | exact R_any HO105.out)) gb114 (Nat.le_of_eq hg.symm)) hb); have n1_ := Aside0.mk (Kd.R_below (rch HO110) hb); have n2_ := Aside0.mk (Kd.R_below (rch HO113) hb); have n3_ := Aside0.mk (below_step (bel HB) hb); have n4_ := Aside0.mk (hbox); have n5_ := Aside0.mk (gsz hg (bel HB)); have n6_ := Aside0.mk (gsz hg (bel HB)); clear HO105; clear HO110; clear HO113; clear HB; have HO105 := n0_; have HO110 := n1_; have HO113 := n2_; have HB := n3_; have BK114 := n4_; have GW114 := n5_; have GE114 := n6_; clear n0_ n1_ n2_ n3_ n4_ n5_ n6_; clear hb hbox hg; have hcz11_0 : w10.cell? ⟨gb114, 0, none⟩ = some (.int .i64 0) := (blk_cell BK114.out 0).trans rfl; have hcz11_1 : w10.cell? ⟨gb114, 1, none⟩ = some (.int .i64 0) := (blk_cell BK114.out 1).trans rfl; have hcz11_2 : w10.cell? ⟨gb114, 2, none⟩ = some (.slice none 0 0) := (blk_cell BK114.out 2).trans rfl; have hfz11_0 := blk_frozen BK114.out 0; have hfz11_1 := blk_frozen BK114.out 1; have hfz11_2 := blk_frozen BK114.out 2; obtain ⟨Ao12, co12, eo12⟩ := Kd.R_slice HO110.out; subst eo12))
 go_loopg [7, 17] k (fun kq v7 v17 w' => ∃ (x7_1 : List Int) (x17_1 : Int) (x115002_1 : List Int) (u115002 : Value), v17 = .int .i64 x17_1 ∧ Aside0 (impl_waysOf.l0 kq x7_1 l1 (l1.length : Int) x17_1 t106 t107 x115002_1 = some (r1, r2)) ∧ Aside0 (kq ≤ k) ∧ Aside0 (Kd.R (Kd.int .u8) 5 w' w.heap.size (fun k_ => some k_ ≠ (u115002 : Value).ownBlock) v7 x7_1) ∧ Aside0 (Kd.R (Kd.int .u8) 5 w' w.heap.size (fun k_ => some k_ ≠ (v7 : Value).ownBlock) u115002 x115002_1) ∧ Aside0 (w'.heap[gb114]? = some (.cells #[.int .i64 t106, .int .i64 t107, u115002] 46 (0, 0))) ∧ Aside0 (Below w.heap.size w w'))
 case atStart => exact ⟨(y111), (0), (t108), (.slice Ao12 t108.length co12), (by first | rfl | (simp; done) | (simp [*]; done) | (simp [nil_bool]; done)), H', ⟨Nat.le_refl _⟩, ⟨by (with_reducible repeat (first | apply Kd.R_alloc | apply Kd.R_drewN | apply Kd.R_drew)); exact Kd.R_mono (Kd.R_far (p := ⟨gb114, 2, none⟩) (Kd.R_far (p := ⟨gb114, 1, none⟩) (Kd.R_far (p := ⟨gb114, 0, none⟩) (Kd.R_types HO113.out BK114.out (by decide)) (fun _ hk => hk.2) (.int .i64 t106)) (fun _ hk => hk.2) (.int .i64 t107)) (fun _ hk => hk.2) (.slice Ao12 t108.length co12)) (fun _ hk => hk.1.2)⟩, ⟨by (with_reducible repeat (first | apply Kd.R_alloc | apply Kd.R_drewN | apply Kd.R_drew)); exact Kd.R_mono (Kd.R_far (p := ⟨gb114, 2, none⟩) (Kd.R_far (p := ⟨gb114, 1, none⟩) (Kd.R_far (p := ⟨gb114, 0, none⟩) (Kd.R_types HO110.out BK114.out (by decide)) (fun _ hk => hk.2) (.int .i64 t106)) (fun _ hk => hk.2) (.int .i64 t107)) (fun _ hk => hk.2) (.slice Ao12 t108.length co12)) (fun _ hk => hk.1.2)⟩, ⟨by (with_reducible repeat (first | refine blk_drewN ?_ _ | refine blk_drew ?_ | refine blk_alloc ?_ _)); refine blk_put (cs := #[.int .i64 t106, .int .i64 t107, .slice none 0 0]) ?_ 2 _ rfl; (with_reducible repeat (first | refine blk_drewN ?_ _ | refine blk_drew ?_ | refine blk_alloc ?_ _)); refine blk_put (cs := #[.int .i64 t106, .int .i64 0, .slice none 0 0]) ?_ 1 _ rfl; (with_reducible repeat (first | refine blk_drewN ?_ _ | refine blk_drew ?_ | refine blk_alloc ?_ _)); refine blk_put (cs := #[.int .i64 0, .int .i64 0, .slice none 0 0]) ?_ 0 _ rfl; exact blc⟩, ⟨bel HB⟩⟩
 case round =>
  clear H'
  try clear c1
  try clear c2
  try clear p2
  try clear c6
  try clear c7
  try clear hcz11_0
  try clear hcz11_1
  try clear hcz11_2
  try clear hfz11_0
  try clear hfz11_1
  try clear hfz11_2
  obtain ⟨x7_1, x17_1, x115002_1, u115002, rfl, HA, HK1, HO_7, HO_115002, BK114, HB⟩ := hrel
  cases gk with
  | zero => exact absurd HA.out (by simp [impl_waysOf.l0])
  | succ k1 =>
   have H := HA.out
   clear HA
   simp only [impl_waysOf.l0] at H
   by_cases c13 : x17_1 < (l1.length : Int)
   ·rw [if_pos c13] at H
    have c13b0 : decide (x17_1 < (l1.length : Int)) = true := decide_eq_true c13
    clear c13
    by_cases c14 : 0 ≤ x17_1
    ·rw [if_pos c14] at H
     have c14b0 : decide (0 ≤ x17_1) = true := decide_eq_true c14
     clear c14
     by_cases c15 : x17_1 < (l1.length : Int)
     ·rw [if_pos c15] at H
      have c15b0 : decide (x17_1 < (l1.length : Int)) = true := decide_eq_true c15
      clear c15
      by_cases c16 : x17_1 > 0
      ·rw [if_pos c16] at H
       have c16b0 : decide (0 < x17_1) = true := decide_eq_true c16
       clear c16
       replace H := Option.bind_eq_some_iff.mp H
       obtain ⟨t116, A170, H⟩ := H
       replace H : (if t116.toList = ([] : List UInt8) then (some ((⟨#[]⟩ : ByteArray), false)) else (if 0 < (t116.size : Int) then (if x7_1.length < 140737488355328 then (if 0 ≤ (rd l1 x17_1) then (if (rd l1 x17_1) < (x115002_1.length : Int) then (impl_waysOf.l0 k1 (x7_1 ++ [bt t116 0]) l1 (l1.length : Int) (wrap64 (x17_1 + 1)) t106 t107 (x115002_1.set ((rd l1 x17_1) : Int).toNat 111)) else (none)) else (none)) else (none)) else (none))) = some (r1, r2) := H
       have A17 := Aside0.mk A170
       clear A170
       by_cases c18 : t116.toList = ([] : List UInt8)
       ·rw [if_pos c18] at H
        have c18b0 : (t116.toList == ([] : List UInt8)) = true := beq_iff_eq.mpr c18
        have c18b1 : (t116.toList != ([] : List UInt8)) = false := bne_eq_false_iff_eq.mpr c18
        clear c18
        simp only [Option.some.injEq, Prod.mk.injEq] at H
        obtain ⟨rfl, rfl⟩ := H
        have p115 : 0 ≤ (x17_1 : Int) := of_decide_eq_true (by first | (with_reducible assumption) | assumption)
        have q115 : x17_1 < (l1.length : Int) := of_decide_eq_true (by first | (with_reducible assumption) | assumption)
        obtain ⟨ad115, e115, hx115_0⟩ := Kd.at_int HR1.out x17_1 p115 q115
        cases e115
        (try replace hx115_0 := (HB.out.cell (World.block_lt_of_cell? w _ hx115_0)).trans hx115_0)
        replace p115 := eq_true p115
        replace q115 := eq_true q115
        have hcz19_0 : wr.cell? ⟨gb114, 0, none⟩ = some (.int .i64 t106) := (blk_cell BK114.out 0).trans rfl
        have hcz19_1 : wr.cell? ⟨gb114, 1, none⟩ = some (.int .i64 t107) := (blk_cell BK114.out 1).trans rfl
        have hcz19_2 : wr.cell? ⟨gb114, 2, none⟩ = some (u115002) := (blk_cell BK114.out 2).trans rfl
        have hfz19_0 := blk_frozen BK114.out 0
        have hfz19_1 := blk_frozen BK114.out 1
        have hfz19_2 := blk_frozen BK114.out 2
        obtain ⟨Ao20, co20, eo20⟩ := Kd.R_slice HO_115002.out
        subst eo20
        go_wp2_with (first | ((with_reducible refine gate_callee (f := 69) rfl ?_); refine gcall (some 26) Tryd.func69 #[.agg #[.int .i64 t106, .int .i64 t107, .slice Ao20 x115002_1.length co20], .int .i64 (rd l1 x17_1)] rfl ?_; (with_reducible refine (impl_tray_added.calls k1 t106 t107 _ _ x115002_1 (rd l1 x17_1) t116 _ ?side1 ?side2 A17.out).mono ?_); (case side1 => repeat (first | exact (Kd.R_reads' HO_115002.out).2.2 | (with_reducible refine Kd.C_alloc ?_ _) | (with_reducible refine Kd.C_drewN ?_ _) | (with_reducible refine Kd.C_drew ?_))); (case side2 => exact (Kd.R_reads' HO_115002.out).2.1); rintro e w21 ⟨rfl, hb⟩; refine ⟨_, rfl, ?_⟩; have n0_ := Aside0.mk (Kd.R_below (rch HO_7) hb); have n1_ := Aside0.mk (Kd.R_below (rch HO_115002) hb); have n2_ := Aside0.mk (blk_below (g := gb114) (o := .cells #[.int .i64 t106, .int .i64 t107, .slice Ao20 x115002_1.length co20] 46 (0, 0)) blc hb); have n3_ := Aside0.mk (below_step (bel HB) hb); clear HO_7; clear HO_115002; clear BK114; clear HB; have HO_7 := n0_; have HO_115002 := n1_; have BK114 := n2_; have HB := n3_; clear n0_ n1_ n2_ n3_; (try clear hb); (try clear hb2); (try clear hk); (try clear hi)))
        go_ret2
        exact ⟨by first | rfl | (simp [errW_none, errW_some] <;> rfl) | (simp [*, errW_none, errW_some] <;> rfl), bel HB⟩
       ·rw [if_neg c18] at H
        have c18b0 : (t116.toList == ([] : List UInt8)) = false := beq_eq_false_iff_ne.mpr c18
        have c18b1 : (t116.toList != ([] : List UInt8)) = true := bne_iff_ne.mpr c18
        by_cases c22 : 0 < (t116.size : Int)
        ·rw [if_pos c22] at H
         have c22b0 : decide (0 < (t116.size : Int)) = true := decide_eq_true c22
         have c22b1 : decide (0 < t116.size) = true := decide_eq_true (by omega)
         clear c22
         by_cases c24 : x7_1.length < 140737488355328
         ·rw [if_pos c24] at H
          have LMc24 := Aside0.mk c24
          clear c24
          obtain ⟨y117, hy117⟩ : ∃ y_ : List Int, y_ = (x7_1 ++ [bt t116 0]) := ⟨_, rfl⟩
          replace H : (if 0 ≤ (rd l1 x17_1) then (if (rd l1 x17_1) < (x115002_1.length : Int) then (impl_waysOf.l0 k1 y117 l1 (l1.length : Int) (wrap64 (x17_1 + 1)) t106 t107 (x115002_1.set ((rd l1 x17_1) : Int).toNat 111)) else (none)) else (none)) = some (r1, r2) := rH hy117 H
          have Ny117 := Aside0.mk hy117
          clear hy117
          by_cases c25 : 0 ≤ (rd l1 x17_1)
          ·rw [if_pos c25] at H
           have c25b0 : decide (0 ≤ (rd l1 x17_1)) = true := decide_eq_true c25
           clear c25
           by_cases c26 : (rd l1 x17_1) < (x115002_1.length : Int)
           ·rw [if_pos c26] at H
            have c26b0 : decide ((rd l1 x17_1) < (x115002_1.length : Int)) = true := decide_eq_true c26
            clear c26
            obtain ⟨y120, hy120⟩ : ∃ y_ : List Int, y_ = (x115002_1.set ((rd l1 x17_1) : Int).toNat 111) := ⟨_, rfl⟩
            replace H : (impl_waysOf.l0 k1 y117 l1 (l1.length : Int) (wrap64 (x17_1 + 1)) t106 t107 y120) = some (r1, r2) := rH hy120 H
            have Ny120 := Aside0.mk hy120
            clear hy120
            have H' := Aside0.mk H
            clear H
            have p115 : 0 ≤ (x17_1 : Int) := of_decide_eq_true (by first | (with_reducible assumption) | assumption)
            have q115 : x17_1 < (l1.length : Int) := of_decide_eq_true (by first | (with_reducible assumption) | assumption)
            obtain ⟨ad115, e115, hx115_0⟩ := Kd.at_int HR1.out x17_1 p115 q115
            cases e115
            (try replace hx115_0 := (HB.out.cell (World.block_lt_of_cell? w _ hx115_0)).trans hx115_0)
            replace p115 := eq_true p115
            replace q115 := eq_true q115
            have hcz28_0 : wr.cell? ⟨gb114, 0, none⟩ = some (.int .i64 t106) := (blk_cell BK114.out 0).trans rfl
            have hcz28_1 : wr.cell? ⟨gb114, 1, none⟩ = some (.int .i64 t107) := (blk_cell BK114.out 1).trans rfl
            have hcz28_2 : wr.cell? ⟨gb114, 2, none⟩ = some (u115002) := (blk_cell BK114.out 2).trans rfl
            have hfz28_0 := blk_frozen BK114.out 0
            have hfz28_1 := blk_frozen BK114.out 1
            have hfz28_2 := blk_frozen BK114.out 2
            obtain ⟨Ao29, co29, eo29⟩ := Kd.R_slice HO_115002.out
            subst eo29
            go_wp2_with (first | ((with_reducible refine gate_callee (f := 69) rfl ?_); refine gcall (some 26) Tryd.func69 #[.agg #[.int .i64 t106, .int .i64 t107, .slice Ao29 x115002_1.length co29], .int .i64 (rd l1 x17_1)] rfl ?_; (with_reducible refine (impl_tray_added.calls k1 t106 t107 _ _ x115002_1 (rd l1 x17_1) t116 _ ?side1 ?side2 A17.out).mono ?_); (case side1 => repeat (first | exact (Kd.R_reads' HO_115002.out).2.2 | (with_reducible refine Kd.C_alloc ?_ _) | (with_reducible refine Kd.C_drewN ?_ _) | (with_reducible refine Kd.C_drew ?_))); (case side2 => exact (Kd.R_reads' HO_115002.out).2.1); rintro e w30 ⟨rfl, hb⟩; refine ⟨_, rfl, ?_⟩; have n0_ := Aside0.mk (Kd.R_below (rch HO_7) hb); have n1_ := Aside0.mk (Kd.R_below (rch HO_115002) hb); have n2_ := Aside0.mk (blk_below (g := gb114) (o := .cells #[.int .i64 t106, .int .i64 t107, .slice Ao29 x115002_1.length co29] 46 (0, 0)) blc hb); have n3_ := Aside0.mk (below_step (bel HB) hb); clear HO_7; clear HO_115002; clear BK114; clear HB; have HO_7 := n0_; have HO_115002 := n1_; have BK114 := n2_; have HB := n3_; clear n0_ n1_ n2_ n3_; (try clear hb); (try clear hb2); (try clear hk); (try clear hi); have p23 : 0 ≤ (0 : Int) := (by omega); have q23 : 0 < t116.size := (by have : (0 : Int) < (t116.size : Int) := of_decide_eq_true (by first | (with_reducible assumption) | assumption); omega); have hx23 : ∀ h : 0 < t116.size, ((t116[0]'h).toNat : Int) = bt t116 0 := bt_at t116 0; clear p23; have qi23 : (0 < (t116.size : Int)) = True := eq_true (of_decide_eq_true (by first | (with_reducible assumption) | assumption)); replace q23 := eq_true q23) | ((with_reducible refine gate_builtin (b := .append) (xs := #[.tmp 29, .tmp 32]) rfl ?_); at_builtin; refine Kd.R_append (Kd.int .u8) (w0 := w) w.heap.size rfl (.tmp 29) (.tmp 32) 38 5 (.int .u8 0) 1 rfl Tryd.underlying38 info5 rfl (by decide) (by omega) u7 x7_1 (bt t116 0) [.int .u8 (bt t116 0)] (fun k_ => some k_ ≠ (.slice Ao29 x115002_1.length co29 : Value).ownBlock) (fun _ => False) rfl rfl ?aP (fun _ hk => hk.elim) ?aF ?aO ?aB ?aS ?aL ?_; (case aP => exact rfl); (case aB => exact (bel HB)); (case aF => exact (fun k_ hk => Kd.fresh' (Kd.R_lt (rch HO_115002)) k_ hk)); (case aO => exact (rch HO_7)); (case aS => exact (below_size (bel HB))); (case aL => have := LMc24.out; omega); intro v118 w31 ho hb hg hat; rw [← Ny117.out] at ho; have n0_ := Aside0.mk (Kd.R_after (ok := (fun _ => True)) (by (with_reducible repeat (first | apply Kd.R_alloc | apply Kd.R_drewN | apply Kd.R_drew)); exact Kd.R_mono HO_115002.out (fun _ hk => ⟨trivial, hk⟩)) hg hat); have n1_ := Aside0.mk (blk_grown (g := gb114) (o := .cells #[.int .i64 t106, .int .i64 t107, .slice Ao29 x115002_1.length co29] 46 (0, 0)) blc hg (Kd.R_ne HO_7.out BK114.out (by decide))); have n2_ := Aside0.mk (hb); have n3_ := Aside0.mk (ho); clear HO_115002; clear BK114; clear HB; clear HO_7; have HO_115002 := n0_; have BK114 := n1_; have HB := n2_; have HO119 := n3_; clear n0_ n1_ n2_ n3_; clear ho hb hg hat; have hcz32_0 : w31.cell? ⟨gb114, 0, none⟩ = some (.int .i64 t106) := (blk_cell BK114.out 0).trans rfl; have hcz32_1 : w31.cell? ⟨gb114, 1, none⟩ = some (.int .i64 t107) := (blk_cell BK114.out 1).trans rfl; have hcz32_2 : w31.cell? ⟨gb114, 2, none⟩ = some (.slice Ao29 x115002_1.length co29) := (blk_cell BK114.out 2).trans rfl; have hfz32_0 := blk_frozen BK114.out 0; have hfz32_1 := blk_frozen BK114.out 1; have hfz32_2 := blk_frozen BK114.out 2; have p27 : 0 ≤ ((rd l1 x17_1) : Int) := of_decide_eq_true (by first | (with_reducible assumption) | assumption); have q27 : ((rd l1 x17_1) : Int) < ((x115002_1.length : Int) : Int) := of_decide_eq_true (by first | (with_reducible assumption) | assumption); obtain ⟨go27, co27, eo27, gb27, gl27, cl27, HG27⟩ := Kd.R_form HO_115002.out (by omega); (first | cases eo27 | (injection eo27 with ea_ en_ ec_; (first | subst ea_ | (injection ea_ with ea_; subst ea_)); subst ec_; clear en_)); have GB27 := Aside0.mk gb27; have GG27 := Aside0.mk HG27; clear gb27 gl27 HG27; obtain ⟨hx27_0, hf27_0⟩ := Kd.R_celln 0 HO_115002.out ((rd l1 x17_1) : Int) p27 q27; replace p27 := eq_true p27; replace q27 := eq_true q27; have n_ := Aside0.mk (Kd.R_mono (ok' := (fun k_ => some k_ ≠ (v118 : Value).ownBlock)) HO_115002.out (fun k_ hk => by first | exact hk.2 | exact hk)); clear HO_115002; have HO_115002 := n_; clear n_; obtain ⟨hy33_, hz33_⟩ := Kd.R_celln 0 HO_115002.out ((rd l1 x17_1) : Int) (of_decide_eq_true (by first | (with_reducible assumption) | assumption)) (of_decide_eq_true (by first | (with_reducible assumption) | assumption)); have HP33 := Kd.R_putg HO_115002.out ((rd l1 x17_1) : Int) 111) | ((with_reducible refine gate_store (t := 5) (p := 37) rfl ?_); refine store_event (t := 5) (p := 37) (v := ?vo_w34) (w1 := (w31.setCell ⟨go27, ((rd l1 x17_1) : Int).toNat, none⟩ (.int .u8 111))) ?hg ?ho ?hn ?hr ?_; (case ho => rfl); (case hg => rfl); (case hn => rfl); (case hr => first | (go_simp; done) | (go_simp; rfl)); intro w34 hw; have hg : w31.grownBy w34 (some go27) := (by rw [hw]; exact HP33.2); have hp_ : Kd.R (Kd.int .u8) 5 w34 w.heap.size (fun k_ => some k_ ≠ (v118 : Value).ownBlock) (.slice (some ⟨go27, 0, none⟩) x115002_1.length co29) y120 := (by rw [hw, Ny120.out]; (first | exact HP33.1 | exact R_any HP33.1)); clear HP33; have n0_ := Aside0.mk (hp_); have n1_ := Aside0.mk (blk_grown (g := gb114) (o := .cells #[.int .i64 t106, .int .i64 t107, .slice (some ⟨go27, 0, none⟩) x115002_1.length co29] 46 (0, 0)) blc hg (Kd.R_ne HO_115002.out BK114.out (by decide))); have n2_ := Aside0.mk (Kd.R_after (v := (.slice (some ⟨go27, 0, none⟩) x115002_1.length co29)) (v1 := (.slice (some ⟨go27, 0, none⟩) x115002_1.length co29)) (ok := (fun _ => True)) (by (with_reducible repeat (first | apply Kd.R_alloc | apply Kd.R_drewN | apply Kd.R_drew)); exact Kd.R_mono HO119.out (fun _ hk => ⟨trivial, hk⟩)) hg (.inl rfl)); have n3_ := Aside0.mk ((by rw [hw]; exact below_set (HB.out) GB27.out : Below w.heap.size w w34)); clear HO_115002; clear BK114; clear HO119; clear HB; have HO_115002 := n0_; have BK114 := n1_; have HO119 := n2_; have HB := n3_; clear n0_ n1_ n2_ n3_; clear hg hw hp_))
            go_roundg k1
            case measure => have := HK1.out; omega
            case rel => exact ⟨(y117), (wrap64 (x17_1 + 1)), (y120), (.slice (some ⟨go27, 0, none⟩) x115002_1.length co29), (by first | rfl | (simp; done) | (simp [*]; done) | (simp [nil_bool]; done)), H', ⟨by have := HK1.out; omega⟩, ⟨by (with_reducible repeat (first | apply Kd.R_alloc | apply Kd.R_drewN | apply Kd.R_drew)); (first | exact Kd.R_mono HO119.out (fun _ hk => hk.2) | exact HO119.out | exact R_any HO119.out)⟩, ⟨rch HO_115002⟩, ⟨blc⟩, ⟨bel HB⟩⟩
           ·rw [if_neg c26] at H
            exact absurd H (by simp)
          ·rw [if_neg c25] at H
           exact absurd H (by simp)
         ·rw [if_neg c24] at H
          exact absurd H (by simp)
        ·rw [if_neg c22] at H
         exact absurd H (by simp)
      ·rw [if_neg c16] at H
       have c16b0 : decide (0 < x17_1) = false := decide_eq_false c16
       clear c16
       by_cases c35 : 0 ≤ (rd l1 x17_1)
       ·rw [if_pos c35] at H
        have c35b0 : decide (0 ≤ (rd l1 x17_1)) = true := decide_eq_true c35
        clear c35
        by_cases c36 : (rd l1 x17_1) < (x115002_1.length : Int)
        ·rw [if_pos c36] at H
         have c36b0 : decide ((rd l1 x17_1) < (x115002_1.length : Int)) = true := decide_eq_true c36
         clear c36
         obtain ⟨y121, hy121⟩ : ∃ y_ : List Int, y_ = (x115002_1.set ((rd l1 x17_1) : Int).toNat 111) := ⟨_, rfl⟩
         replace H : (impl_waysOf.l0 k1 x7_1 l1 (l1.length : Int) (wrap64 (x17_1 + 1)) t106 t107 y121) = some (r1, r2) := rH hy121 H
         have Ny121 := Aside0.mk hy121
         clear hy121
         have H' := Aside0.mk H
         clear H
         have p115 : 0 ≤ (x17_1 : Int) := of_decide_eq_true (by first | (with_reducible assumption) | assumption)
         have q115 : x17_1 < (l1.length : Int) := of_decide_eq_true (by first | (with_reducible assumption) | assumption)
         obtain ⟨ad115, e115, hx115_0⟩ := Kd.at_int HR1.out x17_1 p115 q115
         cases e115
         (try replace hx115_0 := (HB.out.cell (World.block_lt_of_cell? w _ hx115_0)).trans hx115_0)
         replace p115 := eq_true p115
         replace q115 := eq_true q115
         have hcz38_0 : wr.cell? ⟨gb114, 0, none⟩ = some (.int .i64 t106) := (blk_cell BK114.out 0).trans rfl
         have hcz38_1 : wr.cell? ⟨gb114, 1, none⟩ = some (.int .i64 t107) := (blk_cell BK114.out 1).trans rfl
         have hcz38_2 : wr.cell? ⟨gb114, 2, none⟩ = some (u115002) := (blk_cell BK114.out 2).trans rfl
         have hfz38_0 := blk_frozen BK114.out 0
         have hfz38_1 := blk_frozen BK114.out 1
         have hfz38_2 := blk_frozen BK114.out 2
         have p37 : 0 ≤ ((rd l1 x17_1) : Int) := of_decide_eq_true (by first | (with_reducible assumption) | assumption)
         have q37 : ((rd l1 x17_1) : Int) < ((x115002_1.length : Int) : Int) := of_decide_eq_true (by first | (with_reducible assumption) | assumption)
         obtain ⟨go37, co37, eo37, gb37, gl37, cl37, HG37⟩ := Kd.R_form HO_115002.out (by omega)
         (first | cases eo37 | (injection eo37 with ea_ en_ ec_; (first | subst ea_ | (injection ea_ with ea_; subst ea_)); subst ec_; clear en_))
         have GB37 := Aside0.mk gb37
         have GG37 := Aside0.mk HG37
         clear gb37 gl37 HG37
         obtain ⟨hx37_0, hf37_0⟩ := Kd.R_celln 0 HO_115002.out ((rd l1 x17_1) : Int) p37 q37
         replace p37 := eq_true p37
         replace q37 := eq_true q37
         have HP39 := Kd.R_putg HO_115002.out ((rd l1 x17_1) : Int) 111
         go_wp2_with (first | ((with_reducible refine gate_store (t := 5) (p := 37) rfl ?_); refine store_event (t := 5) (p := 37) (v := ?vo_w40) (w1 := (wr.setCell ⟨go37, ((rd l1 x17_1) : Int).toNat, none⟩ (.int .u8 111))) ?hg ?ho ?hn ?hr ?_; (case ho => rfl); (case hg => rfl); (case hn => rfl); (case hr => first | (go_simp; done) | (go_simp; rfl)); intro w40 hw; have hg : wr.grownBy w40 (some go37) := (by rw [hw]; exact HP39.2); have hp_ : Kd.R (Kd.int .u8) 5 w40 w.heap.size (fun k_ => some k_ ≠ (u7 : Value).ownBlock) (.slice (some ⟨go37, 0, none⟩) x115002_1.length co37) y121 := (by rw [hw, Ny121.out]; (first | exact HP39.1 | exact R_any HP39.1)); clear HP39; have n0_ := Aside0.mk (Kd.R_after (v := (.slice (some ⟨go37, 0, none⟩) x115002_1.length co37)) (v1 := (.slice (some ⟨go37, 0, none⟩) x115002_1.length co37)) (ok := (fun _ => True)) (by (with_reducible repeat (first | apply Kd.R_alloc | apply Kd.R_drewN | apply Kd.R_drew)); exact Kd.R_mono HO_7.out (fun _ hk => ⟨trivial, hk⟩)) hg (.inl rfl)); have n1_ := Aside0.mk (hp_); have n2_ := Aside0.mk (blk_grown (g := gb114) (o := .cells #[.int .i64 t106, .int .i64 t107, .slice (some ⟨go37, 0, none⟩) x115002_1.length co37] 46 (0, 0)) blc hg (Kd.R_ne HO_115002.out BK114.out (by decide))); have n3_ := Aside0.mk ((by rw [hw]; exact below_set (HB.out) GB37.out : Below w.heap.size w w40)); clear HO_7; clear HO_115002; clear BK114; clear HB; have HO_7 := n0_; have HO_115002 := n1_; have BK114 := n2_; have HB := n3_; clear n0_ n1_ n2_ n3_; clear hg hw hp_))
         go_roundg k1
         case measure => have := HK1.out; omega
         case rel => exact ⟨(x7_1), (wrap64 (x17_1 + 1)), (y121), (.slice (some ⟨go37, 0, none⟩) x115002_1.length co37), (by first | rfl | (simp; done) | (simp [*]; done) | (simp [nil_bool]; done)), H', ⟨by have := HK1.out; omega⟩, ⟨by (with_reducible repeat (first | apply Kd.R_alloc | apply Kd.R_drewN | apply Kd.R_drew)); (first | exact Kd.R_mono HO_7.out (fun _ hk => hk.2) | exact HO_7.out | exact R_any HO_7.out)⟩, ⟨rch HO_115002⟩, ⟨blc⟩, ⟨bel HB⟩⟩
        ·rw [if_neg c36] at H
         exact absurd H (by simp)
       ·rw [if_neg c35] at H
        exact absurd H (by simp)
     ·rw [if_neg c15] at H
      exact absurd H (by simp)
    ·rw [if_neg c14] at H
     exact absurd H (by simp)
   ·rw [if_neg c13] at H
    have c13b0 : decide (x17_1 < (l1.length : Int)) = false := decide_eq_false c13
    clear c13
    simp only [Option.some.injEq, Prod.mk.injEq] at H
    obtain ⟨rfl, rfl⟩ := H
    have hcv41 := own_string (P := Tryd.prog) Tryd.underlying38 Tryd.underlying5 Tryd.underlying9 (Kd.own_of_R HO_7.out)
    go_wp2
    go_ret2
    exact ⟨by first | rfl | (simp [errW_none, errW_some] <;> rfl) | (simp [*, errW_none, errW_some] <;> rfl), bel HB⟩
def impl_isBegun.f (k : Nat) (a0 : ByteArray) (l1 : List Int) : Option (Bool) := (impl_waysOf.f k a0 l1).bind fun bt101 => (some bt101.2)
set_option maxHeartbeats 8000000 in
set_option maxRecDepth 100000 in
theorem impl_isBegun.calls (k : Nat) (a0 : ByteArray) (A1 : Option Addr) (c1 : Nat) (l1 : List Int) (r : Bool) (w : World) (hG : GoodW w) (hr1 : Kd.C (Kd.int .i64) w A1 l1.length l1) (hc1 : l1.length ≤ c1) (h : impl_isBegun.f k a0 l1 = some r) :
  Calls Tryd.prog 41 #[.string a0, .slice A1 l1.length c1] w fun e w' => e = .returned (.bool r) ∧ Below w.heap.size w w' := by
 have HR1 := Aside0.mk hr1
 have HC1 := Aside0.mk hc1
 clear hr1 hc1
 have HG := Aside0.mk hG
 clear hG
 have HB := Aside0.mk (Below.refl w.heap.size w)
 have H : ((impl_waysOf.f k a0 l1).bind fun bt101 => (some bt101.2)) = some r := h
 clear h
 replace H := Option.bind_eq_some_iff.mp H
 obtain ⟨⟨t101, t102⟩, A30, H⟩ := H
 replace H : (some t102) = some r := H
 have A3 := Aside0.mk A30
 clear A30
 obtain rfl := Option.some.inj H
 go_enter Tryd.func41, Tryd.ntmps41
 go_wp2_with (first | ((with_reducible refine gate_callee (f := 72) rfl ?_); refine gcall (some 10) Tryd.func72 #[.string a0, .slice A1 l1.length c1] rfl ?_; (with_reducible refine (impl_waysOf.calls k a0 _ _ l1 t101 t102 _ ?side1 ?side2 ?side3 A3.out).mono ?_); (case side1 => (refine GoodW.below HG.out ?_); exact bel HB); (case side2 => repeat (first | exact HR1.out | (with_reducible refine Kd.C_alloc ?_ _) | (with_reducible refine Kd.C_drewN ?_ _) | (with_reducible refine Kd.C_drew ?_))); (case side3 => exact HC1.out); rintro e w4 ⟨rfl, hb⟩; refine ⟨_, rfl, ?_⟩; have n0_ := Aside0.mk (below_step (bel HB) hb); clear HB; have HB := n0_; clear n0_; (try clear hb); (try clear hb2); (try clear hk); (try clear hi)))
 go_ret
 exact ⟨by first | rfl | (simp [errW_none, errW_some] <;> rfl) | (simp [*, errW_none, errW_some] <;> rfl), bel HB⟩
end Go.Proofs.YtmefnfhghfemgaaDoor.Q
end
section
namespace Go.Proofs.YtmefnfhghfemgaaDoor.Q
set_option linter.unusedSectionVars false
set_option linter.unusedSimpArgs false
set_option linter.unusedVariables false
open Go.RowKit Go.Proofs.YtmefnfhghfemgaaDoorW.PrintWords Go.Proofs.YtmefnfhghfemgaaDoorW.PrintLast Go.Proofs.YtmefnfhghfemgaaDoorW.PrintMore
open Classical
theorem sum_zero (l : List Nat) (f : Nat → Nat) : PO.sumL l f = 0 ↔ ∀ a ∈ l, f a = 0 := by
 induction l with
 | nil => simp [PO.sumL_nil]
 | cons a l ih =>
  rw [PO.sumL_cons]
  constructor
  ·intro h b hb
   have h1 : f a = 0 := by omega
   have h2 : PO.sumL l f = 0 := by omega
   rcases List.mem_cons.1 hb with e | e
   ·rw [e]
    exact h1
   ·exact ih.1 h2 b e
  ·intro h
   rw [h a List.mem_cons_self, ih.2 fun b hb => h b (List.mem_cons_of_mem _ hb)]
def okc (w h N : Nat) (L : List Int) : Nat → List Nat → Prop
 | _, [] => True
 | S, i :: r => i < L.length ∧ S.testBit i = false ∧ eS w h N L S i = true ∧ okc w h N L (S + 2 ^ i) r
def endS : Nat → List Nat → Nat
 | S, [] => S
 | S, i :: r => endS (S + 2 ^ i) r
theorem okc_snoc (w h N : Nat) (L : List Int) (i : Nat) : ∀ (js : List Nat) (S : Nat), okc w h N L S js → i < L.length → (endS S js).testBit i = false → eS w h N L (endS S js) i = true → okc w h N L S (js ++ [i])
 | [], S, _, h1, h2, h3 => ⟨h1, h2, h3, trivial⟩
 | j :: r, S, h0, h1, h2, h3 => ⟨h0.1, h0.2.1, h0.2.2.1, okc_snoc w h N L i r (S + 2 ^ j) h0.2.2.2 h1 h2 h3⟩
theorem endS_snoc (i : Nat) : ∀ (js : List Nat) (S : Nat), endS S (js ++ [i]) = endS S js + 2 ^ i
 | [], _ => rfl
 | j :: r, S => endS_snoc i r (S + 2 ^ j)
theorem endS_lt (w h N : Nat) (L : List Int) : ∀ (js : List Nat) (S : Nat), okc w h N L S js → S < 2 ^ L.length → endS S js < 2 ^ L.length
 | [], _, _, hS => hS
 | j :: r, S, h0, hS => endS_lt w h N L r (S + 2 ^ j) h0.2.2.2 (PO.put_lt hS h0.1 h0.2.1)
theorem endS_pc (w h N : Nat) (L : List Int) : ∀ (js : List Nat) (S : Nat), okc w h N L S js → PO.pc L.length (endS S js) = PO.pc L.length S + js.length
 | [], _, _ => rfl
 | j :: r, S, h0 => by
  have h1 := endS_pc w h N L r (S + 2 ^ j) h0.2.2.2
  rw [PO.pc_put h0.2.1 h0.1] at h1
  rw [List.length_cons]
  show PO.pc L.length (endS (S + 2 ^ j) r) = _
  omega
theorem drop_rd {l : List Int} {t : Nat} {x : Int} {r : List Int} (h : l.drop t = x :: r) : t < l.length ∧ rd l (t : Int) = x ∧ l.drop (t + 1) = r := by
 have hl : t < l.length := by
  have h1 := congrArg List.length h
  rw [List.length_drop, List.length_cons] at h1
  omega
 rw [List.drop_eq_getElem_cons hl] at h
 injection h with h1 h2
 exact ⟨hl, by rw [rd_nat l t hl]; exact h1, h2⟩
section
variable {w h : Nat} {cs : List Int} (hw1 : 1 ≤ w) (hw : w ≤ 7) (hh1 : 1 ≤ h) (hh : h ≤ 7) (hs : w * h ≤ 36) (hn : cs.length = w * h) (h10 : (ballsOf cs).length ≤ 10)
include hw1 hw hh1 hh hs hn h10
theorem cnt_step (S : Nat) (hS : S < 2 ^ (ballsOf cs).length) (hf : S ≠ 2 ^ (ballsOf cs).length - 1) : cntQ w h cs S ≠ 0 ↔ ∃ j, j < (ballsOf cs).length ∧ S.testBit j = false ∧ eS w h (w * h) (ballsOf cs) S j = true ∧ cntQ w h cs (S + 2 ^ j) ≠ 0 := by
 have h1 : cntQ w h cs S = PO.sumL (List.range (ballsOf cs).length) fun i => PO.on (eS w h (w * h) (ballsOf cs)) S i * cntQ w h cs (S + 2 ^ i) := by
  unfold cntQ
  rw [PO.Q_step _ _ hS, if_neg hf, Nat.zero_add]
 rw [h1]
 constructor
 ·intro h2
  apply Classical.byContradiction
  intro h3
  refine h2 ((sum_zero _ _).2 fun j hj => ?_)
  unfold PO.on
  by_cases h4 : S.testBit j = false ∧ eS w h (w * h) (ballsOf cs) S j = true
  ·rw [if_pos h4, Nat.one_mul]
   apply Classical.byContradiction
   intro h5
   exact h3 ⟨j, List.mem_range.1 hj, h4.1, h4.2, h5⟩
  ·rw [if_neg h4, Nat.zero_mul]
 ·rintro ⟨j, hj, h2, h3, h4⟩ h5
  have h6 := (sum_zero _ _).1 h5 j (List.mem_range.2 hj)
  unfold PO.on at h6
  rw [if_pos ⟨h2, h3⟩, Nat.one_mul] at h6
  exact h4 h6
theorem way_step (l x7 : List Int) (t S i : Nat) (b : Bool) (hl : l.length ≤ 11) (hx : x7.length ≤ t) (ht : t < l.length) (hr : rd l (t : Int) = rd (ballsOf cs) (i : Int)) (h0 : t = 0 ↔ S = 0) (hi : i < (ballsOf cs).length) (hb : S.testBit i = false) (he : eS w h (w * h) (ballsOf cs) S i = true)
  (hK : ∀ x8 : List Int, x8.length ≤ t + 1 → ∃ o : ByteArray, Ev (fun k => impl_waysOf.l0 k x8 l (l.length : Int) ((t + 1 : Nat) : Int) w h (nowC (w * h) (ballsOf cs) (S + 2 ^ i))) (o, b)) :
  ∃ o : ByteArray, Ev (fun k => impl_waysOf.l0 k x7 l (l.length : Int) (t : Int) w h (nowC (w * h) (ballsOf cs) S)) (o, b) := by
 have hL : Cells (w * h) (ballsOf cs) := hn ▸ cells_balls cs
 have hin := nowC_in hL S i hi
 have hin2 := hin
 unfold inCells at hin2
 have hput := nowC_put hL S i hi hb
 by_cases ht0 : t = 0
 ·obtain ⟨o, ho⟩ := hK x7 (by omega)
  refine ⟨o, Ev.step ho fun k => ?_⟩
  rw [impl_waysOf.l0, if_pos (by omega), if_pos (by omega), if_pos (by omega), if_neg (by omega), hr, if_pos hin2.1, if_pos hin2.2, ws t (by omega), hput]
 ·have hway : wayB w h (nowC (w * h) (ballsOf cs) S) (rd (ballsOf cs) (i : Int)) = true := by
   unfold eS at he
   rw [decide_eq_false (fun e => ht0 (h0.2 e)), Bool.false_or] at he
   exact he
  have hne := (wayB_added hin2.1).1 hway
  have hadd := added_ev hw hh hs (nowC_len hL S) _ hin
  generalize addedR w h (nowC (w * h) (ballsOf cs) S) (rd (ballsOf cs) (i : Int)) = ad at hne hadd
  obtain ⟨o, ho⟩ := hK (x7 ++ [bt (strOfNums ad) 0]) (by rw [List.length_append, List.length_singleton]; omega)
  have hsz : (0 : Int) < ((strOfNums ad).size : Int) := by
   rw [strOfNums_size]
   have := List.length_pos_iff.2 hne
   omega
  have hxl : x7.length < 140737488355328 := Nat.lt_of_le_of_lt (show x7.length ≤ 11 by omega) (by decide)
  refine ⟨o, Ev.step (Ev.bind (f := fun k (t116 : ByteArray) => (if t116.toList = ([] : List UInt8) then (some ((⟨#[]⟩ : ByteArray), false)) else (if 0 < (t116.size : Int) then (impl_waysOf.l0 k (x7 ++ [bt t116 0]) l (l.length : Int) ((t + 1 : Nat) : Int) w h (nowC (w * h) (ballsOf cs) (S + 2 ^ i))) else (none)))) hadd (Ev.congr ho fun k => ?_)) fun k => ?_⟩
  ·rw [if_neg (fun e => hne ((added_empty _).1 e)), if_pos hsz]
  ·rw [impl_waysOf.l0, if_pos (by omega), if_pos (by omega), if_pos (by omega), if_pos (by omega), hr]
   congr 1
   funext t116
   rw [if_pos hxl, if_pos hin2.1, if_pos hin2.2, ws t (by omega), hput]
theorem way_l0 (l : List Int) (hl : l.length ≤ 11) (i : Nat) (hi : i < (ballsOf cs).length) : ∀ (js : List Nat) (t S : Nat) (x7 : List Int), x7.length ≤ t → l.drop t = (js ++ [i]).map (fun j : Nat => rd (ballsOf cs) (j : Int)) → (t = 0 ↔ S = 0) → okc w h (w * h) (ballsOf cs) S js → (endS S js).testBit i = false →
  ∃ o : ByteArray, Ev (fun k => impl_waysOf.l0 k x7 l (l.length : Int) (t : Int) w h (nowC (w * h) (ballsOf cs) S)) (o, eS w h (w * h) (ballsOf cs) (endS S js) i)
 | [], t, S, x7, hx, hd, h0, _, hb => by
  obtain ⟨h1, h2, h3⟩ := drop_rd hd
  have hlen : l.length = t + 1 := by
   have := congrArg List.length h3
   rw [List.length_drop, List.map_nil, List.length_nil] at this
   omega
  have hb : S.testBit i = false := hb
  show ∃ o : ByteArray, Ev _ (o, eS w h (w * h) (ballsOf cs) S i)
  cases he : eS w h (w * h) (ballsOf cs) S i with
  | true =>
   refine way_step hw1 hw hh1 hh hs hn h10 l x7 t S i true hl hx h1 h2 h0 hi hb he fun x8 _ => ⟨strOfNums x8, Ev.step (Ev.const (o := some (strOfNums x8, true)) rfl) fun k => ?_⟩
   rw [impl_waysOf.l0, if_neg (by omega)]
  | false =>
   have hL : Cells (w * h) (ballsOf cs) := hn ▸ cells_balls cs
   have hin := nowC_in hL S i hi
   have hin2 := hin
   unfold inCells at hin2
   have hadd := added_ev hw hh hs (nowC_len hL S) _ hin
   unfold eS at he
   rw [Bool.or_eq_false_iff] at he
   have hS0 : S ≠ 0 := of_decide_eq_false he.1
   have hem : addedR w h (nowC (w * h) (ballsOf cs) S) (rd (ballsOf cs) (i : Int)) = [] := Classical.byContradiction fun q => by
    have := (wayB_added hin2.1).2 q
    rw [he.2] at this
    cases this
   rw [hem] at hadd
   refine ⟨⟨#[]⟩, Ev.step (Ev.bind (f := fun k (t116 : ByteArray) => (if t116.toList = ([] : List UInt8) then (some ((⟨#[]⟩ : ByteArray), false)) else (if 0 < (t116.size : Int) then (if x7.length < 140737488355328 then (if 0 ≤ (rd (ballsOf cs) (i : Int)) then (if (rd (ballsOf cs) (i : Int)) < ((nowC (w * h) (ballsOf cs) S).length : Int) then (impl_waysOf.l0 k (x7 ++ [bt t116 0]) l (l.length : Int) (wrap64 ((t : Int) + 1)) w h ((nowC (w * h) (ballsOf cs) S).set (rd (ballsOf cs) (i : Int)).toNat 111)) else (none)) else (none)) else (none)) else (none)))) hadd (Ev.congr (Ev.const (o := some ((⟨#[]⟩ : ByteArray), false)) rfl) fun k => ?_)) fun k => ?_⟩
   ·exact if_pos ((added_empty _).2 rfl)
   ·have ht0 : (t : Int) > 0 := by
     have : t ≠ 0 := fun e => hS0 (h0.1 e)
     omega
    rw [impl_waysOf.l0, if_pos (by omega), if_pos (by omega), if_pos (by omega), if_pos ht0, h2]
 | j :: r, t, S, x7, hx, hd, h0, hok, hb => by
  obtain ⟨h1, h2, h3⟩ := drop_rd hd
  exact way_step hw1 hw hh1 hh hs hn h10 l x7 t S j _ hl hx h1 h2 h0 hok.1 hok.2.1 hok.2.2.1 fun x8 hx8 => way_l0 l hl i hi r (t + 1) (S + 2 ^ j) x8 hx8 h3 (by have := Nat.two_pow_pos j; omega) hok.2.2.2 hb
end
end Go.Proofs.YtmefnfhghfemgaaDoor.Q
end
section
namespace Go.Proofs.YtmefnfhghfemgaaDoor.Q
set_option linter.unusedSectionVars false
set_option linter.unusedSimpArgs false
set_option linter.unusedVariables false
open Go.RowKit Go.Proofs.YtmefnfhghfemgaaDoorW.PrintWords Go.Proofs.YtmefnfhghfemgaaDoorW.PrintLast Go.Proofs.YtmefnfhghfemgaaDoorW.PrintMore
open Classical
structure MV (w h : Nat) (cs M : List Int) (B : Nat) : Prop where
 len : M.length = 2 ^ (ballsOf cs).length
 val : ∀ U : Nat, B ≤ U → U < 2 ^ (ballsOf cs).length → rd M (U : Int) = 0 ∨ (rd M (U : Int) = 1 ∧ cntQ w h cs U = 0) ∨ (rd M (U : Int) = 2 ∧ cntQ w h cs U ≠ 0)
theorem rd_setM (M : List Int) (S U : Nat) (v : Int) (hS : S < M.length) : rd (M.set ((S : Int)).toNat v) (U : Int) = if U = S then v else rd M (U : Int) := by
 rw [rd_set M (S : Int) (U : Int) v (by omega) (by omega) (by omega)]
 by_cases e : U = S
 ·rw [if_pos e, if_pos (by omega)]
 ·rw [if_neg e, if_neg (by omega)]
section
variable {w h : Nat} {cs : List Int} (hw1 : 1 ≤ w) (hw : w ≤ 7) (hh1 : 1 ≤ h) (hh : h ≤ 7) (hs : w * h ≤ 36) (hn : cs.length = w * h) (h10 : (ballsOf cs).length ≤ 10)
include hw1 hw hh1 hh hs hn h10
theorem goes_l0 (S : Nat) (M : List Int) (hM : M.length = 2 ^ (ballsOf cs).length) (hS : S < 2 ^ (ballsOf cs).length) (K : Bool × List Int)
  (hK : Ev (fun k => spec_buGoes.l1 k S (M.set ((S : Int)).toNat 1) (ballsOf cs) ((ballsOf cs).length : Int) 0 w h cs w h (nowC (w * h) (ballsOf cs) S)) K) :
  ∀ (m t : Nat), t + m = (ballsOf cs).length → Ev (fun k => spec_buGoes.l0 k S M (ballsOf cs) (ballsOf cs) ((ballsOf cs).length : Int) t w h cs w h (putC (List.replicate (w * h) 46) (ballsOf cs) S t)) K
 | 0, t, ht => by
  obtain rfl : t = (ballsOf cs).length := by omega
  refine Ev.step hK fun k => ?_
  rw [spec_buGoes.l0, if_neg (by omega), if_pos (Int.natCast_nonneg _), if_pos (by rw [hM]; exact Int.ofNat_lt.2 hS)]
  rfl
 | m + 1, t, ht => by
  have ih := goes_l0 S M hM hS K hK m (t + 1) (by omega)
  have hL : Cells (w * h) (ballsOf cs) := hn ▸ cells_balls cs
  have htl : t < (ballsOf cs).length := by omega
  have hr := hL.inN t htl
  have hput : putC (List.replicate (w * h) 46) (ballsOf cs) S (t + 1) = if S.testBit t = true then (putC (List.replicate (w * h) 46) (ballsOf cs) S t).set (rd (ballsOf cs) (t : Int)).toNat 111 else putC (List.replicate (w * h) 46) (ballsOf cs) S t := rfl
  have c2 : rd (ballsOf cs) (t : Int) < ((putC (List.replicate (w * h) 46) (ballsOf cs) S t).length : Int) := by rw [putC_len, List.length_replicate]; exact hr.2
  rw [hput] at ih
  refine Ev.step ih fun k => ?_
  rw [spec_buGoes.l0, if_pos (by omega), if_pos (by omega), if_pos (by omega), ws t (by omega)]
  by_cases hb : S.testBit t = true
  ·rw [if_pos (shr_one (by omega) hb), if_pos hr.1, if_pos c2, if_pos hb]
  ·rw [if_neg (by rw [shr_zero (by omega) (by simpa using hb)]; decide), if_neg hb]
theorem goes_l1 (S : Nat) (hS0 : S ≠ 0) (hS : S < 2 ^ (ballsOf cs).length) (hf : S ≠ 2 ^ (ballsOf cs).length - 1)
  (hrec : ∀ T M, S < T → T < 2 ^ (ballsOf cs).length → MV w h cs M T → ∃ M', Ev (fun k => spec_buGoes.f k w h cs T M) (decide (cntQ w h cs T ≠ 0), M') ∧ MV w h cs M' T ∧ ∀ U : Nat, U < T → rd M' (U : Int) = rd M (U : Int)) :
  ∀ (m t : Nat) (M : List Int), t + m = (ballsOf cs).length → MV w h cs M (S + 1) → rd M (S : Int) = 1 → (∀ j, j < t → S.testBit j = false → eS w h (w * h) (ballsOf cs) S j = true → cntQ w h cs (S + 2 ^ j) = 0) →
  ∃ M', Ev (fun k => spec_buGoes.l1 k S M (ballsOf cs) ((ballsOf cs).length : Int) t w h cs w h (nowC (w * h) (ballsOf cs) S)) (decide (cntQ w h cs S ≠ 0), M') ∧ MV w h cs M' S ∧ ∀ U : Nat, U < S → rd M' (U : Int) = rd M (U : Int)
 | 0, t, M, ht, hM, h1, hno => by
  obtain rfl : t = (ballsOf cs).length := by omega
  have hz : cntQ w h cs S = 0 := Classical.byContradiction fun hne => by
   obtain ⟨j, hj, h2, h3, h4⟩ := (cnt_step hw1 hw hh1 hh hs hn h10 S hS hf).1 hne
   exact h4 (hno j hj h2 h3)
  refine ⟨M, ?_, ⟨hM.len, fun U hU1 hU2 => ?_⟩, fun U _ => rfl⟩
  ·refine Ev.step (Ev.const (o := some (decide (cntQ w h cs S ≠ 0), M)) rfl) fun k => ?_
   rw [spec_buGoes.l1, if_neg (by omega), @decide_eq_false _ (_) (fun q : cntQ w h cs S ≠ 0 => q hz)]
  ·by_cases e : U = S
   ·subst e
    exact Or.inr (Or.inl ⟨h1, hz⟩)
   ·exact hM.val U (by omega) hU2
 | m + 1, t, M, ht, hM, h1, hno => by
  have hL : Cells (w * h) (ballsOf cs) := hn ▸ cells_balls cs
  have htl : t < (ballsOf cs).length := by omega
  have hin := nowC_in hL S t htl
  have hpt := Nat.two_pow_pos t
  have hp10 : 2 ^ (ballsOf cs).length ≤ 2 ^ 10 := Nat.pow_le_pow_right (by decide) h10
  have ht10 : t ≤ 10 := by omega
  have c1 : (t : Int) < ((ballsOf cs).length : Int) := Int.ofNat_lt.2 htl
  have c0 : (0 : Int) ≤ (t : Int) := Int.natCast_nonneg _
  by_cases hb : S.testBit t = true
  ·obtain ⟨M', e1, e2, e3⟩ := goes_l1 S hS0 hS hf hrec m (t + 1) M (by omega) hM h1 (fun j hj hb2 he => by
    by_cases e : j = t
    ·subst e
     rw [hb] at hb2
     cases hb2
    ·exact hno j (by omega) hb2 he)
   refine ⟨M', Ev.step e1 fun k => ?_, e2, e3⟩
   rw [spec_buGoes.l1, if_pos c1, if_pos c0, if_pos c1, if_neg (by rw [shr_one ht10 hb]; decide), ws t (by omega)]
  ·have hb2 : S.testBit t = false := by simpa using hb
   obtain ⟨rr, hr1, hr2⟩ := buWay_ev (cs := nowC (w * h) (ballsOf cs) S) hw hh hs (nowC_len hL S) (fun c hm e => by rcases nowC_open hL S c hm with h | h <;> omega) _ hin
   have hT : S + 2 ^ t < 2 ^ (ballsOf cs).length := PO.put_lt hS htl hb2
   have hwr : wrap64 ((S : Int) + shl .i64 1 (t : Int)) = ((S + 2 ^ t : Nat) : Int) := by
    rw [shl_nat t ht10, show (S : Int) + ((2 ^ t : Nat) : Int) = ((S + 2 ^ t : Nat) : Int) by simp]
    exact wn _ (Nat.le_trans (Nat.le_of_lt hT) (Nat.le_trans hp10 (by decide)))
   have hwt := ws t (by omega)
   have hgo : ∀ k, spec_buGoes.l1 (k + 1) S M (ballsOf cs) ((ballsOf cs).length : Int) t w h cs w h (nowC (w * h) (ballsOf cs) S) = (spec_buWay.f k w h (nowC (w * h) (ballsOf cs) S) (rd (ballsOf cs) (t : Int))).bind fun t117 => (if t117 ≥ 0 then ((spec_buGoes.f k w h cs ((S + 2 ^ t : Nat) : Int) M).bind fun bt118 => (if bt118.1 = true then (if 0 ≤ (S : Int) then (if (S : Int) < (M.length : Int) then (some (true, (bt118.2.set ((S : Int)).toNat 2))) else (none)) else (none)) else (spec_buGoes.l1 k S bt118.2 (ballsOf cs) ((ballsOf cs).length : Int) ((t + 1 : Nat) : Int) w h cs w h (nowC (w * h) (ballsOf cs) S)))) else (spec_buGoes.l1 k S M (ballsOf cs) ((ballsOf cs).length : Int) ((t + 1 : Nat) : Int) w h cs w h (nowC (w * h) (ballsOf cs) S))) := by
    intro k
    rw [spec_buGoes.l1, if_pos c1, if_pos c0, if_pos c1, if_pos (shr_zero ht10 hb2), hwr, hwt]
   clear hwr hwt
   have hes : eS w h (w * h) (ballsOf cs) S t = wayB w h (nowC (w * h) (ballsOf cs) S) (rd (ballsOf cs) (t : Int)) := by
    unfold eS
    rw [decide_eq_false hS0, Bool.false_or]
   by_cases hway : 0 ≤ rr
   ·have he : eS w h (w * h) (ballsOf cs) S t = true := hes.trans (hr2.1 hway)
    obtain ⟨M1, f1, f2, f3⟩ := hrec (S + 2 ^ t) M (by omega) hT ⟨hM.len, fun U hU1 hU2 => hM.val U (by omega) hU2⟩
    by_cases hq : cntQ w h cs (S + 2 ^ t) ≠ 0
    ·have hne : cntQ w h cs S ≠ 0 := (cnt_step hw1 hw hh1 hh hs hn h10 S hS hf).2 ⟨t, htl, hb2, he, hq⟩
     refine ⟨M1.set ((S : Int)).toNat 2, ?_, ⟨by rw [List.length_set]; exact f2.len, fun U hU1 hU2 => ?_⟩, fun U hU => ?_⟩
     ·refine Ev.step (Ev.bind (f := fun k (t117 : Int) => (if t117 ≥ 0 then ((spec_buGoes.f k w h cs ((S + 2 ^ t : Nat) : Int) M).bind fun bt118 => (if bt118.1 = true then (if 0 ≤ (S : Int) then (if (S : Int) < (M.length : Int) then (some (true, (bt118.2.set ((S : Int)).toNat 2))) else (none)) else (none)) else (spec_buGoes.l1 k S bt118.2 (ballsOf cs) ((ballsOf cs).length : Int) ((t + 1 : Nat) : Int) w h cs w h (nowC (w * h) (ballsOf cs) S)))) else (spec_buGoes.l1 k S M (ballsOf cs) ((ballsOf cs).length : Int) ((t + 1 : Nat) : Int) w h cs w h (nowC (w * h) (ballsOf cs) S)))) hr1 ?_) hgo
      refine Ev.congr (Ev.bind (f := fun k (bt118 : Bool × List Int) => (if bt118.1 = true then (if 0 ≤ (S : Int) then (if (S : Int) < (M.length : Int) then (some (true, (bt118.2.set ((S : Int)).toNat 2))) else (none)) else (none)) else (spec_buGoes.l1 k S bt118.2 (ballsOf cs) ((ballsOf cs).length : Int) ((t + 1 : Nat) : Int) w h cs w h (nowC (w * h) (ballsOf cs) S)))) f1 (Ev.congr (Ev.const (o := some (decide (cntQ w h cs S ≠ 0), M1.set ((S : Int)).toNat 2)) rfl) fun k => ?_)) fun k => if_pos hway
      rw [if_pos (decide_eq_true hq), if_pos (Int.natCast_nonneg _), if_pos (by rw [hM.len]; exact Int.ofNat_lt.2 hS), decide_eq_true hne]
     ·rw [rd_setM M1 S U 2 (by rw [f2.len]; exact hS)]
      by_cases e : U = S
      ·subst e
       rw [if_pos rfl]
       exact Or.inr (Or.inr ⟨rfl, hne⟩)
      ·rw [if_neg e]
       by_cases e2 : U < S + 2 ^ t
       ·rw [f3 U e2]
        exact hM.val U (by omega) hU2
       ·exact f2.val U (by omega) hU2
     ·rw [rd_setM M1 S U 2 (by rw [f2.len]; exact hS), if_neg (by omega), f3 U (by omega)]
    ·have hq0 : cntQ w h cs (S + 2 ^ t) = 0 := Classical.byContradiction fun e => hq e
     obtain ⟨M', e1, e2, e3⟩ := goes_l1 S hS0 hS hf hrec m (t + 1) M1 (by omega) ⟨f2.len, fun U hU1 hU2 => by
      by_cases e2 : U < S + 2 ^ t
      ·rw [f3 U e2]
       exact hM.val U hU1 hU2
      ·exact f2.val U (by omega) hU2⟩ (by rw [f3 S (by omega)]; exact h1) (fun j hj hb3 he3 => by
      by_cases e : j = t
      ·subst e
       exact hq0
      ·exact hno j (by omega) hb3 he3)
     refine ⟨M', ?_, e2, fun U hU => by rw [e3 U hU, f3 U (by omega)]⟩
     refine Ev.step (Ev.bind (f := fun k (t117 : Int) => (if t117 ≥ 0 then ((spec_buGoes.f k w h cs ((S + 2 ^ t : Nat) : Int) M).bind fun bt118 => (if bt118.1 = true then (if 0 ≤ (S : Int) then (if (S : Int) < (M.length : Int) then (some (true, (bt118.2.set ((S : Int)).toNat 2))) else (none)) else (none)) else (spec_buGoes.l1 k S bt118.2 (ballsOf cs) ((ballsOf cs).length : Int) ((t + 1 : Nat) : Int) w h cs w h (nowC (w * h) (ballsOf cs) S)))) else (spec_buGoes.l1 k S M (ballsOf cs) ((ballsOf cs).length : Int) ((t + 1 : Nat) : Int) w h cs w h (nowC (w * h) (ballsOf cs) S)))) hr1 ?_) hgo
     refine Ev.congr (Ev.bind (f := fun k (bt118 : Bool × List Int) => (if bt118.1 = true then (if 0 ≤ (S : Int) then (if (S : Int) < (M.length : Int) then (some (true, (bt118.2.set ((S : Int)).toNat 2))) else (none)) else (none)) else (spec_buGoes.l1 k S bt118.2 (ballsOf cs) ((ballsOf cs).length : Int) ((t + 1 : Nat) : Int) w h cs w h (nowC (w * h) (ballsOf cs) S)))) f1 (Ev.congr e1 fun k => ?_)) fun k => if_pos hway
     rw [decide_eq_false hq, if_neg Bool.false_ne_true]
   ·obtain ⟨M', e1, e2, e3⟩ := goes_l1 S hS0 hS hf hrec m (t + 1) M (by omega) hM h1 (fun j hj hb3 he3 => by
     by_cases e : j = t
     ·subst e
      exact absurd (hr2.2 (hes ▸ he3)) hway
     ·exact hno j (by omega) hb3 he3)
    refine ⟨M', ?_, e2, e3⟩
    refine Ev.step (Ev.bind (f := fun k (t117 : Int) => (if t117 ≥ 0 then ((spec_buGoes.f k w h cs ((S + 2 ^ t : Nat) : Int) M).bind fun bt118 => (if bt118.1 = true then (if 0 ≤ (S : Int) then (if (S : Int) < (M.length : Int) then (some (true, (bt118.2.set ((S : Int)).toNat 2))) else (none)) else (none)) else (spec_buGoes.l1 k S bt118.2 (ballsOf cs) ((ballsOf cs).length : Int) ((t + 1 : Nat) : Int) w h cs w h (nowC (w * h) (ballsOf cs) S)))) else (spec_buGoes.l1 k S M (ballsOf cs) ((ballsOf cs).length : Int) ((t + 1 : Nat) : Int) w h cs w h (nowC (w * h) (ballsOf cs) S)))) hr1 (Ev.congr e1 fun k => if_neg hway)) hgo
theorem goes_ev : ∀ (m S : Nat) (M : List Int), 2 ^ (ballsOf cs).length ≤ m + S → S ≠ 0 → S < 2 ^ (ballsOf cs).length → MV w h cs M S → ∃ M', Ev (fun k => spec_buGoes.f k w h cs S M) (decide (cntQ w h cs S ≠ 0), M') ∧ MV w h cs M' S ∧ ∀ U : Nat, U < S → rd M' (U : Int) = rd M (U : Int)
 | 0, S, M, hm, hS0, hS, hM => by omega
 | m + 1, S, M, hm, hS0, hS, hM => by
  have hp10 : 2 ^ (ballsOf cs).length ≤ 2 ^ 10 := Nat.pow_le_pow_right (by decide) h10
  have hpp := Nat.two_pow_pos (ballsOf cs).length
  have hwr : wrap64 (shl .i64 1 ((ballsOf cs).length : Int) - 1) = ((2 ^ (ballsOf cs).length - 1 : Nat) : Int) := by
   rw [shl_nat _ h10]
   generalize 2 ^ (ballsOf cs).length = p at hp10 hpp ⊢
   unfold wrap64
   omega
  have HWR := Aside0.mk hwr
  clear hwr
  have c3 : (S : Int) < (M.length : Int) := by rw [hM.len]; exact Int.ofNat_lt.2 hS
  have hfk : ∀ k, spec_buGoes.f (k + 1) w h cs S M = (spec_tyBalls.f k w h cs).bind fun t102 => (if (S : Int) = (wrap64 ((shl .i64 1 (t102.length : Int)) - 1)) then (some (true, M)) else (if rd M (S : Int) > 0 then (some (((rd M (S : Int)) == 2), M)) else ((spec_tyEmpty.f k w h).bind fun bt107 => (spec_buGoes.l0 k S M t102 t102 (t102.length : Int) 0 w h cs bt107.1 bt107.2.1 bt107.2.2)))) := by
   intro k
   rw [spec_buGoes.f]
   congr 1
   funext t102
   rw [if_pos (Int.natCast_nonneg _), if_pos c3]
  by_cases hf : S = 2 ^ (ballsOf cs).length - 1
  ·have hne : cntQ w h cs S ≠ 0 := by
    unfold cntQ
    rw [← hf, PO.Q_self _ _ hS]
    decide
   refine ⟨M, ?_, hM, fun U _ => rfl⟩
   refine Ev.step (Ev.bind (f := fun k (t102 : List Int) => (if (S : Int) = (wrap64 ((shl .i64 1 (t102.length : Int)) - 1)) then (some (true, M)) else (if rd M (S : Int) > 0 then (some (((rd M (S : Int)) == 2), M)) else ((spec_tyEmpty.f k w h).bind fun bt107 => (spec_buGoes.l0 k S M t102 t102 (t102.length : Int) 0 w h cs bt107.1 bt107.2.1 bt107.2.2))))) (tyBalls_ev cs (by omega) w h) (Ev.congr (Ev.const (o := some (decide (cntQ w h cs S ≠ 0), M)) rfl) fun k => ?_)) hfk
   rw [HWR.out, if_pos (by rw [← hf]), decide_eq_true hne]
  ·have hnf : ¬ (S : Int) = ((2 ^ (ballsOf cs).length - 1 : Nat) : Int) := fun e => hf (Int.ofNat_inj.1 e)
   have hlink : ∀ {K : Bool × List Int}, Ev (fun k => (if rd M (S : Int) > 0 then (some (((rd M (S : Int)) == 2), M)) else ((spec_tyEmpty.f k w h).bind fun bt107 => (spec_buGoes.l0 k S M (ballsOf cs) (ballsOf cs) ((ballsOf cs).length : Int) 0 w h cs bt107.1 bt107.2.1 bt107.2.2)))) K → Ev (fun k => spec_buGoes.f k w h cs S M) K := by
    intro K hK
    refine Ev.step (Ev.bind (f := fun k (t102 : List Int) => (if (S : Int) = (wrap64 ((shl .i64 1 (t102.length : Int)) - 1)) then (some (true, M)) else (if rd M (S : Int) > 0 then (some (((rd M (S : Int)) == 2), M)) else ((spec_tyEmpty.f k w h).bind fun bt107 => (spec_buGoes.l0 k S M t102 t102 (t102.length : Int) 0 w h cs bt107.1 bt107.2.1 bt107.2.2))))) (tyBalls_ev cs (by omega) w h) (Ev.congr hK fun k => ?_)) hfk
    rw [HWR.out, if_neg hnf]
   rcases hM.val S (Nat.le_refl _) hS with h0 | ⟨h1, h2⟩ | ⟨h1, h2⟩
   ·obtain ⟨M', e1, e2, e3⟩ := goes_l1 hw1 hw hh1 hh hs hn h10 S hS0 hS hf (fun T M1 hT1 hT2 hM1 => goes_ev m T M1 (by omega) (by omega) hT2 hM1) (ballsOf cs).length 0 (M.set ((S : Int)).toNat 1) (Nat.zero_add _) ⟨by rw [List.length_set]; exact hM.len, fun U hU1 hU2 => by
     rw [rd_setM M S U 1 (by rw [hM.len]; exact hS), if_neg (by omega)]
     exact hM.val U (by omega) hU2⟩ (by rw [rd_setM M S S 1 (by rw [hM.len]; exact hS), if_pos rfl]) (fun j hj => absurd hj (Nat.not_lt_zero _))
    have h3 := goes_l0 hw1 hw hh1 hh hs hn h10 S M hM.len hS _ e1 (ballsOf cs).length 0 (Nat.zero_add _)
    refine ⟨M', hlink ?_, e2, fun U hU => by rw [e3 U hU, rd_setM M S U 1 (by rw [hM.len]; exact hS), if_neg (by omega)]⟩
    refine Ev.congr (Ev.bind (f := fun k (bt107 : Int × Int × List Int) => (spec_buGoes.l0 k S M (ballsOf cs) (ballsOf cs) ((ballsOf cs).length : Int) 0 w h cs bt107.1 bt107.2.1 bt107.2.2)) (empty_ev hs) h3) fun k => ?_
    rw [if_neg (by rw [h0]; decide)]
   ·refine ⟨M, hlink ?_, hM, fun U _ => rfl⟩
    refine Ev.congr (Ev.const (o := some (decide (cntQ w h cs S ≠ 0), M)) rfl) fun k => ?_
    rw [if_pos (by rw [h1]; decide), h1, @decide_eq_false _ (_) (fun q : cntQ w h cs S ≠ 0 => q h2)]
    rfl
   ·refine ⟨M, hlink ?_, hM, fun U _ => rfl⟩
    refine Ev.congr (Ev.const (o := some (decide (cntQ w h cs S ≠ 0), M)) rfl) fun k => ?_
    rw [if_pos (by rw [h1]; decide), h1, decide_eq_true h2]
    rfl
end
end Go.Proofs.YtmefnfhghfemgaaDoor.Q
end
