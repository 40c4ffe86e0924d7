/- Texts of this claim, joined. -/
import Derived.Test.YtepmpilopmcjpaaGreatDoorJPermutationOf01
import Derived.Test.YtepmpilopmcjpaaGreatDoorJPermutationOf05
import Derived.Test.YtepmpilopmcjpaaGreatDoorJPermutationOf04
import Derived.Test.YtepmpilopmcjpaaGreatDoorJPermutationOf02
set_option linter.unusedVariables false
set_option linter.unusedSimpArgs false
set_option linter.unusedSectionVars false
section
namespace Go.Proofs.YtepmpilopmcjpaaGreatDoor.Q
open Go.RowKit Go.Proofs.YtepmpilopmcjpaaGreatDoorW.PrintWords Go.Proofs.YtepmpilopmcjpaaGreatDoorW.PrintLast Go.Proofs.YtepmpilopmcjpaaGreatDoorW.PrintMore
attribute [local go_sem] max2_int min2_int max_two min_two max_three min_three max_four min_four
set_option linter.unusedVariables false
set_option linter.unusedSimpArgs false
mutual
def spec_mcPermutation.l0 : Nat → ByteArray → List Int → List Int → List Int → Int → Int → Int → Int → List Int → Option (List Int × Bool)
 | 0, _, _, _, _, _, _, _, _, _ => none
 | k + 1, x1, x8, x9, x31, x32, x33, x102000, x102001, x102002 => if x33 < x32 then (if 0 ≤ x33 then (if x33 < (x31.length : Int) then ((spec_tyCopy.f x102000 x102001 x102002).bind fun bt116 => (spec_mcPermutation.l1 k x1 x8 x9 x33 (rd x31 x33) x31 x32 x33 x8 (x8.length : Int) 0 x102000 x102001 x102002 bt116.1 bt116.2.1 bt116.2.2)) else (none)) else (none)) else (some (x9, true))
def spec_mcPermutation.l1 : Nat → ByteArray → List Int → List Int → Int → Int → List Int → Int → Int → List Int → Int → Int → Int → Int → List Int → Int → Int → List Int → Option (List Int × Bool)
 | 0, _, _, _, _, _, _, _, _, _, _, _, _, _, _, _, _, _ => none
 | k + 1, x1, x8, x9, x10, x11, x31, x32, x33, x40, x41, x42, x102000, x102001, x102002, x122000, x122001, x122002 => if x42 < x41 then (if 0 ≤ x42 then (if x42 < (x40.length : Int) then (if 0 ≤ (rd x40 x42) then (if (rd x40 x42) < (x122002.length : Int) then (spec_mcPermutation.l1 k x1 x8 x9 x10 x11 x31 x32 x33 x40 x41 (wrap64 (x42 + 1)) x102000 x102001 x102002 x122000 x122001 (x122002.set ((rd x40 x42) : Int).toNat 111)) else (none)) else (none)) else (none)) else (none)) else (if 0 ≤ x11 then (if x11 < (x122002.length : Int) then ((spec_tiRun.f k x122000 x122001 (x122002.set (x11 : Int).toNat 97) x1).bind fun bt125 => ((spec_tiPlace.f k bt125.1 bt125.2.1 bt125.2.2 97).bind fun t130 => (spec_mcPermutation.l2 k x1 x8 x9 x10 t130 x31 x32 x33 x8 (x8.length : Int) 0 x102000 x102001 x102002))) else (none)) else (none))
def spec_mcPermutation.l2 : Nat → ByteArray → List Int → List Int → Int → Int → List Int → Int → Int → List Int → Int → Int → Int → Int → List Int → Option (List Int × Bool)
 | 0, _, _, _, _, _, _, _, _, _, _, _, _, _, _ => none
 | k + 1, x1, x8, x9, x10, x15, x31, x32, x33, x59, x60, x61, x102000, x102001, x102002 => if x61 < x60 then (if 0 ≤ x61 then (if x61 < (x59.length : Int) then (if (rd x59 x61) = x15 then (if 0 ≤ x10 then (if x10 < (x9.length : Int) then (spec_mcPermutation.l2 k x1 x8 (x9.set (x10 : Int).toNat x61) x10 x15 x31 x32 x33 x59 x60 (wrap64 (x61 + 1)) x102000 x102001 x102002) else (none)) else (none)) else (spec_mcPermutation.l2 k x1 x8 x9 x10 x15 x31 x32 x33 x59 x60 (wrap64 (x61 + 1)) x102000 x102001 x102002)) else (none)) else (none)) else (spec_mcPermutation.l0 k x1 x8 x9 x31 x32 (wrap64 (x33 + 1)) x102000 x102001 x102002)
end
def spec_mcPermutation.f (k : Nat) (a0_0 : Int) (a0_1 : Int) (l0_2 : List Int) (a1 : ByteArray) : Option (List Int × Bool) := (spec_mcBack.f k a0_0 a0_1 l0_2 a1).bind fun bt102 => (if bt102.2.2.2 = true then ((spec_tyBalls.f k a0_0 a0_1 l0_2).bind fun t109 => (if 0 ≤ (t109.length : Int) then (if ((t109.length : Int) : Int).toNat ≤ 35184372088832 then (spec_mcPermutation.l0 k a1 t109 (List.replicate ((t109.length : Int) : Int).toNat 0) t109 (t109.length : Int) 0 a0_0 a0_1 l0_2) else (none)) else (none))) else (some (([] : List Int), false)))
set_option maxHeartbeats 8000000 in
set_option maxRecDepth 100000 in
theorem spec_mcPermutation.calls (k : Nat) (a0_0 : Int) (a0_1 : Int) (A0_2 : Option Addr) (c0_2 : Nat) (l0_2 : List Int) (a1 : ByteArray) (r1 : List Int) (r2 : Bool) (w : World) (hr0_2 : Kd.C (Kd.int .u8) w A0_2 l0_2.length l0_2) (hc0_2 : l0_2.length ≤ c0_2) (h : spec_mcPermutation.f k a0_0 a0_1 l0_2 a1 = some (r1, r2)) :
  Calls Tryz.prog 79 #[.agg #[.int .i64 a0_0, .int .i64 a0_1, .slice A0_2 l0_2.length c0_2], .string a1] w fun e w' => ∃ v0_ : Value, e = .returned (.tuple #[v0_, .bool r2]) ∧ Kd.R (Kd.int .i64) 3 w' w.heap.size (fun _ => True) v0_ r1 ∧ Below w.heap.size w w' := by
 have hu45 := Tryz.underlying45
 have HR0_2 := Aside0.mk hr0_2
 have HC0_2 := Aside0.mk hc0_2
 clear hr0_2 hc0_2
 have HB := Aside0.mk (Below.refl w.heap.size w)
 have H : ((spec_mcBack.f k a0_0 a0_1 l0_2 a1).bind fun bt102 => (if bt102.2.2.2 = true then ((spec_tyBalls.f k a0_0 a0_1 l0_2).bind fun t109 => (if 0 ≤ (t109.length : Int) then (if ((t109.length : Int) : Int).toNat ≤ 35184372088832 then (spec_mcPermutation.l0 k a1 t109 (List.replicate ((t109.length : Int) : Int).toNat 0) t109 (t109.length : Int) 0 a0_0 a0_1 l0_2) else (none)) else (none))) else (some (([] : List Int), false)))) = some (r1, r2) := h
 clear h
 replace H := Option.bind_eq_some_iff.mp H
 obtain ⟨⟨t102, t103, t104, t107⟩, A30, H⟩ := H
 replace H : (if t107 = true then ((spec_tyBalls.f k a0_0 a0_1 l0_2).bind fun t109 => (if 0 ≤ (t109.length : Int) then (if ((t109.length : Int) : Int).toNat ≤ 35184372088832 then (spec_mcPermutation.l0 k a1 t109 (List.replicate ((t109.length : Int) : Int).toNat 0) t109 (t109.length : Int) 0 a0_0 a0_1 l0_2) else (none)) else (none))) else (some (([] : List Int), false))) = some (r1, r2) := H
 have A3 := Aside0.mk A30
 clear A30
 by_cases c4 : t107 = true
 ·subst c4
  have H1 : ((spec_tyBalls.f k a0_0 a0_1 l0_2).bind fun t109 => (if 0 ≤ (t109.length : Int) then (if ((t109.length : Int) : Int).toNat ≤ 35184372088832 then (spec_mcPermutation.l0 k a1 t109 (List.replicate ((t109.length : Int) : Int).toNat 0) t109 (t109.length : Int) 0 a0_0 a0_1 l0_2) else (none)) else (none))) = some (r1, r2) := by rw [if_pos rfl] at H; exact H
  clear H
  have H := H1
  clear H1
  replace H := Option.bind_eq_some_iff.mp H
  obtain ⟨t109, A50, H⟩ := H
  replace H : (if 0 ≤ (t109.length : Int) then (if ((t109.length : Int) : Int).toNat ≤ 35184372088832 then (spec_mcPermutation.l0 k a1 t109 (List.replicate ((t109.length : Int) : Int).toNat 0) t109 (t109.length : Int) 0 a0_0 a0_1 l0_2) else (none)) else (none)) = some (r1, r2) := H
  have A5 := Aside0.mk A50
  clear A50
  by_cases c6 : 0 ≤ (t109.length : Int)
  ·rw [if_pos c6] at H
   have c6b0 := eq_true c6
   have c6b1 : decide (0 ≤ (t109.length : Int)) = true := decide_eq_true c6
   clear c6
   by_cases c7 : ((t109.length : Int) : Int).toNat ≤ 35184372088832
   ·rw [if_pos c7] at H
    have c7b0 := eq_true c7
    have c7b1 : decide (((t109.length : Int) : Int).toNat ≤ 35184372088832) = true := decide_eq_true c7
    clear c7
    obtain ⟨y112, hy112⟩ : ∃ y_ : List Int, y_ = (List.replicate ((t109.length : Int) : Int).toNat 0) := ⟨_, rfl⟩
    replace H : (spec_mcPermutation.l0 k a1 t109 y112 t109 (t109.length : Int) 0 a0_0 a0_1 l0_2) = some (r1, r2) := rH hy112 H
    have Ny112 := Aside0.mk hy112
    clear hy112
    have H' := Aside0.mk H
    clear H
    go_enter Tryz.func79, Tryz.ntmps79
    go_wp2_with (first | ((with_reducible refine gate_dst (N := 2) rfl ?_); refine boxE (N := 2) (cs := #[.int .i64 a0_0, .int .i64 a0_1, .slice A0_2 l0_2.length c0_2]) (t := 45) ?_; intro gb101 hg w8 hbox hb; have n0_ := Aside0.mk (below_step (bel HB) hb); have n1_ := Aside0.mk (hbox); have n2_ := Aside0.mk (gsz hg (bel HB)); have n3_ := Aside0.mk (gsz hg (bel HB)); clear HB; have HB := n0_; have BK101 := n1_; have GW101 := n2_; have GE101 := n3_; clear n0_ n1_ n2_ n3_; clear hb hbox hg; have hcz9_0 : w8.cell? ⟨gb101, 0, none⟩ = some (.int .i64 a0_0) := (blk_cell BK101.out 0).trans rfl; have hcz9_1 : w8.cell? ⟨gb101, 1, none⟩ = some (.int .i64 a0_1) := (blk_cell BK101.out 1).trans rfl; have hcz9_2 : w8.cell? ⟨gb101, 2, none⟩ = some (.slice A0_2 l0_2.length c0_2) := (blk_cell BK101.out 2).trans rfl; have hfz9_0 := blk_frozen BK101.out 0; have hfz9_1 := blk_frozen BK101.out 1; have hfz9_2 := blk_frozen BK101.out 2) | ((with_reducible refine gate_callee (f := 48) rfl ?_); refine gcall (some 21) Tryz.func48 #[.agg #[.int .i64 a0_0, .int .i64 a0_1, .slice A0_2 l0_2.length c0_2], .string a1] rfl ?_; (with_reducible refine (spec_mcBack.calls k a0_0 a0_1 (fun k_ => k_ < w.heap.size) _ _ l0_2 a1 t102 t103 t104 true _ ?side1 A3.out).mono ?_); (case side1 => exact Kd.V_mk HC0_2.out (Kd.F_below (Kd.C_F (Kd.heap_int .u8) HR0_2.out) (bel HB))); rintro e w10 ⟨v105, rfl, ho0, hb⟩; refine ⟨_, rfl, ?_⟩; have n0_ := Aside0.mk (Kd.V_lower (Kd.V_mono (ok' := fun k_ => k_ ≠ gb101) ho0 (fun k_ hk_ => Or.elim hk_ (fun hs_ => fun e_ => Nat.not_le.2 hs_ (by rw [e_]; exact GW101.out)) (fun hn_ => (Kd.freshB (g := gb101) (o := .cells #[.int .i64 a0_0, .int .i64 a0_1, .slice A0_2 l0_2.length c0_2] 45 (0, 0)) blc k_ hn_)))) (below_size (bel HB))); have n1_ := Aside0.mk (blk_below (g := gb101) (o := .cells #[.int .i64 a0_0, .int .i64 a0_1, .slice A0_2 l0_2.length c0_2] 45 (0, 0)) blc hb); have n2_ := Aside0.mk (below_step (bel HB) hb); clear BK101; clear HB; have HO106 := n0_; have BK101 := n1_; have HB := n2_; clear n0_ n1_ n2_; (try clear hb); (try clear hb2); (try clear hk); (try clear hi); (try clear ho0)) | ((with_reducible refine gate_dst (N := 6) rfl ?_); refine boxE (N := 6) (cs := #[.int .i64 0, .int .i64 0, .slice none 0 0]) (t := 45) ?_; intro gb108 hg w11 hbox hb; have n0_ := Aside0.mk (Kd.V_below (Kd.V_elderB (by (with_reducible repeat (first | apply Kd.V_alloc | apply Kd.V_drewN | apply Kd.V_drew)); (first | exact HO106.out | exact R_any HO106.out)) gb108 (Nat.le_of_eq hg.symm)) hb); have n1_ := Aside0.mk (blk_below (g := gb101) (o := .cells #[.int .i64 a0_0, .int .i64 a0_1, .slice A0_2 l0_2.length c0_2] 45 (0, 0)) blc hb); have n2_ := Aside0.mk (below_step (bel HB) hb); have n3_ := Aside0.mk (hbox); have n4_ := Aside0.mk (gsz hg (bel HB)); have n5_ := Aside0.mk (gsz hg (bel HB)); have n6_ := Aside0.mk ((by rw [hg]; exact Nat.ne_of_lt (blk_lt (g := gb101) (o := .cells #[.int .i64 a0_0, .int .i64 a0_1, .slice A0_2 l0_2.length c0_2] 45 (0, 0)) blc) : gb101 ≠ gb108)); have n7_ := Aside0.mk ((by rw [hg]; exact Nat.ne_of_gt (blk_lt (g := gb101) (o := .cells #[.int .i64 a0_0, .int .i64 a0_1, .slice A0_2 l0_2.length c0_2] 45 (0, 0)) blc) : gb108 ≠ gb101)); clear HO106; clear BK101; clear HB; have HO106 := n0_; have BK101 := n1_; have HB := n2_; have BK108 := n3_; have GW108 := n4_; have GE108 := n5_; have NB101_108 := n6_; have NB108_101 := n7_; clear n0_ n1_ n2_ n3_ n4_ n5_ n6_ n7_; clear hb hbox hg; have hnb12 := NB108_101.out; have hnc12 := NB101_108.out; have hcz13_0 : w11.cell? ⟨gb108, 0, none⟩ = some (.int .i64 0) := (blk_cell BK108.out 0).trans rfl; have hcz13_1 : w11.cell? ⟨gb108, 1, none⟩ = some (.int .i64 0) := (blk_cell BK108.out 1).trans rfl; have hcz13_2 : w11.cell? ⟨gb108, 2, none⟩ = some (.slice none 0 0) := (blk_cell BK108.out 2).trans rfl; have hfz13_0 := blk_frozen BK108.out 0; have hfz13_1 := blk_frozen BK108.out 1; have hfz13_2 := blk_frozen BK108.out 2; obtain ⟨Ao14, co14, eo14⟩ := Kd.V_slice HO106.out; subst eo14; have hcz15_0 : w11.cell? ⟨gb101, 0, none⟩ = some (.int .i64 a0_0) := (blk_cell BK101.out 0).trans rfl; have hcz15_1 : w11.cell? ⟨gb101, 1, none⟩ = some (.int .i64 a0_1) := (blk_cell BK101.out 1).trans rfl; have hcz15_2 : w11.cell? ⟨gb101, 2, none⟩ = some (.slice A0_2 l0_2.length c0_2) := (blk_cell BK101.out 2).trans rfl; have hfz15_0 := blk_frozen BK101.out 0; have hfz15_1 := blk_frozen BK101.out 1; have hfz15_2 := blk_frozen BK101.out 2) | ((with_reducible refine gate_callee (f := 106) rfl ?_); refine gcall (some 27) Tryz.func106 #[.agg #[.int .i64 a0_0, .int .i64 a0_1, .slice A0_2 l0_2.length c0_2]] rfl ?_; (with_reducible refine (spec_tyBalls.calls k a0_0 a0_1 _ _ l0_2 t109 _ ?side1 ?side2 A5.out).mono ?_); (case side1 => exact Kd.C_below HR0_2.out (bel HB)); (case side2 => exact HC0_2.out); rintro e w16 ⟨v110, rfl, ho0, hb⟩; refine ⟨_, rfl, ?_⟩; have n0_ := Aside0.mk (Kd.V_elder' (by (with_reducible repeat (first | apply Kd.V_alloc | apply Kd.V_drewN | apply Kd.V_drew)); exact (Kd.V_mono (Kd.V_far (p := ⟨gb108, 2, none⟩) (Kd.V_far (p := ⟨gb108, 1, none⟩) (Kd.V_far (p := ⟨gb108, 0, none⟩) (Kd.V_mono HO106.out (fun k_ hk => (⟨hk, hk.2⟩ : _ ∧ k_ ≠ gb108))) (fun _ hk => hk.2) (.int .i64 t102)) (fun _ hk => hk.2) (.int .i64 t103)) (fun _ hk => hk.2) (.slice Ao14 t104.length co14)) (fun _ h_ => h_.1))) (Kd.R_base ho0) hb); have n1_ := Aside0.mk (Kd.R_lower ho0 (below_size (bel HB))); have n2_ := Aside0.mk (blk_below (g := gb101) (o := .cells #[.int .i64 a0_0, .int .i64 a0_1, .slice A0_2 l0_2.length c0_2] 45 (0, 0)) (by (with_reducible repeat (first | refine blk_drewN ?_ _ | refine blk_drew ?_ | refine blk_alloc ?_ _)); refine blk_far ?_ NB101_108.out _; (with_reducible repeat (first | refine blk_drewN ?_ _ | refine blk_drew ?_ | refine blk_alloc ?_ _)); refine blk_far ?_ NB101_108.out _; (with_reducible repeat (first | refine blk_drewN ?_ _ | refine blk_drew ?_ | refine blk_alloc ?_ _)); refine blk_far ?_ NB101_108.out _; exact blc) hb); have n3_ := Aside0.mk (blk_below (g := gb108) (o := .cells #[.int .i64 t102, .int .i64 t103, .slice Ao14 t104.length co14] 45 (0, 0)) (by (with_reducible repeat (first | refine blk_drewN ?_ _ | refine blk_drew ?_ | refine blk_alloc ?_ _)); refine blk_put (cs := #[.int .i64 t102, .int .i64 t103, .slice none 0 0]) ?_ 2 _ rfl; (with_reducible repeat (first | refine blk_drewN ?_ _ | refine blk_drew ?_ | refine blk_alloc ?_ _)); refine blk_put (cs := #[.int .i64 t102, .int .i64 0, .slice none 0 0]) ?_ 1 _ rfl; (with_reducible repeat (first | refine blk_drewN ?_ _ | refine blk_drew ?_ | refine blk_alloc ?_ _)); refine blk_put (cs := #[.int .i64 0, .int .i64 0, .slice none 0 0]) ?_ 0 _ rfl; exact blc) hb); have n4_ := Aside0.mk (below_step (bel HB) hb); clear HO106; clear BK101; clear BK108; clear HB; have HO106 := n0_; have HO111 := n1_; have BK101 := n2_; have BK108 := n3_; have HB := n4_; clear n0_ n1_ n2_ n3_ n4_; (try clear hb); (try clear hb2); (try clear hk); (try clear hi); (try clear ho0); obtain ⟨Ao17, co17, eo17⟩ := Kd.R_slice HO111.out; subst eo17) | ((with_reducible refine gate_dst (N := 30) rfl ?_); refine Kd.R_make (Kd.int .i64) _ 3 rfl (N := 30) rfl 25 _ _ rfl (t109.length : Int) rfl rfl Tryz.underlying25 (.int .i64 0) 8 info3 rfl (by decide) (by omega) 0 (ok := fun _ => True) (okp := fun _ => True) rfl (fun _ hk => hk) trivial (of_decide_eq_true (by first | (with_reducible assumption) | assumption)) (Nat.le_trans (Nat.mul_le_mul_right _ (of_decide_eq_true (by first | (with_reducible assumption) | assumption) : (t109.length : Int).toNat ≤ 35184372088832)) (by omega)) (Below.refl _ _) (Nat.le_refl _) ?_; intro v113 w18 ho19 hb hg_ hnew_; clear hg_ hnew_; (first | rw [← Ny112.out] at ho19 | (simp only [Int.reduceToNat] at ho19; rw [← Ny112.out] at ho19)); have n0_ := Aside0.mk (Kd.V_elder' (by (with_reducible repeat (first | apply Kd.V_alloc | apply Kd.V_drewN | apply Kd.V_drew)); (first | exact HO106.out | exact R_any HO106.out)) (Kd.R_base ho19) hb); have n1_ := Aside0.mk (Kd.R_elder' (rch HO111) (Kd.R_base ho19) hb); have n2_ := Aside0.mk (Kd.R_lower (Kd.R_new' ho19 (Kd.R_lt (rch HO111))) (below_size (bel HB))); have n3_ := Aside0.mk (blk_below (g := gb101) (o := .cells #[.int .i64 a0_0, .int .i64 a0_1, .slice A0_2 l0_2.length c0_2] 45 (0, 0)) blc hb); have n4_ := Aside0.mk (blk_below (g := gb108) (o := .cells #[.int .i64 t102, .int .i64 t103, .slice Ao14 t104.length co14] 45 (0, 0)) blc hb); have n5_ := Aside0.mk (below_step (bel HB) hb); clear HO106; clear HO111; clear BK101; clear BK108; clear HB; have HO106 := n0_; have HO111 := n1_; have HO114 := n2_; have BK101 := n3_; have BK108 := n4_; have HB := n5_; clear n0_ n1_ n2_ n3_ n4_ n5_; clear hb ho19))
    go_loopg [33] k (fun kq v33 w' => ∃ (x9_1 : List Int) (x33_1 : Int) (x109002_1 : List Int) (u109002 : Value), v33 = .int .i64 x33_1 ∧ Aside0 (spec_mcPermutation.l0 kq a1 t109 x9_1 t109 (t109.length : Int) x33_1 a0_0 a0_1 l0_2 = some (r1, r2)) ∧ Aside0 (kq ≤ k) ∧ Aside0 (Kd.R (Kd.int .i64) 3 w' w.heap.size (fun k_ => some k_ ≠ (v113 : Value).ownBlock) (.slice Ao17 t109.length co17) t109) ∧ Aside0 (Kd.R (Kd.int .i64) 3 w' w.heap.size (fun k_ => some k_ ≠ ((.slice Ao17 t109.length co17) : Value).ownBlock ∧ some k_ ≠ ((.slice Ao17 t109.length co17) : Value).ownBlock) v113 x9_1) ∧ Aside0 (Kd.R (Kd.int .i64) 3 w' w.heap.size (fun k_ => some k_ ≠ (v113 : Value).ownBlock) (.slice Ao17 t109.length co17) t109) ∧ Aside0 (Kd.V (Kd.int .u8) 5 w' w.heap.size (fun k_ => some k_ ≠ ((.slice Ao17 t109.length co17) : Value).ownBlock ∧ some k_ ≠ (v113 : Value).ownBlock ∧ some k_ ≠ ((.slice Ao17 t109.length co17) : Value).ownBlock ∧ k_ ≠ gb101 ∧ k_ ≠ gb108) u109002 x109002_1) ∧ Aside0 (w'.heap[gb101]? = some (.cells #[.int .i64 a0_0, .int .i64 a0_1, (.slice A0_2 l0_2.length c0_2)] 45 (0, 0))) ∧ Aside0 (w'.heap[gb108]? = some (.cells #[.int .i64 t102, .int .i64 t103, u109002] 45 (0, 0))) ∧ Aside0 (Below w.heap.size w w'))
    case atStart => exact ⟨(y112), (0), (t104), (.slice Ao14 t104.length co14), (by first | rfl | (simp; done) | (simp [*]; done)), H', ⟨Nat.le_refl _⟩, ⟨by (with_reducible repeat (first | apply Kd.R_alloc | apply Kd.R_drewN | apply Kd.R_drew)); (first | exact Kd.R_mono HO111.out (fun _ hk => hk.2) | exact HO111.out | exact R_any HO111.out)⟩, ⟨by (with_reducible repeat (first | apply Kd.R_alloc | apply Kd.R_drewN | apply Kd.R_drew)); exact Kd.R_mono HO114.out (fun _ hk => ⟨hk.2, hk.2⟩)⟩, ⟨by (with_reducible repeat (first | apply Kd.R_alloc | apply Kd.R_drewN | apply Kd.R_drew)); (first | exact Kd.R_mono HO111.out (fun _ hk => hk.2) | exact HO111.out | exact R_any HO111.out)⟩, ⟨by (with_reducible repeat (first | apply Kd.V_alloc | apply Kd.V_drewN | apply Kd.V_drew)); exact Kd.V_mono HO106.out (fun _ hk => ⟨hk.1.2, ⟨hk.2, ⟨hk.1.2, ⟨hk.1.1.1, hk.1.1.2⟩⟩⟩⟩)⟩, ⟨blc⟩, ⟨blc⟩, ⟨bel HB⟩⟩
    case round =>
     clear H'
     try clear c1
     try clear p2
     try clear c4
     try clear c6
     try clear c6b0
     try clear c6b0y
     try clear c6b1
     try clear c7
     try clear c7b0
     try clear c7b0y
     try clear c7b1
     try clear c10
     try clear c12
     try clear hcz13_0
     try clear hcz13_1
     try clear hcz13_2
     try clear hcz15_0
     try clear hcz15_1
     try clear hcz15_2
     try clear hcz9_0
     try clear hcz9_1
     try clear hcz9_2
     try clear hfz13_0
     try clear hfz13_1
     try clear hfz13_2
     try clear hfz15_0
     try clear hfz15_1
     try clear hfz15_2
     try clear hfz9_0
     try clear hfz9_1
     try clear hfz9_2
     obtain ⟨x9_1, x33_1, x109002_1, u109002, rfl, HA, HK1, HO_8, HO_9, HO_31, HO_109002, BK101, BK108, HB⟩ := hrel
     cases gk with
     | zero => exact absurd HA.out (by simp [spec_mcPermutation.l0])
     | succ k1 =>
      have H := HA.out
      clear HA
      simp only [spec_mcPermutation.l0] at H
      by_cases c20 : x33_1 < (t109.length : Int)
      ·rw [if_pos c20] at H
       have c20b0 : decide (x33_1 < (t109.length : Int)) = true := decide_eq_true c20
       clear c20
       by_cases c21 : 0 ≤ x33_1
       ·rw [if_pos c21] at H
        have c21b0 : decide (0 ≤ x33_1) = true := decide_eq_true c21
        clear c21
        by_cases c22 : x33_1 < (t109.length : Int)
        ·rw [if_pos c22] at H
         have c22b0 : decide (x33_1 < (t109.length : Int)) = true := decide_eq_true c22
         clear c22
         replace H := Option.bind_eq_some_iff.mp H
         obtain ⟨⟨t116, t117, t118⟩, A230, H⟩ := H
         replace H : (spec_mcPermutation.l1 k1 a1 t109 x9_1 x33_1 (rd t109 x33_1) t109 (t109.length : Int) x33_1 t109 (t109.length : Int) 0 a0_0 a0_1 l0_2 t116 t117 t118) = some (r1, r2) := H
         have A23 := Aside0.mk A230
         clear A230
         have H' := Aside0.mk H
         clear H
         have p115 : 0 ≤ (x33_1 : Int) := of_decide_eq_true (by first | (with_reducible assumption) | assumption)
         have q115 : x33_1 < (t109.length : Int) := of_decide_eq_true (by first | (with_reducible assumption) | assumption)
         obtain ⟨ad115, e115, hx115_0⟩ := Kd.at_int (Kd.R_reads' HO_31.out).2.2 x33_1 p115 q115
         cases e115
         replace p115 := eq_true p115
         replace q115 := eq_true q115
         have hnb24 := NB101_108.out
         have hnc24 := NB108_101.out
         have hcz25_0 : wr.cell? ⟨gb101, 0, none⟩ = some (.int .i64 a0_0) := (blk_cell BK101.out 0).trans rfl
         have hcz25_1 : wr.cell? ⟨gb101, 1, none⟩ = some (.int .i64 a0_1) := (blk_cell BK101.out 1).trans rfl
         have hcz25_2 : wr.cell? ⟨gb101, 2, none⟩ = some (.slice A0_2 l0_2.length c0_2) := (blk_cell BK101.out 2).trans rfl
         have hfz25_0 := blk_frozen BK101.out 0
         have hfz25_1 := blk_frozen BK101.out 1
         have hfz25_2 := blk_frozen BK101.out 2
         go_wp2_with (first | ((with_reducible refine gate_callee (f := 84) rfl ?_); refine gcall (some 39) Tryz.func84 #[.agg #[.int .i64 a0_0, .int .i64 a0_1, .slice A0_2 l0_2.length c0_2]] rfl ?_; (with_reducible refine (spec_tyCopy.calls a0_0 a0_1 _ _ l0_2 t116 t117 t118 _ ?side1 ?side2 A23.out).mono ?_); (case side1 => repeat (first | exact (Kd.C_below HR0_2.out HB.out) | (with_reducible refine Kd.C_alloc ?_ _) | (with_reducible refine Kd.C_drewN ?_ _) | (with_reducible refine Kd.C_drew ?_))); (case side2 => exact HC0_2.out); rintro e w26 ⟨v119, rfl, ho0, hb⟩; refine ⟨_, rfl, ?_⟩; have n0_ := Aside0.mk (Kd.R_below (rch HO_8) hb); have n1_ := Aside0.mk (Kd.R_below (rch HO_9) hb); have n2_ := Aside0.mk (Kd.R_below (rch HO_31) hb); have n3_ := Aside0.mk (Kd.V_elder' (by (with_reducible repeat (first | apply Kd.V_alloc | apply Kd.V_drewN | apply Kd.V_drew)); (first | exact HO_109002.out | exact R_any HO_109002.out)) (Kd.R_base ho0) hb); have n4_ := Aside0.mk (Kd.R_lower ho0 (below_size (bel HB))); have n5_ := Aside0.mk (blk_below (g := gb101) (o := .cells #[.int .i64 a0_0, .int .i64 a0_1, .slice A0_2 l0_2.length c0_2] 45 (0, 0)) blc hb); have n6_ := Aside0.mk (blk_below (g := gb108) (o := .cells #[.int .i64 t102, .int .i64 t103, u109002] 45 (0, 0)) blc hb); have n7_ := Aside0.mk (below_step (bel HB) hb); clear HO_8; clear HO_9; clear HO_31; clear HO_109002; clear BK101; clear BK108; clear HB; have HO_8 := n0_; have HO_9 := n1_; have HO_31 := n2_; have HO_109002 := n3_; have HO120 := n4_; have BK101 := n5_; have BK108 := n6_; have HB := n7_; clear n0_ n1_ n2_ n3_ n4_ n5_ n6_ n7_; (try clear hb); (try clear hb2); (try clear hk); (try clear hi); (try clear ho0)) | ((with_reducible refine gate_dst (N := 12) rfl ?_); refine boxE (N := 12) (cs := #[.int .i64 0, .int .i64 0, .slice none 0 0]) (t := 45) ?_; intro gb121 hg w27 hbox hb; have n0_ := Aside0.mk (Kd.R_below (rch HO_8) hb); have n1_ := Aside0.mk (Kd.R_below (rch HO_9) hb); have n2_ := Aside0.mk (Kd.R_below (rch HO_31) hb); have n3_ := Aside0.mk (Kd.V_below (Kd.V_elderB (by (with_reducible repeat (first | apply Kd.V_alloc | apply Kd.V_drewN | apply Kd.V_drew)); (first | exact HO_109002.out | exact R_any HO_109002.out)) gb121 (Nat.le_of_eq hg.symm)) hb); have n4_ := Aside0.mk (Kd.R_below (rch HO120) hb); have n5_ := Aside0.mk (blk_below (g := gb101) (o := .cells #[.int .i64 a0_0, .int .i64 a0_1, .slice A0_2 l0_2.length c0_2] 45 (0, 0)) blc hb); have n6_ := Aside0.mk (blk_below (g := gb108) (o := .cells #[.int .i64 t102, .int .i64 t103, u109002] 45 (0, 0)) blc hb); have n7_ := Aside0.mk (below_step (bel HB) hb); have n8_ := Aside0.mk (hbox); have n9_ := Aside0.mk (gsz hg (bel HB)); have n10_ := Aside0.mk (gsz hg (bel HB)); have n11_ := Aside0.mk ((by rw [hg]; exact Nat.ne_of_lt (blk_lt (g := gb101) (o := .cells #[.int .i64 a0_0, .int .i64 a0_1, .slice A0_2 l0_2.length c0_2] 45 (0, 0)) blc) : gb101 ≠ gb121)); have n12_ := Aside0.mk ((by rw [hg]; exact Nat.ne_of_gt (blk_lt (g := gb101) (o := .cells #[.int .i64 a0_0, .int .i64 a0_1, .slice A0_2 l0_2.length c0_2] 45 (0, 0)) blc) : gb121 ≠ gb101)); have n13_ := Aside0.mk ((by rw [hg]; exact Nat.ne_of_lt (blk_lt (g := gb108) (o := .cells #[.int .i64 t102, .int .i64 t103, u109002] 45 (0, 0)) blc) : gb108 ≠ gb121)); have n14_ := Aside0.mk ((by rw [hg]; exact Nat.ne_of_gt (blk_lt (g := gb108) (o := .cells #[.int .i64 t102, .int .i64 t103, u109002] 45 (0, 0)) blc) : gb121 ≠ gb108)); clear HO_8; clear HO_9; clear HO_31; clear HO_109002; clear HO120; clear BK101; clear BK108; clear HB; have HO_8 := n0_; have HO_9 := n1_; have HO_31 := n2_; have HO_109002 := n3_; have HO120 := n4_; have BK101 := n5_; have BK108 := n6_; have HB := n7_; have BK121 := n8_; have GW121 := n9_; have GE121 := n10_; have NB101_121 := n11_; have NB121_101 := n12_; have NB108_121 := n13_; have NB121_108 := n14_; clear n0_ n1_ n2_ n3_ n4_ n5_ n6_ n7_ n8_ n9_ n10_ n11_ n12_ n13_ n14_; clear hb hbox hg; have hnb28 := NB121_101.out; have hnc28 := NB101_121.out; have hnb29 := NB121_108.out; have hnc29 := NB108_121.out; have hcz30_0 : w27.cell? ⟨gb121, 0, none⟩ = some (.int .i64 0) := (blk_cell BK121.out 0).trans rfl; have hcz30_1 : w27.cell? ⟨gb121, 1, none⟩ = some (.int .i64 0) := (blk_cell BK121.out 1).trans rfl; have hcz30_2 : w27.cell? ⟨gb121, 2, none⟩ = some (.slice none 0 0) := (blk_cell BK121.out 2).trans rfl; have hfz30_0 := blk_frozen BK121.out 0; have hfz30_1 := blk_frozen BK121.out 1; have hfz30_2 := blk_frozen BK121.out 2; obtain ⟨Ao31, co31, eo31⟩ := Kd.R_slice HO120.out; subst eo31))
         go_loopg [42] k1 (fun kq v42 w' => ∃ (x42_2 : Int) (x109002_2 : List Int) (x122002_2 : List Int) (u109002 : Value) (u122002 : Value), v42 = .int .i64 x42_2 ∧ Aside0 (spec_mcPermutation.l1 kq a1 t109 x9_1 x33_1 (rd t109 x33_1) t109 (t109.length : Int) x33_1 t109 (t109.length : Int) x42_2 a0_0 a0_1 l0_2 t116 t117 x122002_2 = some (r1, r2)) ∧ Aside0 (kq ≤ k1) ∧ Aside0 (Kd.R (Kd.int .i64) 3 w' w.heap.size (fun k_ => some k_ ≠ (v113 : Value).ownBlock) (.slice (some ad115) t109.length co17) t109) ∧ Aside0 (Kd.R (Kd.int .i64) 3 w' w.heap.size (fun k_ => some k_ ≠ ((.slice (some ad115) t109.length co17) : Value).ownBlock ∧ some k_ ≠ ((.slice (some ad115) t109.length co17) : Value).ownBlock ∧ some k_ ≠ ((.slice (some ad115) t109.length co17) : Value).ownBlock) v113 x9_1) ∧ Aside0 (Kd.R (Kd.int .i64) 3 w' w.heap.size (fun k_ => some k_ ≠ (v113 : Value).ownBlock) (.slice (some ad115) t109.length co17) t109) ∧ Aside0 (Kd.R (Kd.int .i64) 3 w' w.heap.size (fun k_ => some k_ ≠ (v113 : Value).ownBlock) (.slice (some ad115) t109.length co17) t109) ∧ Aside0 (Kd.V (Kd.int .u8) 5 w' w.heap.size (fun k_ => some k_ ≠ ((.slice (some ad115) t109.length co17) : Value).ownBlock ∧ some k_ ≠ (v113 : Value).ownBlock ∧ some k_ ≠ ((.slice (some ad115) t109.length co17) : Value).ownBlock ∧ some k_ ≠ ((.slice (some ad115) t109.length co17) : Value).ownBlock ∧ some k_ ≠ (u122002 : Value).ownBlock ∧ k_ ≠ gb101 ∧ k_ ≠ gb108 ∧ k_ ≠ gb121) u109002 x109002_2) ∧ Aside0 (Kd.R (Kd.int .u8) 5 w' w.heap.size (fun _ => True) u122002 x122002_2) ∧ Aside0 (w'.heap[gb101]? = some (.cells #[.int .i64 a0_0, .int .i64 a0_1, (.slice A0_2 l0_2.length c0_2)] 45 (0, 0))) ∧ Aside0 (w'.heap[gb108]? = some (.cells #[.int .i64 t102, .int .i64 t103, u109002] 45 (0, 0))) ∧ Aside0 (w'.heap[gb121]? = some (.cells #[.int .i64 t116, .int .i64 t117, u122002] 45 (0, 0))) ∧ Aside0 (Below w.heap.size w w'))
         case atStart => exact ⟨(0), (x109002_1), (t118), (u109002), (.slice Ao31 t118.length co31), (by first | rfl | (simp; done) | (simp [*]; done)), H', ⟨Nat.le_refl _⟩, ⟨by (with_reducible repeat (first | apply Kd.R_alloc | apply Kd.R_drewN | apply Kd.R_drew)); exact Kd.R_mono (Kd.R_far (p := ⟨gb121, 2, none⟩) (Kd.R_far (p := ⟨gb121, 1, none⟩) (Kd.R_far (p := ⟨gb121, 0, none⟩) (Kd.R_types HO_8.out BK121.out (by decide)) (fun _ hk => hk.2) (.int .i64 t116)) (fun _ hk => hk.2) (.int .i64 t117)) (fun _ hk => hk.2) (.slice Ao31 t118.length co31)) (fun _ hk => hk.1)⟩, ⟨by (with_reducible repeat (first | apply Kd.R_alloc | apply Kd.R_drewN | apply Kd.R_drew)); exact Kd.R_mono (Kd.R_far (p := ⟨gb121, 2, none⟩) (Kd.R_far (p := ⟨gb121, 1, none⟩) (Kd.R_far (p := ⟨gb121, 0, none⟩) (Kd.R_types HO_9.out BK121.out (by decide)) (fun _ hk => hk.2) (.int .i64 t116)) (fun _ hk => hk.2) (.int .i64 t117)) (fun _ hk => hk.2) (.slice Ao31 t118.length co31)) (fun _ hk => ⟨hk.1.1, ⟨hk.1.2, hk.1.1⟩⟩)⟩, ⟨by (with_reducible repeat (first | apply Kd.R_alloc | apply Kd.R_drewN | apply Kd.R_drew)); exact Kd.R_mono (Kd.R_far (p := ⟨gb121, 2, none⟩) (Kd.R_far (p := ⟨gb121, 1, none⟩) (Kd.R_far (p := ⟨gb121, 0, none⟩) (Kd.R_types HO_31.out BK121.out (by decide)) (fun _ hk => hk.2) (.int .i64 t116)) (fun _ hk => hk.2) (.int .i64 t117)) (fun _ hk => hk.2) (.slice Ao31 t118.length co31)) (fun _ hk => hk.1)⟩, ⟨by (with_reducible repeat (first | apply Kd.R_alloc | apply Kd.R_drewN | apply Kd.R_drew)); exact Kd.R_mono (Kd.R_far (p := ⟨gb121, 2, none⟩) (Kd.R_far (p := ⟨gb121, 1, none⟩) (Kd.R_far (p := ⟨gb121, 0, none⟩) (Kd.R_types HO_8.out BK121.out (by decide)) (fun _ hk => hk.2) (.int .i64 t116)) (fun _ hk => hk.2) (.int .i64 t117)) (fun _ hk => hk.2) (.slice Ao31 t118.length co31)) (fun _ hk => hk.1)⟩, ⟨by (with_reducible repeat (first | apply Kd.V_alloc | apply Kd.V_drewN | apply Kd.V_drew)); exact Kd.V_mono (Kd.V_far (p := ⟨gb121, 2, none⟩) (Kd.V_far (p := ⟨gb121, 1, none⟩) (Kd.V_far (p := ⟨gb121, 0, none⟩) (Kd.V_mono HO_109002.out (fun k_ hk => (⟨hk, hk.2⟩ : _ ∧ k_ ≠ gb121))) (fun _ hk => hk.2) (.int .i64 t116)) (fun _ hk => hk.2) (.int .i64 t117)) (fun _ hk => hk.2) (.slice Ao31 t118.length co31)) (fun _ hk => ⟨hk.1.1.1.1, ⟨hk.1.1.1.2.1, ⟨hk.1.1.1.2.2.1, ⟨hk.1.1.1.1, ⟨hk.1.1.2, ⟨hk.1.1.1.2.2.2.1, ⟨hk.1.1.1.2.2.2.2, hk.1.2⟩⟩⟩⟩⟩⟩⟩)⟩, ⟨by (with_reducible repeat (first | apply Kd.R_alloc | apply Kd.R_drewN | apply Kd.R_drew)); exact Kd.R_mono (Kd.R_far (p := ⟨gb121, 2, none⟩) (Kd.R_far (p := ⟨gb121, 1, none⟩) (Kd.R_far (p := ⟨gb121, 0, none⟩) (Kd.R_types HO120.out BK121.out (by decide)) (fun _ hk => hk.2) (.int .i64 t116)) (fun _ hk => hk.2) (.int .i64 t117)) (fun _ hk => hk.2) (.slice Ao31 t118.length co31)) (fun _ hk => trivial)⟩, ⟨by (with_reducible repeat (first | refine blk_drewN ?_ _ | refine blk_drew ?_ | refine blk_alloc ?_ _)); refine blk_far ?_ NB101_121.out _; (with_reducible repeat (first | refine blk_drewN ?_ _ | refine blk_drew ?_ | refine blk_alloc ?_ _)); refine blk_far ?_ NB101_121.out _; (with_reducible repeat (first | refine blk_drewN ?_ _ | refine blk_drew ?_ | refine blk_alloc ?_ _)); refine blk_far ?_ NB101_121.out _; exact blc⟩, ⟨by (with_reducible repeat (first | refine blk_drewN ?_ _ | refine blk_drew ?_ | refine blk_alloc ?_ _)); refine blk_far ?_ NB108_121.out _; (with_reducible repeat (first | refine blk_drewN ?_ _ | refine blk_drew ?_ | refine blk_alloc ?_ _)); refine blk_far ?_ NB108_121.out _; (with_reducible repeat (first | refine blk_drewN ?_ _ | refine blk_drew ?_ | refine blk_alloc ?_ _)); refine blk_far ?_ NB108_121.out _; exact blc⟩, ⟨by (with_reducible repeat (first | refine blk_drewN ?_ _ | refine blk_drew ?_ | refine blk_alloc ?_ _)); refine blk_put (cs := #[.int .i64 t116, .int .i64 t117, .slice none 0 0]) ?_ 2 _ rfl; (with_reducible repeat (first | refine blk_drewN ?_ _ | refine blk_drew ?_ | refine blk_alloc ?_ _)); refine blk_put (cs := #[.int .i64 t116, .int .i64 0, .slice none 0 0]) ?_ 1 _ rfl; (with_reducible repeat (first | refine blk_drewN ?_ _ | refine blk_drew ?_ | refine blk_alloc ?_ _)); refine blk_put (cs := #[.int .i64 0, .int .i64 0, .slice none 0 0]) ?_ 0 _ rfl; exact blc⟩, ⟨bel HB⟩⟩
         case round =>
          clear H'
          try clear c1
          try clear p1
          try clear q1
          try clear hx1
          try clear c2
          try clear p2
          try clear c4
          try clear c6
          try clear c6b0
          try clear c6b0y
          try clear c6b1
          try clear c7
          try clear c7b0
          try clear c7b0y
          try clear c7b1
          try clear c8
          try clear c10
          try clear p11
          try clear q11
          try clear hx11
          try clear c12
          try clear c20
          try clear c20b0
          try clear c20b0y
          try clear c21
          try clear c21b0
          try clear c21b0y
          try clear c22
          try clear c22b0
          try clear c22b0y
          try clear c24
          try clear c28
          try clear c29
          try clear hcz13_0
          try clear hcz13_1
          try clear hcz13_2
          try clear hcz15_0
          try clear hcz15_1
          try clear hcz15_2
          try clear hcz25_0
          try clear hcz25_1
          try clear hcz25_2
          try clear hcz30_0
          try clear hcz30_1
          try clear hcz30_2
          try clear hcz9_0
          try clear hcz9_1
          try clear hcz9_2
          try clear hfz13_0
          try clear hfz13_1
          try clear hfz13_2
          try clear hfz15_0
          try clear hfz15_1
          try clear hfz15_2
          try clear hfz25_0
          try clear hfz25_1
          try clear hfz25_2
          try clear hfz30_0
          try clear hfz30_1
          try clear hfz30_2
          try clear hfz9_0
          try clear hfz9_1
          try clear hfz9_2
          try clear hx115_0
          try clear p115
          try clear p2
          try clear q115
          obtain ⟨x42_2, x109002_2, x122002_2, u109002, u122002, rfl, HA, HK2, HO_8, HO_9, HO_31, HO_40, HO_109002, HO_122002, BK101, BK108, BK121, HB⟩ := hrel
          cases gk with
          | zero => exact absurd HA.out (by simp [spec_mcPermutation.l1])
          | succ k2 =>
           have H := HA.out
           clear HA
           simp only [spec_mcPermutation.l1] at H
           by_cases c32 : x42_2 < (t109.length : Int)
           ·rw [if_pos c32] at H
            have c32b0 : decide (x42_2 < (t109.length : Int)) = true := decide_eq_true c32
            clear c32
            by_cases c33 : 0 ≤ x42_2
            ·rw [if_pos c33] at H
             have c33b0 : decide (0 ≤ x42_2) = true := decide_eq_true c33
             clear c33
             by_cases c34 : x42_2 < (t109.length : Int)
             ·rw [if_pos c34] at H
              have c34b0 : decide (x42_2 < (t109.length : Int)) = true := decide_eq_true c34
              clear c34
              by_cases c35 : 0 ≤ (rd t109 x42_2)
              ·rw [if_pos c35] at H
               have c35b0 : decide (0 ≤ (rd t109 x42_2)) = true := decide_eq_true c35
               clear c35
               by_cases c36 : (rd t109 x42_2) < (x122002_2.length : Int)
               ·rw [if_pos c36] at H
                have c36b0 : decide ((rd t109 x42_2) < (x122002_2.length : Int)) = true := decide_eq_true c36
                clear c36
                obtain ⟨y123, hy123⟩ : ∃ y_ : List Int, y_ = (x122002_2.set ((rd t109 x42_2) : Int).toNat 111) := ⟨_, rfl⟩
                replace H : (spec_mcPermutation.l1 k2 a1 t109 x9_1 x33_1 (rd t109 x33_1) t109 (t109.length : Int) x33_1 t109 (t109.length : Int) (wrap64 (x42_2 + 1)) a0_0 a0_1 l0_2 t116 t117 y123) = some (r1, r2) := rH hy123 H
                have Ny123 := Aside0.mk hy123
                clear hy123
                have H' := Aside0.mk H
                clear H
                have p122 : 0 ≤ (x42_2 : Int) := of_decide_eq_true (by first | (with_reducible assumption) | assumption)
                have q122 : x42_2 < (t109.length : Int) := of_decide_eq_true (by first | (with_reducible assumption) | assumption)
                obtain ⟨ad122, e122, hx122_0⟩ := Kd.at_int (Kd.R_reads' HO_40.out).2.2 x42_2 p122 q122
                obtain rfl : ad115 = ad122 := (by injection e122)
                replace p122 := eq_true p122
                replace q122 := eq_true q122
                have hnb38 := NB121_101.out
                have hnc38 := NB101_121.out
                have hnb39 := NB121_108.out
                have hnc39 := NB108_121.out
                have hcz40_0 : wr.cell? ⟨gb121, 0, none⟩ = some (.int .i64 t116) := (blk_cell BK121.out 0).trans rfl
                have hcz40_1 : wr.cell? ⟨gb121, 1, none⟩ = some (.int .i64 t117) := (blk_cell BK121.out 1).trans rfl
                have hcz40_2 : wr.cell? ⟨gb121, 2, none⟩ = some (u122002) := (blk_cell BK121.out 2).trans rfl
                have hfz40_0 := blk_frozen BK121.out 0
                have hfz40_1 := blk_frozen BK121.out 1
                have hfz40_2 := blk_frozen BK121.out 2
                have p37 : 0 ≤ ((rd t109 x42_2) : Int) := of_decide_eq_true (by first | (with_reducible assumption) | assumption)
                have q37 : ((rd t109 x42_2) : Int) < ((x122002_2.length : Int) : Int) := of_decide_eq_true (by first | (with_reducible assumption) | assumption)
                obtain ⟨go37, co37, eo37, gb37, gl37, cl37, HG37⟩ := Kd.R_form HO_122002.out (by omega)
                (first | cases eo37 | (injection eo37 with ea_ en_ ec_; (first | subst ea_ | (injection ea_ with ea_; subst ea_)); subst ec_; clear en_))
                have GB37 := Aside0.mk gb37
                have GG37 := Aside0.mk HG37
                clear gb37 gl37 HG37
                obtain ⟨hx37_0, hf37_0⟩ := Kd.R_celln 0 HO_122002.out ((rd t109 x42_2) : Int) p37 q37
                replace p37 := eq_true p37
                replace q37 := eq_true q37
                have HP41 := Kd.R_putg HO_122002.out ((rd t109 x42_2) : Int) 111
                go_wp2_with (first | ((with_reducible refine gate_store (t := 5) (p := 49) rfl ?_); refine store_event (t := 5) (p := 49) (v := ?vo_w42) (w1 := (wr.setCell ⟨go37, ((rd t109 x42_2) : Int).toNat, none⟩ (.int .u8 111))) ?hg ?ho ?hn ?hr ?_; (case ho => rfl); (case hg => rfl); (case hn => rfl); (case hr => first | (go_simp; done) | (go_simp; rfl)); intro w42 hw; have hg : wr.grownBy w42 (some go37) := (by rw [hw]; exact HP41.2); have hp_ : Kd.R (Kd.int .u8) 5 w42 w.heap.size (fun _ => True) (.slice (some ⟨go37, 0, none⟩) x122002_2.length co37) y123 := (by rw [hw, Ny123.out]; (first | exact HP41.1 | exact R_any HP41.1)); clear HP41; have n0_ := Aside0.mk (Kd.R_over' (v := (.slice (some ⟨go37, 0, none⟩) x122002_2.length co37)) (rch HO_8) (Kd.R_typed HO_122002.out) (by decide) hg); have n1_ := Aside0.mk (Kd.R_over' (v := (.slice (some ⟨go37, 0, none⟩) x122002_2.length co37)) (rch HO_9) (Kd.R_typed HO_122002.out) (by decide) hg); have n2_ := Aside0.mk (Kd.R_over' (v := (.slice (some ⟨go37, 0, none⟩) x122002_2.length co37)) (rch HO_31) (Kd.R_typed HO_122002.out) (by decide) hg); have n3_ := Aside0.mk (Kd.R_over' (v := (.slice (some ⟨go37, 0, none⟩) x122002_2.length co37)) (rch HO_40) (Kd.R_typed HO_122002.out) (by decide) hg); have n4_ := Aside0.mk (Kd.V_afterv (v := (.slice (some ⟨go37, 0, none⟩) x122002_2.length co37)) (v1 := (.slice (some ⟨go37, 0, none⟩) x122002_2.length co37)) (ok := (fun k_ => some k_ ≠ (.slice (some ad115) t109.length co17 : Value).ownBlock ∧ some k_ ≠ (v113 : Value).ownBlock ∧ some k_ ≠ (.slice (some ad115) t109.length co17 : Value).ownBlock ∧ some k_ ≠ (.slice (some ad115) t109.length co17 : Value).ownBlock ∧ k_ ≠ gb101 ∧ k_ ≠ gb108 ∧ k_ ≠ gb121)) (by (with_reducible repeat (first | apply Kd.V_alloc | apply Kd.V_drewN | apply Kd.V_drew)); exact Kd.V_mono HO_109002.out (fun _ hk => ⟨⟨hk.1, ⟨hk.2.1, ⟨hk.2.2.1, ⟨hk.2.2.2.1, ⟨hk.2.2.2.2.2.1, ⟨hk.2.2.2.2.2.2.1, hk.2.2.2.2.2.2.2⟩⟩⟩⟩⟩⟩, hk.2.2.2.2.1⟩)) hg (.inl rfl)); have n5_ := Aside0.mk (hp_); have n6_ := Aside0.mk (blk_grown (g := gb101) (o := .cells #[.int .i64 a0_0, .int .i64 a0_1, .slice A0_2 l0_2.length c0_2] 45 (0, 0)) blc hg (Kd.R_ne HO_122002.out BK101.out (by decide))); have n7_ := Aside0.mk (blk_grown (g := gb108) (o := .cells #[.int .i64 t102, .int .i64 t103, u109002] 45 (0, 0)) blc hg (Kd.R_ne HO_122002.out BK108.out (by decide))); have n8_ := Aside0.mk (blk_grown (g := gb121) (o := .cells #[.int .i64 t116, .int .i64 t117, .slice (some ⟨go37, 0, none⟩) x122002_2.length co37] 45 (0, 0)) blc hg (Kd.R_ne HO_122002.out BK121.out (by decide))); have n9_ := Aside0.mk ((by rw [hw]; exact below_set (HB.out) GB37.out : Below w.heap.size w w42)); clear HO_8; clear HO_9; clear HO_31; clear HO_40; clear HO_109002; clear HO_122002; clear BK101; clear BK108; clear BK121; clear HB; have HO_8 := n0_; have HO_9 := n1_; have HO_31 := n2_; have HO_40 := n3_; have HO_109002 := n4_; have HO_122002 := n5_; have BK101 := n6_; have BK108 := n7_; have BK121 := n8_; have HB := n9_; clear n0_ n1_ n2_ n3_ n4_ n5_ n6_ n7_ n8_ n9_; clear hg hw hp_))
                go_roundg k2
                case measure => have := HK1.out; have := HK2.out; omega
                case rel => exact ⟨(wrap64 (x42_2 + 1)), (x109002_2), (y123), (u109002), (.slice (some ⟨go37, 0, none⟩) x122002_2.length co37), (by first | rfl | (simp; done) | (simp [*]; done)), H', ⟨by have := HK1.out; have := HK2.out; omega⟩, ⟨rch HO_8⟩, ⟨rch HO_9⟩, ⟨rch HO_31⟩, ⟨rch HO_40⟩, ⟨by (with_reducible repeat (first | apply Kd.V_alloc | apply Kd.V_drewN | apply Kd.V_drew)); exact Kd.V_mono HO_109002.out (fun _ hk => ⟨hk.1.1, ⟨hk.1.2.1, ⟨hk.1.2.2.1, ⟨hk.1.2.2.2.1, ⟨hk.2, ⟨hk.1.2.2.2.2.1, ⟨hk.1.2.2.2.2.2.1, hk.1.2.2.2.2.2.2⟩⟩⟩⟩⟩⟩⟩)⟩, ⟨rch HO_122002⟩, ⟨blc⟩, ⟨blc⟩, ⟨blc⟩, ⟨bel HB⟩⟩
               ·rw [if_neg c36] at H
                exact absurd H (by simp)
              ·rw [if_neg c35] at H
               exact absurd H (by simp)
             ·rw [if_neg c34] at H
              exact absurd H (by simp)
            ·rw [if_neg c33] at H
             exact absurd H (by simp)
           ·rw [if_neg c32] at H
            have c32b0 : decide (x42_2 < (t109.length : Int)) = false := decide_eq_false c32
            clear c32
            by_cases c43 : 0 ≤ (rd t109 x33_1)
            ·rw [if_pos c43] at H
             have c43b0 : decide (0 ≤ (rd t109 x33_1)) = true := decide_eq_true c43
             clear c43
             by_cases c44 : (rd t109 x33_1) < (x122002_2.length : Int)
             ·rw [if_pos c44] at H
              have c44b0 : decide ((rd t109 x33_1) < (x122002_2.length : Int)) = true := decide_eq_true c44
              clear c44
              obtain ⟨y124, hy124⟩ : ∃ y_ : List Int, y_ = (x122002_2.set ((rd t109 x33_1) : Int).toNat 97) := ⟨_, rfl⟩
              replace H : ((spec_tiRun.f k2 t116 t117 y124 a1).bind fun bt125 => ((spec_tiPlace.f k2 bt125.1 bt125.2.1 bt125.2.2 97).bind fun t130 => (spec_mcPermutation.l2 k2 a1 t109 x9_1 x33_1 t130 t109 (t109.length : Int) x33_1 t109 (t109.length : Int) 0 a0_0 a0_1 l0_2))) = some (r1, r2) := rH hy124 H
              have Ny124 := Aside0.mk hy124
              clear hy124
              replace H := Option.bind_eq_some_iff.mp H
              obtain ⟨⟨t125, t126, t127⟩, A460, H⟩ := H
              replace H : ((spec_tiPlace.f k2 t125 t126 t127 97).bind fun t130 => (spec_mcPermutation.l2 k2 a1 t109 x9_1 x33_1 t130 t109 (t109.length : Int) x33_1 t109 (t109.length : Int) 0 a0_0 a0_1 l0_2)) = some (r1, r2) := H
              have A46 := Aside0.mk A460
              clear A460
              replace H := Option.bind_eq_some_iff.mp H
              obtain ⟨t130, A470, H⟩ := H
              replace H : (spec_mcPermutation.l2 k2 a1 t109 x9_1 x33_1 t130 t109 (t109.length : Int) x33_1 t109 (t109.length : Int) 0 a0_0 a0_1 l0_2) = some (r1, r2) := H
              have A47 := Aside0.mk A470
              clear A470
              have H' := Aside0.mk H
              clear H
              have hnb48 := NB121_101.out
              have hnc48 := NB101_121.out
              have hnb49 := NB121_108.out
              have hnc49 := NB108_121.out
              have hcz50_0 : wr.cell? ⟨gb121, 0, none⟩ = some (.int .i64 t116) := (blk_cell BK121.out 0).trans rfl
              have hcz50_1 : wr.cell? ⟨gb121, 1, none⟩ = some (.int .i64 t117) := (blk_cell BK121.out 1).trans rfl
              have hcz50_2 : wr.cell? ⟨gb121, 2, none⟩ = some (u122002) := (blk_cell BK121.out 2).trans rfl
              have hfz50_0 := blk_frozen BK121.out 0
              have hfz50_1 := blk_frozen BK121.out 1
              have hfz50_2 := blk_frozen BK121.out 2
              have p45 : 0 ≤ ((rd t109 x33_1) : Int) := of_decide_eq_true (by first | (with_reducible assumption) | assumption)
              have q45 : ((rd t109 x33_1) : Int) < ((x122002_2.length : Int) : Int) := of_decide_eq_true (by first | (with_reducible assumption) | assumption)
              obtain ⟨go45, co45, eo45, gb45, gl45, cl45, HG45⟩ := Kd.R_form HO_122002.out (by omega)
              (first | cases eo45 | (injection eo45 with ea_ en_ ec_; (first | subst ea_ | (injection ea_ with ea_; subst ea_)); subst ec_; clear en_))
              have GB45 := Aside0.mk gb45
              have GG45 := Aside0.mk HG45
              clear gb45 gl45 HG45
              obtain ⟨hx45_0, hf45_0⟩ := Kd.R_celln 0 HO_122002.out ((rd t109 x33_1) : Int) p45 q45
              replace p45 := eq_true p45
              replace q45 := eq_true q45
              have HP51 := Kd.R_putg HO_122002.out ((rd t109 x33_1) : Int) 97
              go_wp2_with (first | ((with_reducible refine gate_store (t := 5) (p := 54) rfl ?_); refine store_event (t := 5) (p := 54) (v := ?vo_w52) (w1 := (wr.setCell ⟨go45, ((rd t109 x33_1) : Int).toNat, none⟩ (.int .u8 97))) ?hg ?ho ?hn ?hr ?_; (case ho => rfl); (case hg => rfl); (case hn => rfl); (case hr => first | (go_simp; done) | (go_simp; rfl)); intro w52 hw; have hg : wr.grownBy w52 (some go45) := (by rw [hw]; exact HP51.2); have hp_ : Kd.R (Kd.int .u8) 5 w52 w.heap.size (fun _ => True) (.slice (some ⟨go45, 0, none⟩) x122002_2.length co45) y124 := (by rw [hw, Ny124.out]; (first | exact HP51.1 | exact R_any HP51.1)); clear HP51; have n0_ := Aside0.mk (Kd.R_over' (v := (.slice (some ⟨go45, 0, none⟩) x122002_2.length co45)) (rch HO_8) (Kd.R_typed HO_122002.out) (by decide) hg); have n1_ := Aside0.mk (Kd.R_over' (v := (.slice (some ⟨go45, 0, none⟩) x122002_2.length co45)) (rch HO_9) (Kd.R_typed HO_122002.out) (by decide) hg); have n2_ := Aside0.mk (Kd.R_over' (v := (.slice (some ⟨go45, 0, none⟩) x122002_2.length co45)) (rch HO_31) (Kd.R_typed HO_122002.out) (by decide) hg); have n3_ := Aside0.mk (Kd.R_over' (v := (.slice (some ⟨go45, 0, none⟩) x122002_2.length co45)) (rch HO_40) (Kd.R_typed HO_122002.out) (by decide) hg); have n4_ := Aside0.mk (Kd.V_afterv (v := (.slice (some ⟨go45, 0, none⟩) x122002_2.length co45)) (v1 := (.slice (some ⟨go45, 0, none⟩) x122002_2.length co45)) (ok := (fun k_ => some k_ ≠ (.slice (some ad115) t109.length co17 : Value).ownBlock ∧ some k_ ≠ (v113 : Value).ownBlock ∧ some k_ ≠ (.slice (some ad115) t109.length co17 : Value).ownBlock ∧ some k_ ≠ (.slice (some ad115) t109.length co17 : Value).ownBlock ∧ k_ ≠ gb101 ∧ k_ ≠ gb108 ∧ k_ ≠ gb121)) (by (with_reducible repeat (first | apply Kd.V_alloc | apply Kd.V_drewN | apply Kd.V_drew)); exact Kd.V_mono HO_109002.out (fun _ hk => ⟨⟨hk.1, ⟨hk.2.1, ⟨hk.2.2.1, ⟨hk.2.2.2.1, ⟨hk.2.2.2.2.2.1, ⟨hk.2.2.2.2.2.2.1, hk.2.2.2.2.2.2.2⟩⟩⟩⟩⟩⟩, hk.2.2.2.2.1⟩)) hg (.inl rfl)); have n5_ := Aside0.mk (hp_); have n6_ := Aside0.mk (blk_grown (g := gb101) (o := .cells #[.int .i64 a0_0, .int .i64 a0_1, .slice A0_2 l0_2.length c0_2] 45 (0, 0)) blc hg (Kd.R_ne HO_122002.out BK101.out (by decide))); have n7_ := Aside0.mk (blk_grown (g := gb108) (o := .cells #[.int .i64 t102, .int .i64 t103, u109002] 45 (0, 0)) blc hg (Kd.R_ne HO_122002.out BK108.out (by decide))); have n8_ := Aside0.mk (blk_grown (g := gb121) (o := .cells #[.int .i64 t116, .int .i64 t117, .slice (some ⟨go45, 0, none⟩) x122002_2.length co45] 45 (0, 0)) blc hg (Kd.R_ne HO_122002.out BK121.out (by decide))); have n9_ := Aside0.mk ((by rw [hw]; exact below_set (HB.out) GB45.out : Below w.heap.size w w52)); clear HO_8; clear HO_9; clear HO_31; clear HO_40; clear HO_109002; clear HO_122002; clear BK101; clear BK108; clear BK121; clear HB; have HO_8 := n0_; have HO_9 := n1_; have HO_31 := n2_; have HO_40 := n3_; have HO_109002 := n4_; have HO_122002 := n5_; have BK101 := n6_; have BK108 := n7_; have BK121 := n8_; have HB := n9_; clear n0_ n1_ n2_ n3_ n4_ n5_ n6_ n7_ n8_ n9_; clear hg hw hp_; have hcz53_0 : w52.cell? ⟨gb121, 0, none⟩ = some (.int .i64 t116) := (blk_cell BK121.out 0).trans rfl; have hcz53_1 : w52.cell? ⟨gb121, 1, none⟩ = some (.int .i64 t117) := (blk_cell BK121.out 1).trans rfl; have hcz53_2 : w52.cell? ⟨gb121, 2, none⟩ = some (.slice (some ⟨go45, 0, none⟩) x122002_2.length co45) := (blk_cell BK121.out 2).trans rfl; have hfz53_0 := blk_frozen BK121.out 0; have hfz53_1 := blk_frozen BK121.out 1; have hfz53_2 := blk_frozen BK121.out 2) | ((with_reducible refine gate_callee (f := 53) rfl ?_); refine goesL_ (some 57) rfl rfl Tryz.func53 (by kernel_rfl) rfl #[.agg #[.int .i64 t116, .int .i64 t117, .slice (some ⟨go45, 0, none⟩) y124.length co45], .string a1] rfl (by (try simp only [List.map_toArray, List.map_cons, List.map_nil]); first | done | (rw [show y124.length = x122002_2.length from (Kd.R_reads' HO_122002.out).1.symm] <;> rfl) | rfl | (simp only [List.length_drop, List.length_take]; rfl)) ?_; (with_reducible refine (spec_tiRun.calls k2 t116 t117 (fun k_ => some k_ = (.slice (some ⟨go45, 0, none⟩) x122002_2.length co45 : Value).ownBlock) _ _ y124 a1 t125 t126 t127 _ ?side1 A46.out).mono ?_); (case side1 => rw [show y124.length = x122002_2.length from (Kd.R_reads' HO_122002.out).1.symm]; exact Kd.R_V (Kd.R_tight rfl (Kd.R_types (Kd.R_types (Kd.R_types (Kd.R_apart' (Kd.R_apart' (Kd.R_apart' (Kd.R_apart' (HO_122002.out) (Kd.R_typed HO_8.out) (by decide)) (Kd.R_typed HO_9.out) (by decide)) (Kd.R_typed HO_31.out) (by decide)) (Kd.R_typed HO_40.out) (by decide)) BK101.out (by decide)) BK108.out (by decide)) BK121.out (by decide)))); rintro e w54 ⟨v128, rfl, ho0, hb⟩; refine ⟨_, rfl, ?_⟩; have n0_ := Aside0.mk (Kd.R_below (rch HO_8) hb); have n1_ := Aside0.mk (Kd.R_below (rch HO_9) hb); have n2_ := Aside0.mk (Kd.R_below (rch HO_31) hb); have n3_ := Aside0.mk (Kd.R_below (rch HO_40) hb); have n4_ := Aside0.mk (Kd.V_below (by (with_reducible repeat (first | apply Kd.V_alloc | apply Kd.V_drewN | apply Kd.V_drew)); (first | exact HO_109002.out | exact R_any HO_109002.out)) hb); have n5_ := Aside0.mk (Kd.R_below (rch HO_122002) hb); have n6_ := Aside0.mk (Kd.V_lower (Kd.V_mono (ok' := fun k_ => some k_ ≠ (.slice (some ad115) t109.length co17 : Value).ownBlock ∧ some k_ ≠ (v113 : Value).ownBlock ∧ some k_ ≠ (.slice (some ad115) t109.length co17 : Value).ownBlock ∧ some k_ ≠ (.slice (some ad115) t109.length co17 : Value).ownBlock ∧ k_ ≠ gb101 ∧ k_ ≠ gb108 ∧ k_ ≠ gb121) ho0 (fun k_ hk_ => ⟨Or.elim hk_ (fun hs_ => ((Kd.R_types (Kd.R_types (Kd.R_types (Kd.R_apart' (Kd.R_apart' (Kd.R_apart' (Kd.R_apart' (HO_122002.out) (Kd.R_typed HO_8.out) (by decide)) (Kd.R_typed HO_9.out) (by decide)) (Kd.R_typed HO_31.out) (by decide)) (Kd.R_typed HO_40.out) (by decide)) BK101.out (by decide)) BK108.out (by decide)) BK121.out (by decide)).1 k_ hs_.symm).1.1.1.1.1.1.2) (fun hn_ => (Kd.fresh' (Kd.R_lt (rch HO_8)) k_ hn_)), Or.elim hk_ (fun hs_ => ((Kd.R_types (Kd.R_types (Kd.R_types (Kd.R_apart' (Kd.R_apart' (Kd.R_apart' (Kd.R_apart' (HO_122002.out) (Kd.R_typed HO_8.out) (by decide)) (Kd.R_typed HO_9.out) (by decide)) (Kd.R_typed HO_31.out) (by decide)) (Kd.R_typed HO_40.out) (by decide)) BK101.out (by decide)) BK108.out (by decide)) BK121.out (by decide)).1 k_ hs_.symm).1.1.1.1.1.2) (fun hn_ => (Kd.fresh' (Kd.R_lt (rch HO_9)) k_ hn_)), Or.elim hk_ (fun hs_ => ((Kd.R_types (Kd.R_types (Kd.R_types (Kd.R_apart' (Kd.R_apart' (Kd.R_apart' (Kd.R_apart' (HO_122002.out) (Kd.R_typed HO_8.out) (by decide)) (Kd.R_typed HO_9.out) (by decide)) (Kd.R_typed HO_31.out) (by decide)) (Kd.R_typed HO_40.out) (by decide)) BK101.out (by decide)) BK108.out (by decide)) BK121.out (by decide)).1 k_ hs_.symm).1.1.1.1.2) (fun hn_ => (Kd.fresh' (Kd.R_lt (rch HO_31)) k_ hn_)), Or.elim hk_ (fun hs_ => ((Kd.R_types (Kd.R_types (Kd.R_types (Kd.R_apart' (Kd.R_apart' (Kd.R_apart' (Kd.R_apart' (HO_122002.out) (Kd.R_typed HO_8.out) (by decide)) (Kd.R_typed HO_9.out) (by decide)) (Kd.R_typed HO_31.out) (by decide)) (Kd.R_typed HO_40.out) (by decide)) BK101.out (by decide)) BK108.out (by decide)) BK121.out (by decide)).1 k_ hs_.symm).1.1.1.2) (fun hn_ => (Kd.fresh' (Kd.R_lt (rch HO_40)) k_ hn_)), Or.elim hk_ (fun hs_ => ((Kd.R_types (Kd.R_types (Kd.R_types (Kd.R_apart' (Kd.R_apart' (Kd.R_apart' (Kd.R_apart' (HO_122002.out) (Kd.R_typed HO_8.out) (by decide)) (Kd.R_typed HO_9.out) (by decide)) (Kd.R_typed HO_31.out) (by decide)) (Kd.R_typed HO_40.out) (by decide)) BK101.out (by decide)) BK108.out (by decide)) BK121.out (by decide)).1 k_ hs_.symm).1.1.2) (fun hn_ => (Kd.freshB (g := gb101) (o := .cells #[.int .i64 a0_0, .int .i64 a0_1, .slice A0_2 l0_2.length c0_2] 45 (0, 0)) blc k_ hn_)), Or.elim hk_ (fun hs_ => ((Kd.R_types (Kd.R_types (Kd.R_types (Kd.R_apart' (Kd.R_apart' (Kd.R_apart' (Kd.R_apart' (HO_122002.out) (Kd.R_typed HO_8.out) (by decide)) (Kd.R_typed HO_9.out) (by decide)) (Kd.R_typed HO_31.out) (by decide)) (Kd.R_typed HO_40.out) (by decide)) BK101.out (by decide)) BK108.out (by decide)) BK121.out (by decide)).1 k_ hs_.symm).1.2) (fun hn_ => (Kd.freshB (g := gb108) (o := .cells #[.int .i64 t102, .int .i64 t103, u109002] 45 (0, 0)) blc k_ hn_)), Or.elim hk_ (fun hs_ => ((Kd.R_types (Kd.R_types (Kd.R_types (Kd.R_apart' (Kd.R_apart' (Kd.R_apart' (Kd.R_apart' (HO_122002.out) (Kd.R_typed HO_8.out) (by decide)) (Kd.R_typed HO_9.out) (by decide)) (Kd.R_typed HO_31.out) (by decide)) (Kd.R_typed HO_40.out) (by decide)) BK101.out (by decide)) BK108.out (by decide)) BK121.out (by decide)).1 k_ hs_.symm).2) (fun hn_ => (Kd.freshB (g := gb121) (o := .cells #[.int .i64 t116, .int .i64 t117, .slice (some ⟨go45, 0, none⟩) x122002_2.length co45] 45 (0, 0)) blc k_ hn_))⟩)) (below_size (bel HB))); have n7_ := Aside0.mk (blk_below (g := gb101) (o := .cells #[.int .i64 a0_0, .int .i64 a0_1, .slice A0_2 l0_2.length c0_2] 45 (0, 0)) blc hb); have n8_ := Aside0.mk (blk_below (g := gb108) (o := .cells #[.int .i64 t102, .int .i64 t103, u109002] 45 (0, 0)) blc hb); have n9_ := Aside0.mk (blk_below (g := gb121) (o := .cells #[.int .i64 t116, .int .i64 t117, .slice (some ⟨go45, 0, none⟩) x122002_2.length co45] 45 (0, 0)) blc hb); have n10_ := Aside0.mk (below_step (bel HB) hb); clear HO_8; clear HO_9; clear HO_31; clear HO_40; clear HO_109002; clear HO_122002; clear BK101; clear BK108; clear BK121; clear HB; have HO_8 := n0_; have HO_9 := n1_; have HO_31 := n2_; have HO_40 := n3_; have HO_109002 := n4_; have HO_122002 := n5_; have HO129 := n6_; have BK101 := n7_; have BK108 := n8_; have BK121 := n9_; have HB := n10_; clear n0_ n1_ n2_ n3_ n4_ n5_ n6_ n7_ n8_ n9_ n10_; (try clear hb); (try clear hb2); (try clear hk); (try clear hi); (try clear ho0); obtain ⟨Ao55, co55, eo55⟩ := Kd.V_slice HO129.out; subst eo55) | ((with_reducible refine gate_callee (f := 41) rfl ?_); refine gcall (some 58) Tryz.func41 #[.agg #[.int .i64 t125, .int .i64 t126, .slice Ao55 t127.length co55], .int .u8 97] rfl ?_; (with_reducible refine (spec_tiPlace.calls k2 t125 t126 _ _ t127 97 t130 _ ?side1 ?side2 A47.out).mono ?_); (case side1 => repeat (first | exact (Kd.V_reads' HO129.out).2.2 | (with_reducible refine Kd.C_alloc ?_ _) | (with_reducible refine Kd.C_drewN ?_ _) | (with_reducible refine Kd.C_drew ?_))); (case side2 => exact (Kd.V_reads' HO129.out).2.1); rintro e w56 ⟨rfl, hb⟩; refine ⟨_, rfl, ?_⟩; have n0_ := Aside0.mk (Kd.R_below (rch HO_8) hb); have n1_ := Aside0.mk (Kd.R_below (rch HO_9) hb); have n2_ := Aside0.mk (Kd.R_below (rch HO_31) hb); have n3_ := Aside0.mk (Kd.R_below (rch HO_40) hb); have n4_ := Aside0.mk (Kd.V_below (by (with_reducible repeat (first | apply Kd.V_alloc | apply Kd.V_drewN | apply Kd.V_drew)); (first | exact HO_109002.out | exact R_any HO_109002.out)) hb); have n5_ := Aside0.mk (Kd.R_below (rch HO_122002) hb); have n6_ := Aside0.mk (Kd.V_below (by (with_reducible repeat (first | apply Kd.V_alloc | apply Kd.V_drewN | apply Kd.V_drew)); (first | exact HO129.out | exact R_any HO129.out)) hb); have n7_ := Aside0.mk (blk_below (g := gb101) (o := .cells #[.int .i64 a0_0, .int .i64 a0_1, .slice A0_2 l0_2.length c0_2] 45 (0, 0)) blc hb); have n8_ := Aside0.mk (blk_below (g := gb108) (o := .cells #[.int .i64 t102, .int .i64 t103, u109002] 45 (0, 0)) blc hb); have n9_ := Aside0.mk (blk_below (g := gb121) (o := .cells #[.int .i64 t116, .int .i64 t117, .slice (some ⟨go45, 0, none⟩) x122002_2.length co45] 45 (0, 0)) blc hb); have n10_ := Aside0.mk (below_step (bel HB) hb); clear HO_8; clear HO_9; clear HO_31; clear HO_40; clear HO_109002; clear HO_122002; clear HO129; clear BK101; clear BK108; clear BK121; clear HB; have HO_8 := n0_; have HO_9 := n1_; have HO_31 := n2_; have HO_40 := n3_; have HO_109002 := n4_; have HO_122002 := n5_; have HO129 := n6_; have BK101 := n7_; have BK108 := n8_; have BK121 := n9_; have HB := n10_; clear n0_ n1_ n2_ n3_ n4_ n5_ n6_ n7_ n8_ n9_ n10_; (try clear hb); (try clear hb2); (try clear hk); (try clear hi)))
              go_loopg [61] k2 (fun kq v61 w' => ∃ (x9_3 : List Int) (x61_3 : Int), v61 = .int .i64 x61_3 ∧ Aside0 (spec_mcPermutation.l2 kq a1 t109 x9_3 x33_1 t130 t109 (t109.length : Int) x33_1 t109 (t109.length : Int) x61_3 a0_0 a0_1 l0_2 = some (r1, r2)) ∧ Aside0 (kq ≤ k2) ∧ Aside0 (Kd.R (Kd.int .i64) 3 w' w.heap.size (fun k_ => some k_ ≠ (v113 : Value).ownBlock) (.slice (some ad115) t109.length co17) t109) ∧ Aside0 (Kd.R (Kd.int .i64) 3 w' w.heap.size (fun k_ => some k_ ≠ ((.slice (some ad115) t109.length co17) : Value).ownBlock ∧ some k_ ≠ ((.slice (some ad115) t109.length co17) : Value).ownBlock ∧ some k_ ≠ ((.slice (some ad115) t109.length co17) : Value).ownBlock) v113 x9_3) ∧ Aside0 (Kd.R (Kd.int .i64) 3 w' w.heap.size (fun k_ => some k_ ≠ (v113 : Value).ownBlock) (.slice (some ad115) t109.length co17) t109) ∧ Aside0 (Kd.R (Kd.int .i64) 3 w' w.heap.size (fun k_ => some k_ ≠ (v113 : Value).ownBlock) (.slice (some ad115) t109.length co17) t109) ∧ Aside0 (Kd.V (Kd.int .u8) 5 w' w.heap.size (fun k_ => some k_ ≠ ((.slice (some ad115) t109.length co17) : Value).ownBlock ∧ some k_ ≠ (v113 : Value).ownBlock ∧ some k_ ≠ ((.slice (some ad115) t109.length co17) : Value).ownBlock ∧ some k_ ≠ ((.slice (some ad115) t109.length co17) : Value).ownBlock ∧ some k_ ≠ ((.slice (some ⟨go45, 0, none⟩) x122002_2.length co45) : Value).ownBlock ∧ k_ ≠ gb101 ∧ k_ ≠ gb108 ∧ k_ ≠ gb121) u109002 x109002_2) ∧ Aside0 (Kd.R (Kd.int .u8) 5 w' w.heap.size (fun _ => True) (.slice (some ⟨go45, 0, none⟩) x122002_2.length co45) y124) ∧ Aside0 (w'.heap[gb101]? = some (.cells #[.int .i64 a0_0, .int .i64 a0_1, (.slice A0_2 l0_2.length c0_2)] 45 (0, 0))) ∧ Aside0 (w'.heap[gb108]? = some (.cells #[.int .i64 t102, .int .i64 t103, u109002] 45 (0, 0))) ∧ Aside0 (w'.heap[gb121]? = some (.cells #[.int .i64 t116, .int .i64 t117, (.slice (some ⟨go45, 0, none⟩) x122002_2.length co45)] 45 (0, 0))) ∧ Aside0 (Below w.heap.size w w'))
              case atStart => exact ⟨(x9_1), (0), (by first | rfl | (simp; done) | (simp [*]; done)), H', ⟨Nat.le_refl _⟩, ⟨rch HO_8⟩, ⟨by (with_reducible repeat (first | apply Kd.R_alloc | apply Kd.R_drewN | apply Kd.R_drew)); exact Kd.R_mono HO_9.out (fun _ hk => ⟨hk.1, ⟨hk.2.1, hk.1⟩⟩)⟩, ⟨rch HO_31⟩, ⟨rch HO_8⟩, ⟨by (with_reducible repeat (first | apply Kd.V_alloc | apply Kd.V_drewN | apply Kd.V_drew)); exact Kd.V_mono HO_109002.out (fun _ hk => ⟨hk.1.1, ⟨hk.1.2.1, ⟨hk.1.2.2.1, ⟨hk.1.1, ⟨hk.2, ⟨hk.1.2.2.2.2.1, ⟨hk.1.2.2.2.2.2.1, hk.1.2.2.2.2.2.2⟩⟩⟩⟩⟩⟩⟩)⟩, ⟨rch HO_122002⟩, ⟨blc⟩, ⟨blc⟩, ⟨blc⟩, ⟨bel HB⟩⟩
              case round =>
               clear H'
               try clear c1
               try clear p1
               try clear q1
               try clear hx1
               try clear c2
               try clear p2
               try clear c3
               try clear p3
               try clear q3
               try clear hx3
               try clear hf3
               try clear c4
               try clear p4
               try clear q4
               try clear hx4
               try clear hf4
               try clear c5
               try clear c6
               try clear c6b0
               try clear c6b0y
               try clear c6b1
               try clear p6
               try clear c7
               try clear c7b0
               try clear c7b0y
               try clear c7b1
               try clear c8
               try clear c10
               try clear p11
               try clear q11
               try clear hx11
               try clear c12
               try clear p12
               try clear q12
               try clear hx12
               try clear c20
               try clear c20b0
               try clear c20b0y
               try clear c21
               try clear c21b0
               try clear c21b0y
               try clear c22
               try clear c22b0
               try clear c22b0y
               try clear c24
               try clear c28
               try clear c29
               try clear c32
               try clear c32b0
               try clear c32b0y
               try clear c33
               try clear c33b0
               try clear c33b0y
               try clear c34
               try clear c34b0
               try clear c34b0y
               try clear c35
               try clear c35b0
               try clear c35b0y
               try clear c36
               try clear c36b0
               try clear c36b0y
               try clear p37
               try clear q37
               try clear hx37
               try clear hf37
               try clear c38
               try clear c39
               try clear c41
               try clear c43
               try clear c43b0
               try clear c43b0y
               try clear c44
               try clear c44b0
               try clear c44b0y
               try clear p45
               try clear q45
               try clear hx45
               try clear hf45
               try clear c48
               try clear c49
               try clear c53
               try clear hcz13_0
               try clear hcz13_1
               try clear hcz13_2
               try clear hcz15_0
               try clear hcz15_1
               try clear hcz15_2
               try clear hcz25_0
               try clear hcz25_1
               try clear hcz25_2
               try clear hcz30_0
               try clear hcz30_1
               try clear hcz30_2
               try clear hcz40_0
               try clear hcz40_1
               try clear hcz40_2
               try clear hcz50_0
               try clear hcz50_1
               try clear hcz50_2
               try clear hcz53_0
               try clear hcz53_1
               try clear hcz53_2
               try clear hcz9_0
               try clear hcz9_1
               try clear hcz9_2
               try clear hfz13_0
               try clear hfz13_1
               try clear hfz13_2
               try clear hfz15_0
               try clear hfz15_1
               try clear hfz15_2
               try clear hfz25_0
               try clear hfz25_1
               try clear hfz25_2
               try clear hfz30_0
               try clear hfz30_1
               try clear hfz30_2
               try clear hfz40_0
               try clear hfz40_1
               try clear hfz40_2
               try clear hfz50_0
               try clear hfz50_1
               try clear hfz50_2
               try clear hfz53_0
               try clear hfz53_1
               try clear hfz53_2
               try clear hfz9_0
               try clear hfz9_1
               try clear hfz9_2
               try clear hx115_0
               try clear hx122_0
               try clear hx37_0
               try clear hx45_0
               try clear p1
               try clear p11
               try clear p115
               try clear p122
               try clear p2
               try clear p37
               try clear p45
               try clear q1
               try clear q11
               try clear q115
               try clear q122
               try clear q37
               try clear q45
               obtain ⟨x9_3, x61_3, rfl, HA, HK3, HO_8, HO_9, HO_31, HO_59, HO_109002, HO_122002, BK101, BK108, BK121, HB⟩ := hrel
               have hl122002_3 := (Kd.R_reads' HO_122002.out).1
               rw [hl122002_3] at HO_122002
               (try simp only [hl122002_3])
               (try simp only [hl122002_3] at BK101)
               (try simp only [hl122002_3] at BK108)
               (try simp only [hl122002_3] at BK121)
               (try simp only [hl122002_3] at HO_8)
               (try simp only [hl122002_3] at HO_9)
               (try simp only [hl122002_3] at HO_31)
               (try simp only [hl122002_3] at HO_59)
               (try simp only [hl122002_3] at HO_109002)
               cases gk with
               | zero => exact absurd HA.out (by simp [spec_mcPermutation.l2])
               | succ k3 =>
                have H := HA.out
                clear HA
                simp only [spec_mcPermutation.l2] at H
                by_cases c57 : x61_3 < (t109.length : Int)
                ·rw [if_pos c57] at H
                 have c57b0 : decide (x61_3 < (t109.length : Int)) = true := decide_eq_true c57
                 clear c57
                 by_cases c58 : 0 ≤ x61_3
                 ·rw [if_pos c58] at H
                  have c58b0 : decide (0 ≤ x61_3) = true := decide_eq_true c58
                  clear c58
                  by_cases c59 : x61_3 < (t109.length : Int)
                  ·rw [if_pos c59] at H
                   have c59b0 : decide (x61_3 < (t109.length : Int)) = true := decide_eq_true c59
                   clear c59
                   by_cases c60 : (rd t109 x61_3) = t130
                   ·rw [if_pos c60] at H
                    have c60b0 : ((rd t109 x61_3) == t130) = true := beq_iff_eq.mpr c60
                    have c60b1 : ((rd t109 x61_3) != t130) = false := bne_eq_false_iff_eq.mpr c60
                    clear c60
                    by_cases c61 : 0 ≤ x33_1
                    ·rw [if_pos c61] at H
                     have c61b0 : decide (0 ≤ x33_1) = true := decide_eq_true c61
                     clear c61
                     by_cases c62 : x33_1 < (x9_3.length : Int)
                     ·rw [if_pos c62] at H
                      have c62b0 : decide (x33_1 < (x9_3.length : Int)) = true := decide_eq_true c62
                      clear c62
                      obtain ⟨y132, hy132⟩ : ∃ y_ : List Int, y_ = (x9_3.set (x33_1 : Int).toNat x61_3) := ⟨_, rfl⟩
                      replace H : (spec_mcPermutation.l2 k3 a1 t109 y132 x33_1 t130 t109 (t109.length : Int) x33_1 t109 (t109.length : Int) (wrap64 (x61_3 + 1)) a0_0 a0_1 l0_2) = some (r1, r2) := rH hy132 H
                      have Ny132 := Aside0.mk hy132
                      clear hy132
                      have H' := Aside0.mk H
                      clear H
                      have p131 : 0 ≤ (x61_3 : Int) := of_decide_eq_true (by first | (with_reducible assumption) | assumption)
                      have q131 : x61_3 < (t109.length : Int) := of_decide_eq_true (by first | (with_reducible assumption) | assumption)
                      obtain ⟨ad131, e131, hx131_0⟩ := Kd.at_int (Kd.R_reads' HO_59.out).2.2 x61_3 p131 q131
                      obtain rfl : ad115 = ad131 := (by injection e131)
                      replace p131 := eq_true p131
                      replace q131 := eq_true q131
                      have p63 : 0 ≤ (x33_1 : Int) := of_decide_eq_true (by first | (with_reducible assumption) | assumption)
                      have q63 : (x33_1 : Int) < ((x9_3.length : Int) : Int) := of_decide_eq_true (by first | (with_reducible assumption) | assumption)
                      obtain ⟨go63, co63, eo63, gb63, gl63, cl63, HG63⟩ := Kd.R_form HO_9.out (by omega)
                      (first | cases eo63 | (injection eo63 with ea_ en_ ec_; (first | subst ea_ | (injection ea_ with ea_; subst ea_)); subst ec_; clear en_))
                      have GB63 := Aside0.mk gb63
                      have GG63 := Aside0.mk HG63
                      clear gb63 gl63 HG63
                      obtain ⟨hx63_0, hf63_0⟩ := Kd.R_celln 0 HO_9.out (x33_1 : Int) p63 q63
                      replace p63 := eq_true p63
                      replace q63 := eq_true q63
                      have HP64 := Kd.R_putg HO_9.out (x33_1 : Int) x61_3
                      go_wp2_with (first | ((with_reducible refine gate_store (t := 3) (p := 72) rfl ?_); refine store_event (t := 3) (p := 72) (v := ?vo_w65) (w1 := (wr.setCell ⟨go63, (x33_1 : Int).toNat, none⟩ (.int .i64 x61_3))) ?hg ?ho ?hn ?hr ?_; (case ho => rfl); (case hg => rfl); (case hn => rfl); (case hr => first | (go_simp; done) | (go_simp; rfl)); intro w65 hw; have hg : wr.grownBy w65 (some go63) := (by rw [hw]; exact HP64.2); have hp_ : Kd.R (Kd.int .i64) 3 w65 w.heap.size (fun k_ => some k_ ≠ (.slice (some ad115) t109.length co17 : Value).ownBlock ∧ some k_ ≠ (.slice (some ad115) t109.length co17 : Value).ownBlock ∧ some k_ ≠ (.slice (some ad115) t109.length co17 : Value).ownBlock) (.slice (some ⟨go63, 0, none⟩) x9_3.length co63) y132 := (by rw [hw, Ny132.out]; (first | exact HP64.1 | exact R_any HP64.1)); clear HP64; have n0_ := Aside0.mk (Kd.R_after (v := (.slice (some ⟨go63, 0, none⟩) x9_3.length co63)) (v1 := (.slice (some ⟨go63, 0, none⟩) x9_3.length co63)) (ok := (fun _ => True)) (by (with_reducible repeat (first | apply Kd.R_alloc | apply Kd.R_drewN | apply Kd.R_drew)); exact Kd.R_mono HO_8.out (fun _ hk => ⟨trivial, hk⟩)) hg (.inl rfl)); have n1_ := Aside0.mk (hp_); have n2_ := Aside0.mk (Kd.R_after (v := (.slice (some ⟨go63, 0, none⟩) x9_3.length co63)) (v1 := (.slice (some ⟨go63, 0, none⟩) x9_3.length co63)) (ok := (fun _ => True)) (by (with_reducible repeat (first | apply Kd.R_alloc | apply Kd.R_drewN | apply Kd.R_drew)); exact Kd.R_mono HO_31.out (fun _ hk => ⟨trivial, hk⟩)) hg (.inl rfl)); have n3_ := Aside0.mk (Kd.R_after (v := (.slice (some ⟨go63, 0, none⟩) x9_3.length co63)) (v1 := (.slice (some ⟨go63, 0, none⟩) x9_3.length co63)) (ok := (fun _ => True)) (by (with_reducible repeat (first | apply Kd.R_alloc | apply Kd.R_drewN | apply Kd.R_drew)); exact Kd.R_mono HO_59.out (fun _ hk => ⟨trivial, hk⟩)) hg (.inl rfl)); have n4_ := Aside0.mk (Kd.V_afterv (v := (.slice (some ⟨go63, 0, none⟩) x9_3.length co63)) (v1 := (.slice (some ⟨go63, 0, none⟩) x9_3.length co63)) (ok := (fun k_ => some k_ ≠ (.slice (some ad115) t109.length co17 : Value).ownBlock ∧ some k_ ≠ (.slice (some ad115) t109.length co17 : Value).ownBlock ∧ some k_ ≠ (.slice (some ad115) t109.length co17 : Value).ownBlock ∧ some k_ ≠ (.slice (some ⟨go45, 0, none⟩) y124.length co45 : Value).ownBlock ∧ k_ ≠ gb101 ∧ k_ ≠ gb108 ∧ k_ ≠ gb121)) (by (with_reducible repeat (first | apply Kd.V_alloc | apply Kd.V_drewN | apply Kd.V_drew)); exact Kd.V_mono HO_109002.out (fun _ hk => ⟨⟨hk.1, ⟨hk.2.2.1, ⟨hk.2.2.2.1, ⟨hk.2.2.2.2.1, ⟨hk.2.2.2.2.2.1, ⟨hk.2.2.2.2.2.2.1, hk.2.2.2.2.2.2.2⟩⟩⟩⟩⟩⟩, hk.2.1⟩)) hg (.inl rfl)); have n5_ := Aside0.mk (Kd.R_over' (v := (.slice (some ⟨go63, 0, none⟩) x9_3.length co63)) (rch HO_122002) (Kd.R_typed HO_9.out) (by decide) hg); have n6_ := Aside0.mk (blk_grown (g := gb101) (o := .cells #[.int .i64 a0_0, .int .i64 a0_1, .slice A0_2 l0_2.length c0_2] 45 (0, 0)) blc hg (Kd.R_ne HO_9.out BK101.out (by decide))); have n7_ := Aside0.mk (blk_grown (g := gb108) (o := .cells #[.int .i64 t102, .int .i64 t103, u109002] 45 (0, 0)) blc hg (Kd.R_ne HO_9.out BK108.out (by decide))); have n8_ := Aside0.mk (blk_grown (g := gb121) (o := .cells #[.int .i64 t116, .int .i64 t117, .slice (some ⟨go45, 0, none⟩) y124.length co45] 45 (0, 0)) blc hg (Kd.R_ne HO_9.out BK121.out (by decide))); have n9_ := Aside0.mk ((by rw [hw]; exact below_set (HB.out) GB63.out : Below w.heap.size w w65)); clear HO_8; clear HO_9; clear HO_31; clear HO_59; clear HO_109002; clear HO_122002; clear BK101; clear BK108; clear BK121; clear HB; have HO_8 := n0_; have HO_9 := n1_; have HO_31 := n2_; have HO_59 := n3_; have HO_109002 := n4_; have HO_122002 := n5_; have BK101 := n6_; have BK108 := n7_; have BK121 := n8_; have HB := n9_; clear n0_ n1_ n2_ n3_ n4_ n5_ n6_ n7_ n8_ n9_; clear hg hw hp_))
                      (try simp only [← hl122002_3])
                      go_roundg k3
                      case measure => have := HK1.out; have := HK2.out; have := HK3.out; omega
                      case rel => exact ⟨(y132), (wrap64 (x61_3 + 1)), (by first | rfl | (simp; done) | (simp [*]; done)), H', ⟨by have := HK1.out; have := HK2.out; have := HK3.out; omega⟩, ⟨by (try simp only [hl122002_3]); (with_reducible repeat (first | apply Kd.R_alloc | apply Kd.R_drewN | apply Kd.R_drew)); (first | exact Kd.R_mono HO_8.out (fun _ hk => hk.2) | exact HO_8.out | exact R_any HO_8.out)⟩, ⟨by (try simp only [hl122002_3]); (with_reducible repeat (first | apply Kd.R_alloc | apply Kd.R_drewN | apply Kd.R_drew)); (first | exact HO_9.out | exact R_any HO_9.out)⟩, ⟨by (try simp only [hl122002_3]); (with_reducible repeat (first | apply Kd.R_alloc | apply Kd.R_drewN | apply Kd.R_drew)); (first | exact Kd.R_mono HO_31.out (fun _ hk => hk.2) | exact HO_31.out | exact R_any HO_31.out)⟩, ⟨by (try simp only [hl122002_3]); (with_reducible repeat (first | apply Kd.R_alloc | apply Kd.R_drewN | apply Kd.R_drew)); (first | exact Kd.R_mono HO_59.out (fun _ hk => hk.2) | exact HO_59.out | exact R_any HO_59.out)⟩, ⟨by (try simp only [hl122002_3]); (with_reducible repeat (first | apply Kd.V_alloc | apply Kd.V_drewN | apply Kd.V_drew)); exact Kd.V_mono HO_109002.out (fun _ hk => ⟨hk.1.1, ⟨hk.2, ⟨hk.1.2.1, ⟨hk.1.2.2.1, ⟨hk.1.2.2.2.1, ⟨hk.1.2.2.2.2.1, ⟨hk.1.2.2.2.2.2.1, hk.1.2.2.2.2.2.2⟩⟩⟩⟩⟩⟩⟩)⟩, ⟨by (try simp only [hl122002_3]); (with_reducible repeat (first | apply Kd.R_alloc | apply Kd.R_drewN | apply Kd.R_drew)); (first | exact HO_122002.out | exact R_any HO_122002.out)⟩, ⟨by (try simp only [hl122002_3]); exact blc⟩, ⟨by (try simp only [hl122002_3]); exact blc⟩, ⟨by (try simp only [hl122002_3]); exact blc⟩, ⟨bel HB⟩⟩
                     ·rw [if_neg c62] at H
                      exact absurd H (by simp)
                    ·rw [if_neg c61] at H
                     exact absurd H (by simp)
                   ·rw [if_neg c60] at H
                    have c60b0 : ((rd t109 x61_3) == t130) = false := beq_eq_false_iff_ne.mpr c60
                    have c60b1 : ((rd t109 x61_3) != t130) = true := bne_iff_ne.mpr c60
                    have H' := Aside0.mk H
                    clear H
                    have p131 : 0 ≤ (x61_3 : Int) := of_decide_eq_true (by first | (with_reducible assumption) | assumption)
                    have q131 : x61_3 < (t109.length : Int) := of_decide_eq_true (by first | (with_reducible assumption) | assumption)
                    obtain ⟨ad131, e131, hx131_0⟩ := Kd.at_int (Kd.R_reads' HO_59.out).2.2 x61_3 p131 q131
                    obtain rfl : ad115 = ad131 := (by injection e131)
                    replace p131 := eq_true p131
                    replace q131 := eq_true q131
                    go_wp2
                    (try simp only [← hl122002_3])
                    go_roundg k3
                    case measure => have := HK1.out; have := HK2.out; have := HK3.out; omega
                    case rel => exact ⟨(x9_3), (wrap64 (x61_3 + 1)), (by first | rfl | (simp; done) | (simp [*]; done)), H', ⟨by have := HK1.out; have := HK2.out; have := HK3.out; omega⟩, ⟨by (try simp only [hl122002_3]); (with_reducible repeat (first | apply Kd.R_alloc | apply Kd.R_drewN | apply Kd.R_drew)); (first | exact HO_8.out | exact R_any HO_8.out)⟩, ⟨by (try simp only [hl122002_3]); (with_reducible repeat (first | apply Kd.R_alloc | apply Kd.R_drewN | apply Kd.R_drew)); (first | exact HO_9.out | exact R_any HO_9.out)⟩, ⟨by (try simp only [hl122002_3]); (with_reducible repeat (first | apply Kd.R_alloc | apply Kd.R_drewN | apply Kd.R_drew)); (first | exact HO_31.out | exact R_any HO_31.out)⟩, ⟨by (try simp only [hl122002_3]); (with_reducible repeat (first | apply Kd.R_alloc | apply Kd.R_drewN | apply Kd.R_drew)); (first | exact HO_59.out | exact R_any HO_59.out)⟩, ⟨by (try simp only [hl122002_3]); (with_reducible repeat (first | apply Kd.V_alloc | apply Kd.V_drewN | apply Kd.V_drew)); (first | exact HO_109002.out | exact R_any HO_109002.out)⟩, ⟨by (try simp only [hl122002_3]); (with_reducible repeat (first | apply Kd.R_alloc | apply Kd.R_drewN | apply Kd.R_drew)); (first | exact HO_122002.out | exact R_any HO_122002.out)⟩, ⟨by (try simp only [hl122002_3]); exact blc⟩, ⟨by (try simp only [hl122002_3]); exact blc⟩, ⟨by (try simp only [hl122002_3]); exact blc⟩, ⟨bel HB⟩⟩
                  ·rw [if_neg c59] at H
                   exact absurd H (by simp)
                 ·rw [if_neg c58] at H
                  exact absurd H (by simp)
                ·rw [if_neg c57] at H
                 have c57b0 : decide (x61_3 < (t109.length : Int)) = false := decide_eq_false c57
                 (try (have c57b0y := c57b0; first | rw [hl122002_3] at c57b0y))
                 clear c57
                 have H' := Aside0.mk H
                 clear H
                 go_wp2
                 (try simp only [← hl122002_3])
                 go_roundg k3
                 case measure => have := HK1.out; have := HK2.out; have := HK3.out; omega
                 case rel => exact ⟨(x9_3), (wrap64 (x33_1 + 1)), (x109002_2), (u109002), (by first | rfl | (simp; done) | (simp [*]; done)), H', ⟨by have := HK1.out; have := HK2.out; have := HK3.out; omega⟩, ⟨by (try simp only [hl122002_3]); (with_reducible repeat (first | apply Kd.R_alloc | apply Kd.R_drewN | apply Kd.R_drew)); (first | exact HO_8.out | exact R_any HO_8.out)⟩, ⟨by (try simp only [hl122002_3]); (with_reducible repeat (first | apply Kd.R_alloc | apply Kd.R_drewN | apply Kd.R_drew)); exact Kd.R_mono HO_9.out (fun _ hk => ⟨hk.1, hk.2.1⟩)⟩, ⟨by (try simp only [hl122002_3]); (with_reducible repeat (first | apply Kd.R_alloc | apply Kd.R_drewN | apply Kd.R_drew)); (first | exact HO_31.out | exact R_any HO_31.out)⟩, ⟨by (try simp only [hl122002_3]); (with_reducible repeat (first | apply Kd.V_alloc | apply Kd.V_drewN | apply Kd.V_drew)); exact Kd.V_mono HO_109002.out (fun _ hk => ⟨hk.1, ⟨hk.2.1, ⟨hk.2.2.1, ⟨hk.2.2.2.2.2.1, hk.2.2.2.2.2.2.1⟩⟩⟩⟩)⟩, ⟨by (try simp only [hl122002_3]); exact blc⟩, ⟨by (try simp only [hl122002_3]); exact blc⟩, ⟨bel HB⟩⟩
             ·rw [if_neg c44] at H
              exact absurd H (by simp)
            ·rw [if_neg c43] at H
             exact absurd H (by simp)
        ·rw [if_neg c22] at H
         exact absurd H (by simp)
       ·rw [if_neg c21] at H
        exact absurd H (by simp)
      ·rw [if_neg c20] at H
       have c20b0 : decide (x33_1 < (t109.length : Int)) = false := decide_eq_false c20
       clear c20
       simp only [Option.some.injEq, Prod.mk.injEq] at H
       obtain ⟨rfl, rfl⟩ := H
       go_wp2
       go_ret2
       exact ⟨_, by first | rfl | (simp [errW_none, errW_some] <;> rfl) | (simp [*, errW_none, errW_some] <;> rfl), by (with_reducible repeat (first | apply Kd.R_alloc | apply Kd.R_drewN | apply Kd.R_drew)); exact Kd.R_mono HO_9.out (fun _ hk => trivial), bel HB⟩
   ·rw [if_neg c7] at H
    exact absurd H (by simp)
  ·rw [if_neg c6] at H
   exact absurd H (by simp)
 ·replace c4 := Bool.eq_false_iff.mpr c4
  subst c4
  have H1 : (some (([] : List Int), false)) = some (r1, r2) := by rw [if_neg (show ¬ (false = true) by decide)] at H; exact H
  clear H
  have H := H1
  clear H1
  simp only [Option.some.injEq, Prod.mk.injEq] at H
  obtain ⟨rfl, rfl⟩ := H
  go_enter Tryz.func79, Tryz.ntmps79
  go_wp2_with (first | ((with_reducible refine gate_dst (N := 2) rfl ?_); refine boxE (N := 2) (cs := #[.int .i64 a0_0, .int .i64 a0_1, .slice A0_2 l0_2.length c0_2]) (t := 45) ?_; intro gb101 hg w66 hbox hb; have n0_ := Aside0.mk (below_step (bel HB) hb); have n1_ := Aside0.mk (hbox); have n2_ := Aside0.mk (gsz hg (bel HB)); have n3_ := Aside0.mk (gsz hg (bel HB)); clear HB; have HB := n0_; have BK101 := n1_; have GW101 := n2_; have GE101 := n3_; clear n0_ n1_ n2_ n3_; clear hb hbox hg; have hcz67_0 : w66.cell? ⟨gb101, 0, none⟩ = some (.int .i64 a0_0) := (blk_cell BK101.out 0).trans rfl; have hcz67_1 : w66.cell? ⟨gb101, 1, none⟩ = some (.int .i64 a0_1) := (blk_cell BK101.out 1).trans rfl; have hcz67_2 : w66.cell? ⟨gb101, 2, none⟩ = some (.slice A0_2 l0_2.length c0_2) := (blk_cell BK101.out 2).trans rfl; have hfz67_0 := blk_frozen BK101.out 0; have hfz67_1 := blk_frozen BK101.out 1; have hfz67_2 := blk_frozen BK101.out 2) | ((with_reducible refine gate_callee (f := 48) rfl ?_); refine gcall (some 21) Tryz.func48 #[.agg #[.int .i64 a0_0, .int .i64 a0_1, .slice A0_2 l0_2.length c0_2], .string a1] rfl ?_; (with_reducible refine (spec_mcBack.calls k a0_0 a0_1 (fun k_ => k_ < w.heap.size) _ _ l0_2 a1 t102 t103 t104 false _ ?side1 A3.out).mono ?_); (case side1 => exact Kd.V_mk HC0_2.out (Kd.F_below (Kd.C_F (Kd.heap_int .u8) HR0_2.out) (bel HB))); rintro e w68 ⟨v105, rfl, ho0, hb⟩; refine ⟨_, rfl, ?_⟩; have n0_ := Aside0.mk (Kd.V_lower (Kd.V_mono (ok' := fun k_ => k_ ≠ gb101) ho0 (fun k_ hk_ => Or.elim hk_ (fun hs_ => fun e_ => Nat.not_le.2 hs_ (by rw [e_]; exact GW101.out)) (fun hn_ => (Kd.freshB (g := gb101) (o := .cells #[.int .i64 a0_0, .int .i64 a0_1, .slice A0_2 l0_2.length c0_2] 45 (0, 0)) blc k_ hn_)))) (below_size (bel HB))); have n1_ := Aside0.mk (blk_below (g := gb101) (o := .cells #[.int .i64 a0_0, .int .i64 a0_1, .slice A0_2 l0_2.length c0_2] 45 (0, 0)) blc hb); have n2_ := Aside0.mk (below_step (bel HB) hb); clear BK101; clear HB; have HO106 := n0_; have BK101 := n1_; have HB := n2_; clear n0_ n1_ n2_; (try clear hb); (try clear hb2); (try clear hk); (try clear hi); (try clear ho0)) | ((with_reducible refine gate_dst (N := 6) rfl ?_); refine boxE (N := 6) (cs := #[.int .i64 0, .int .i64 0, .slice none 0 0]) (t := 45) ?_; intro gb108 hg w69 hbox hb; have n0_ := Aside0.mk (Kd.V_below (Kd.V_elderB (by (with_reducible repeat (first | apply Kd.V_alloc | apply Kd.V_drewN | apply Kd.V_drew)); (first | exact HO106.out | exact R_any HO106.out)) gb108 (Nat.le_of_eq hg.symm)) hb); have n1_ := Aside0.mk (blk_below (g := gb101) (o := .cells #[.int .i64 a0_0, .int .i64 a0_1, .slice A0_2 l0_2.length c0_2] 45 (0, 0)) blc hb); have n2_ := Aside0.mk (below_step (bel HB) hb); have n3_ := Aside0.mk (hbox); have n4_ := Aside0.mk (gsz hg (bel HB)); have n5_ := Aside0.mk (gsz hg (bel HB)); have n6_ := Aside0.mk ((by rw [hg]; exact Nat.ne_of_lt (blk_lt (g := gb101) (o := .cells #[.int .i64 a0_0, .int .i64 a0_1, .slice A0_2 l0_2.length c0_2] 45 (0, 0)) blc) : gb101 ≠ gb108)); have n7_ := Aside0.mk ((by rw [hg]; exact Nat.ne_of_gt (blk_lt (g := gb101) (o := .cells #[.int .i64 a0_0, .int .i64 a0_1, .slice A0_2 l0_2.length c0_2] 45 (0, 0)) blc) : gb108 ≠ gb101)); clear HO106; clear BK101; clear HB; have HO106 := n0_; have BK101 := n1_; have HB := n2_; have BK108 := n3_; have GW108 := n4_; have GE108 := n5_; have NB101_108 := n6_; have NB108_101 := n7_; clear n0_ n1_ n2_ n3_ n4_ n5_ n6_ n7_; clear hb hbox hg; have hnb70 := NB108_101.out; have hnc70 := NB101_108.out; have hcz71_0 : w69.cell? ⟨gb108, 0, none⟩ = some (.int .i64 0) := (blk_cell BK108.out 0).trans rfl; have hcz71_1 : w69.cell? ⟨gb108, 1, none⟩ = some (.int .i64 0) := (blk_cell BK108.out 1).trans rfl; have hcz71_2 : w69.cell? ⟨gb108, 2, none⟩ = some (.slice none 0 0) := (blk_cell BK108.out 2).trans rfl; have hfz71_0 := blk_frozen BK108.out 0; have hfz71_1 := blk_frozen BK108.out 1; have hfz71_2 := blk_frozen BK108.out 2; obtain ⟨Ao72, co72, eo72⟩ := Kd.V_slice HO106.out; subst eo72))
  go_ret2
  exact ⟨_, by first | rfl | (simp [errW_none, errW_some] <;> rfl) | (simp [*, errW_none, errW_some] <;> rfl), by first | exact Kd.R_nil _ _ _ _ _ | exact Kd.N_nil _ _ _ _ _ | exact Kd.V_nil _ _ _ _ _ | exact Kd.Q_nil _ _ _ _ _ | exact Kd.S_nil _ _ _ _ _, bel HB⟩
def spec_mcAsked.f (k : Nat) (a0 : ByteArray) (a1 : ByteArray) : Option (List Int × Bool) := (spec_mcRead.f k a0 a1).bind fun bt101 => (if bt101.2.2.2 = true then ((spec_mcPermutation.f k bt101.1 bt101.2.1 bt101.2.2.1 a1).bind fun bt108 => (some (bt108.1, bt108.2))) else (some (([] : List Int), false)))
set_option maxHeartbeats 8000000 in
set_option maxRecDepth 100000 in
theorem spec_mcAsked.calls (k : Nat) (a0 : ByteArray) (a1 : ByteArray) (r1 : List Int) (r2 : Bool) (w : World) (h : spec_mcAsked.f k a0 a1 = some (r1, r2)) :
  Calls Tryz.prog 51 #[.string a0, .string a1] w fun e w' => ∃ v0_ : Value, e = .returned (.tuple #[v0_, .bool r2]) ∧ Kd.R (Kd.int .i64) 3 w' w.heap.size (fun _ => True) v0_ r1 ∧ Below w.heap.size w w' := by
 have hu45 := Tryz.underlying45
 have HB := Aside0.mk (Below.refl w.heap.size w)
 have H : ((spec_mcRead.f k a0 a1).bind fun bt101 => (if bt101.2.2.2 = true then ((spec_mcPermutation.f k bt101.1 bt101.2.1 bt101.2.2.1 a1).bind fun bt108 => (some (bt108.1, bt108.2))) else (some (([] : List Int), false)))) = some (r1, r2) := h
 clear h
 replace H := Option.bind_eq_some_iff.mp H
 obtain ⟨⟨t101, t102, t103, t106⟩, A30, H⟩ := H
 replace H : (if t106 = true then ((spec_mcPermutation.f k t101 t102 t103 a1).bind fun bt108 => (some (bt108.1, bt108.2))) else (some (([] : List Int), false))) = some (r1, r2) := H
 have A3 := Aside0.mk A30
 clear A30
 by_cases c4 : t106 = true
 ·subst c4
  have H1 : ((spec_mcPermutation.f k t101 t102 t103 a1).bind fun bt108 => (some (bt108.1, bt108.2))) = some (r1, r2) := by rw [if_pos rfl] at H; exact H
  clear H
  have H := H1
  clear H1
  replace H := Option.bind_eq_some_iff.mp H
  obtain ⟨⟨t108, t111⟩, A50, H⟩ := H
  replace H : (some (t108, t111)) = some (r1, r2) := H
  have A5 := Aside0.mk A50
  clear A50
  simp only [Option.some.injEq, Prod.mk.injEq] at H
  obtain ⟨rfl, rfl⟩ := H
  go_enter Tryz.func51, Tryz.ntmps51
  go_wp2_with (first | ((with_reducible refine gate_callee (f := 47) rfl ?_); refine gcall (some 11) Tryz.func47 #[.string a0, .string a1] rfl ?_; (with_reducible refine (spec_mcRead.calls k a0 a1 t101 t102 t103 true _ A3.out).mono ?_); rintro e w6 ⟨v104, rfl, ho0, hb⟩; refine ⟨_, rfl, ?_⟩; have n0_ := Aside0.mk (Kd.R_lower ho0 (below_size (bel HB))); have n1_ := Aside0.mk (below_step (bel HB) hb); clear HB; have HO105 := n0_; have HB := n1_; clear n0_ n1_; (try clear hb); (try clear hb2); (try clear hk); (try clear hi); (try clear ho0)) | ((with_reducible refine gate_dst (N := 6) rfl ?_); refine boxE (N := 6) (cs := #[.int .i64 0, .int .i64 0, .slice none 0 0]) (t := 45) ?_; intro gb107 hg w7 hbox hb; have n0_ := Aside0.mk (Kd.R_below (rch HO105) hb); have n1_ := Aside0.mk (below_step (bel HB) hb); have n2_ := Aside0.mk (hbox); have n3_ := Aside0.mk (gsz hg (bel HB)); have n4_ := Aside0.mk (gsz hg (bel HB)); clear HO105; clear HB; have HO105 := n0_; have HB := n1_; have BK107 := n2_; have GW107 := n3_; have GE107 := n4_; clear n0_ n1_ n2_ n3_ n4_; clear hb hbox hg; have hcz8_0 : w7.cell? ⟨gb107, 0, none⟩ = some (.int .i64 0) := (blk_cell BK107.out 0).trans rfl; have hcz8_1 : w7.cell? ⟨gb107, 1, none⟩ = some (.int .i64 0) := (blk_cell BK107.out 1).trans rfl; have hcz8_2 : w7.cell? ⟨gb107, 2, none⟩ = some (.slice none 0 0) := (blk_cell BK107.out 2).trans rfl; have hfz8_0 := blk_frozen BK107.out 0; have hfz8_1 := blk_frozen BK107.out 1; have hfz8_2 := blk_frozen BK107.out 2; obtain ⟨Ao9, co9, eo9⟩ := Kd.R_slice HO105.out; subst eo9) | ((with_reducible refine gate_callee (f := 79) rfl ?_); refine gcall (some 18) Tryz.func79 #[.agg #[.int .i64 t101, .int .i64 t102, .slice Ao9 t103.length co9], .string a1] rfl ?_; (with_reducible refine (spec_mcPermutation.calls k t101 t102 _ _ t103 a1 t108 t111 _ ?side1 ?side2 A5.out).mono ?_); (case side1 => refine (Kd.R_reads' (e := 5) (base := w.heap.size) (ok := fun k_ => True) (n := t103.length) (c := co9) ?_).2.2; exact (by (with_reducible repeat (first | apply Kd.R_alloc | apply Kd.R_drewN | apply Kd.R_drew)); exact (Kd.R_mono (Kd.R_far (p := ⟨gb107, 2, none⟩) (Kd.R_far (p := ⟨gb107, 1, none⟩) (Kd.R_far (p := ⟨gb107, 0, none⟩) (Kd.R_types HO105.out BK107.out (by decide)) (fun _ hk => hk.2) (.int .i64 t101)) (fun _ hk => hk.2) (.int .i64 t102)) (fun _ hk => hk.2) (.slice Ao9 t103.length co9)) (fun _ h_ => h_.1)))); (case side2 => exact (Kd.R_reads' HO105.out).2.1); rintro e w10 ⟨v109, rfl, ho0, hb⟩; refine ⟨_, rfl, ?_⟩; have n0_ := Aside0.mk (Kd.R_below (by (with_reducible repeat (first | apply Kd.R_alloc | apply Kd.R_drewN | apply Kd.R_drew)); exact (Kd.R_mono (Kd.R_far (p := ⟨gb107, 2, none⟩) (Kd.R_far (p := ⟨gb107, 1, none⟩) (Kd.R_far (p := ⟨gb107, 0, none⟩) (Kd.R_types HO105.out BK107.out (by decide)) (fun _ hk => hk.2) (.int .i64 t101)) (fun _ hk => hk.2) (.int .i64 t102)) (fun _ hk => hk.2) (.slice Ao9 t103.length co9)) (fun _ h_ => h_.1))) hb); have n1_ := Aside0.mk (Kd.R_lower ho0 (below_size (bel HB))); have n2_ := Aside0.mk (blk_below (g := gb107) (o := .cells #[.int .i64 t101, .int .i64 t102, .slice Ao9 t103.length co9] 45 (0, 0)) (by (with_reducible repeat (first | refine blk_drewN ?_ _ | refine blk_drew ?_ | refine blk_alloc ?_ _)); refine blk_put (cs := #[.int .i64 t101, .int .i64 t102, .slice none 0 0]) ?_ 2 _ rfl; (with_reducible repeat (first | refine blk_drewN ?_ _ | refine blk_drew ?_ | refine blk_alloc ?_ _)); refine blk_put (cs := #[.int .i64 t101, .int .i64 0, .slice none 0 0]) ?_ 1 _ rfl; (with_reducible repeat (first | refine blk_drewN ?_ _ | refine blk_drew ?_ | refine blk_alloc ?_ _)); refine blk_put (cs := #[.int .i64 0, .int .i64 0, .slice none 0 0]) ?_ 0 _ rfl; exact blc) hb); have n3_ := Aside0.mk (below_step (bel HB) hb); clear HO105; clear BK107; clear HB; have HO105 := n0_; have HO110 := n1_; have BK107 := n2_; have HB := n3_; clear n0_ n1_ n2_ n3_; (try clear hb); (try clear hb2); (try clear hk); (try clear hi); (try clear ho0)))
  go_ret2
  exact ⟨_, by first | rfl | (simp [errW_none, errW_some] <;> rfl) | (simp [*, errW_none, errW_some] <;> rfl), rch HO110, bel HB⟩
 ·replace c4 := Bool.eq_false_iff.mpr c4
  subst c4
  have H1 : (some (([] : List Int), false)) = some (r1, r2) := by rw [if_neg (show ¬ (false = true) by decide)] at H; exact H
  clear H
  have H := H1
  clear H1
  simp only [Option.some.injEq, Prod.mk.injEq] at H
  obtain ⟨rfl, rfl⟩ := H
  go_enter Tryz.func51, Tryz.ntmps51
  go_wp2_with (first | ((with_reducible refine gate_callee (f := 47) rfl ?_); refine gcall (some 11) Tryz.func47 #[.string a0, .string a1] rfl ?_; (with_reducible refine (spec_mcRead.calls k a0 a1 t101 t102 t103 false _ A3.out).mono ?_); rintro e w11 ⟨v104, rfl, ho0, hb⟩; refine ⟨_, rfl, ?_⟩; have n0_ := Aside0.mk (Kd.R_lower ho0 (below_size (bel HB))); have n1_ := Aside0.mk (below_step (bel HB) hb); clear HB; have HO105 := n0_; have HB := n1_; clear n0_ n1_; (try clear hb); (try clear hb2); (try clear hk); (try clear hi); (try clear ho0)) | ((with_reducible refine gate_dst (N := 6) rfl ?_); refine boxE (N := 6) (cs := #[.int .i64 0, .int .i64 0, .slice none 0 0]) (t := 45) ?_; intro gb107 hg w12 hbox hb; have n0_ := Aside0.mk (Kd.R_below (rch HO105) hb); have n1_ := Aside0.mk (below_step (bel HB) hb); have n2_ := Aside0.mk (hbox); have n3_ := Aside0.mk (gsz hg (bel HB)); have n4_ := Aside0.mk (gsz hg (bel HB)); clear HO105; clear HB; have HO105 := n0_; have HB := n1_; have BK107 := n2_; have GW107 := n3_; have GE107 := n4_; clear n0_ n1_ n2_ n3_ n4_; clear hb hbox hg; have hcz13_0 : w12.cell? ⟨gb107, 0, none⟩ = some (.int .i64 0) := (blk_cell BK107.out 0).trans rfl; have hcz13_1 : w12.cell? ⟨gb107, 1, none⟩ = some (.int .i64 0) := (blk_cell BK107.out 1).trans rfl; have hcz13_2 : w12.cell? ⟨gb107, 2, none⟩ = some (.slice none 0 0) := (blk_cell BK107.out 2).trans rfl; have hfz13_0 := blk_frozen BK107.out 0; have hfz13_1 := blk_frozen BK107.out 1; have hfz13_2 := blk_frozen BK107.out 2; obtain ⟨Ao14, co14, eo14⟩ := Kd.R_slice HO105.out; subst eo14))
  go_ret2
  exact ⟨_, by first | rfl | (simp [errW_none, errW_some] <;> rfl) | (simp [*, errW_none, errW_some] <;> rfl), by first | exact Kd.R_nil _ _ _ _ _ | exact Kd.N_nil _ _ _ _ _ | exact Kd.V_nil _ _ _ _ _ | exact Kd.Q_nil _ _ _ _ _ | exact Kd.S_nil _ _ _ _ _, bel HB⟩
end Go.Proofs.YtepmpilopmcjpaaGreatDoor.Q
end
section
namespace Go.Proofs.YtepmpilopmcjpaaGreatDoor.Q
open Go.RowKit Go.Proofs.YtepmpilopmcjpaaGreatDoorW.PrintWords Go.Proofs.YtepmpilopmcjpaaGreatDoorW.PrintLast Go.Proofs.YtepmpilopmcjpaaGreatDoorW.PrintMore
attribute [local go_sem] max2_int min2_int max_two min_two max_three min_three max_four min_four
set_option linter.unusedVariables false
set_option linter.unusedSimpArgs false
def spec_PermutationOf.f (k : Nat) (a0 : ByteArray) (a1 : ByteArray) : Option (List Int × Bool) := (spec_mcAsked.f k a0 a1).bind fun bt101 => (some (bt101.1, bt101.2))
set_option maxHeartbeats 8000000 in
set_option maxRecDepth 100000 in
theorem spec_PermutationOf.calls (k : Nat) (a0 : ByteArray) (a1 : ByteArray) (r1 : List Int) (r2 : Bool) (w : World) (h : spec_PermutationOf.f k a0 a1 = some (r1, r2)) :
  Calls Tryz.prog 18 #[.string a0, .string a1] w fun e w' => ∃ v0_ : Value, e = .returned (.tuple #[v0_, .bool r2]) ∧ Kd.R (Kd.int .i64) 3 w' w.heap.size (fun _ => True) v0_ r1 ∧ Below w.heap.size w w' := by
 have HB := Aside0.mk (Below.refl w.heap.size w)
 have H : ((spec_mcAsked.f k a0 a1).bind fun bt101 => (some (bt101.1, bt101.2))) = some (r1, r2) := h
 clear h
 replace H := Option.bind_eq_some_iff.mp H
 obtain ⟨⟨t101, t102⟩, A30, H⟩ := H
 replace H : (some (t101, t102)) = some (r1, r2) := H
 have A3 := Aside0.mk A30
 clear A30
 simp only [Option.some.injEq, Prod.mk.injEq] at H
 obtain ⟨rfl, rfl⟩ := H
 go_enter Tryz.func18, Tryz.ntmps18
 go_wp2_with (first | ((with_reducible refine gate_callee (f := 51) rfl ?_); refine gcall (some 8) Tryz.func51 #[.string a0, .string a1] rfl ?_; (with_reducible refine (spec_mcAsked.calls k a0 a1 t101 t102 _ A3.out).mono ?_); rintro e w4 ⟨v103, rfl, ho0, hb⟩; refine ⟨_, rfl, ?_⟩; have n0_ := Aside0.mk (Kd.R_lower ho0 (below_size (bel HB))); have n1_ := Aside0.mk (below_step (bel HB) hb); clear HB; have HO104 := n0_; have HB := n1_; clear n0_ n1_; (try clear hb); (try clear hb2); (try clear hk); (try clear hi); (try clear ho0)))
 go_ret2
 exact ⟨_, by first | rfl | (simp [errW_none, errW_some] <;> rfl) | (simp [*, errW_none, errW_some] <;> rfl), rch HO104, bel HB⟩
def impl_PermutationOf.f (k : Nat) (a0 : ByteArray) (a1 : ByteArray) : Option (List Int × Bool) := (impl_isRun.f k a0 a1).bind fun t101 => (if t101 = true then ((impl_comesBack.f k a0 a1).bind fun bt102 => (if bt102.2 = true then (some (bt102.1, true)) else (some (([] : List Int), false)))) else (some (([] : List Int), false)))
set_option maxHeartbeats 8000000 in
set_option maxRecDepth 100000 in
theorem impl_PermutationOf.calls (k : Nat) (a0 : ByteArray) (a1 : ByteArray) (r1 : List Int) (r2 : Bool) (w : World) (hG : GoodW w) (h : impl_PermutationOf.f k a0 a1 = some (r1, r2)) :
  Calls Tryz.prog 19 #[.string a0, .string a1] w fun e w' => ∃ v0_ : Value, e = .returned (.tuple #[v0_, .bool r2]) ∧ Kd.R (Kd.int .i64) 3 w' w.heap.size (fun _ => True) v0_ r1 ∧ Below w.heap.size w w' := by
 have HG := Aside0.mk hG
 clear hG
 have HB := Aside0.mk (Below.refl w.heap.size w)
 have H : ((impl_isRun.f k a0 a1).bind fun t101 => (if t101 = true then ((impl_comesBack.f k a0 a1).bind fun bt102 => (if bt102.2 = true then (some (bt102.1, true)) else (some (([] : List Int), false)))) else (some (([] : List Int), false)))) = some (r1, r2) := h
 clear h
 replace H := Option.bind_eq_some_iff.mp H
 obtain ⟨t101, A30, H⟩ := H
 replace H : (if t101 = true then ((impl_comesBack.f k a0 a1).bind fun bt102 => (if bt102.2 = true then (some (bt102.1, true)) else (some (([] : List Int), false)))) else (some (([] : List Int), false))) = some (r1, r2) := H
 have A3 := Aside0.mk A30
 clear A30
 by_cases c4 : t101 = true
 ·subst c4
  have H1 : ((impl_comesBack.f k a0 a1).bind fun bt102 => (if bt102.2 = true then (some (bt102.1, true)) else (some (([] : List Int), false)))) = some (r1, r2) := by rw [if_pos rfl] at H; exact H
  clear H
  have H := H1
  clear H1
  replace H := Option.bind_eq_some_iff.mp H
  obtain ⟨⟨t102, t103⟩, A50, H⟩ := H
  replace H : (if t103 = true then (some (t102, true)) else (some (([] : List Int), false))) = some (r1, r2) := H
  have A5 := Aside0.mk A50
  clear A50
  by_cases c6 : t103 = true
  ·subst c6
   have H1 : (some (t102, true)) = some (r1, r2) := by rw [if_pos rfl] at H; exact H
   clear H
   have H := H1
   clear H1
   simp only [Option.some.injEq, Prod.mk.injEq] at H
   obtain ⟨rfl, rfl⟩ := H
   go_enter Tryz.func19, Tryz.ntmps19
   go_wp2_with (first | ((with_reducible refine gate_callee (f := 49) rfl ?_); refine gcall (some 10) Tryz.func49 #[.string a0, .string a1] rfl ?_; (with_reducible refine (impl_isRun.calls k a0 a1 true _ ?side1 A3.out).mono ?_); (case side1 => (refine GoodW.below HG.out ?_); exact bel HB); rintro e w7 ⟨rfl, hb⟩; refine ⟨_, rfl, ?_⟩; have n0_ := Aside0.mk (below_step (bel HB) hb); clear HB; have HB := n0_; clear n0_; (try clear hb); (try clear hb2); (try clear hk); (try clear hi)) | ((with_reducible refine gate_callee (f := 50) rfl ?_); refine gcall (some 15) Tryz.func50 #[.string a0, .string a1] rfl ?_; (with_reducible refine (impl_comesBack.calls k a0 a1 t102 true _ ?side1 A5.out).mono ?_); (case side1 => (refine GoodW.below HG.out ?_); exact bel HB); rintro e w8 ⟨v104, rfl, ho0, hb⟩; refine ⟨_, rfl, ?_⟩; have n0_ := Aside0.mk (Kd.R_lower ho0 (below_size (bel HB))); have n1_ := Aside0.mk (below_step (bel HB) hb); clear HB; have HO105 := n0_; have HB := n1_; clear n0_ n1_; (try clear hb); (try clear hb2); (try clear hk); (try clear hi); (try clear ho0)))
   go_ret2
   exact ⟨_, by first | rfl | (simp [errW_none, errW_some] <;> rfl) | (simp [*, errW_none, errW_some] <;> rfl), rch HO105, bel HB⟩
  ·replace c6 := Bool.eq_false_iff.mpr c6
   subst c6
   have H1 : (some (([] : List Int), false)) = some (r1, r2) := by rw [if_neg (show ¬ (false = true) by decide)] at H; exact H
   clear H
   have H := H1
   clear H1
   simp only [Option.some.injEq, Prod.mk.injEq] at H
   obtain ⟨rfl, rfl⟩ := H
   go_enter Tryz.func19, Tryz.ntmps19
   go_wp2_with (first | ((with_reducible refine gate_callee (f := 49) rfl ?_); refine gcall (some 10) Tryz.func49 #[.string a0, .string a1] rfl ?_; (with_reducible refine (impl_isRun.calls k a0 a1 true _ ?side1 A3.out).mono ?_); (case side1 => (refine GoodW.below HG.out ?_); exact bel HB); rintro e w9 ⟨rfl, hb⟩; refine ⟨_, rfl, ?_⟩; have n0_ := Aside0.mk (below_step (bel HB) hb); clear HB; have HB := n0_; clear n0_; (try clear hb); (try clear hb2); (try clear hk); (try clear hi)) | ((with_reducible refine gate_callee (f := 50) rfl ?_); refine gcall (some 15) Tryz.func50 #[.string a0, .string a1] rfl ?_; (with_reducible refine (impl_comesBack.calls k a0 a1 t102 false _ ?side1 A5.out).mono ?_); (case side1 => (refine GoodW.below HG.out ?_); exact bel HB); rintro e w10 ⟨v104, rfl, ho0, hb⟩; refine ⟨_, rfl, ?_⟩; have n0_ := Aside0.mk (Kd.R_lower ho0 (below_size (bel HB))); have n1_ := Aside0.mk (below_step (bel HB) hb); clear HB; have HO105 := n0_; have HB := n1_; clear n0_ n1_; (try clear hb); (try clear hb2); (try clear hk); (try clear hi); (try clear ho0)))
   go_ret2
   exact ⟨_, by first | rfl | (simp [errW_none, errW_some] <;> rfl) | (simp [*, errW_none, errW_some] <;> rfl), by first | exact Kd.R_nil _ _ _ _ _ | exact Kd.N_nil _ _ _ _ _ | exact Kd.V_nil _ _ _ _ _ | exact Kd.Q_nil _ _ _ _ _ | exact Kd.S_nil _ _ _ _ _, bel HB⟩
 ·replace c4 := Bool.eq_false_iff.mpr c4
  subst c4
  have H1 : (some (([] : List Int), false)) = some (r1, r2) := by rw [if_neg (show ¬ (false = true) by decide)] at H; exact H
  clear H
  have H := H1
  clear H1
  simp only [Option.some.injEq, Prod.mk.injEq] at H
  obtain ⟨rfl, rfl⟩ := H
  go_enter Tryz.func19, Tryz.ntmps19
  go_wp2_with (first | ((with_reducible refine gate_callee (f := 49) rfl ?_); refine gcall (some 10) Tryz.func49 #[.string a0, .string a1] rfl ?_; (with_reducible refine (impl_isRun.calls k a0 a1 false _ ?side1 A3.out).mono ?_); (case side1 => (refine GoodW.below HG.out ?_); exact bel HB); rintro e w11 ⟨rfl, hb⟩; refine ⟨_, rfl, ?_⟩; have n0_ := Aside0.mk (below_step (bel HB) hb); clear HB; have HB := n0_; clear n0_; (try clear hb); (try clear hb2); (try clear hk); (try clear hi)))
  go_ret2
  exact ⟨_, by first | rfl | (simp [errW_none, errW_some] <;> rfl) | (simp [*, errW_none, errW_some] <;> rfl), by first | exact Kd.R_nil _ _ _ _ _ | exact Kd.N_nil _ _ _ _ _ | exact Kd.V_nil _ _ _ _ _ | exact Kd.Q_nil _ _ _ _ _ | exact Kd.S_nil _ _ _ _ _, bel HB⟩
mutual
def laws_FnExactPermutationOf.j0 : Nat → ByteArray → ByteArray → List Int → Bool → List Int → Bool → Option (Bool)
 | 0, _, _, _, _, _, _ => none
 | k + 1, x0, x1, x5, x6, x7, x39 => if x39 = true then (some false) else ((laws_markIntS.f k x7 1).bind fun bt110 => ((laws_heldIntS.f k bt110.2 1).bind fun t112 => (if t112 < 0 then (some false) else (if t112 = bt110.1 then ((impl_PermutationOf.f k x0 x1).bind fun bt113 => ((laws_eqIntS.f k bt113.1 x5).bind fun t117 => (if t117 = true then (laws_FnExactPermutationOf.j1 k bt110.2 bt110.1 (bt113.2 != x6)) else (laws_FnExactPermutationOf.j1 k bt110.2 bt110.1 true)))) else (some false)))))
def laws_FnExactPermutationOf.j1 : Nat → List Int → Int → Bool → Option (Bool)
 | 0, _, _, _ => none
 | k + 1, x7, x9, x65 => if x65 = true then (some false) else ((laws_heldIntS.f k x7 1).bind fun t118 => (if t118 < 0 then (some false) else (if t118 = x9 then (some true) else (some false))))
end
def laws_FnExactPermutationOf.f (k : Nat) (a0 : ByteArray) (a1 : ByteArray) : Option (Bool) := if (a0.size : Int) > 1048576 then (some true) else (if (a1.size : Int) > 1048576 then (some true) else ((spec_PermutationOf.f k a0 a1).bind fun bt101 => ((impl_PermutationOf.f k a0 a1).bind fun bt105 => ((laws_eqIntS.f k bt105.1 bt101.1).bind fun t109 => (if t109 = true then (laws_FnExactPermutationOf.j0 k a0 a1 bt101.1 bt101.2 bt105.1 (bt105.2 != bt101.2)) else (laws_FnExactPermutationOf.j0 k a0 a1 bt101.1 bt101.2 bt105.1 true))))))
set_option maxHeartbeats 8000000 in
set_option maxRecDepth 100000 in
theorem laws_FnExactPermutationOf.calls (k : Nat) (a0 : ByteArray) (a1 : ByteArray) (r : Bool) (w : World) (hG : GoodW w) (h : laws_FnExactPermutationOf.f k a0 a1 = some r) :
  Calls Tryz.prog 6 #[.string a0, .string a1] w fun e w' => e = .returned (.bool r) ∧ Below w.heap.size w w' := by
 have HG := Aside0.mk hG
 clear hG
 have HB := Aside0.mk (Below.refl w.heap.size w)
 have H : (if (a0.size : Int) > 1048576 then (some true) else (if (a1.size : Int) > 1048576 then (some true) else ((spec_PermutationOf.f k a0 a1).bind fun bt101 => ((impl_PermutationOf.f k a0 a1).bind fun bt105 => ((laws_eqIntS.f k bt105.1 bt101.1).bind fun t109 => (if t109 = true then (laws_FnExactPermutationOf.j0 k a0 a1 bt101.1 bt101.2 bt105.1 (bt105.2 != bt101.2)) else (laws_FnExactPermutationOf.j0 k a0 a1 bt101.1 bt101.2 bt105.1 true))))))) = some r := h
 clear h
 by_cases c3 : (a0.size : Int) > 1048576
 ·rw [if_pos c3] at H
  have c3b0 : decide (1048576 < (a0.size : Int)) = true := decide_eq_true c3
  have c3b1 : decide (1048576 < a0.size) = true := decide_eq_true (by omega)
  clear c3
  obtain rfl := Option.some.inj H
  go_enter Tryz.func6, Tryz.ntmps6
  go_wp2
  go_ret
  exact ⟨by first | rfl | (simp [errW_none, errW_some] <;> rfl) | (simp [*, errW_none, errW_some] <;> rfl), bel HB⟩
 ·rw [if_neg c3] at H
  have c3b0 : decide (1048576 < (a0.size : Int)) = false := decide_eq_false c3
  have c3b1 : decide (1048576 < a0.size) = false := decide_eq_false (by omega)
  clear c3
  by_cases c4 : (a1.size : Int) > 1048576
  ·rw [if_pos c4] at H
   have c4b0 : decide (1048576 < (a1.size : Int)) = true := decide_eq_true c4
   have c4b1 : decide (1048576 < a1.size) = true := decide_eq_true (by omega)
   clear c4
   obtain rfl := Option.some.inj H
   go_enter Tryz.func6, Tryz.ntmps6
   go_wp2
   go_ret
   exact ⟨by first | rfl | (simp [errW_none, errW_some] <;> rfl) | (simp [*, errW_none, errW_some] <;> rfl), bel HB⟩
  ·rw [if_neg c4] at H
   have c4b0 : decide (1048576 < (a1.size : Int)) = false := decide_eq_false c4
   have c4b1 : decide (1048576 < a1.size) = false := decide_eq_false (by omega)
   clear c4
   replace H := Option.bind_eq_some_iff.mp H
   obtain ⟨⟨t101, t102⟩, A50, H⟩ := H
   replace H : ((impl_PermutationOf.f k a0 a1).bind fun bt105 => ((laws_eqIntS.f k bt105.1 t101).bind fun t109 => (if t109 = true then (laws_FnExactPermutationOf.j0 k a0 a1 t101 t102 bt105.1 (bt105.2 != t102)) else (laws_FnExactPermutationOf.j0 k a0 a1 t101 t102 bt105.1 true)))) = some r := H
   have A5 := Aside0.mk A50
   clear A50
   replace H := Option.bind_eq_some_iff.mp H
   obtain ⟨⟨t105, t106⟩, A60, H⟩ := H
   replace H : ((laws_eqIntS.f k t105 t101).bind fun t109 => (if t109 = true then (laws_FnExactPermutationOf.j0 k a0 a1 t101 t102 t105 (t106 != t102)) else (laws_FnExactPermutationOf.j0 k a0 a1 t101 t102 t105 true))) = some r := H
   have A6 := Aside0.mk A60
   clear A60
   have HC7 := Aside0.mk H
   clear H
   go_enter Tryz.func6, Tryz.ntmps6
   go_upto_region 7 with (first | ((with_reducible refine gate_callee (f := 18) rfl ?_); refine gcall (some 22) Tryz.func18 #[.string a0, .string a1] rfl ?_; (with_reducible refine (spec_PermutationOf.calls k a0 a1 t101 t102 _ A5.out).mono ?_); rintro e w8 ⟨v103, rfl, ho0, hb⟩; refine ⟨_, rfl, ?_⟩; have n0_ := Aside0.mk (Kd.R_lower ho0 (below_size (bel HB))); have n1_ := Aside0.mk (below_step (bel HB) hb); clear HB; have HO104 := n0_; have HB := n1_; clear n0_ n1_; (try clear hb); (try clear hb2); (try clear hk); (try clear hi); (try clear ho0)) | ((with_reducible refine gate_callee (f := 19) rfl ?_); refine gcall (some 28) Tryz.func19 #[.string a0, .string a1] rfl ?_; (with_reducible refine (impl_PermutationOf.calls k a0 a1 t105 t106 _ ?side1 A6.out).mono ?_); (case side1 => (refine GoodW.below HG.out ?_); exact bel HB); rintro e w9 ⟨v107, rfl, ho0, hb⟩; refine ⟨_, rfl, ?_⟩; have n0_ := Aside0.mk (Kd.R_elder' (rch HO104) (Kd.R_base ho0) hb); have n1_ := Aside0.mk (Kd.R_lower (Kd.R_new' ho0 (Kd.R_lt (rch HO104))) (below_size (bel HB))); have n2_ := Aside0.mk (below_step (bel HB) hb); clear HO104; clear HB; have HO104 := n0_; have HO108 := n1_; have HB := n2_; clear n0_ n1_ n2_; (try clear hb); (try clear hb2); (try clear hk); (try clear hi); (try clear ho0)))
   (try simp only [Act.put, List.setIfInBounds_toArray, List.set_cons_zero, List.set_cons_succ])
   go_cut [39] (fun v39 wc => ∃ (kq : Nat) (x39_6 : Bool), v39 = .bool x39_6 ∧ Aside0 (laws_FnExactPermutationOf.j0 kq a0 a1 t101 t102 t105 x39_6 = some r) ∧ Aside0 (kq ≤ k) ∧ Aside0 (Kd.R (Kd.int .i64) 3 wc w.heap.size (fun k_ => some k_ ≠ (v107 : Value).ownBlock) v103 t101) ∧ Aside0 (Kd.R (Kd.int .i64) 3 wc w.heap.size (fun k_ => some k_ ≠ (v103 : Value).ownBlock) v107 t105) ∧ Aside0 (Below w.heap.size w wc))
   case first =>
    have H := HC7.out
    clear HC7
    replace H := Option.bind_eq_some_iff.mp H
    obtain ⟨t109, A100, H⟩ := H
    replace H : (if t109 = true then (laws_FnExactPermutationOf.j0 k a0 a1 t101 t102 t105 (t106 != t102)) else (laws_FnExactPermutationOf.j0 k a0 a1 t101 t102 t105 true)) = some r := H
    have A10 := Aside0.mk A100
    clear A100
    by_cases c11 : t109 = true
    ·subst c11
     have H1 : (laws_FnExactPermutationOf.j0 k a0 a1 t101 t102 t105 (t106 != t102)) = some r := by rw [if_pos rfl] at H; exact H
     clear H
     have H := H1
     clear H1
     have H' := Aside0.mk H
     clear H
     obtain ⟨Ao12, co12, eo12⟩ := Kd.R_slice HO108.out
     subst eo12
     obtain ⟨Ao13, co13, eo13⟩ := Kd.R_slice HO104.out
     subst eo13
     go_wp2_with (first | ((with_reducible refine gate_callee (f := 13) rfl ?_); refine gcall (some 33) Tryz.func13 #[.slice Ao12 t105.length co12, .slice Ao13 t101.length co13] rfl ?_; (with_reducible refine (laws_eqIntS.calls k _ _ t105 _ _ t101 true _ ?side1 ?side2 ?side3 ?side4 A10.out).mono ?_); (case side1 => repeat (first | exact (Kd.R_reads' HO108.out).2.2 | (with_reducible refine Kd.C_alloc ?_ _) | (with_reducible refine Kd.C_drewN ?_ _) | (with_reducible refine Kd.C_drew ?_))); (case side2 => exact (Kd.R_reads' HO108.out).2.1); (case side3 => repeat (first | exact (Kd.R_reads' HO104.out).2.2 | (with_reducible refine Kd.C_alloc ?_ _) | (with_reducible refine Kd.C_drewN ?_ _) | (with_reducible refine Kd.C_drew ?_))); (case side4 => exact (Kd.R_reads' HO104.out).2.1); rintro e w' ⟨rfl, ⟨nd, rfl⟩⟩; refine ⟨_, rfl, ?_⟩))
     go_meet
     case rel => exact ⟨_, ((t106 != t102)), (by first | rfl | (simp; done) | (simp [*]; done)), H', ⟨by first | omega | exact Nat.le_refl _⟩, ⟨by (with_reducible repeat (first | apply Kd.R_alloc | apply Kd.R_drewN | apply Kd.R_drew)); (first | exact Kd.R_mono HO104.out (fun _ hk => hk.2) | exact HO104.out | exact R_any HO104.out)⟩, ⟨by (with_reducible repeat (first | apply Kd.R_alloc | apply Kd.R_drewN | apply Kd.R_drew)); (first | exact Kd.R_mono HO108.out (fun _ hk => hk.2) | exact HO108.out | exact R_any HO108.out)⟩, ⟨bel HB⟩⟩
    ·replace c11 := Bool.eq_false_iff.mpr c11
     subst c11
     have H1 : (laws_FnExactPermutationOf.j0 k a0 a1 t101 t102 t105 true) = some r := by rw [if_neg (show ¬ (false = true) by decide)] at H; exact H
     clear H
     have H := H1
     clear H1
     have H' := Aside0.mk H
     clear H
     obtain ⟨Ao14, co14, eo14⟩ := Kd.R_slice HO108.out
     subst eo14
     obtain ⟨Ao15, co15, eo15⟩ := Kd.R_slice HO104.out
     subst eo15
     go_wp2_with (first | ((with_reducible refine gate_callee (f := 13) rfl ?_); refine gcall (some 33) Tryz.func13 #[.slice Ao14 t105.length co14, .slice Ao15 t101.length co15] rfl ?_; (with_reducible refine (laws_eqIntS.calls k _ _ t105 _ _ t101 false _ ?side1 ?side2 ?side3 ?side4 A10.out).mono ?_); (case side1 => repeat (first | exact (Kd.R_reads' HO108.out).2.2 | (with_reducible refine Kd.C_alloc ?_ _) | (with_reducible refine Kd.C_drewN ?_ _) | (with_reducible refine Kd.C_drew ?_))); (case side2 => exact (Kd.R_reads' HO108.out).2.1); (case side3 => repeat (first | exact (Kd.R_reads' HO104.out).2.2 | (with_reducible refine Kd.C_alloc ?_ _) | (with_reducible refine Kd.C_drewN ?_ _) | (with_reducible refine Kd.C_drew ?_))); (case side4 => exact (Kd.R_reads' HO104.out).2.1); rintro e w' ⟨rfl, ⟨nd, rfl⟩⟩; refine ⟨_, rfl, ?_⟩))
     go_meet
     case rel => exact ⟨_, (true), (by first | rfl | (simp; done) | (simp [*]; done)), H', ⟨by first | omega | exact Nat.le_refl _⟩, ⟨by (with_reducible repeat (first | apply Kd.R_alloc | apply Kd.R_drewN | apply Kd.R_drew)); (first | exact Kd.R_mono HO104.out (fun _ hk => hk.2) | exact HO104.out | exact R_any HO104.out)⟩, ⟨by (with_reducible repeat (first | apply Kd.R_alloc | apply Kd.R_drewN | apply Kd.R_drew)); (first | exact Kd.R_mono HO108.out (fun _ hk => hk.2) | exact HO108.out | exact R_any HO108.out)⟩, ⟨bel HB⟩⟩
   case rest =>
    clear HC7
    try clear c1
    try clear p2
    try clear c3
    try clear c3b0
    try clear c3b0y
    try clear c3b1
    try clear c4
    try clear c4b0
    try clear c4b0y
    try clear c4b1
    try clear c6
    try clear c11
    try clear c13
    obtain ⟨kq, x39_6, rfl, HA, HJ6, HO_5, HO_7, HB⟩ := hcut
    cases kq with
    | zero => exact absurd HA.out (by simp [laws_FnExactPermutationOf.j0])
    | succ kj6 =>
     have H := HA.out
     clear HA
     simp only [laws_FnExactPermutationOf.j0] at H
     by_cases c16 : x39_6 = true
     ·subst c16
      have H1 : (some false) = some r := by rw [if_pos rfl] at H; exact H
      clear H
      have H := H1
      clear H1
      obtain rfl := Option.some.inj H
      go_wp2
      go_ret
      exact ⟨by first | rfl | (simp [errW_none, errW_some] <;> rfl) | (simp [*, errW_none, errW_some] <;> rfl), bel HB⟩
     ·replace c16 := Bool.eq_false_iff.mpr c16
      subst c16
      have H1 : ((laws_markIntS.f kj6 t105 1).bind fun bt110 => ((laws_heldIntS.f kj6 bt110.2 1).bind fun t112 => (if t112 < 0 then (some false) else (if t112 = bt110.1 then ((impl_PermutationOf.f kj6 a0 a1).bind fun bt113 => ((laws_eqIntS.f kj6 bt113.1 t101).bind fun t117 => (if t117 = true then (laws_FnExactPermutationOf.j1 kj6 bt110.2 bt110.1 (bt113.2 != t102)) else (laws_FnExactPermutationOf.j1 kj6 bt110.2 bt110.1 true)))) else (some false))))) = some r := by rw [if_neg (show ¬ (false = true) by decide)] at H; exact H
      clear H
      have H := H1
      clear H1
      replace H := Option.bind_eq_some_iff.mp H
      obtain ⟨⟨t110, t111⟩, A170, H⟩ := H
      replace H : ((laws_heldIntS.f kj6 t111 1).bind fun t112 => (if t112 < 0 then (some false) else (if t112 = t110 then ((impl_PermutationOf.f kj6 a0 a1).bind fun bt113 => ((laws_eqIntS.f kj6 bt113.1 t101).bind fun t117 => (if t117 = true then (laws_FnExactPermutationOf.j1 kj6 t111 t110 (bt113.2 != t102)) else (laws_FnExactPermutationOf.j1 kj6 t111 t110 true)))) else (some false)))) = some r := H
      have A17 := Aside0.mk A170
      clear A170
      replace H := Option.bind_eq_some_iff.mp H
      obtain ⟨t112, A180, H⟩ := H
      replace H : (if t112 < 0 then (some false) else (if t112 = t110 then ((impl_PermutationOf.f kj6 a0 a1).bind fun bt113 => ((laws_eqIntS.f kj6 bt113.1 t101).bind fun t117 => (if t117 = true then (laws_FnExactPermutationOf.j1 kj6 t111 t110 (bt113.2 != t102)) else (laws_FnExactPermutationOf.j1 kj6 t111 t110 true)))) else (some false))) = some r := H
      have A18 := Aside0.mk A180
      clear A180
      by_cases c19 : t112 < 0
      ·rw [if_pos c19] at H
       have c19b0 : decide (t112 < 0) = true := decide_eq_true c19
       clear c19
       obtain rfl := Option.some.inj H
       obtain ⟨Ao20, co20, eo20⟩ := Kd.R_slice HO_7.out
       subst eo20
       go_wp2_with (first | ((with_reducible refine gate_callee (f := 14) rfl ?_); refine gcall (some 42) Tryz.func14 #[.slice Ao20 t105.length co20, .int .i64 1] rfl ?_; (with_reducible refine (laws_markIntS.calls kj6 (fun k_ => some k_ = (.slice Ao20 t105.length co20 : Value).ownBlock) (.slice Ao20 t105.length co20) t105 1 t110 t111 w _ ?side1 ?side2 A17.out).mono ?_); (case side1 => repeat (first | (with_reducible first | exact HB.out | apply below_alloc | apply pw_below_drewN | apply below_drew1) | exact HB.out)); (case side2 => exact Kd.R_tight rfl HO_7.out); rintro e w21 ⟨rfl, hy0, hb, hkp⟩; refine ⟨_, rfl, ?_⟩; have n0_ := Aside0.mk (Kd.R_mono (ok' := fun k_ => some k_ ≠ (.slice Ao20 t105.length co20 : Value).ownBlock) (Kd.R_keptB (HO_5.out) hkp (fun k_ hk_ hs_ => (hk_) hs_)) (fun k_ hk_ => hk_.1)); have n1_ := Aside0.mk (Kd.R_reok rfl hy0 (fun k_ e_ => HO_7.out.1 k_ e_)); have n2_ := Aside0.mk (hb); clear HO_5; clear HO_7; clear HB; have HO_5 := n0_; have HO_7 := n1_; have HB := n2_; clear n0_ n1_ n2_; (try clear hb); (try clear hkp); (try clear hy0)) | ((with_reducible refine gate_callee (f := 15) rfl ?_); refine goesL_ (some 45) rfl rfl Tryz.func15 (by kernel_rfl) rfl #[.slice Ao20 t111.length co20, .int .i64 1] rfl (by (try simp only [List.map_toArray, List.map_cons, List.map_nil]); first | done | (rw [show t111.length = t105.length from (Kd.R_reads' HO_7.out).1.symm] <;> rfl) | rfl | (simp only [List.length_drop, List.length_take]; rfl)) ?_; (with_reducible refine (laws_heldIntS.calls kj6 _ _ t111 1 t112 _ ?side1 ?side2 A18.out).mono ?_); (case side1 => repeat (first | exact (Kd.R_reads' HO_7.out).2.2 | (with_reducible refine Kd.C_alloc ?_ _) | (with_reducible refine Kd.C_drewN ?_ _) | (with_reducible refine Kd.C_drew ?_))); (case side2 => rw [show t111.length = t105.length from (Kd.R_reads' HO_7.out).1.symm]; exact (Kd.R_reads' HO_7.out).2.1); rintro e w' ⟨rfl, ⟨nd, rfl⟩⟩; refine ⟨_, rfl, ?_⟩))
       go_ret
       exact ⟨by first | rfl | (simp [errW_none, errW_some] <;> rfl) | (simp [*, errW_none, errW_some] <;> rfl), bel HB⟩
      ·rw [if_neg c19] at H
       have c19b0 : decide (t112 < 0) = false := decide_eq_false c19
       clear c19
       by_cases c22 : t112 = t110
       ·rw [if_pos c22] at H
        have c22b0 : (t112 == t110) = true := beq_iff_eq.mpr c22
        have c22b1 : (t112 != t110) = false := bne_eq_false_iff_eq.mpr c22
        clear c22
        replace H := Option.bind_eq_some_iff.mp H
        obtain ⟨⟨t113, t114⟩, A230, H⟩ := H
        replace H : ((laws_eqIntS.f kj6 t113 t101).bind fun t117 => (if t117 = true then (laws_FnExactPermutationOf.j1 kj6 t111 t110 (t114 != t102)) else (laws_FnExactPermutationOf.j1 kj6 t111 t110 true))) = some r := H
        have A23 := Aside0.mk A230
        clear A230
        have HC24 := Aside0.mk H
        clear H
        obtain ⟨Ao25, co25, eo25⟩ := Kd.R_slice HO_7.out
        subst eo25
        go_upto_region 18 with (first | ((with_reducible refine gate_callee (f := 14) rfl ?_); refine gcall (some 42) Tryz.func14 #[.slice Ao25 t105.length co25, .int .i64 1] rfl ?_; (with_reducible refine (laws_markIntS.calls kj6 (fun k_ => some k_ = (.slice Ao25 t105.length co25 : Value).ownBlock) (.slice Ao25 t105.length co25) t105 1 t110 t111 w _ ?side1 ?side2 A17.out).mono ?_); (case side1 => repeat (first | (with_reducible first | exact HB.out | apply below_alloc | apply pw_below_drewN | apply below_drew1) | exact HB.out)); (case side2 => exact Kd.R_tight rfl HO_7.out); rintro e w26 ⟨rfl, hy0, hb, hkp⟩; refine ⟨_, rfl, ?_⟩; have n0_ := Aside0.mk (Kd.R_mono (ok' := fun k_ => some k_ ≠ (.slice Ao25 t105.length co25 : Value).ownBlock) (Kd.R_keptB (HO_5.out) hkp (fun k_ hk_ hs_ => (hk_) hs_)) (fun k_ hk_ => hk_.1)); have n1_ := Aside0.mk (Kd.R_reok rfl hy0 (fun k_ e_ => HO_7.out.1 k_ e_)); have n2_ := Aside0.mk (hb); clear HO_5; clear HO_7; clear HB; have HO_5 := n0_; have HO_7 := n1_; have HB := n2_; clear n0_ n1_ n2_; (try clear hb); (try clear hkp); (try clear hy0)) | ((with_reducible refine gate_callee (f := 15) rfl ?_); refine goesL_ (some 45) rfl rfl Tryz.func15 (by kernel_rfl) rfl #[.slice Ao25 t111.length co25, .int .i64 1] rfl (by (try simp only [List.map_toArray, List.map_cons, List.map_nil]); first | done | (rw [show t111.length = t105.length from (Kd.R_reads' HO_7.out).1.symm] <;> rfl) | rfl | (simp only [List.length_drop, List.length_take]; rfl)) ?_; (with_reducible refine (laws_heldIntS.calls kj6 _ _ t111 1 t112 _ ?side1 ?side2 A18.out).mono ?_); (case side1 => repeat (first | exact (Kd.R_reads' HO_7.out).2.2 | (with_reducible refine Kd.C_alloc ?_ _) | (with_reducible refine Kd.C_drewN ?_ _) | (with_reducible refine Kd.C_drew ?_))); (case side2 => rw [show t111.length = t105.length from (Kd.R_reads' HO_7.out).1.symm]; exact (Kd.R_reads' HO_7.out).2.1); rintro e w' ⟨rfl, ⟨nd, rfl⟩⟩; refine ⟨_, rfl, ?_⟩) | ((with_reducible refine gate_callee (f := 19) rfl ?_); refine gcall (some 54) Tryz.func19 #[.string a0, .string a1] rfl ?_; (with_reducible refine (impl_PermutationOf.calls kj6 a0 a1 t113 t114 _ ?side1 A23.out).mono ?_); (case side1 => (refine GoodW.below HG.out ?_); exact bel HB); rintro e w27 ⟨v115, rfl, ho0, hb⟩; refine ⟨_, rfl, ?_⟩; have n0_ := Aside0.mk (Kd.R_elder' (rch HO_5) (Kd.R_base ho0) hb); have n1_ := Aside0.mk (Kd.R_elder' (rch HO_7) (Kd.R_base ho0) hb); have n2_ := Aside0.mk (Kd.R_lower (Kd.R_new' (Kd.R_new' ho0 (Kd.R_lt (rch HO_5))) (Kd.R_lt (rch HO_7))) (below_size (bel HB))); have n3_ := Aside0.mk (below_step (bel HB) hb); clear HO_5; clear HO_7; clear HB; have HO_5 := n0_; have HO_7 := n1_; have HO116 := n2_; have HB := n3_; clear n0_ n1_ n2_ n3_; (try clear hb); (try clear hb2); (try clear hk); (try clear hi); (try clear ho0)))
        (try simp only [Act.put, List.setIfInBounds_toArray, List.set_cons_zero, List.set_cons_succ])
        go_cut [65] (fun v65 wc => ∃ (kq : Nat) (x65_23 : Bool), v65 = .bool x65_23 ∧ Aside0 (laws_FnExactPermutationOf.j1 kq t111 t110 x65_23 = some r) ∧ Aside0 (kq ≤ kj6) ∧ Aside0 (Kd.R (Kd.int .i64) 3 wc w.heap.size (fun _ => True) (.slice Ao25 t105.length co25) t111) ∧ Aside0 (Below w.heap.size w wc))
        case first =>
         have H := HC24.out
         clear HC24
         replace H := Option.bind_eq_some_iff.mp H
         obtain ⟨t117, A280, H⟩ := H
         replace H : (if t117 = true then (laws_FnExactPermutationOf.j1 kj6 t111 t110 (t114 != t102)) else (laws_FnExactPermutationOf.j1 kj6 t111 t110 true)) = some r := H
         have A28 := Aside0.mk A280
         clear A280
         by_cases c29 : t117 = true
         ·subst c29
          have H1 : (laws_FnExactPermutationOf.j1 kj6 t111 t110 (t114 != t102)) = some r := by rw [if_pos rfl] at H; exact H
          clear H
          have H := H1
          clear H1
          have H' := Aside0.mk H
          clear H
          obtain ⟨Ao30, co30, eo30⟩ := Kd.R_slice HO116.out
          subst eo30
          obtain ⟨Ao31, co31, eo31⟩ := Kd.R_slice HO_5.out
          subst eo31
          go_wp2_with (first | ((with_reducible refine gate_callee (f := 13) rfl ?_); refine gcall (some 59) Tryz.func13 #[.slice Ao30 t113.length co30, .slice Ao31 t101.length co31] rfl ?_; (with_reducible refine (laws_eqIntS.calls kj6 _ _ t113 _ _ t101 true _ ?side1 ?side2 ?side3 ?side4 A28.out).mono ?_); (case side1 => repeat (first | exact (Kd.R_reads' HO116.out).2.2 | (with_reducible refine Kd.C_alloc ?_ _) | (with_reducible refine Kd.C_drewN ?_ _) | (with_reducible refine Kd.C_drew ?_))); (case side2 => exact (Kd.R_reads' HO116.out).2.1); (case side3 => repeat (first | exact (Kd.R_reads' HO_5.out).2.2 | (with_reducible refine Kd.C_alloc ?_ _) | (with_reducible refine Kd.C_drewN ?_ _) | (with_reducible refine Kd.C_drew ?_))); (case side4 => exact (Kd.R_reads' HO_5.out).2.1); rintro e w' ⟨rfl, ⟨nd, rfl⟩⟩; refine ⟨_, rfl, ?_⟩))
          go_meet
          case rel => exact ⟨_, ((t114 != t102)), (by first | rfl | (simp; done) | (simp [*]; done)), H', ⟨by have := HJ6.out; first | omega | exact Nat.le_refl _⟩, ⟨by (with_reducible repeat (first | apply Kd.R_alloc | apply Kd.R_drewN | apply Kd.R_drew)); exact Kd.R_mono HO_7.out (fun _ hk => trivial)⟩, ⟨bel HB⟩⟩
         ·replace c29 := Bool.eq_false_iff.mpr c29
          subst c29
          have H1 : (laws_FnExactPermutationOf.j1 kj6 t111 t110 true) = some r := by rw [if_neg (show ¬ (false = true) by decide)] at H; exact H
          clear H
          have H := H1
          clear H1
          have H' := Aside0.mk H
          clear H
          obtain ⟨Ao32, co32, eo32⟩ := Kd.R_slice HO116.out
          subst eo32
          obtain ⟨Ao33, co33, eo33⟩ := Kd.R_slice HO_5.out
          subst eo33
          go_wp2_with (first | ((with_reducible refine gate_callee (f := 13) rfl ?_); refine gcall (some 59) Tryz.func13 #[.slice Ao32 t113.length co32, .slice Ao33 t101.length co33] rfl ?_; (with_reducible refine (laws_eqIntS.calls kj6 _ _ t113 _ _ t101 false _ ?side1 ?side2 ?side3 ?side4 A28.out).mono ?_); (case side1 => repeat (first | exact (Kd.R_reads' HO116.out).2.2 | (with_reducible refine Kd.C_alloc ?_ _) | (with_reducible refine Kd.C_drewN ?_ _) | (with_reducible refine Kd.C_drew ?_))); (case side2 => exact (Kd.R_reads' HO116.out).2.1); (case side3 => repeat (first | exact (Kd.R_reads' HO_5.out).2.2 | (with_reducible refine Kd.C_alloc ?_ _) | (with_reducible refine Kd.C_drewN ?_ _) | (with_reducible refine Kd.C_drew ?_))); (case side4 => exact (Kd.R_reads' HO_5.out).2.1); rintro e w' ⟨rfl, ⟨nd, rfl⟩⟩; refine ⟨_, rfl, ?_⟩))
          go_meet
          case rel => exact ⟨_, (true), (by first | rfl | (simp; done) | (simp [*]; done)), H', ⟨by have := HJ6.out; first | omega | exact Nat.le_refl _⟩, ⟨by (with_reducible repeat (first | apply Kd.R_alloc | apply Kd.R_drewN | apply Kd.R_drew)); exact Kd.R_mono HO_7.out (fun _ hk => trivial)⟩, ⟨bel HB⟩⟩
        case rest =>
         clear HC24
         try clear c1
         try clear c2
         try clear p2
         try clear c3
         try clear c3b0
         try clear c3b0y
         try clear c3b1
         try clear c4
         try clear c4b0
         try clear c4b0y
         try clear c4b1
         try clear c6
         try clear c11
         try clear c13
         try clear c14
         try clear c15
         try clear c16
         try clear c18
         try clear c19
         try clear c19b0
         try clear c19b0y
         try clear c22
         try clear c22b0
         try clear c22b0y
         try clear c22b1
         try clear c29
         try clear p2
         obtain ⟨kq, x65_23, rfl, HA, HJ23, HO_7, HB⟩ := hcut
         have hl7_23 := (Kd.R_reads' HO_7.out).1
         rw [hl7_23] at HO_7
         (try simp only [hl7_23])
         cases kq with
         | zero => exact absurd HA.out (by simp [laws_FnExactPermutationOf.j1])
         | succ kj23 =>
          have H := HA.out
          clear HA
          simp only [laws_FnExactPermutationOf.j1] at H
          by_cases c34 : x65_23 = true
          ·subst c34
           have H1 : (some false) = some r := by rw [if_pos rfl] at H; exact H
           clear H
           have H := H1
           clear H1
           obtain rfl := Option.some.inj H
           go_wp2
           go_ret
           exact ⟨by first | rfl | (simp [errW_none, errW_some] <;> rfl) | (simp [*, errW_none, errW_some] <;> rfl), bel HB⟩
          ·replace c34 := Bool.eq_false_iff.mpr c34
           subst c34
           have H1 : ((laws_heldIntS.f kj23 t111 1).bind fun t118 => (if t118 < 0 then (some false) else (if t118 = t110 then (some true) else (some false)))) = some r := by rw [if_neg (show ¬ (false = true) by decide)] at H; exact H
           clear H
           have H := H1
           clear H1
           replace H := Option.bind_eq_some_iff.mp H
           obtain ⟨t118, A350, H⟩ := H
           replace H : (if t118 < 0 then (some false) else (if t118 = t110 then (some true) else (some false))) = some r := H
           have A35 := Aside0.mk A350
           clear A350
           by_cases c36 : t118 < 0
           ·rw [if_pos c36] at H
            have c36b0 : decide (t118 < 0) = true := decide_eq_true c36
            clear c36
            obtain rfl := Option.some.inj H
            go_wp2_with (first | ((with_reducible refine gate_callee (f := 15) rfl ?_); refine gcall (some 68) Tryz.func15 #[.slice Ao25 t111.length co25, .int .i64 1] rfl ?_; (with_reducible refine (laws_heldIntS.calls kj23 _ _ t111 1 t118 _ ?side1 ?side2 A35.out).mono ?_); (case side1 => repeat (first | exact (Kd.R_reads' HO_7.out).2.2 | (with_reducible refine Kd.C_alloc ?_ _) | (with_reducible refine Kd.C_drewN ?_ _) | (with_reducible refine Kd.C_drew ?_))); (case side2 => exact (Kd.R_reads' HO_7.out).2.1); rintro e w' ⟨rfl, ⟨nd, rfl⟩⟩; refine ⟨_, rfl, ?_⟩))
            go_ret
            exact ⟨by first | rfl | (simp [errW_none, errW_some] <;> rfl) | (simp [*, errW_none, errW_some] <;> rfl), bel HB⟩
           ·rw [if_neg c36] at H
            have c36b0 : decide (t118 < 0) = false := decide_eq_false c36
            clear c36
            by_cases c37 : t118 = t110
            ·rw [if_pos c37] at H
             have c37b0 : (t118 == t110) = true := beq_iff_eq.mpr c37
             have c37b1 : (t118 != t110) = false := bne_eq_false_iff_eq.mpr c37
             clear c37
             obtain rfl := Option.some.inj H
             go_wp2_with (first | ((with_reducible refine gate_callee (f := 15) rfl ?_); refine gcall (some 68) Tryz.func15 #[.slice Ao25 t111.length co25, .int .i64 1] rfl ?_; (with_reducible refine (laws_heldIntS.calls kj23 _ _ t111 1 t118 _ ?side1 ?side2 A35.out).mono ?_); (case side1 => repeat (first | exact (Kd.R_reads' HO_7.out).2.2 | (with_reducible refine Kd.C_alloc ?_ _) | (with_reducible refine Kd.C_drewN ?_ _) | (with_reducible refine Kd.C_drew ?_))); (case side2 => exact (Kd.R_reads' HO_7.out).2.1); rintro e w' ⟨rfl, ⟨nd, rfl⟩⟩; refine ⟨_, rfl, ?_⟩))
             go_ret
             exact ⟨by first | rfl | (simp [errW_none, errW_some] <;> rfl) | (simp [*, errW_none, errW_some] <;> rfl), bel HB⟩
            ·rw [if_neg c37] at H
             have c37b0 : (t118 == t110) = false := beq_eq_false_iff_ne.mpr c37
             have c37b1 : (t118 != t110) = true := bne_iff_ne.mpr c37
             obtain rfl := Option.some.inj H
             go_wp2_with (first | ((with_reducible refine gate_callee (f := 15) rfl ?_); refine gcall (some 68) Tryz.func15 #[.slice Ao25 t111.length co25, .int .i64 1] rfl ?_; (with_reducible refine (laws_heldIntS.calls kj23 _ _ t111 1 t118 _ ?side1 ?side2 A35.out).mono ?_); (case side1 => repeat (first | exact (Kd.R_reads' HO_7.out).2.2 | (with_reducible refine Kd.C_alloc ?_ _) | (with_reducible refine Kd.C_drewN ?_ _) | (with_reducible refine Kd.C_drew ?_))); (case side2 => exact (Kd.R_reads' HO_7.out).2.1); rintro e w' ⟨rfl, ⟨nd, rfl⟩⟩; refine ⟨_, rfl, ?_⟩))
             go_ret
             exact ⟨by first | rfl | (simp [errW_none, errW_some] <;> rfl) | (simp [*, errW_none, errW_some] <;> rfl), bel HB⟩
       ·rw [if_neg c22] at H
        have c22b0 : (t112 == t110) = false := beq_eq_false_iff_ne.mpr c22
        have c22b1 : (t112 != t110) = true := bne_iff_ne.mpr c22
        obtain rfl := Option.some.inj H
        obtain ⟨Ao38, co38, eo38⟩ := Kd.R_slice HO_7.out
        subst eo38
        go_wp2_with (first | ((with_reducible refine gate_callee (f := 14) rfl ?_); refine gcall (some 42) Tryz.func14 #[.slice Ao38 t105.length co38, .int .i64 1] rfl ?_; (with_reducible refine (laws_markIntS.calls kj6 (fun k_ => some k_ = (.slice Ao38 t105.length co38 : Value).ownBlock) (.slice Ao38 t105.length co38) t105 1 t110 t111 w _ ?side1 ?side2 A17.out).mono ?_); (case side1 => repeat (first | (with_reducible first | exact HB.out | apply below_alloc | apply pw_below_drewN | apply below_drew1) | exact HB.out)); (case side2 => exact Kd.R_tight rfl HO_7.out); rintro e w39 ⟨rfl, hy0, hb, hkp⟩; refine ⟨_, rfl, ?_⟩; have n0_ := Aside0.mk (Kd.R_mono (ok' := fun k_ => some k_ ≠ (.slice Ao38 t105.length co38 : Value).ownBlock) (Kd.R_keptB (HO_5.out) hkp (fun k_ hk_ hs_ => (hk_) hs_)) (fun k_ hk_ => hk_.1)); have n1_ := Aside0.mk (Kd.R_reok rfl hy0 (fun k_ e_ => HO_7.out.1 k_ e_)); have n2_ := Aside0.mk (hb); clear HO_5; clear HO_7; clear HB; have HO_5 := n0_; have HO_7 := n1_; have HB := n2_; clear n0_ n1_ n2_; (try clear hb); (try clear hkp); (try clear hy0)) | ((with_reducible refine gate_callee (f := 15) rfl ?_); refine goesL_ (some 45) rfl rfl Tryz.func15 (by kernel_rfl) rfl #[.slice Ao38 t111.length co38, .int .i64 1] rfl (by (try simp only [List.map_toArray, List.map_cons, List.map_nil]); first | done | (rw [show t111.length = t105.length from (Kd.R_reads' HO_7.out).1.symm] <;> rfl) | rfl | (simp only [List.length_drop, List.length_take]; rfl)) ?_; (with_reducible refine (laws_heldIntS.calls kj6 _ _ t111 1 t112 _ ?side1 ?side2 A18.out).mono ?_); (case side1 => repeat (first | exact (Kd.R_reads' HO_7.out).2.2 | (with_reducible refine Kd.C_alloc ?_ _) | (with_reducible refine Kd.C_drewN ?_ _) | (with_reducible refine Kd.C_drew ?_))); (case side2 => rw [show t111.length = t105.length from (Kd.R_reads' HO_7.out).1.symm]; exact (Kd.R_reads' HO_7.out).2.1); rintro e w' ⟨rfl, ⟨nd, rfl⟩⟩; refine ⟨_, rfl, ?_⟩))
        go_ret
        exact ⟨by first | rfl | (simp [errW_none, errW_some] <;> rfl) | (simp [*, errW_none, errW_some] <;> rfl), bel HB⟩
end Go.Proofs.YtepmpilopmcjpaaGreatDoor.Q
end
section
namespace Go.Proofs.YtepmpilopmcjpaaGreatDoor.Q
set_option linter.unusedSectionVars false
open Go.RowKit Go.Proofs.YtepmpilopmcjpaaGreatDoorW.PrintWords Go.Proofs.YtepmpilopmcjpaaGreatDoorW.PrintLast Go.Proofs.YtepmpilopmcjpaaGreatDoorW.PrintMore
open Classical
theorem tyCopy_eq (w h : Int) (l : List Int) (h2 : l.length ≤ 36) : spec_tyCopy.f w h l = some (w, h, l) := by
 unfold spec_tyCopy.f
 rw [Option.bind_some, List.nil_append, if_pos]
 show 0 + l.length < 140737488355328
 rw [Nat.zero_add]
 exact Nat.lt_of_le_of_lt h2 (by decide)
def setA (l : List Int) (A : List Int) : List Int := l.foldl (fun a y => a.set y.toNat 111) A
theorem setA_len : ∀ (l A : List Int), (setA l A).length = A.length
 | [], _ => rfl
 | y :: l, A => (setA_len l (A.set y.toNat 111)).trans (by rw [List.length_set])
theorem setA_rd : ∀ (l A : List Int), (∀ y ∈ l, 0 ≤ y ∧ y < (A.length : Int)) → ∀ z : Int, 0 ≤ z → rd (setA l A) z = if z ∈ l then 111 else rd A z
 | [], _, _, _, _ => by rw [if_neg (by simp)]; rfl
 | y :: l, A, h, z, hz => by
  obtain ⟨y0, y1⟩ := h y List.mem_cons_self
  refine (setA_rd l (A.set y.toNat 111) (fun x hx => by rw [List.length_set]; exact h x (List.mem_cons_of_mem _ hx)) z hz).trans ?_
  rw [rd_set A y z 111 y0 y1 hz]
  by_cases h1 : z ∈ l
  ·rw [if_pos h1, if_pos (List.mem_cons_of_mem _ h1)]
  ·rw [if_neg h1]
   by_cases h2 : z = y
   ·rw [if_pos h2, if_pos (by rw [h2]; exact List.mem_cons_self)]
   ·rw [if_neg h2, if_neg fun h3 => (List.mem_cons.1 h3).elim h2 h1]
theorem one_alike {cs : List Int} {x : Int} (hx : x ∈ ballsOf cs) : alike cs ((setA (ballsOf cs) cs).set x.toNat 97) ∧ only ((setA (ballsOf cs) cs).set x.toNat 97) 97 x := by
 have hin : ∀ y ∈ ballsOf cs, 0 ≤ y ∧ y < (cs.length : Int) := fun y hy => ⟨((balls_mem cs y).1 hy).1, ((balls_mem cs y).1 hy).2.1⟩
 obtain ⟨x0, x1, xb⟩ := (balls_mem cs x).1 hx
 have hl := setA_len (ballsOf cs) cs
 have hr : ∀ y : Int, 0 ≤ y → rd ((setA (ballsOf cs) cs).set x.toNat 97) y = if y = x then 97 else if y ∈ ballsOf cs then 111 else rd cs y := fun y hy => by
  rw [rd_set _ x y 97 x0 (by rw [hl]; exact x1) hy, setA_rd _ cs hin y hy]
 refine ⟨⟨by rw [List.length_set, hl], fun y y0 y1 => ?_⟩, x0, by rw [List.length_set, hl]; exact x1, by rw [hr x x0, if_pos rfl], fun y y0 y1 hy => ?_⟩
 ·rw [hr y y0]
  by_cases h1 : y = x
  ·rw [if_pos h1, h1, xb]
   refine ⟨⟨fun e => ?_, fun e => by cases e⟩, by decide⟩
   rw [e, isB_35] at xb
   cases xb
  ·rw [if_neg h1]
   by_cases h2 : y ∈ ballsOf cs
   ·rw [if_pos h2, ((balls_mem cs y).1 h2).2.2]
    refine ⟨⟨fun e => ?_, fun e => by cases e⟩, by decide⟩
    have := ((balls_mem cs y).1 h2).2.2
    rw [e, isB_35] at this
    cases this
   ·rw [if_neg h2]
    exact ⟨Iff.rfl, rfl⟩
 ·rw [List.length_set, hl] at y1
  rw [hr y y0] at hy
  by_cases h1 : y = x
  ·exact h1
  ·rw [if_neg h1] at hy
   by_cases h2 : y ∈ ballsOf cs
   ·rw [if_pos h2] at hy
    cases hy
   ·rw [if_neg h2] at hy
    exact absurd ((balls_mem cs y).2 ⟨y0, y1, by rw [hy]; decide⟩) h2
def setF (l : List Int) (p : Int) (u : Nat) (out : List Int) (i : Nat) : List Int := match l with
 | [] => out
 | x :: l => setF l p (u + 1) (if x = p then out.set i (u : Int) else out) i
theorem setF_not : ∀ (l : List Int) (p : Int) (u : Nat) (out : List Int) (i : Nat), p ∉ l → setF l p u out i = out
 | [], _, _, _, _, _ => rfl
 | x :: l, p, u, out, i, h => by
  have h1 : x ≠ p := fun e => h (by rw [e]; exact List.mem_cons_self)
  show setF l p (u + 1) (if x = p then out.set i (u : Int) else out) i = out
  rw [if_neg h1]
  exact setF_not l p (u + 1) out i fun hm => h (List.mem_cons_of_mem _ hm)
theorem setF_one : ∀ (l : List Int) (p : Int) (u : Nat) (out : List Int) (i : Nat), l.Nodup → p ∈ l → setF l p u out i = out.set i (idxL l p u)
 | [], _, _, _, _, _, h => by simp at h
 | x :: l, p, u, out, i, hn, h => by
  obtain ⟨n1, n2⟩ := List.nodup_cons.1 hn
  show setF l p (u + 1) (if x = p then out.set i (u : Int) else out) i = _
  unfold idxL
  by_cases e : x = p
  ·rw [if_pos e, if_pos e]
   exact setF_not l p (u + 1) _ i (by rw [← e]; exact n1)
  ·rw [if_neg e, if_neg e]
   exact setF_one l p (u + 1) out i n2 ((List.mem_cons.1 h).resolve_left fun e2 => e e2.symm)
theorem mp_l2 (s : ByteArray) (L : List Int) (i : Nat) (p : Int) (n w h : Int) (cs : List Int) (r : List Int × Bool) (hL : L.length ≤ 1000) : ∀ (l : List Int) (u : Nat) (out : List Int), L.drop u = l → u ≤ L.length → i < out.length → Ev (fun k => spec_mcPermutation.l0 k s L (setF l p u out i) L n (wrap64 ((i : Int) + 1)) w h cs) r → Ev (fun k => spec_mcPermutation.l2 k s L out (i : Int) p L n (i : Int) L (L.length : Int) (u : Int) w h cs) r
 | [], u, out, hd, hu, hi, hE => by
  have h1 : u = L.length := by
   have := congrArg List.length hd
   simp at this
   omega
  subst h1
  refine Ev.step hE fun k => ?_
  rw [spec_mcPermutation.l2, if_neg (by omega)]
  rfl
 | x :: l, u, out, hd, hu, hi, hE => by
  obtain ⟨h1, h2, h3⟩ := rd_drop hd
  by_cases e : x = p
  ·have hE2 : Ev (fun k => spec_mcPermutation.l0 k s L (setF l p (u + 1) (out.set i (u : Int)) i) L n (wrap64 ((i : Int) + 1)) w h cs) r := by
    refine Ev.congr hE fun k => ?_
    rw [setF, if_pos e]
   refine Ev.step (mp_l2 s L i p n w h cs r hL l (u + 1) (out.set i (u : Int)) h3 h1 (by rw [List.length_set]; exact hi) hE2) fun k => ?_
   rw [spec_mcPermutation.l2, if_pos (by omega), if_pos (by omega), if_pos (by omega), h2, if_pos e, if_pos (by omega), if_pos (by omega), wr1 u (by omega), Int.toNat_natCast]
  ·have hE2 : Ev (fun k => spec_mcPermutation.l0 k s L (setF l p (u + 1) out i) L n (wrap64 ((i : Int) + 1)) w h cs) r := by
    refine Ev.congr hE fun k => ?_
    rw [setF, if_neg e]
   refine Ev.step (mp_l2 s L i p n w h cs r hL l (u + 1) out h3 h1 hi hE2) fun k => ?_
   rw [spec_mcPermutation.l2, if_pos (by omega), if_pos (by omega), if_pos (by omega), h2, if_neg e, wr1 u (by omega)]
section
variable {w h : Nat} (hw : w ≤ 7) (hh : h ≤ 7) (hs : w * h ≤ 36) (hw1 : 0 < w) (hh1 : 0 < h)
include hw hh hs hw1 hh1
theorem mp_l1 {s : ByteArray} (hb : wordB s = true) {cs : List Int} (hn : cs.length = w * h) (n : Int) (r : List Int × Bool) (i : Nat) (x : Int) (hx : x ∈ ballsOf cs) (out : List Int) (hi : i < out.length) (hq : slideW w h (s.data.toList.map dirN) cs x ∈ ballsOf cs)
  (hE : Ev (fun k => spec_mcPermutation.l0 k s (ballsOf cs) (out.set i (idxL (ballsOf cs) (slideW w h (s.data.toList.map dirN) cs x) 0)) (ballsOf cs) n (wrap64 ((i : Int) + 1)) w h cs) r) : ∀ (l : List Int) (u : Nat) (A : List Int), (ballsOf cs).drop u = l → u ≤ (ballsOf cs).length → A.length = cs.length → setA l A = setA (ballsOf cs) cs → Ev (fun k => spec_mcPermutation.l1 k s (ballsOf cs) out (i : Int) x (ballsOf cs) n (i : Int) (ballsOf cs) ((ballsOf cs).length : Int) (u : Int) w h cs w h A) r
 | [], u, A, hd, hu, hA, hS => by
  have hbl := balls_small (cs := cs) (by omega)
  have h1 : u = (ballsOf cs).length := by
   have := congrArg List.length hd
   simp at this
   omega
  subst h1
  have hA2 : A = setA (ballsOf cs) cs := hS
  obtain ⟨x0, x1, _⟩ := (balls_mem cs x).1 hx
  obtain ⟨ha, ho⟩ := one_alike hx
  rw [← hA2] at ha ho
  have hn2 : (A.set x.toNat 97).length = w * h := by rw [List.length_set, hA, hn]
  have h2 := only_run hw hh hs (s.data.toList.map dirN) _ wordB_lt hn2 97 x (by decide) ho
  rw [alike_run hw hh hs (s.data.toList.map dirN) cs _ wordB_lt hn ha x] at h2
  have h3 := tiRun_ev hw hh hs hw1 hh1 hb hn2
  have h4 := tiPlace_ev (tiltW w h (s.data.toList.map dirN) (A.set x.toNat 97)) 97 w h (by rw [tiltW_len hw hh hs hw1 hh1 _ _ wordB_lt hn2]; omega)
  rw [idx_only h2] at h4
  have h5 := mp_l2 s (ballsOf cs) i (slideW w h (s.data.toList.map dirN) cs x) n w h cs r (by omega) (ballsOf cs) 0 out rfl (Nat.zero_le _) hi (by
   rw [setF_one _ _ _ _ _ (balls_nodup cs) hq]
   exact hE)
  refine Ev.step (Ev.bind (f := fun k (bt125 : Int × Int × List Int) => ((spec_tiPlace.f k bt125.1 bt125.2.1 bt125.2.2 97).bind fun t130 => (spec_mcPermutation.l2 k s (ballsOf cs) out (i : Int) t130 (ballsOf cs) n (i : Int) (ballsOf cs) ((ballsOf cs).length : Int) 0 w h cs))) h3 (Ev.bind (f := fun k t130 => (spec_mcPermutation.l2 k s (ballsOf cs) out (i : Int) t130 (ballsOf cs) n (i : Int) (ballsOf cs) ((ballsOf cs).length : Int) 0 w h cs)) h4 h5)) fun k => ?_
  rw [spec_mcPermutation.l1, if_neg (by omega), if_pos x0, if_pos (by rw [hA]; exact x1)]
 | y :: l, u, A, hd, hu, hA, hS => by
  have hbl := balls_small (cs := cs) (by omega)
  obtain ⟨h1, h2, h3⟩ := rd_drop hd
  obtain ⟨y0, y1, _⟩ := (balls_mem cs y).1 (List.mem_of_mem_drop (i := u) (by rw [hd]; exact List.mem_cons_self))
  refine Ev.step (mp_l1 hb hn n r i x hx out hi hq hE l (u + 1) (A.set y.toNat 111) h3 h1 (by rw [List.length_set]; exact hA) hS) fun k => ?_
  rw [spec_mcPermutation.l1, if_pos (by omega), if_pos (by omega), if_pos (by omega), h2, if_pos y0, if_pos (by omega), wr1 u (by omega)]
theorem mp_l0 {s : ByteArray} (hb : wordB s = true) {cs : List Int} (hn : cs.length = w * h) (hq : ∀ x ∈ ballsOf cs, slideW w h (s.data.toList.map dirN) cs x ∈ ballsOf cs) : ∀ (l : List Int) (i : Nat) (out : List Int), (ballsOf cs).drop i = l → i ≤ (ballsOf cs).length → out.length = (ballsOf cs).length → (∀ j : Nat, j < i → out[j]? = (backL w h (s.data.toList.map dirN) cs)[j]?) → Ev (fun k => spec_mcPermutation.l0 k s (ballsOf cs) out (ballsOf cs) ((ballsOf cs).length : Int) (i : Int) w h cs) (backL w h (s.data.toList.map dirN) cs, true)
 | [], i, out, hd, hi, hl, hv => by
  have h1 : i = (ballsOf cs).length := by
   have := congrArg List.length hd
   simp at this
   omega
  subst h1
  have h2 : out = backL w h (s.data.toList.map dirN) cs := by
   refine List.ext_getElem? fun j => ?_
   by_cases hj : j < (ballsOf cs).length
   ·exact hv j hj
   ·rw [List.getElem?_eq_none (by omega), List.getElem?_eq_none (by unfold backL; rw [List.length_map]; omega)]
  rw [← h2]
  refine Ev.step (Ev.const (o := some (out, true)) rfl) fun k => ?_
  rw [spec_mcPermutation.l0, if_neg (by omega)]
 | x :: l, i, out, hd, _, hl, hv => by
  have hbl := balls_small (cs := cs) (by omega)
  obtain ⟨h1, h2, h3⟩ := rd_drop hd
  have hx : x ∈ ballsOf cs := List.mem_of_mem_drop (i := i) (by rw [hd]; exact List.mem_cons_self)
  have hxi : (ballsOf cs)[i]? = some x := by
   have := congrArg List.head? hd
   rw [List.head?_drop] at this
   exact this
  have ih := mp_l0 hb hn hq l (i + 1) (out.set i (idxL (ballsOf cs) (slideW w h (s.data.toList.map dirN) cs x) 0)) h3 h1 (by rw [List.length_set]; exact hl) (fun j hj => by
   rw [List.getElem?_set]
   by_cases e : i = j
   ·rw [if_pos e, if_pos (by omega)]
    unfold backL
    rw [List.getElem?_map, ← e, hxi]
    rfl
   ·rw [if_neg e]
    exact hv j (by omega))
  rw [← wr1 i (by omega)] at ih
  refine Ev.step (mp_l1 hw hh hs hw1 hh1 hb hn _ _ i x hx out (by omega) (hq x hx) ih (ballsOf cs) 0 cs rfl (Nat.zero_le _) rfl rfl) fun k => ?_
  rw [spec_mcPermutation.l0, if_pos (by omega), if_pos (by omega), if_pos (by omega), h2, tyCopy_eq w h cs (by omega), Option.bind_some]
  rfl
theorem mcPermutation_ev {s : ByteArray} (hb : wordB s = true) {cs : List Int} (hn : cs.length = w * h) : Ev (fun k => spec_mcPermutation.f k w h cs s) (if backB w h (s.data.toList.map dirN) cs = true then (backL w h (s.data.toList.map dirN) cs, true) else ([], false)) := by
 have hbl := balls_small (cs := cs) (by omega)
 refine Ev.bind (f := fun k (bt102 : Int × Int × List Int × Bool) => (if bt102.2.2.2 = true then ((spec_tyBalls.f k w h cs).bind fun t109 => (if 0 ≤ (t109.length : Int) then (if ((t109.length : Int) : Int).toNat ≤ 35184372088832 then (spec_mcPermutation.l0 k s t109 (List.replicate ((t109.length : Int) : Int).toNat 0) t109 (t109.length : Int) 0 w h cs) else (none)) else (none))) else (some (([] : List Int), false)))) (mcBack_ev hw hh hs hw1 hh1 hn hb) ?_
 by_cases hk : backB w h (s.data.toList.map dirN) cs = true
 ·rw [if_pos hk]
  refine Ev.congr (Ev.bind (f := fun k (t109 : List Int) => (if 0 ≤ (t109.length : Int) then (if ((t109.length : Int) : Int).toNat ≤ 35184372088832 then (spec_mcPermutation.l0 k s t109 (List.replicate ((t109.length : Int) : Int).toNat 0) t109 (t109.length : Int) 0 w h cs) else (none)) else (none))) (tyBalls_ev cs (by omega) w h) (Ev.congr (mp_l0 hw hh hs hw1 hh1 hb hn ((backB_iff w h _ cs).1 hk) (ballsOf cs) 0 (List.replicate (ballsOf cs).length 0) rfl (Nat.zero_le _) List.length_replicate fun j hj => absurd hj (Nat.not_lt_zero _)) fun k => ?_)) fun k => if_pos hk
  rw [if_pos (by omega), if_pos (by omega), Int.toNat_natCast]
  rfl
 ·rw [if_neg hk]
  exact Ev.congr (Ev.const (o := some (([] : List Int), false)) rfl) fun k => if_neg hk
end
def PermutationOfR (t s : ByteArray) : List Int × Bool := match trayOf t with
 | none => ([], false)
 | some (w, h, cs) => if wordB s = true then (if backB w.toNat h.toNat (s.data.toList.map dirN) cs = true then (backL w.toNat h.toNat (s.data.toList.map dirN) cs, true) else ([], false)) else ([], false)
theorem PermutationOfR_len (t s : ByteArray) : (PermutationOfR t s).1.length ≤ 1000000 := by
 unfold PermutationOfR
 rcases ht : trayOf t with _ | ⟨w, h, cs⟩
 ·exact Nat.zero_le _
 ·obtain ⟨w, h, cs, e, hw1, hw, hh1, hh, hs, hn⟩ := tray_parts ht
  injection e with e1 e2
  injection e2 with e2 e3
  subst e1 e2 e3
  have hz : 0 < w * h := Nat.mul_pos hw1 hh1
  have hbl := balls_small (cs := cs) (by omega)
  show (if wordB s = true then (if backB w h (s.data.toList.map dirN) cs = true then (backL w h (s.data.toList.map dirN) cs, true) else ([], false)) else ([], false)).1.length ≤ 1000000
  split
  ·split
   ·show (backL w h (s.data.toList.map dirN) cs).length ≤ 1000000
    unfold backL
    rw [List.length_map]
    omega
   ·exact Nat.zero_le _
  ·exact Nat.zero_le _
theorem specPermutationOf_ev (t s : ByteArray) : Ev (fun k => spec_PermutationOf.f k t s) (PermutationOfR t s) := by
 refine Ev.bind (f := fun _ (bt101 : List Int × Bool) => (some (bt101.1, bt101.2))) (a := PermutationOfR t s) ?_ (Ev.const rfl)
 refine Ev.bind (f := fun k (bt101 : Int × Int × List Int × Bool) => (if bt101.2.2.2 = true then ((spec_mcPermutation.f k bt101.1 bt101.2.1 bt101.2.2.1 s).bind fun bt108 => (some (bt108.1, bt108.2))) else (some (([] : List Int), false)))) (mcRead_ev t s) ?_
 unfold PermutationOfR
 rcases ht : trayOf t with _ | ⟨w, h, cs⟩
 ·exact Ev.congr (Ev.const rfl) fun k => if_neg Bool.false_ne_true
 ·obtain ⟨w, h, cs, e, hw1, hw, hh1, hh, hs, hn⟩ := tray_parts ht
  injection e with e1 e2
  injection e2 with e2 e3
  subst e1 e2 e3
  have hz : 0 < w * h := Nat.mul_pos hw1 hh1
  show Ev _ (if wordB s = true then _ else _)
  by_cases hb : wordB s = true
  ·rw [if_pos hb]
   simp only [Int.toNat_natCast]
   exact Ev.congr (Ev.bind (f := fun _ (bt108 : List Int × Bool) => some (bt108.1, bt108.2)) (mcPermutation_ev hw hh hs hw1 hh1 hb hn) (Ev.const rfl)) fun k => if_pos hb
  ·rw [if_neg hb]
   exact Ev.congr (Ev.const rfl) fun k => if_neg hb
theorem implPermutationOf_ev (t s : ByteArray) (ht0 : t.size ≤ 1048576) (_hs0 : s.size ≤ 1048576) : Ev (fun k => impl_PermutationOf.f k t s) (PermutationOfR t s) := by
 refine Ev.bind (f := fun k (t101 : Bool) => (if t101 = true then ((impl_comesBack.f k t s).bind fun bt102 => (if bt102.2 = true then (some (bt102.1, true)) else (some (([] : List Int), false)))) else (some (([] : List Int), false)))) (isRun_ev t s ht0) ?_
 unfold PermutationOfR
 rcases ht : trayOf t with _ | ⟨w, h, cs⟩
 ·exact Ev.congr (Ev.const rfl) fun k => if_neg (by simp)
 ·obtain ⟨w, h, cs, e, hw1, hw, hh1, hh, hs, hn⟩ := tray_parts ht
  injection e with e1 e2
  injection e2 with e2 e3
  subst e1 e2 e3
  have hz : 0 < w * h := Nat.mul_pos hw1 hh1
  show Ev _ (if wordB s = true then _ else _)
  by_cases hb : wordB s = true
  ·rw [if_pos hb]
   simp only [Int.toNat_natCast]
   exact Ev.congr (Ev.bind (f := fun _ (bt102 : List Int × Bool) => (if bt102.2 = true then (some (bt102.1, true)) else (some (([] : List Int), false)))) (comesBack_ev hw hh hs hw1 hh1 ht hn hb) (Ev.const (by split <;> rfl))) fun k => if_pos (by rw [hb]; rfl)
  ·rw [if_neg hb]
   exact Ev.congr (Ev.const rfl) fun k => if_neg (by simp [hb])
theorem lawPermutationOf_ev (t : ByteArray) (s : ByteArray) : Ev (fun k => laws_FnExactPermutationOf.f k t s) true := by
 by_cases ht : t.size ≤ 1048576
 case neg =>
  refine Ev.congr (Ev.const (o := some true) rfl) fun k => ?_
  unfold laws_FnExactPermutationOf.f
  exact if_pos (by omega)
 by_cases hs : s.size ≤ 1048576
 case neg =>
  refine Ev.congr (Ev.const (o := some true) rfl) fun k => ?_
  unfold laws_FnExactPermutationOf.f
  rw [if_neg (by omega)]
  exact if_pos (by omega)
 have hsp := specPermutationOf_ev t s
 have him := implPermutationOf_ev t s ht hs
 have hl := PermutationOfR_len t s
 obtain ⟨l, hl1, hl2, hmk⟩ := mark_ev (PermutationOfR t s).1 1 (by omega) (by omega) (by omega)
 have hhd := held_ev l 1 (by omega) (by omega) (by omega) (by rw [hl1]; exact hl2)
 have heq := eqInts_ev (PermutationOfR t s).1 (by omega)
 have e0 : (1 : Int) + l.length = 1 + (PermutationOfR t s).1.length := by rw [hl1]
 rw [e0] at hhd
 have c1 : ¬ (1 : Int) + (PermutationOfR t s).1.length < 0 := by omega
 have hj1 : Ev (fun k => laws_FnExactPermutationOf.j1 k l (1 + (PermutationOfR t s).1.length) false) true := by
  refine Ev.step (Ev.bind (f := fun _ t118 => (if t118 < 0 then (some false) else (if t118 = (1 : Int) + (PermutationOfR t s).1.length then (some true) else (some false)))) hhd (Ev.const ?_)) fun k => ?_
  ·rw [if_neg c1, if_pos rfl]
  ·rw [laws_FnExactPermutationOf.j1, if_neg (by decide)]
 have hj0 : Ev (fun k => laws_FnExactPermutationOf.j0 k t s (PermutationOfR t s).1 (PermutationOfR t s).2 (PermutationOfR t s).1 false) true := by
  refine Ev.step (Ev.bind (f := fun k bt110 => ((laws_heldIntS.f k bt110.2 1).bind fun t112 => (if t112 < 0 then (some false) else (if t112 = bt110.1 then ((impl_PermutationOf.f k t s).bind fun bt113 => ((laws_eqIntS.f k bt113.1 (PermutationOfR t s).1).bind fun t117 => (if t117 = true then (laws_FnExactPermutationOf.j1 k bt110.2 bt110.1 (bt113.2 != (PermutationOfR t s).2)) else (laws_FnExactPermutationOf.j1 k bt110.2 bt110.1 true)))) else (some false))))) hmk ?_) fun k => ?_
  ·refine Ev.bind (f := fun k t112 => (if t112 < 0 then (some false) else (if t112 = (1 : Int) + (PermutationOfR t s).1.length then ((impl_PermutationOf.f k t s).bind fun bt113 => ((laws_eqIntS.f k bt113.1 (PermutationOfR t s).1).bind fun t117 => (if t117 = true then (laws_FnExactPermutationOf.j1 k l (1 + (PermutationOfR t s).1.length) (bt113.2 != (PermutationOfR t s).2)) else (laws_FnExactPermutationOf.j1 k l (1 + (PermutationOfR t s).1.length) true)))) else (some false)))) hhd ?_
   refine Ev.congr (Ev.bind (f := fun k bt113 => ((laws_eqIntS.f k bt113.1 (PermutationOfR t s).1).bind fun t117 => (if t117 = true then (laws_FnExactPermutationOf.j1 k l (1 + (PermutationOfR t s).1.length) (bt113.2 != (PermutationOfR t s).2)) else (laws_FnExactPermutationOf.j1 k l (1 + (PermutationOfR t s).1.length) true)))) him ?_) fun k => ?_
   ·refine Ev.bind (f := fun k t117 => (if t117 = true then (laws_FnExactPermutationOf.j1 k l (1 + (PermutationOfR t s).1.length) ((PermutationOfR t s).2 != (PermutationOfR t s).2)) else (laws_FnExactPermutationOf.j1 k l (1 + (PermutationOfR t s).1.length) true))) heq ?_
    refine Ev.congr hj1 fun k => ?_
    rw [if_pos rfl, bne_self_eq_false]
   ·rw [if_neg c1, if_pos rfl]
  ·rw [laws_FnExactPermutationOf.j0, if_neg (by decide)]
 refine Ev.congr (Ev.bind (f := fun k (bt101 : List Int × Bool) => ((impl_PermutationOf.f k t s).bind fun bt105 => ((laws_eqIntS.f k bt105.1 bt101.1).bind fun t109 => (if t109 = true then (laws_FnExactPermutationOf.j0 k t s bt101.1 bt101.2 bt105.1 (bt105.2 != bt101.2)) else (laws_FnExactPermutationOf.j0 k t s bt101.1 bt101.2 bt105.1 true))))) hsp ?_) fun k => by unfold laws_FnExactPermutationOf.f; rw [if_neg (by omega), if_neg (by omega)]
 refine Ev.bind (f := fun k bt105 => ((laws_eqIntS.f k bt105.1 (PermutationOfR t s).1).bind fun t109 => (if t109 = true then (laws_FnExactPermutationOf.j0 k t s (PermutationOfR t s).1 (PermutationOfR t s).2 bt105.1 (bt105.2 != (PermutationOfR t s).2)) else (laws_FnExactPermutationOf.j0 k t s (PermutationOfR t s).1 (PermutationOfR t s).2 bt105.1 true)))) him ?_
 refine Ev.bind (f := fun k t109 => (if t109 = true then (laws_FnExactPermutationOf.j0 k t s (PermutationOfR t s).1 (PermutationOfR t s).2 (PermutationOfR t s).1 ((PermutationOfR t s).2 != (PermutationOfR t s).2)) else (laws_FnExactPermutationOf.j0 k t s (PermutationOfR t s).1 (PermutationOfR t s).2 (PermutationOfR t s).1 true))) heq ?_
 refine Ev.congr hj0 fun k => ?_
 rw [if_pos rfl, bne_self_eq_false]
end Go.Proofs.YtepmpilopmcjpaaGreatDoor.Q
end
