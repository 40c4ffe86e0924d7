/- Texts of this claim, joined. -/
import Derived.Test.YtkjlfgceodindaaDoorJWordToOne01
import Derived.Test.YtkjlfgceodindaaDoorJWordToOne05
import Derived.Deep.LoopGhost
import Derived.Deep.Draws
import Derived.Test.YtkjlfgceodindaaDoorJWordToOne02
import Derived.RangeFuncBox
import Derived.Laws.MakeOwn
import Derived.Maps.OwnOps
import Derived.Maps.OwnSet
import Derived.Maps.Views
import Derived.Maps.RangeWalk
set_option linter.unusedVariables false
set_option linter.unusedSimpArgs false
set_option linter.unusedSectionVars false
section
namespace Go.Proofs.YtkjlfgceodindaaDoor.Q
open Go.RowKit Go.Proofs.YtkjlfgceodindaaDoorW.PrintWords Go.Proofs.YtkjlfgceodindaaDoorW.PrintLast Go.Proofs.YtkjlfgceodindaaDoorW.PrintMore
attribute [local go_sem] max2_int min2_int max_two min_two max_three min_three max_four min_four
set_option linter.unusedVariables false
set_option linter.unusedSimpArgs false
def impl_tray_beside.l0 : Nat → Int → Int → List Int → List (S117) → Int → Int → Int → Int → List Int → Option (List Int)
 | 0, _, _, _, _, _, _, _, _, _ => none
 | k + 1, x5, x6, x7, x23, x24, x25, x102000, x102001, x102002 => if x25 < x24 then (if 0 ≤ x25 then (if x25 < (x23.length : Int) then ((impl_within.f (wrap64 (x5 + ((rd_T117 x23 x25).f0))) 0 (wrap64 (x102000 - 1))).bind fun t110 => (if t110 = true then ((impl_within.f (wrap64 (x6 + ((rd_T117 x23 x25).f1))) 0 (wrap64 (x102001 - 1))).bind fun t111 => (if t111 = true then ((impl_tray_number.f x102000 x102001 x102002 (wrap64 (x5 + ((rd_T117 x23 x25).f0))) (wrap64 (x6 + ((rd_T117 x23 x25).f1)))).bind fun t112 => (if x7.length < 17592186044416 then (impl_tray_beside.l0 k x5 x6 (x7 ++ [t112]) x23 x24 (wrap64 (x25 + 1)) x102000 x102001 x102002) else (none))) else (impl_tray_beside.l0 k x5 x6 x7 x23 x24 (wrap64 (x25 + 1)) x102000 x102001 x102002))) else (impl_tray_beside.l0 k x5 x6 x7 x23 x24 (wrap64 (x25 + 1)) x102000 x102001 x102002))) else (none)) else (none)) else (some x7)
def impl_tray_beside.f (k : Nat) (a0_0 : Int) (a0_1 : Int) (l0_2 : List Int) (a1 : Int) : Option (List Int) := if a0_0 = 0 then (none) else ((some (([(⟨0, (-1)⟩ : S117), (⟨1, 0⟩ : S117), (⟨0, 1⟩ : S117), (⟨(-1), 0⟩ : S117)] : List (S117)) : List (S117))).bind fun y105 => (impl_tray_beside.l0 k (Int.tmod a1 a0_0) (wrap64 (Int.tdiv a1 a0_0)) (([] : List Int)) y105 (y105.length : Int) 0 a0_0 a0_1 l0_2))
theorem impl_tray_beside.mono_l : ∀ k, (∀ y0 y1 y2 y3 y4 y5 y6 y7 y8, LeO (impl_tray_beside.l0 k y0 y1 y2 y3 y4 y5 y6 y7 y8) (impl_tray_beside.l0 (k + 1) y0 y1 y2 y3 y4 y5 y6 y7 y8))
 | 0 => fun _ _ _ _ _ _ _ _ _ r h => by simp [impl_tray_beside.l0] at h
 | k + 1 => by
  have ih0 := impl_tray_beside.mono_l k
  ·intro y0 y1 y2 y3 y4 y5 y6 y7 y8
   unfold impl_tray_beside.l0
   repeat' first
   | (with_reducible apply ih0)
   | (with_reducible exact LeO.refl _)
   | (with_reducible exact LeO.none _)
   | (with_reducible refine LeO.ite ?_ ?_)
   | (with_reducible refine LeO.bind ?_ (fun _ => ?_))
   | apply ih0
   | exact LeO.none _
   | refine LeO.ite ?_ ?_
   | refine LeO.bind ?_ (fun _ => ?_)
theorem impl_tray_beside.mono : ∀ a0 a1 a2 a3 k, LeO (impl_tray_beside.f k a0 a1 a2 a3) (impl_tray_beside.f (k + 1) a0 a1 a2 a3) := by
 intro a0 a1 a2 a3 k;have ih0 := impl_tray_beside.mono_l k;unfold impl_tray_beside.f
 repeat' first
  | (with_reducible apply ih0)
  | (with_reducible exact LeO.refl _)
  | (with_reducible exact LeO.none _)
  | (with_reducible refine LeO.ite ?_ ?_)
  | (with_reducible refine LeO.bind ?_ (fun _ => ?_))
  | apply ih0
  | exact LeO.none _
  | refine LeO.ite ?_ ?_
  | refine LeO.bind ?_ (fun _ => ?_)
def impl_tray_beside.T1 : Bool × List (List Nat × List Nat) := (true, [([], []), ([], []), ([1], [1]), ([0, 2], [0, 2]), ([], []), ([], []), ([5], [5]), ([4, 6], [4, 6]), ([], []), ([3, 0, 1, 2, 3], [3]), ([7, 9, 0, 1, 2, 3, 4, 5, 6, 7, 9], [7]), ([8, 10, 0, 1, 2, 3, 4, 5, 6, 7, 8, 9, 10], [8])])
def impl_tray_beside.B1 : List Nat := [0, 0, 2, 7, 0, 0, 32, 112, 0, 15, 767, 2047]
theorem impl_tray_beside.tab1 : rtab .any (opsOf Tryd.f77 1) = impl_tray_beside.T1 := by kernel_rfl
theorem impl_tray_beside.bits1 : waitsOk impl_tray_beside.T1.2 impl_tray_beside.B1 = true := by kernel_rfl
set_option maxHeartbeats 8000000 in
set_option maxRecDepth 100000 in
theorem impl_tray_beside.calls (k : Nat) (a0_0 : Int) (a0_1 : Int) (A0_2 : Option Addr) (c0_2 : Nat) (l0_2 : List Int) (a1 : Int) (r : List Int) (w : World) (hr0_2 : Kd.C (Kd.int .u8) w A0_2 l0_2.length l0_2) (hc0_2 : l0_2.length ≤ c0_2) (h : impl_tray_beside.f k a0_0 a0_1 l0_2 a1 = some r) :
  Calls Tryd.prog 77 #[.agg #[.int .i64 a0_0, .int .i64 a0_1, .slice A0_2 l0_2.length c0_2], .int .i64 a1] w fun e w' => ∃ v0_ : Value, e = .returned (v0_) ∧ Kd.R (Kd.int .i64) 3 w' w.heap.size (fun _ => True) v0_ r ∧ Below w.heap.size w w' := by
 have hu41 := Tryd.underlying41;have hu117 := Tryd.underlying117;have HR0_2 := Aside0.mk hr0_2;have HC0_2 := Aside0.mk hc0_2;clear hr0_2 hc0_2;have HB := Aside0.mk (Below.refl w.heap.size w);have H : (if a0_0 = 0 then (none) else ((some (([(⟨0, (-1)⟩ : S117), (⟨1, 0⟩ : S117), (⟨0, 1⟩ : S117), (⟨(-1), 0⟩ : S117)] : List (S117)) : List (S117))).bind fun y105 => (impl_tray_beside.l0 k (Int.tmod a1 a0_0) (wrap64 (Int.tdiv a1 a0_0)) (([] : List Int)) y105 (y105.length : Int) 0 a0_0 a0_1 l0_2))) = some r := h;clear h
 by_cases c3 : a0_0 = 0
 ·rw [if_pos c3] at H
  exact absurd H (by simp)
 ·rw [if_neg c3] at H
  have c3b0 : (a0_0 == 0) = false := beq_eq_false_iff_ne.mpr c3;have c3b1 : (a0_0 != 0) = true := bne_iff_ne.mpr c3;obtain ⟨y102, hy102⟩ : ∃ y_ : List Int, y_ = (([] : List Int)) := ⟨_, rfl⟩;replace H : ((some (([(⟨0, (-1)⟩ : S117), (⟨1, 0⟩ : S117), (⟨0, 1⟩ : S117), (⟨(-1), 0⟩ : S117)] : List (S117)) : List (S117))).bind fun y105 => (impl_tray_beside.l0 k (Int.tmod a1 a0_0) (wrap64 (Int.tdiv a1 a0_0)) y102 y105 (y105.length : Int) 0 a0_0 a0_1 l0_2)) = some r := rH hy102 H;have Ny102 := Aside0.mk hy102;clear hy102;obtain ⟨y105, hy105⟩ : ∃ y_ : List (S117), y_ = (([(⟨0, (-1)⟩ : S117), (⟨1, 0⟩ : S117), (⟨0, 1⟩ : S117), (⟨(-1), 0⟩ : S117)] : List (S117))) := ⟨_, rfl⟩;replace H : (impl_tray_beside.l0 k (Int.tmod a1 a0_0) (wrap64 (Int.tdiv a1 a0_0)) y102 y105 (y105.length : Int) 0 a0_0 a0_1 l0_2) = some r := rH hy105 H;have Ny105 := Aside0.mk hy105;clear hy105;have H' := Aside0.mk H;clear H
  go_enter Tryd.func77, Tryd.ntmps77
  try go_wp2_with (first | ((with_reducible refine gate_dst (N := 2) rfl ?_); refine boxE (N := 2) (cs := #[.int .i64 a0_0, .int .i64 a0_1, .slice A0_2 l0_2.length c0_2]) (t := 41) ?_; intro gb101 hg w4 hbox hb; have n0_ := Aside0.mk (below_step (bel HB) hb); have n1_ := Aside0.mk (hbox); have n2_ := Aside0.mk (gsz hg (bel HB)); have n3_ := Aside0.mk (gsz hg (bel HB)); clear HB; have HB := n0_; have BK101 := n1_; have GW101 := n2_; have GE101 := n3_; clear n0_ n1_ n2_ n3_; clear hb hbox hg))
  have n0_ := Aside0.mk (blk_drew BK101.out);have n1_ := Aside0.mk (below_drew1 HB.out);clear BK101;clear HB;have BK101 := n0_;have HB := n1_;clear n0_ n1_
  refine start_ (n := 12) (S := fun w' => w'.cell? ⟨gb101, 0, none⟩ = some (.int .i64 a0_0) ∧ w'.cell? ⟨gb101, 1, none⟩ = some (.int .i64 a0_1) ∧ w'.cell? ⟨gb101, 2, none⟩ = some (.slice A0_2 l0_2.length c0_2)) (ds := []) #[false, false, false, false, false, false, false, false, false, false, false, false] (by kernel_rfl) rfl rfl ⟨(blk_cell BK101.out 0).trans rfl, (blk_cell BK101.out 1).trans rfl, (blk_cell BK101.out 2).trans rfl⟩ (fun hHeld => ?_); refine with_tabW impl_tray_beside.tab1 impl_tray_beside.bits1 (fun HT_ HW_ => ?_)
  generalize w4.drew = w5 at BK101 HB hHeld ⊢
  refine pure_ (i := 0) (N := some 10) (v := ?_) (a' := ?_) #[true, false, false, false, false, false, false, false, false, false, false, false] rfl rfl (any_of HT_.out (by kernel_rfl)) (fun _ _ _ h => h) (Or.inl ⟨by rfl, ?_⟩) ?_ ?_
  rotate_left
  ·intro w'
   go_simp
   with_reducible rfl
  rotate_left
  ·simp only [Act.put, List.setIfInBounds_toArray, List.set_cons_zero, List.set_cons_succ, i64_w, i32_w]
   rfl
  refine pure_ (i := 1) (N := some 11) (v := ?_) (a' := ?_) #[true, true, false, false, false, false, false, false, false, false, false, false] rfl rfl (any_of HT_.out (by kernel_rfl)) (fun _ _ _ h => h) (Or.inl ⟨by rfl, ?_⟩) ?_ ?_
  rotate_left
  ·intro w'
   go_simp
   with_reducible rfl
  rotate_left
  ·simp only [Act.put, List.setIfInBounds_toArray, List.set_cons_zero, List.set_cons_succ, i64_w, i32_w]
   rfl
  refine pure_ (i := 4) (N := some 14) (v := ?_) (a' := ?_) #[true, true, false, false, true, false, false, false, false, false, false, false] rfl rfl (any_of HT_.out (by kernel_rfl)) (fun _ _ _ h => h) (Or.inl ⟨by rfl, ?_⟩) ?_ ?_
  rotate_left
  ·intro w'
   go_simp
   with_reducible rfl
  rotate_left
  ·simp only [Act.put, List.setIfInBounds_toArray, List.set_cons_zero, List.set_cons_succ, i64_w, i32_w]
   rfl
  refine pure_ (i := 5) (N := some 15) (v := ?_) (a' := ?_) #[true, true, false, false, true, true, false, false, false, false, false, false] rfl rfl (any_of HT_.out (by kernel_rfl)) (fun _ _ _ h => h) (Or.inl ⟨by rfl, ?_⟩) ?_ ?_
  rotate_left
  ·intro w'
   go_simp
   with_reducible rfl
  rotate_left
  ·simp only [Act.put, List.setIfInBounds_toArray, List.set_cons_zero, List.set_cons_succ, i64_w, i32_w]
   rfl
  refine take_ (i := 2) (N := some 12) (v := ?_) (a' := ?_) #[true, true, true, false, true, true, false, false, false, false, false, false] rfl rfl (take_ofW HT_.out HW_.out (by kernel_rfl)) (fun _ _ _ h => h) (Or.inl ⟨by rfl, ?_⟩) hHeld ?_ ?_
  rotate_left
  ·rintro w' ⟨s0, s1, s2⟩
   go_simp
   with_reducible rfl
  rotate_left
  ·simp only [Act.put, List.setIfInBounds_toArray, List.set_cons_zero, List.set_cons_succ, i64_w, i32_w]
   rfl
  refine pure_ (i := 3) (N := some 13) (v := ?_) (a' := ?_) #[true, true, true, true, true, true, false, false, false, false, false, false] rfl rfl (any_of HT_.out (by kernel_rfl)) (fun _ _ _ h => h) (Or.inl ⟨by rfl, ?_⟩) ?_ ?_
  rotate_left
  ·intro w'
   go_simp
   with_reducible rfl
  rotate_left
  ·simp only [Act.put, List.setIfInBounds_toArray, List.set_cons_zero, List.set_cons_succ, i64_w, i32_w]
   rfl
  refine pure_ (i := 9) (N := some 5) (v := ?_) (a' := ?_) #[true, true, true, true, true, true, false, false, false, true, false, false] rfl rfl (any_of HT_.out (by kernel_rfl)) (fun _ _ _ h => h) (Or.inl ⟨by rfl, ?_⟩) ?_ ?_
  rotate_left
  ·intro w'
   go_simp
   with_reducible rfl
  rotate_left
  ·simp only [Act.put, List.setIfInBounds_toArray, List.set_cons_zero, List.set_cons_succ, i64_w, i32_w]
   rfl
  refine take_ (i := 6) (N := some 16) (v := ?_) (a' := ?_) #[true, true, true, true, true, true, true, false, false, true, false, false] rfl rfl (take_ofW HT_.out HW_.out (by kernel_rfl)) (fun _ _ _ h => h) (Or.inl ⟨by rfl, ?_⟩) hHeld ?_ ?_
  rotate_left
  ·rintro w' ⟨s0, s1, s2⟩
   go_simp
   with_reducible rfl
  rotate_left
  ·simp only [Act.put, List.setIfInBounds_toArray, List.set_cons_zero, List.set_cons_succ, i64_w, i32_w]
   rfl
  refine pure_ (i := 7) (N := some 17) (v := ?_) (a' := ?_) #[true, true, true, true, true, true, true, true, false, true, false, false] rfl rfl (any_of HT_.out (by kernel_rfl)) (fun _ _ _ h => h) (Or.inl ⟨by rfl, ?_⟩) ?_ ?_
  rotate_left
  ·intro w'
   go_simp
   with_reducible rfl
  rotate_left
  ·simp only [Act.put, List.setIfInBounds_toArray, List.set_cons_zero, List.set_cons_succ, i64_w, i32_w]
   rfl
  refine pure_ (i := 10) (N := some 6) (v := ?_) (a' := ?_) #[true, true, true, true, true, true, true, true, false, true, true, false] rfl rfl (any_of HT_.out (by kernel_rfl)) (fun _ _ _ h => h) (Or.inl ⟨by rfl, ?_⟩) ?_ ?_
  rotate_left
  ·intro w'
   go_simp
   with_reducible rfl
  rotate_left
  ·simp only [Act.put, List.setIfInBounds_toArray, List.set_cons_zero, List.set_cons_succ, i64_w, i32_w]
   rfl
  refine one_ (i := 8) (N := some 18) #[true, true, true, true, true, true, true, true, true, true, true, false] rfl rfl (one_of HT_.out (by kernel_rfl)) (by decide) (fun K hK => ?_)
  refine Kd.R_lit_step (Kd.int .i64) _ 3 ?hg (N := 18) ?hd (xs := ([] : List Int)) (inner := []) (ok := fun _ => True) (okp := fun _ => True) ?hr ?hp (fun _ hk => hk) trivial (Below.refl _ _) (Nat.le_refl _) (by simp) ?_; (case hd => rfl); (case hg => rfl); (case hr => first | (go_simp; done) | (go_simp; rfl)); (case hp => exact (Reps.none _ _))
  intro v103 w6 ho7 hb hg_ hnew_;clear hg_ hnew_
  (first | rw [← Ny102.out] at ho7 | (simp only [Int.reduceToNat] at ho7; rw [← Ny102.out] at ho7))
  have n0_ := Aside0.mk (Kd.R_lower ho7 (below_size (bel HB)));have n1_ := Aside0.mk (blk_below (g := gb101) (o := .cells #[.int .i64 a0_0, .int .i64 a0_1, .slice A0_2 l0_2.length c0_2] 41 (0, 0)) blc hb);have n2_ := Aside0.mk (below_step (bel HB) hb);clear BK101;clear HB;have HO104 := n0_;have BK101 := n1_;have HB := n2_;clear n0_ n1_ n2_;clear hb ho7
  refine hK.out _ _ ⟨(blk_cell BK101.out 0).trans rfl, (blk_cell BK101.out 1).trans rfl, (blk_cell BK101.out 2).trans rfl⟩ (fun hHeld => ?_)
  clear hK K
  refine norm_ (a' := ?_) ?_ ?_
  rotate_left
  ·show Act.put _ (some 18) _ = _
   simp only [Act.put, List.setIfInBounds_toArray, List.set_cons_zero, List.set_cons_succ, i64_w, i32_w]
   rfl
  refine pure_ (i := 11) (N := some 7) (v := ?_) (a' := ?_) #[true, true, true, true, true, true, true, true, true, true, true, true] rfl rfl (any_of HT_.out (by kernel_rfl)) (fun _ _ _ h => h) (Or.inl ⟨by rfl, ?_⟩) ?_ ?_
  rotate_left
  ·intro w'
   go_simp
   with_reducible rfl
  rotate_left
  ·simp only [Act.put, List.setIfInBounds_toArray, List.set_cons_zero, List.set_cons_succ, i64_w, i32_w]
   rfl
  refine done_ (done_of HT_.out (by kernel_rfl)) ?_
  try go_wp2_with (first | ((with_reducible refine gate_dst (N := 23) rfl ?_); refine Kd.R_lit k117 _ 117 ?hg (N := 23) ?hd (xs := ([(⟨0, (-1)⟩ : S117), (⟨1, 0⟩ : S117), (⟨0, 1⟩ : S117), (⟨(-1), 0⟩ : S117)] : List (S117))) (inner := [.int .i64 0, .int .i64 (-1), .int .i64 1, .int .i64 0, .int .i64 0, .int .i64 1, .int .i64 (-1), .int .i64 0]) (ok := fun _ => True) (okp := fun _ => True) ?hr ?hp (fun _ hk => hk) trivial (Below.refl _ _) (Nat.le_refl _) (by simp) ?_; (case hd => rfl); (case hg => rfl); (case hr => first | (go_simp; done) | (go_simp; rfl)); (case hp => exact (Reps.c2 (show Kd.M k117 _ _ _ (⟨0, (-1)⟩ : S117) [.int .i64 0, .int .i64 (-1)] from (k117_mkM _ _ _ (⟨0, (-1)⟩ : S117) )) (Reps.c2 (show Kd.M k117 _ _ _ (⟨1, 0⟩ : S117) [.int .i64 1, .int .i64 0] from (k117_mkM _ _ _ (⟨1, 0⟩ : S117) )) (Reps.c2 (show Kd.M k117 _ _ _ (⟨0, 1⟩ : S117) [.int .i64 0, .int .i64 1] from (k117_mkM _ _ _ (⟨0, 1⟩ : S117) )) (Reps.c2 (show Kd.M k117 _ _ _ (⟨(-1), 0⟩ : S117) [.int .i64 (-1), .int .i64 0] from (k117_mkM _ _ _ (⟨(-1), 0⟩ : S117) )) (Reps.none _ _)))))); intro v106 w8 ho9 hb hg_ hnew_; clear hg_ hnew_; (first | rw [← Ny105.out] at ho9 | (simp only [Int.reduceToNat] at ho9; rw [← Ny105.out] at ho9)); have n0_ := Aside0.mk (Kd.R_below (rch HO104) hb); have n1_ := Aside0.mk (Kd.R_lower ho9 (below_size (bel HB))); have n2_ := Aside0.mk (blk_below (g := gb101) (o := .cells #[.int .i64 a0_0, .int .i64 a0_1, .slice A0_2 l0_2.length c0_2] 41 (0, 0)) blc hb); have n3_ := Aside0.mk (below_step (bel HB) hb); clear HO104; clear BK101; clear HB; have HO104 := n0_; have HO107 := n1_; have BK101 := n2_; have HB := n3_; clear n0_ n1_ n2_ n3_; clear hb ho9; obtain ⟨Ao10, co10, eo10⟩ := Kd.R_slice HO107.out; subst eo10))
  go_loopg [7, 25] k (fun kq v7 v25 w' => ∃ (x7_1 : List Int) (x25_1 : Int), v25 = .int .i64 x25_1 ∧ Aside0 (impl_tray_beside.l0 kq (Int.tmod a1 a0_0) (wrap64 (Int.tdiv a1 a0_0)) x7_1 y105 (y105.length : Int) x25_1 a0_0 a0_1 l0_2 = some r) ∧ Aside0 (kq ≤ k) ∧ Aside0 (Kd.R (Kd.int .i64) 3 w' w.heap.size (fun _ => True) v7 x7_1) ∧ Aside0 (Kd.R k117 117 w' w.heap.size (fun _ => True) (.slice Ao10 y105.length co10) y105) ∧ Aside0 (w'.heap[gb101]? = some (.cells #[.int .i64 a0_0, .int .i64 a0_1, (.slice A0_2 l0_2.length c0_2)] 41 (0, 0))) ∧ Aside0 (Below w.heap.size w w'))
  case atStart => exact ⟨(y102), (0), (by first | rfl | (simp; done) | (simp [*]; done)), H', ⟨Nat.le_refl _⟩, ⟨rch HO104⟩, ⟨rch HO107⟩, ⟨blc⟩, ⟨bel HB⟩⟩
  case round =>
   clear H'
   try clear c2
   try clear p2
   try clear c3
   try clear c3b0
   try clear c3b0y
   try clear c3b1
   try clear p6
   try clear c7
   obtain ⟨x7_1, x25_1, rfl, HA, HK1, HO_7, HO_23, BK101, HB⟩ := hrel
   cases gk with
   | zero => exact absurd HA.out (by simp [impl_tray_beside.l0])
   | succ k1 =>
    have H := HA.out;clear HA
    simp only [impl_tray_beside.l0] at H
    by_cases c11 : x25_1 < (y105.length : Int)
    ·rw [if_pos c11] at H
     have c11b0 : decide (x25_1 < (y105.length : Int)) = true := decide_eq_true c11;clear c11
     by_cases c12 : 0 ≤ x25_1
     ·rw [if_pos c12] at H
      have c12b0 : decide (0 ≤ x25_1) = true := decide_eq_true c12;clear c12
      by_cases c13 : x25_1 < (y105.length : Int)
      ·rw [if_pos c13] at H
       have c13b0 : decide (x25_1 < (y105.length : Int)) = true := decide_eq_true c13;clear c13;replace H := Option.bind_eq_some_iff.mp H;obtain ⟨t110, A140, H⟩ := H;replace H : (if t110 = true then ((impl_within.f (wrap64 ((wrap64 (Int.tdiv a1 a0_0)) + ((rd_T117 y105 x25_1).f1))) 0 (wrap64 (a0_1 - 1))).bind fun t111 => (if t111 = true then ((impl_tray_number.f a0_0 a0_1 l0_2 (wrap64 ((Int.tmod a1 a0_0) + ((rd_T117 y105 x25_1).f0))) (wrap64 ((wrap64 (Int.tdiv a1 a0_0)) + ((rd_T117 y105 x25_1).f1)))).bind fun t112 => (if x7_1.length < 17592186044416 then (impl_tray_beside.l0 k1 (Int.tmod a1 a0_0) (wrap64 (Int.tdiv a1 a0_0)) (x7_1 ++ [t112]) y105 (y105.length : Int) (wrap64 (x25_1 + 1)) a0_0 a0_1 l0_2) else (none))) else (impl_tray_beside.l0 k1 (Int.tmod a1 a0_0) (wrap64 (Int.tdiv a1 a0_0)) x7_1 y105 (y105.length : Int) (wrap64 (x25_1 + 1)) a0_0 a0_1 l0_2))) else (impl_tray_beside.l0 k1 (Int.tmod a1 a0_0) (wrap64 (Int.tdiv a1 a0_0)) x7_1 y105 (y105.length : Int) (wrap64 (x25_1 + 1)) a0_0 a0_1 l0_2)) = some r := H;have A14 := Aside0.mk A140;clear A140
       by_cases c15 : t110 = true
       ·subst c15
        have H1 : ((impl_within.f (wrap64 ((wrap64 (Int.tdiv a1 a0_0)) + ((rd_T117 y105 x25_1).f1))) 0 (wrap64 (a0_1 - 1))).bind fun t111 => (if t111 = true then ((impl_tray_number.f a0_0 a0_1 l0_2 (wrap64 ((Int.tmod a1 a0_0) + ((rd_T117 y105 x25_1).f0))) (wrap64 ((wrap64 (Int.tdiv a1 a0_0)) + ((rd_T117 y105 x25_1).f1)))).bind fun t112 => (if x7_1.length < 17592186044416 then (impl_tray_beside.l0 k1 (Int.tmod a1 a0_0) (wrap64 (Int.tdiv a1 a0_0)) (x7_1 ++ [t112]) y105 (y105.length : Int) (wrap64 (x25_1 + 1)) a0_0 a0_1 l0_2) else (none))) else (impl_tray_beside.l0 k1 (Int.tmod a1 a0_0) (wrap64 (Int.tdiv a1 a0_0)) x7_1 y105 (y105.length : Int) (wrap64 (x25_1 + 1)) a0_0 a0_1 l0_2))) = some r := by rw [if_pos rfl] at H; exact H
        clear H;have H := H1;clear H1;replace H := Option.bind_eq_some_iff.mp H;obtain ⟨t111, A160, H⟩ := H;replace H : (if t111 = true then ((impl_tray_number.f a0_0 a0_1 l0_2 (wrap64 ((Int.tmod a1 a0_0) + ((rd_T117 y105 x25_1).f0))) (wrap64 ((wrap64 (Int.tdiv a1 a0_0)) + ((rd_T117 y105 x25_1).f1)))).bind fun t112 => (if x7_1.length < 17592186044416 then (impl_tray_beside.l0 k1 (Int.tmod a1 a0_0) (wrap64 (Int.tdiv a1 a0_0)) (x7_1 ++ [t112]) y105 (y105.length : Int) (wrap64 (x25_1 + 1)) a0_0 a0_1 l0_2) else (none))) else (impl_tray_beside.l0 k1 (Int.tmod a1 a0_0) (wrap64 (Int.tdiv a1 a0_0)) x7_1 y105 (y105.length : Int) (wrap64 (x25_1 + 1)) a0_0 a0_1 l0_2)) = some r := H;have A16 := Aside0.mk A160;clear A160
        by_cases c17 : t111 = true
        ·subst c17
         have H1 : ((impl_tray_number.f a0_0 a0_1 l0_2 (wrap64 ((Int.tmod a1 a0_0) + ((rd_T117 y105 x25_1).f0))) (wrap64 ((wrap64 (Int.tdiv a1 a0_0)) + ((rd_T117 y105 x25_1).f1)))).bind fun t112 => (if x7_1.length < 17592186044416 then (impl_tray_beside.l0 k1 (Int.tmod a1 a0_0) (wrap64 (Int.tdiv a1 a0_0)) (x7_1 ++ [t112]) y105 (y105.length : Int) (wrap64 (x25_1 + 1)) a0_0 a0_1 l0_2) else (none))) = some r := by rw [if_pos rfl] at H; exact H
         clear H;have H := H1;clear H1;replace H := Option.bind_eq_some_iff.mp H;obtain ⟨t112, A180, H⟩ := H;replace H : (if x7_1.length < 17592186044416 then (impl_tray_beside.l0 k1 (Int.tmod a1 a0_0) (wrap64 (Int.tdiv a1 a0_0)) (x7_1 ++ [t112]) y105 (y105.length : Int) (wrap64 (x25_1 + 1)) a0_0 a0_1 l0_2) else (none)) = some r := H;have A18 := Aside0.mk A180;clear A180
         by_cases c19 : x7_1.length < 17592186044416
         ·rw [if_pos c19] at H
          have LMc19 := Aside0.mk c19;clear c19;obtain ⟨y113, hy113⟩ : ∃ y_ : List Int, y_ = (x7_1 ++ [t112]) := ⟨_, rfl⟩;replace H : (impl_tray_beside.l0 k1 (Int.tmod a1 a0_0) (wrap64 (Int.tdiv a1 a0_0)) y113 y105 (y105.length : Int) (wrap64 (x25_1 + 1)) a0_0 a0_1 l0_2) = some r := rH hy113 H;have Ny113 := Aside0.mk hy113;clear hy113;have H' := Aside0.mk H;clear H;have p108 : 0 ≤ (x25_1 : Int) := of_decide_eq_true (by first | (with_reducible assumption) | assumption);have q108 : x25_1 < (y105.length : Int) := of_decide_eq_true (by first | (with_reducible assumption) | assumption);obtain ⟨ad108, e108, hx108_0, hx108_1⟩ := at_T117 (Kd.R_reads' HO_23.out).2.2 x25_1 p108 q108
          cases e108
          replace p108 := eq_true p108;replace q108 := eq_true q108
          go_wp2_with (first | ((with_reducible refine gate_dst (N := 9) rfl ?_); refine boxE (N := 9) (cs := #[.int .i64 0, .int .i64 0]) (t := 117) ?_; intro gb109 hg w20 hbox hb; have n0_ := Aside0.mk (Kd.R_below (rch HO_7) hb); have n1_ := Aside0.mk (Kd.R_below (Kd.R_elderB (rch HO_23) gb109 (Nat.le_of_eq hg.symm)) hb); have n2_ := Aside0.mk (blk_below (g := gb101) (o := .cells #[.int .i64 a0_0, .int .i64 a0_1, .slice A0_2 l0_2.length c0_2] 41 (0, 0)) blc hb); have n3_ := Aside0.mk (below_step (bel HB) hb); have n4_ := Aside0.mk (hbox); have n5_ := Aside0.mk (gsz hg (bel HB)); have n6_ := Aside0.mk (gsz hg (bel HB)); have n7_ := Aside0.mk ((by rw [hg]; exact Nat.ne_of_lt (blk_lt (g := gb101) (o := .cells #[.int .i64 a0_0, .int .i64 a0_1, .slice A0_2 l0_2.length c0_2] 41 (0, 0)) blc) : gb101 ≠ gb109)); have n8_ := Aside0.mk ((by rw [hg]; exact Nat.ne_of_gt (blk_lt (g := gb101) (o := .cells #[.int .i64 a0_0, .int .i64 a0_1, .slice A0_2 l0_2.length c0_2] 41 (0, 0)) blc) : gb109 ≠ gb101)); clear HO_7; clear HO_23; clear BK101; clear HB; have HO_7 := n0_; have HO_23 := n1_; have BK101 := n2_; have HB := n3_; have BK109 := n4_; have GW109 := n5_; have GE109 := n6_; have NB101_109 := n7_; have NB109_101 := n8_; clear n0_ n1_ n2_ n3_ n4_ n5_ n6_ n7_ n8_; clear hb hbox hg; have hnb21 := NB109_101.out; have hnc21 := NB101_109.out; have hcz22_0 : w20.cell? ⟨gb109, 0, none⟩ = some (.int .i64 0) := (blk_cell BK109.out 0).trans rfl; have hcz22_1 : w20.cell? ⟨gb109, 1, none⟩ = some (.int .i64 0) := (blk_cell BK109.out 1).trans rfl; have hfz22_0 := blk_frozen BK109.out 0; have hfz22_1 := blk_frozen BK109.out 1; have hcz23_0 : w20.cell? ⟨gb101, 0, none⟩ = some (.int .i64 a0_0) := (blk_cell BK101.out 0).trans rfl; have hcz23_1 : w20.cell? ⟨gb101, 1, none⟩ = some (.int .i64 a0_1) := (blk_cell BK101.out 1).trans rfl; have hcz23_2 : w20.cell? ⟨gb101, 2, none⟩ = some (.slice A0_2 l0_2.length c0_2) := (blk_cell BK101.out 2).trans rfl; have hfz23_0 := blk_frozen BK101.out 0; have hfz23_1 := blk_frozen BK101.out 1; have hfz23_2 := blk_frozen BK101.out 2) | ((with_reducible refine gate_callee (f := 40) rfl ?_); refine gcall (some 36) Tryd.func40 #[.int .i64 (wrap64 ((Int.tmod a1 a0_0) + ((rd_T117 y105 x25_1).f0))), .int .i64 0, .int .i64 (wrap64 (a0_0 - 1))] rfl ?_; (with_reducible refine (impl_within.calls (wrap64 ((Int.tmod a1 a0_0) + ((rd_T117 y105 x25_1).f0))) 0 (wrap64 (a0_0 - 1)) true _ A14.out).mono ?_); rintro e w' ⟨rfl, ⟨nd, rfl⟩⟩; refine ⟨_, rfl, ?_⟩) | (go_at_call 40; (with_reducible refine (impl_within.calls (wrap64 ((wrap64 (Int.tdiv a1 a0_0)) + ((rd_T117 y105 x25_1).f1))) 0 (wrap64 (a0_1 - 1)) true _ A16.out).mono ?_); rintro e w' ⟨rfl, ⟨nd, rfl⟩⟩) | ((with_reducible refine gate_callee (f := 90) rfl ?_); refine gcall (some 57) Tryd.func90 #[.agg #[.int .i64 a0_0, .int .i64 a0_1, .slice A0_2 l0_2.length c0_2], .int .i64 (wrap64 ((Int.tmod a1 a0_0) + ((rd_T117 y105 x25_1).f0))), .int .i64 (wrap64 ((wrap64 (Int.tdiv a1 a0_0)) + ((rd_T117 y105 x25_1).f1)))] rfl ?_; (with_reducible refine (impl_tray_number.calls a0_0 a0_1 _ _ l0_2 (wrap64 ((Int.tmod a1 a0_0) + ((rd_T117 y105 x25_1).f0))) (wrap64 ((wrap64 (Int.tdiv a1 a0_0)) + ((rd_T117 y105 x25_1).f1))) t112 _ ?side1 ?side2 A18.out).mono ?_); (case side1 => exact Kd.C_below HR0_2.out (bel HB)); (case side2 => exact HC0_2.out); rintro e w24 ⟨rfl, hb⟩; refine ⟨_, rfl, ?_⟩; have n0_ := Aside0.mk (Kd.R_below (by (with_reducible repeat (first | apply Kd.R_alloc | apply Kd.R_drewN | apply Kd.R_drew)); exact (Kd.R_mono (Kd.R_far (p := ⟨gb109, 1, none⟩) (Kd.R_far (p := ⟨gb109, 0, none⟩) (Kd.R_types HO_7.out BK109.out (by decide)) (fun _ hk => hk.2) (.int .i64 ((rd_T117 y105 x25_1).f0))) (fun _ hk => hk.2) (.int .i64 ((rd_T117 y105 x25_1).f1))) (fun _ h_ => h_.1))) hb); have n1_ := Aside0.mk (Kd.R_below (by (with_reducible repeat (first | apply Kd.R_alloc | apply Kd.R_drewN | apply Kd.R_drew)); exact (Kd.R_mono (Kd.R_far (p := ⟨gb109, 1, none⟩) (Kd.R_far (p := ⟨gb109, 0, none⟩) (Kd.R_mono HO_23.out (fun k_ hk => (⟨hk, hk.2⟩ : _ ∧ k_ ≠ gb109))) (fun _ hk => hk.2) (.int .i64 ((rd_T117 y105 x25_1).f0))) (fun _ hk => hk.2) (.int .i64 ((rd_T117 y105 x25_1).f1))) (fun _ h_ => h_.1))) hb); have n2_ := Aside0.mk (blk_below (g := gb101) (o := .cells #[.int .i64 a0_0, .int .i64 a0_1, .slice A0_2 l0_2.length c0_2] 41 (0, 0)) (by (with_reducible repeat (first | refine blk_drewN ?_ _ | refine blk_drew ?_ | refine blk_alloc ?_ _)); refine blk_far ?_ NB101_109.out _; (with_reducible repeat (first | refine blk_drewN ?_ _ | refine blk_drew ?_ | refine blk_alloc ?_ _)); refine blk_far ?_ NB101_109.out _; exact blc) hb); have n3_ := Aside0.mk (blk_below (g := gb109) (o := .cells #[.int .i64 ((rd_T117 y105 x25_1).f0), .int .i64 ((rd_T117 y105 x25_1).f1)] 117 (0, 0)) (by (with_reducible repeat (first | refine blk_drewN ?_ _ | refine blk_drew ?_ | refine blk_alloc ?_ _)); refine blk_put (cs := #[.int .i64 ((rd_T117 y105 x25_1).f0), .int .i64 0]) ?_ 1 _ rfl; (with_reducible repeat (first | refine blk_drewN ?_ _ | refine blk_drew ?_ | refine blk_alloc ?_ _)); refine blk_put (cs := #[.int .i64 0, .int .i64 0]) ?_ 0 _ rfl; exact blc) hb); have n4_ := Aside0.mk (below_step (bel HB) hb); clear HO_7; clear HO_23; clear BK101; clear BK109; clear HB; have HO_7 := n0_; have HO_23 := n1_; have BK101 := n2_; have BK109 := n3_; have HB := n4_; clear n0_ n1_ n2_ n3_ n4_; (try clear hb); (try clear hb2); (try clear hk); (try clear hi)) | ((with_reducible refine gate_builtin (b := .append) (xs := #[.tmp 47, .tmp 58]) rfl ?_); at_builtin; refine Kd.R_append (Kd.int .i64) (w0 := w) w.heap.size rfl (.tmp 47) (.tmp 58) 33 3 (.int .i64 0) 8 rfl Tryd.underlying33 info3 rfl (by decide) (by omega) u7 x7_1 t112 [.int .i64 t112] (fun _ => True) (fun _ => False) rfl rfl ?aP (fun _ hk => hk.elim) ?aF ?aO ?aB ?aS ?aL ?_; (case aP => exact rfl); (case aB => exact (bel HB)); (case aF => exact (fun _ _ => trivial)); (case aO => exact (rch HO_7)); (case aS => exact (below_size (bel HB))); (case aL => have := LMc19.out; omega); intro v114 w25 ho hb hg hat; rw [← Ny113.out] at ho; have n0_ := Aside0.mk (Kd.R_over' (rch HO_23) (Kd.R_typed (rch HO_7)) (by decide) hg); have n1_ := Aside0.mk (blk_grown (g := gb101) (o := .cells #[.int .i64 a0_0, .int .i64 a0_1, .slice A0_2 l0_2.length c0_2] 41 (0, 0)) blc hg (Kd.R_ne HO_7.out BK101.out (by decide))); have n2_ := Aside0.mk (blk_grown (g := gb109) (o := .cells #[.int .i64 ((rd_T117 y105 x25_1).f0), .int .i64 ((rd_T117 y105 x25_1).f1)] 117 (0, 0)) blc hg (Kd.R_ne HO_7.out BK109.out (by decide))); have n3_ := Aside0.mk (hb); have n4_ := Aside0.mk (ho); clear HO_23; clear BK101; clear BK109; clear HB; clear HO_7; have HO_23 := n0_; have BK101 := n1_; have BK109 := n2_; have HB := n3_; have HO115 := n4_; clear n0_ n1_ n2_ n3_ n4_; clear ho hb hg hat))
          go_roundg k1
          case measure => have := HK1.out; omega
          case rel => exact ⟨(y113), (wrap64 (x25_1 + 1)), (by first | rfl | (simp; done) | (simp [*]; done)), H', ⟨by have := HK1.out; omega⟩, ⟨rch HO115⟩, ⟨by (with_reducible repeat (first | apply Kd.R_alloc | apply Kd.R_drewN | apply Kd.R_drew)); exact Kd.R_mono HO_23.out (fun _ hk => trivial)⟩, ⟨blc⟩, ⟨bel HB⟩⟩
         ·rw [if_neg c19] at H
          exact absurd H (by simp)
        ·replace c17 := Bool.eq_false_iff.mpr c17
         subst c17
         have H1 : (impl_tray_beside.l0 k1 (Int.tmod a1 a0_0) (wrap64 (Int.tdiv a1 a0_0)) x7_1 y105 (y105.length : Int) (wrap64 (x25_1 + 1)) a0_0 a0_1 l0_2) = some r := by rw [if_neg (show ¬ (false = true) by decide)] at H; exact H
         clear H;have H := H1;clear H1;have H' := Aside0.mk H;clear H;have p108 : 0 ≤ (x25_1 : Int) := of_decide_eq_true (by first | (with_reducible assumption) | assumption);have q108 : x25_1 < (y105.length : Int) := of_decide_eq_true (by first | (with_reducible assumption) | assumption);obtain ⟨ad108, e108, hx108_0, hx108_1⟩ := at_T117 (Kd.R_reads' HO_23.out).2.2 x25_1 p108 q108
         cases e108
         replace p108 := eq_true p108;replace q108 := eq_true q108
         go_wp2_with (first | ((with_reducible refine gate_dst (N := 9) rfl ?_); refine boxE (N := 9) (cs := #[.int .i64 0, .int .i64 0]) (t := 117) ?_; intro gb109 hg w26 hbox hb; have n0_ := Aside0.mk (Kd.R_below (rch HO_7) hb); have n1_ := Aside0.mk (Kd.R_below (Kd.R_elderB (rch HO_23) gb109 (Nat.le_of_eq hg.symm)) hb); have n2_ := Aside0.mk (blk_below (g := gb101) (o := .cells #[.int .i64 a0_0, .int .i64 a0_1, .slice A0_2 l0_2.length c0_2] 41 (0, 0)) blc hb); have n3_ := Aside0.mk (below_step (bel HB) hb); have n4_ := Aside0.mk (hbox); have n5_ := Aside0.mk (gsz hg (bel HB)); have n6_ := Aside0.mk (gsz hg (bel HB)); have n7_ := Aside0.mk ((by rw [hg]; exact Nat.ne_of_lt (blk_lt (g := gb101) (o := .cells #[.int .i64 a0_0, .int .i64 a0_1, .slice A0_2 l0_2.length c0_2] 41 (0, 0)) blc) : gb101 ≠ gb109)); have n8_ := Aside0.mk ((by rw [hg]; exact Nat.ne_of_gt (blk_lt (g := gb101) (o := .cells #[.int .i64 a0_0, .int .i64 a0_1, .slice A0_2 l0_2.length c0_2] 41 (0, 0)) blc) : gb109 ≠ gb101)); clear HO_7; clear HO_23; clear BK101; clear HB; have HO_7 := n0_; have HO_23 := n1_; have BK101 := n2_; have HB := n3_; have BK109 := n4_; have GW109 := n5_; have GE109 := n6_; have NB101_109 := n7_; have NB109_101 := n8_; clear n0_ n1_ n2_ n3_ n4_ n5_ n6_ n7_ n8_; clear hb hbox hg; have hnb27 := NB109_101.out; have hnc27 := NB101_109.out; have hcz28_0 : w26.cell? ⟨gb109, 0, none⟩ = some (.int .i64 0) := (blk_cell BK109.out 0).trans rfl; have hcz28_1 : w26.cell? ⟨gb109, 1, none⟩ = some (.int .i64 0) := (blk_cell BK109.out 1).trans rfl; have hfz28_0 := blk_frozen BK109.out 0; have hfz28_1 := blk_frozen BK109.out 1; have hcz29_0 : w26.cell? ⟨gb101, 0, none⟩ = some (.int .i64 a0_0) := (blk_cell BK101.out 0).trans rfl; have hcz29_1 : w26.cell? ⟨gb101, 1, none⟩ = some (.int .i64 a0_1) := (blk_cell BK101.out 1).trans rfl; have hcz29_2 : w26.cell? ⟨gb101, 2, none⟩ = some (.slice A0_2 l0_2.length c0_2) := (blk_cell BK101.out 2).trans rfl; have hfz29_0 := blk_frozen BK101.out 0; have hfz29_1 := blk_frozen BK101.out 1; have hfz29_2 := blk_frozen BK101.out 2) | ((with_reducible refine gate_callee (f := 40) rfl ?_); refine gcall (some 36) Tryd.func40 #[.int .i64 (wrap64 ((Int.tmod a1 a0_0) + ((rd_T117 y105 x25_1).f0))), .int .i64 0, .int .i64 (wrap64 (a0_0 - 1))] rfl ?_; (with_reducible refine (impl_within.calls (wrap64 ((Int.tmod a1 a0_0) + ((rd_T117 y105 x25_1).f0))) 0 (wrap64 (a0_0 - 1)) true _ A14.out).mono ?_); rintro e w' ⟨rfl, ⟨nd, rfl⟩⟩; refine ⟨_, rfl, ?_⟩) | (go_at_call 40; (with_reducible refine (impl_within.calls (wrap64 ((wrap64 (Int.tdiv a1 a0_0)) + ((rd_T117 y105 x25_1).f1))) 0 (wrap64 (a0_1 - 1)) false _ A16.out).mono ?_); rintro e w' ⟨rfl, ⟨nd, rfl⟩⟩))
         go_roundg k1
         case measure => have := HK1.out; omega
         case rel => exact ⟨(x7_1), (wrap64 (x25_1 + 1)), (by first | rfl | (simp; done) | (simp [*]; done)), H', ⟨by have := HK1.out; omega⟩, ⟨by (with_reducible repeat (first | apply Kd.R_alloc | apply Kd.R_drewN | apply Kd.R_drew)); exact Kd.R_mono (Kd.R_far (p := ⟨gb109, 1, none⟩) (Kd.R_far (p := ⟨gb109, 0, none⟩) (Kd.R_types HO_7.out BK109.out (by decide)) (fun _ hk => hk.2) (.int .i64 ((rd_T117 y105 x25_1).f0))) (fun _ hk => hk.2) (.int .i64 ((rd_T117 y105 x25_1).f1))) (fun _ hk => trivial)⟩, ⟨by (with_reducible repeat (first | apply Kd.R_alloc | apply Kd.R_drewN | apply Kd.R_drew)); exact Kd.R_mono (Kd.R_far (p := ⟨gb109, 1, none⟩) (Kd.R_far (p := ⟨gb109, 0, none⟩) (Kd.R_mono HO_23.out (fun k_ hk => (⟨hk, hk.2⟩ : _ ∧ k_ ≠ gb109))) (fun _ hk => hk.2) (.int .i64 ((rd_T117 y105 x25_1).f0))) (fun _ hk => hk.2) (.int .i64 ((rd_T117 y105 x25_1).f1))) (fun _ hk => trivial)⟩, ⟨by (with_reducible repeat (first | refine blk_drewN ?_ _ | refine blk_drew ?_ | refine blk_alloc ?_ _)); refine blk_far ?_ NB101_109.out _; (with_reducible repeat (first | refine blk_drewN ?_ _ | refine blk_drew ?_ | refine blk_alloc ?_ _)); refine blk_far ?_ NB101_109.out _; exact blc⟩, ⟨bel HB⟩⟩
       ·replace c15 := Bool.eq_false_iff.mpr c15
        subst c15
        have H1 : (impl_tray_beside.l0 k1 (Int.tmod a1 a0_0) (wrap64 (Int.tdiv a1 a0_0)) x7_1 y105 (y105.length : Int) (wrap64 (x25_1 + 1)) a0_0 a0_1 l0_2) = some r := by rw [if_neg (show ¬ (false = true) by decide)] at H; exact H
        clear H;have H := H1;clear H1;have H' := Aside0.mk H;clear H;have p108 : 0 ≤ (x25_1 : Int) := of_decide_eq_true (by first | (with_reducible assumption) | assumption);have q108 : x25_1 < (y105.length : Int) := of_decide_eq_true (by first | (with_reducible assumption) | assumption);obtain ⟨ad108, e108, hx108_0, hx108_1⟩ := at_T117 (Kd.R_reads' HO_23.out).2.2 x25_1 p108 q108
        cases e108
        replace p108 := eq_true p108;replace q108 := eq_true q108
        go_wp2_with (first | ((with_reducible refine gate_dst (N := 9) rfl ?_); refine boxE (N := 9) (cs := #[.int .i64 0, .int .i64 0]) (t := 117) ?_; intro gb109 hg w30 hbox hb; have n0_ := Aside0.mk (Kd.R_below (rch HO_7) hb); have n1_ := Aside0.mk (Kd.R_below (Kd.R_elderB (rch HO_23) gb109 (Nat.le_of_eq hg.symm)) hb); have n2_ := Aside0.mk (blk_below (g := gb101) (o := .cells #[.int .i64 a0_0, .int .i64 a0_1, .slice A0_2 l0_2.length c0_2] 41 (0, 0)) blc hb); have n3_ := Aside0.mk (below_step (bel HB) hb); have n4_ := Aside0.mk (hbox); have n5_ := Aside0.mk (gsz hg (bel HB)); have n6_ := Aside0.mk (gsz hg (bel HB)); have n7_ := Aside0.mk ((by rw [hg]; exact Nat.ne_of_lt (blk_lt (g := gb101) (o := .cells #[.int .i64 a0_0, .int .i64 a0_1, .slice A0_2 l0_2.length c0_2] 41 (0, 0)) blc) : gb101 ≠ gb109)); have n8_ := Aside0.mk ((by rw [hg]; exact Nat.ne_of_gt (blk_lt (g := gb101) (o := .cells #[.int .i64 a0_0, .int .i64 a0_1, .slice A0_2 l0_2.length c0_2] 41 (0, 0)) blc) : gb109 ≠ gb101)); clear HO_7; clear HO_23; clear BK101; clear HB; have HO_7 := n0_; have HO_23 := n1_; have BK101 := n2_; have HB := n3_; have BK109 := n4_; have GW109 := n5_; have GE109 := n6_; have NB101_109 := n7_; have NB109_101 := n8_; clear n0_ n1_ n2_ n3_ n4_ n5_ n6_ n7_ n8_; clear hb hbox hg; have hnb31 := NB109_101.out; have hnc31 := NB101_109.out; have hcz32_0 : w30.cell? ⟨gb109, 0, none⟩ = some (.int .i64 0) := (blk_cell BK109.out 0).trans rfl; have hcz32_1 : w30.cell? ⟨gb109, 1, none⟩ = some (.int .i64 0) := (blk_cell BK109.out 1).trans rfl; have hfz32_0 := blk_frozen BK109.out 0; have hfz32_1 := blk_frozen BK109.out 1; have hcz33_0 : w30.cell? ⟨gb101, 0, none⟩ = some (.int .i64 a0_0) := (blk_cell BK101.out 0).trans rfl; have hcz33_1 : w30.cell? ⟨gb101, 1, none⟩ = some (.int .i64 a0_1) := (blk_cell BK101.out 1).trans rfl; have hcz33_2 : w30.cell? ⟨gb101, 2, none⟩ = some (.slice A0_2 l0_2.length c0_2) := (blk_cell BK101.out 2).trans rfl; have hfz33_0 := blk_frozen BK101.out 0; have hfz33_1 := blk_frozen BK101.out 1; have hfz33_2 := blk_frozen BK101.out 2) | ((with_reducible refine gate_callee (f := 40) rfl ?_); refine gcall (some 36) Tryd.func40 #[.int .i64 (wrap64 ((Int.tmod a1 a0_0) + ((rd_T117 y105 x25_1).f0))), .int .i64 0, .int .i64 (wrap64 (a0_0 - 1))] rfl ?_; (with_reducible refine (impl_within.calls (wrap64 ((Int.tmod a1 a0_0) + ((rd_T117 y105 x25_1).f0))) 0 (wrap64 (a0_0 - 1)) false _ A14.out).mono ?_); rintro e w' ⟨rfl, ⟨nd, rfl⟩⟩; refine ⟨_, rfl, ?_⟩))
        go_roundg k1
        case measure => have := HK1.out; omega
        case rel => exact ⟨(x7_1), (wrap64 (x25_1 + 1)), (by first | rfl | (simp; done) | (simp [*]; done)), H', ⟨by have := HK1.out; omega⟩, ⟨by (with_reducible repeat (first | apply Kd.R_alloc | apply Kd.R_drewN | apply Kd.R_drew)); exact Kd.R_mono (Kd.R_far (p := ⟨gb109, 1, none⟩) (Kd.R_far (p := ⟨gb109, 0, none⟩) (Kd.R_types HO_7.out BK109.out (by decide)) (fun _ hk => hk.2) (.int .i64 ((rd_T117 y105 x25_1).f0))) (fun _ hk => hk.2) (.int .i64 ((rd_T117 y105 x25_1).f1))) (fun _ hk => trivial)⟩, ⟨by (with_reducible repeat (first | apply Kd.R_alloc | apply Kd.R_drewN | apply Kd.R_drew)); exact Kd.R_mono (Kd.R_far (p := ⟨gb109, 1, none⟩) (Kd.R_far (p := ⟨gb109, 0, none⟩) (Kd.R_mono HO_23.out (fun k_ hk => (⟨hk, hk.2⟩ : _ ∧ k_ ≠ gb109))) (fun _ hk => hk.2) (.int .i64 ((rd_T117 y105 x25_1).f0))) (fun _ hk => hk.2) (.int .i64 ((rd_T117 y105 x25_1).f1))) (fun _ hk => trivial)⟩, ⟨by (with_reducible repeat (first | refine blk_drewN ?_ _ | refine blk_drew ?_ | refine blk_alloc ?_ _)); refine blk_far ?_ NB101_109.out _; (with_reducible repeat (first | refine blk_drewN ?_ _ | refine blk_drew ?_ | refine blk_alloc ?_ _)); refine blk_far ?_ NB101_109.out _; exact blc⟩, ⟨bel HB⟩⟩
      ·rw [if_neg c13] at H
       exact absurd H (by simp)
     ·rw [if_neg c12] at H
      exact absurd H (by simp)
    ·rw [if_neg c11] at H
     have c11b0 : decide (x25_1 < (y105.length : Int)) = false := decide_eq_false c11;clear c11;obtain rfl := Option.some.inj H
     go_wp2
     go_ret
     exact ⟨_, by first | rfl | (simp [errW_none, errW_some] <;> rfl) | (simp [*, errW_none, errW_some] <;> rfl), rch HO_7, bel HB⟩
mutual
def impl_tray_distances_isBall.l0 : Nat → List Int → List Int → Int → Int → Int → List Int → Option (List Int)
 | 0, _, _, _, _, _, _ => none
 | k + 1, x7, x8, x9, x102000, x102001, x102002 => if x9 < (x8.length : Int) then (if 0 ≤ x9 then ((impl_tray_beside.f k x102000 x102001 x102002 (rd x8 x9)).bind fun t115 => (impl_tray_distances_isBall.l1 k x7 x8 x9 t115 (t115.length : Int) 0 x102000 x102001 x102002)) else (none)) else (some x7)
def impl_tray_distances_isBall.l1 : Nat → List Int → List Int → Int → List Int → Int → Int → Int → Int → List Int → Option (List Int)
 | 0, _, _, _, _, _, _, _, _, _ => none
 | k + 1, x7, x8, x9, x42, x43, x44, x102000, x102001, x102002 => if x44 < x43 then (if 0 ≤ x44 then (if x44 < (x42.length : Int) then (if 0 ≤ (rd x42 x44) then (if (rd x42 x44) < (x102002.length : Int) then ((impl_isBall.f (rd x102002 (rd x42 x44))).bind fun t120 => (if t120 = true then (if (rd x42 x44) < (x7.length : Int) then (if (rd x7 (rd x42 x44)) < 0 then (if 0 ≤ x9 then (if x9 < (x8.length : Int) then (if 0 ≤ (rd x8 x9) then (if (rd x8 x9) < (x7.length : Int) then (if x8.length < 17592186044416 then (impl_tray_distances_isBall.l1 k (x7.set ((rd x42 x44) : Int).toNat (wrap64 ((rd x7 (rd x8 x9)) + 1))) (x8 ++ [rd x42 x44]) x9 x42 x43 (wrap64 (x44 + 1)) x102000 x102001 x102002) else (none)) else (none)) else (none)) else (none)) else (none)) else (impl_tray_distances_isBall.l1 k x7 x8 x9 x42 x43 (wrap64 (x44 + 1)) x102000 x102001 x102002)) else (none)) else (impl_tray_distances_isBall.l1 k x7 x8 x9 x42 x43 (wrap64 (x44 + 1)) x102000 x102001 x102002))) else (none)) else (none)) else (none)) else (none)) else (impl_tray_distances_isBall.l0 k x7 x8 (wrap64 (x9 + 1)) x102000 x102001 x102002)
end
def impl_tray_distances_isBall.f (k : Nat) (a0_0 : Int) (a0_1 : Int) (l0_2 : List Int) (a1 : Int) (a2 : Unit) : Option (List Int) := (slices_Repeat_int.f (([(-1)] : List Int)) (l0_2.length : Int)).bind fun t105 => (if 0 ≤ a1 then (if a1 < (l0_2.length : Int) then ((impl_isBall.f (rd l0_2 a1)).bind fun t109 => (if t109 = true then (if a1 < (t105.length : Int) then (impl_tray_distances_isBall.l0 k (t105.set (a1 : Int).toNat 0) (([a1] : List Int)) 0 a0_0 a0_1 l0_2) else (none)) else (some t105))) else (none)) else (none))
def impl_tray_distances_isBall.T9 : Bool × List (List Nat × List Nat) := (true, [([], []), ([], []), ([], []), ([1, 2], [1, 2]), ([3], [3]), ([0, 4], [0, 4]), ([5], [5]), ([], [])])
def impl_tray_distances_isBall.B9 : List Nat := [0, 0, 0, 6, 14, 31, 63, 0]
theorem impl_tray_distances_isBall.tab9 : rtab .any (opsOf Tryd.f57 9) = impl_tray_distances_isBall.T9 := by kernel_rfl
theorem impl_tray_distances_isBall.bits9 : waitsOk impl_tray_distances_isBall.T9.2 impl_tray_distances_isBall.B9 = true := by kernel_rfl
set_option maxHeartbeats 8000000 in
set_option maxRecDepth 100000 in
theorem impl_tray_distances_isBall.calls (k : Nat) (a0_0 : Int) (a0_1 : Int) (A0_2 : Option Addr) (c0_2 : Nat) (l0_2 : List Int) (a1 : Int) (a2 : Unit) (r : List Int) (w : World) (hr0_2 : Kd.C (Kd.int .u8) w A0_2 l0_2.length l0_2) (hc0_2 : l0_2.length ≤ c0_2) (h : impl_tray_distances_isBall.f k a0_0 a0_1 l0_2 a1 a2 = some r) :
  Calls Tryd.prog 57 #[.agg #[.int .i64 a0_0, .int .i64 a0_1, .slice A0_2 l0_2.length c0_2], .int .i64 a1, .func (.func 35) #[] #[]] w fun e w' => ∃ v0_ : Value, e = .returned (v0_) ∧ Kd.R (Kd.int .i64) 3 w' w.heap.size (fun _ => True) v0_ r ∧ Below w.heap.size w w' := by
 have hu41 := Tryd.underlying41;have HR0_2 := Aside0.mk hr0_2;have HC0_2 := Aside0.mk hc0_2;clear hr0_2 hc0_2;have HB := Aside0.mk (Below.refl w.heap.size w);have H : ((slices_Repeat_int.f (([(-1)] : List Int)) (l0_2.length : Int)).bind fun t105 => (if 0 ≤ a1 then (if a1 < (l0_2.length : Int) then ((impl_isBall.f (rd l0_2 a1)).bind fun t109 => (if t109 = true then (if a1 < (t105.length : Int) then (impl_tray_distances_isBall.l0 k (t105.set (a1 : Int).toNat 0) (([a1] : List Int)) 0 a0_0 a0_1 l0_2) else (none)) else (some t105))) else (none)) else (none))) = some r := h;clear h;obtain ⟨y102, hy102⟩ : ∃ y_ : List Int, y_ = (([(-1)] : List Int)) := ⟨_, rfl⟩;replace H : ((slices_Repeat_int.f y102 (l0_2.length : Int)).bind fun t105 => (if 0 ≤ a1 then (if a1 < (l0_2.length : Int) then ((impl_isBall.f (rd l0_2 a1)).bind fun t109 => (if t109 = true then (if a1 < (t105.length : Int) then (impl_tray_distances_isBall.l0 k (t105.set (a1 : Int).toNat 0) (([a1] : List Int)) 0 a0_0 a0_1 l0_2) else (none)) else (some t105))) else (none)) else (none))) = some r := rH hy102 H;have Ny102 := Aside0.mk hy102;clear hy102;replace H := Option.bind_eq_some_iff.mp H;obtain ⟨t105, A40, H⟩ := H;replace H : (if 0 ≤ a1 then (if a1 < (l0_2.length : Int) then ((impl_isBall.f (rd l0_2 a1)).bind fun t109 => (if t109 = true then (if a1 < (t105.length : Int) then (impl_tray_distances_isBall.l0 k (t105.set (a1 : Int).toNat 0) (([a1] : List Int)) 0 a0_0 a0_1 l0_2) else (none)) else (some t105))) else (none)) else (none)) = some r := H;have A4 := Aside0.mk A40;clear A40
 by_cases c5 : 0 ≤ a1
 ·rw [if_pos c5] at H
  have c5b0 : decide (0 ≤ a1) = true := decide_eq_true c5;clear c5
  by_cases c6 : a1 < (l0_2.length : Int)
  ·rw [if_pos c6] at H
   have c6b0 : decide (a1 < (l0_2.length : Int)) = true := decide_eq_true c6;clear c6;replace H := Option.bind_eq_some_iff.mp H;obtain ⟨t109, A70, H⟩ := H;replace H : (if t109 = true then (if a1 < (t105.length : Int) then (impl_tray_distances_isBall.l0 k (t105.set (a1 : Int).toNat 0) (([a1] : List Int)) 0 a0_0 a0_1 l0_2) else (none)) else (some t105)) = some r := H;have A7 := Aside0.mk A70;clear A70
   by_cases c8 : t109 = true
   ·subst c8
    have H1 : (if a1 < (t105.length : Int) then (impl_tray_distances_isBall.l0 k (t105.set (a1 : Int).toNat 0) (([a1] : List Int)) 0 a0_0 a0_1 l0_2) else (none)) = some r := by rw [if_pos rfl] at H; exact H
    clear H;have H := H1;clear H1
    by_cases c9 : a1 < (t105.length : Int)
    ·rw [if_pos c9] at H
     have c9b0 : decide (a1 < (t105.length : Int)) = true := decide_eq_true c9;clear c9;obtain ⟨y110, hy110⟩ : ∃ y_ : List Int, y_ = (t105.set (a1 : Int).toNat 0) := ⟨_, rfl⟩;replace H : (impl_tray_distances_isBall.l0 k y110 (([a1] : List Int)) 0 a0_0 a0_1 l0_2) = some r := rH hy110 H;have Ny110 := Aside0.mk hy110;clear hy110;obtain ⟨y111, hy111⟩ : ∃ y_ : List Int, y_ = (([a1] : List Int)) := ⟨_, rfl⟩;replace H : (impl_tray_distances_isBall.l0 k y110 y111 0 a0_0 a0_1 l0_2) = some r := rH hy111 H;have Ny111 := Aside0.mk hy111;clear hy111;have H' := Aside0.mk H;clear H
     go_enter Tryd.func57, Tryd.ntmps57
     go_wp2_with (first | ((with_reducible refine gate_dst (N := 3) rfl ?_); refine boxE (N := 3) (cs := #[.int .i64 a0_0, .int .i64 a0_1, .slice A0_2 l0_2.length c0_2]) (t := 41) ?_; intro gb101 hg w11 hbox hb; have n0_ := Aside0.mk (below_step (bel HB) hb); have n1_ := Aside0.mk (hbox); have n2_ := Aside0.mk (gsz hg (bel HB)); have n3_ := Aside0.mk (gsz hg (bel HB)); clear HB; have HB := n0_; have BK101 := n1_; have GW101 := n2_; have GE101 := n3_; clear n0_ n1_ n2_ n3_; clear hb hbox hg) | ((with_reducible refine gate_dst (N := 12) rfl ?_); refine R_litG (Kd.int .i64) _ 3 ?hg (N := 12) ?hd (xs := ([(-1)] : List Int)) (inner := [.int .i64 (-1)]) (ok := fun _ => True) (okp := fun _ => True) ?hr ?hp (fun _ hk => hk) trivial (Below.refl _ _) (Nat.le_refl _) (by simp) ?_; (case hd => rfl); (case hg => first | rfl | decide | (simp [Region.wanted, yielded]; done) | (go_simp; done)); (case hr => first | (go_simp; done) | (go_simp; rfl)); (case hp => exact (Reps.one (show Kd.M (Kd.int .i64) _ _ _ (-1) [.int .i64 (-1)] from rfl) (Reps.none _ _))); intro v103 w12 ho13 hb hg_ hnew_; clear hg_ hnew_; (first | rw [← Ny102.out] at ho13 | (simp only [Int.reduceToNat] at ho13; rw [← Ny102.out] at ho13)); have n0_ := Aside0.mk (Kd.R_lower ho13 (below_size (bel HB))); have n1_ := Aside0.mk (blk_below (g := gb101) (o := .cells #[.int .i64 a0_0, .int .i64 a0_1, .slice A0_2 l0_2.length c0_2] 41 (0, 0)) blc hb); have n2_ := Aside0.mk (below_step (bel HB) hb); clear BK101; clear HB; have HO104 := n0_; have BK101 := n1_; have HB := n2_; clear n0_ n1_ n2_; clear hb ho13; have hcz14_0 : w12.cell? ⟨gb101, 0, none⟩ = some (.int .i64 a0_0) := (blk_cell BK101.out 0).trans rfl; have hcz14_1 : w12.cell? ⟨gb101, 1, none⟩ = some (.int .i64 a0_1) := (blk_cell BK101.out 1).trans rfl; have hcz14_2 : w12.cell? ⟨gb101, 2, none⟩ = some (.slice A0_2 l0_2.length c0_2) := (blk_cell BK101.out 2).trans rfl; have hfz14_0 := blk_frozen BK101.out 0; have hfz14_1 := blk_frozen BK101.out 1; have hfz14_2 := blk_frozen BK101.out 2; obtain ⟨Ao15, co15, eo15⟩ := Kd.R_slice HO104.out; subst eo15) | ((first | (with_reducible refine gate_callee (f := 76) rfl ?_) | (with_reducible refine gate_dst (N := 16) rfl ?_)); (first | refine gcall (some 16) Tryd.func76 #[.slice Ao15 y102.length co15, .int .i64 (l0_2.length : Int)] rfl ?_ | refine goesV_ (some 16) rfl rfl Tryd.func76 (by kernel_rfl) rfl #[.slice Ao15 y102.length co15, .int .i64 (l0_2.length : Int)] rfl (by (try simp only [List.map_toArray, List.map_cons, List.map_nil]); first | done | rfl | (simp only [List.length_drop, List.length_take]; rfl)) ?_); (with_reducible refine (slices_Repeat_int.calls _ _ y102 (l0_2.length : Int) t105 _ ?side1 ?side2 A4.out).mono ?_); (case side1 => repeat (first | exact (Kd.R_reads' HO104.out).2.2 | (with_reducible refine Kd.C_alloc ?_ _) | (with_reducible refine Kd.C_drewN ?_ _) | (with_reducible refine Kd.C_drew ?_))); (case side2 => exact (Kd.R_reads' HO104.out).2.1); rintro e w16 ⟨v106, rfl, ho0, hb⟩; refine ⟨_, rfl, ?_⟩; have n0_ := Aside0.mk (Kd.R_elder' (rch HO104) (Kd.R_base ho0) hb); have n1_ := Aside0.mk (Kd.R_lower (Kd.R_new' ho0 (Kd.R_lt (rch HO104))) (below_size (bel HB))); have n2_ := Aside0.mk (blk_below (g := gb101) (o := .cells #[.int .i64 a0_0, .int .i64 a0_1, .slice A0_2 l0_2.length c0_2] 41 (0, 0)) blc hb); have n3_ := Aside0.mk (below_step (bel HB) hb); clear HO104; clear BK101; clear HB; have HO104 := n0_; have HO107 := n1_; have BK101 := n2_; have HB := n3_; clear n0_ n1_ n2_ n3_; (try clear hb); (try clear hb2); (try clear hk); (try clear hi); (try clear ho0); have hcz17_0 : w16.cell? ⟨gb101, 0, none⟩ = some (.int .i64 a0_0) := (blk_cell BK101.out 0).trans rfl; have hcz17_1 : w16.cell? ⟨gb101, 1, none⟩ = some (.int .i64 a0_1) := (blk_cell BK101.out 1).trans rfl; have hcz17_2 : w16.cell? ⟨gb101, 2, none⟩ = some (.slice A0_2 l0_2.length c0_2) := (blk_cell BK101.out 2).trans rfl; have hfz17_0 := blk_frozen BK101.out 0; have hfz17_1 := blk_frozen BK101.out 1; have hfz17_2 := blk_frozen BK101.out 2; have p108 : 0 ≤ (a1 : Int) := of_decide_eq_true (by first | (with_reducible assumption) | assumption); have q108 : a1 < (l0_2.length : Int) := of_decide_eq_true (by first | (with_reducible assumption) | assumption); obtain ⟨ad108, e108, hx108_0⟩ := Kd.at_int HR0_2.out a1 p108 q108; cases e108; replace hx108_0 := (HB.out.cell (World.block_lt_of_cell? w _ hx108_0)).trans hx108_0; replace p108 := eq_true p108; replace q108 := eq_true q108) | ((first | (with_reducible refine gate_callee (f := 35) rfl ?_) | (with_reducible refine gate_dst (N := 23) rfl ?_)); (first | refine gcall (some 23) Tryd.func35 #[.int .u8 (rd l0_2 a1)] rfl ?_ | refine goesV_ (some 23) rfl rfl Tryd.func35 (by kernel_rfl) rfl #[.int .u8 (rd l0_2 a1)] rfl (by (try simp only [List.map_toArray, List.map_cons, List.map_nil]); first | done | rfl | (simp only [List.length_drop, List.length_take]; rfl)) ?_); (with_reducible refine (impl_isBall.calls (rd l0_2 a1) true _ A7.out).mono ?_); rintro e w' ⟨rfl, ⟨nd, rfl⟩⟩; refine ⟨_, rfl, ?_⟩; (try (rw [drewN_self w16]; generalize hq_ : World.drewN w16 _ = w16; have n0_ : Aside0 (Kd.R (Kd.int .i64) 3 w16 w.heap.size (fun k_ => some k_ ≠ (v106 : Value).ownBlock) (.slice Ao15 y102.length co15) y102) := ⟨by rw [← hq_]; exact (by (with_reducible repeat (first | apply Kd.R_alloc | apply Kd.R_drewN | apply Kd.R_drew)); (first | exact Kd.R_mono HO104.out (fun _ hk => hk.2) | exact HO104.out | exact R_any HO104.out))⟩; have n1_ : Aside0 (Kd.R (Kd.int .i64) 3 w16 w.heap.size (fun k_ => some k_ ≠ (.slice Ao15 y102.length co15 : Value).ownBlock) v106 t105) := ⟨by rw [← hq_]; exact (by (with_reducible repeat (first | apply Kd.R_alloc | apply Kd.R_drewN | apply Kd.R_drew)); (first | exact Kd.R_mono HO107.out (fun _ hk => hk.2) | exact HO107.out | exact R_any HO107.out))⟩; have n2_ : Aside0 (w16.heap[gb101]? = some (.cells #[.int .i64 a0_0, .int .i64 a0_1, .slice (some ad108) l0_2.length c0_2] 41 (0, 0))) := ⟨by rw [← hq_]; exact blc⟩; have n3_ : Aside0 (Below w.heap.size w w16) := ⟨by rw [← hq_]; exact (bel HB)⟩; clear HO104 HO107 BK101 HB hq_; have HO104 := n0_; have HO107 := n1_; have BK101 := n2_; have HB := n3_; clear n0_ n1_ n2_ n3_)); have p10 : 0 ≤ (a1 : Int) := of_decide_eq_true (by first | (with_reducible assumption) | assumption); have q10 : (a1 : Int) < ((t105.length : Int) : Int) := of_decide_eq_true (by first | (with_reducible assumption) | assumption); obtain ⟨go10, co10, eo10, gb10, gl10, cl10, HG10⟩ := Kd.R_form HO107.out (by omega); (first | cases eo10 | (injection eo10 with ea_ en_ ec_; (first | subst ea_ | (injection ea_ with ea_; subst ea_)); subst ec_; clear en_)); have GB10 := Aside0.mk gb10; have GG10 := Aside0.mk HG10; clear gb10 gl10 HG10; obtain ⟨hx10_0, hf10_0⟩ := Kd.R_celln 0 HO107.out (a1 : Int) p10 q10; replace p10 := eq_true p10; replace q10 := eq_true q10; have n_ := Aside0.mk (Kd.R_mono (ok' := (fun k_ => some k_ ≠ (.slice Ao15 y102.length co15 : Value).ownBlock)) HO107.out (fun k_ hk => by first | exact hk.2 | exact hk)); clear HO107; have HO107 := n_; clear n_; obtain ⟨hy18_, hz18_⟩ := Kd.R_celln 0 HO107.out (a1 : Int) (of_decide_eq_true (by first | (with_reducible assumption) | assumption)) (of_decide_eq_true (by first | (with_reducible assumption) | assumption)); have HP18 := Kd.R_putg HO107.out (a1 : Int) 0) | ((with_reducible refine gate_store (t := 3) (p := 28) rfl ?_); refine store_event (t := 3) (p := 28) (v := ?vo_w19) (w1 := (w16.setCell ⟨go10, (a1 : Int).toNat, none⟩ (.int .i64 0))) ?hg ?ho ?hn ?hr ?_; (case ho => rfl); (case hg => rfl); (case hn => rfl); (case hr => first | (go_simp; done) | (go_simp; rfl)); intro w19 hw; have hg : w16.grownBy w19 (some go10) := (by rw [hw]; exact HP18.2); have hp_ : Kd.R (Kd.int .i64) 3 w19 w.heap.size (fun k_ => some k_ ≠ (.slice Ao15 y102.length co15 : Value).ownBlock) (.slice (some ⟨go10, 0, none⟩) t105.length co10) y110 := (by rw [hw, Ny110.out]; (first | exact HP18.1 | exact R_any HP18.1)); clear HP18; have n0_ := Aside0.mk (blk_grown (g := gb101) (o := .cells #[.int .i64 a0_0, .int .i64 a0_1, .slice (some ad108) l0_2.length c0_2] 41 (0, 0)) blc hg (Kd.R_ne HO107.out BK101.out (by decide))); have n1_ := Aside0.mk (Kd.R_after (v := (.slice (some ⟨go10, 0, none⟩) t105.length co10)) (v1 := (.slice (some ⟨go10, 0, none⟩) t105.length co10)) (ok := (fun _ => True)) (rch HO104) hg (.inl rfl)); have n2_ := Aside0.mk (hp_); have n3_ := Aside0.mk ((by rw [hw]; exact below_set (HB.out) GB10.out : Below w.heap.size w w19)); clear BK101; clear HO104; clear HO107; clear HB; have BK101 := n0_; have HO104 := n1_; have HO107 := n2_; have HB := n3_; clear n0_ n1_ n2_ n3_; clear hg hw hp_) | ((with_reducible refine gate_dst (N := 30) rfl ?_); refine R_litG (Kd.int .i64) _ 3 ?hg (N := 30) ?hd (xs := ([a1] : List Int)) (inner := [.int .i64 a1]) (ok := fun _ => True) (okp := fun _ => True) ?hr ?hp (fun _ hk => hk) trivial (Below.refl _ _) (Nat.le_refl _) (by simp) ?_; (case hd => rfl); (case hg => first | rfl | decide | (simp [Region.wanted, yielded]; done) | (go_simp; done)); (case hr => first | (go_simp; done) | (go_simp; rfl)); (case hp => exact (Reps.one (show Kd.M (Kd.int .i64) _ _ _ a1 [.int .i64 a1] from rfl) (Reps.none _ _))); intro v112 w20 ho21 hb hg_ hnew_; clear hg_ hnew_; (first | rw [← Ny111.out] at ho21 | (simp only [Int.reduceToNat] at ho21; rw [← Ny111.out] at ho21)); have n0_ := Aside0.mk (Kd.R_elder' (rch HO104) (Kd.R_base ho21) hb); have n1_ := Aside0.mk (Kd.R_elder' (rch HO107) (Kd.R_base ho21) hb); have n2_ := Aside0.mk (Kd.R_lower (Kd.R_new' (Kd.R_new' ho21 (Kd.R_lt (rch HO104))) (Kd.R_lt (rch HO107))) (below_size (bel HB))); have n3_ := Aside0.mk (blk_below (g := gb101) (o := .cells #[.int .i64 a0_0, .int .i64 a0_1, .slice (some ad108) l0_2.length c0_2] 41 (0, 0)) blc hb); have n4_ := Aside0.mk (below_step (bel HB) hb); clear HO104; clear HO107; clear BK101; clear HB; have HO104 := n0_; have HO107 := n1_; have HO113 := n2_; have BK101 := n3_; have HB := n4_; clear n0_ n1_ n2_ n3_ n4_; clear hb ho21))
     go_loopg [8, 9] k (fun kq v8 v9 w' => ∃ (x7_1 : List Int) (x8_1 : List Int) (x9_1 : Int), v9 = .int .i64 x9_1 ∧ Aside0 (impl_tray_distances_isBall.l0 kq x7_1 x8_1 x9_1 a0_0 a0_1 l0_2 = some r) ∧ Aside0 (kq ≤ k) ∧ Aside0 (Kd.R (Kd.int .i64) 3 w' w.heap.size (fun k_ => some k_ ≠ (v8 : Value).ownBlock) (.slice (some ⟨go10, 0, none⟩) t105.length co10) x7_1) ∧ Aside0 (Kd.R (Kd.int .i64) 3 w' w.heap.size (fun k_ => some k_ ≠ ((.slice (some ⟨go10, 0, none⟩) t105.length co10) : Value).ownBlock) v8 x8_1) ∧ Aside0 (w'.heap[gb101]? = some (.cells #[.int .i64 a0_0, .int .i64 a0_1, (.slice (some ad108) l0_2.length c0_2)] 41 (0, 0))) ∧ Aside0 (Below w.heap.size w w'))
     case atStart => exact ⟨(y110), (y111), (0), (by first | rfl | (simp; done) | (simp [*]; done)), H', ⟨Nat.le_refl _⟩, ⟨by (with_reducible repeat (first | apply Kd.R_alloc | apply Kd.R_drewN | apply Kd.R_drew)); (first | exact Kd.R_mono HO107.out (fun _ hk => hk.2) | exact HO107.out | exact R_any HO107.out)⟩, ⟨by (with_reducible repeat (first | apply Kd.R_alloc | apply Kd.R_drewN | apply Kd.R_drew)); (first | exact Kd.R_mono HO113.out (fun _ hk => hk.2) | exact HO113.out | exact R_any HO113.out)⟩, ⟨blc⟩, ⟨bel HB⟩⟩
     case round =>
      clear H'
      try clear p1
      try clear q1
      try clear hx1
      try clear p2
      try clear c3
      try clear c5
      try clear c5b0
      try clear c5b0y
      try clear c6
      try clear c6b0
      try clear c6b0y
      try clear c7
      try clear c8
      try clear c9
      try clear c9b0
      try clear c9b0y
      try clear p10
      try clear q10
      try clear hx10
      try clear hf10
      try clear hcz14_0
      try clear hcz14_1
      try clear hcz14_2
      try clear hcz17_0
      try clear hcz17_1
      try clear hcz17_2
      try clear hfz14_0
      try clear hfz14_1
      try clear hfz14_2
      try clear hfz17_0
      try clear hfz17_1
      try clear hfz17_2
      try clear hx108_0
      try clear hx10_0
      try clear p10
      try clear p108
      try clear q10
      try clear q108
      obtain ⟨x7_1, x8_1, x9_1, rfl, HA, HK1, HO_7, HO_8, BK101, HB⟩ := hrel;have hl7_1 := (Kd.R_reads' HO_7.out).1
      rw [hl7_1] at HO_7
      (try simp only [hl7_1])
      (try simp only [hl7_1] at BK101)
      (try simp only [hl7_1] at HO_8)
      cases gk with
      | zero => exact absurd HA.out (by simp [impl_tray_distances_isBall.l0])
      | succ k1 =>
       have H := HA.out;clear HA
       simp only [impl_tray_distances_isBall.l0] at H
       by_cases c22 : x9_1 < (x8_1.length : Int)
       ·rw [if_pos c22] at H
        have c22b0 : decide (x9_1 < (x8_1.length : Int)) = true := decide_eq_true c22;clear c22
        by_cases c23 : 0 ≤ x9_1
        ·rw [if_pos c23] at H
         have c23b0 : decide (0 ≤ x9_1) = true := decide_eq_true c23;clear c23;replace H := Option.bind_eq_some_iff.mp H;obtain ⟨t115, A240, H⟩ := H;replace H : (impl_tray_distances_isBall.l1 k1 x7_1 x8_1 x9_1 t115 (t115.length : Int) 0 a0_0 a0_1 l0_2) = some r := H;have A24 := Aside0.mk A240;clear A240;have H' := Aside0.mk H;clear H;obtain ⟨Ao25, co25, eo25⟩ := Kd.R_slice HO_8.out;subst eo25
         try go_wp2
         have n0_ := Aside0.mk (Kd.R_drew HO_7.out);have n1_ := Aside0.mk (Kd.R_drew HO_8.out);have n2_ := Aside0.mk (blk_drew BK101.out);have n3_ := Aside0.mk (below_drew1 HB.out);clear HO_7;clear HO_8;clear BK101;clear HB;have HO_7 := n0_;have HO_8 := n1_;have BK101 := n2_;have HB := n3_;clear n0_ n1_ n2_ n3_;have p114 : 0 ≤ (x9_1 : Int) := of_decide_eq_true (by first | (with_reducible assumption) | assumption);have q114 : x9_1 < (x8_1.length : Int) := of_decide_eq_true (by first | (with_reducible assumption) | assumption);obtain ⟨ad114, e114, hx114_0⟩ := Kd.at_int (Kd.R_reads' HO_8.out).2.2 x9_1 p114 q114
         cases e114
         replace p114 := eq_true p114;replace q114 := eq_true q114
         refine start_ (n := 8) (S := fun w' => w'.cell? ⟨gb101, 0, none⟩ = some (.int .i64 a0_0) ∧ w'.cell? ⟨gb101, 1, none⟩ = some (.int .i64 a0_1) ∧ w'.cell? ⟨gb101, 2, none⟩ = some (.slice (some ad108) l0_2.length c0_2) ∧ w'.cell? (ad114.add (x9_1).toNat) = some (.int .i64 (rd x8_1 x9_1))) (ds := []) #[false, false, false, false, false, false, false, false] (by kernel_rfl) rfl rfl ⟨(blk_cell BK101.out 0).trans rfl, (blk_cell BK101.out 1).trans rfl, (blk_cell BK101.out 2).trans rfl, hx114_0⟩ (fun hHeld => ?_); refine with_tabW impl_tray_distances_isBall.tab9 impl_tray_distances_isBall.bits9 (fun HT_ HW_ => ?_)
         generalize wr.drew = w26 at HO_7 HO_8 BK101 HB hx114_0 hHeld ⊢
         refine pure_ (i := 1) (N := some 38) (v := ?_) (a' := ?_) #[false, true, false, false, false, false, false, false] rfl rfl (any_of HT_.out (by kernel_rfl)) (fun _ _ _ h => h) (Or.inl ⟨by rfl, ?_⟩) ?_ ?_
         rotate_left
         ·intro w'
          go_simp
          with_reducible rfl
         rotate_left
         ·simp only [Act.put, List.setIfInBounds_toArray, List.set_cons_zero, List.set_cons_succ, i64_w, i32_w]
          rfl
         refine pure_ (i := 2) (N := some 39) (v := ?_) (a' := ?_) #[false, true, true, false, false, false, false, false] rfl rfl (any_of HT_.out (by kernel_rfl)) (fun _ _ _ h => h) (Or.inl ⟨by rfl, ?_⟩) ?_ ?_
         rotate_left
         ·intro w'
          go_simp
          with_reducible rfl
         rotate_left
         ·simp only [Act.put, List.setIfInBounds_toArray, List.set_cons_zero, List.set_cons_succ, i64_w, i32_w]
          rfl
         refine pure_ (i := 3) (N := some 40) (v := ?_) (a' := ?_) #[false, true, true, true, false, false, false, false] rfl rfl (any_of HT_.out (by kernel_rfl)) (fun _ _ _ h => h) (Or.inl ⟨by rfl, ?_⟩) ?_ ?_
         rotate_left
         ·intro w'
          go_simp
          with_reducible rfl
         rotate_left
         ·simp only [Act.put, List.setIfInBounds_toArray, List.set_cons_zero, List.set_cons_succ, i64_w, i32_w]
          rfl
         refine pure_ (i := 7) (N := some 44) (v := ?_) (a' := ?_) #[false, true, true, true, false, false, false, true] rfl rfl (any_of HT_.out (by kernel_rfl)) (fun _ _ _ h => h) (Or.inl ⟨by rfl, ?_⟩) ?_ ?_
         rotate_left
         ·intro w'
          go_simp
          with_reducible rfl
         rotate_left
         ·simp only [Act.put, List.setIfInBounds_toArray, List.set_cons_zero, List.set_cons_succ, i64_w, i32_w]
          rfl
         refine take_ (i := 0) (N := some 37) (v := ?_) (a' := ?_) #[true, true, true, true, false, false, false, true] rfl rfl (take_ofW HT_.out HW_.out (by kernel_rfl)) (fun _ _ _ h => h) (Or.inl ⟨by rfl, ?_⟩) hHeld ?_ ?_
         rotate_left
         ·rintro w' ⟨s0, s1, s2, s3⟩
          go_simp
          with_reducible rfl
         rotate_left
         ·simp only [Act.put, List.setIfInBounds_toArray, List.set_cons_zero, List.set_cons_succ, i64_w, i32_w]
          rfl
         refine take_ (i := 4) (N := some 41) (v := ?_) (a' := ?_) #[true, true, true, true, true, false, false, true] rfl rfl (take_ofW HT_.out HW_.out (by kernel_rfl)) (fun _ _ _ h => h) (Or.inl ⟨by rfl, ?_⟩) hHeld ?_ ?_
         rotate_left
         ·rintro w' ⟨s0, s1, s2, s3⟩
          go_simp
          with_reducible rfl
         rotate_left
         ·simp only [Act.put, List.setIfInBounds_toArray, List.set_cons_zero, List.set_cons_succ, i64_w, i32_w]
          rfl
         refine one_ (i := 5) (N := some 42) #[true, true, true, true, true, true, false, true] rfl rfl (one_of HT_.out (by kernel_rfl)) (by decide) (fun K hK => ?_)
         refine goes_ Tryd.func77 (by kernel_rfl) rfl #[.agg #[.int .i64 a0_0, .int .i64 a0_1, .slice (some ad108) l0_2.length c0_2], .int .i64 (rd x8_1 x9_1)] (by rfl) rfl rfl (by (try simp only [List.map_toArray, List.map_cons, List.map_nil]); first | done | rfl | (simp only [List.length_drop, List.length_take]; rfl)) ?_
         with_reducible refine (impl_tray_beside.calls k1 a0_0 a0_1 _ _ l0_2 (rd x8_1 x9_1) t115 _ ?side1 ?side2 A24.out).mono ?_
         (case side1 => repeat (first | exact (Kd.C_below HR0_2.out HB.out) | (with_reducible refine Kd.C_alloc ?_ _) | (with_reducible refine Kd.C_drewN ?_ _) | (with_reducible refine Kd.C_drew ?_)))
         (case side2 => exact HC0_2.out)
         rintro e w27 ⟨v116, rfl, ho0, hb⟩
         have HS3_ := (hb.cell (World.block_lt_of_cell? _ _ (hHeld.2.2.2))).trans (hHeld.2.2.2)
         refine ⟨_, rfl, ?_⟩
         have n0_ := Aside0.mk (Kd.R_elder' (rch HO_7) (Kd.R_base ho0) hb);have n1_ := Aside0.mk (Kd.R_elder' (rch HO_8) (Kd.R_base ho0) hb);have n2_ := Aside0.mk (Kd.R_lower (Kd.R_new' (Kd.R_new' ho0 (Kd.R_lt (rch HO_7))) (Kd.R_lt (rch HO_8))) (below_size (bel HB)));have n3_ := Aside0.mk (blk_below (g := gb101) (o := .cells #[.int .i64 a0_0, .int .i64 a0_1, .slice (some ad108) l0_2.length c0_2] 41 (0, 0)) blc hb);have n4_ := Aside0.mk (below_step (bel HB) hb);clear HO_7;clear HO_8;clear BK101;clear HB;have HO_7 := n0_;have HO_8 := n1_;have HO117 := n2_;have BK101 := n3_;have HB := n4_;clear n0_ n1_ n2_ n3_ n4_
         (try clear hb)
         (try clear hb2)
         (try clear hk)
         (try clear hi)
         (try clear ho0)
         obtain ⟨Ao28, co28, eo28⟩ := Kd.R_slice HO117.out
         (first | subst eo28 | (injection eo28 with f1_ f2_ f3_; have f4_ := f1_.symm; have f5_ := f3_.symm; clear f1_ f2_ f3_; subst f4_; subst f5_))
         refine hK.out _ _ ⟨(blk_cell BK101.out 0).trans rfl, (blk_cell BK101.out 1).trans rfl, (blk_cell BK101.out 2).trans rfl, HS3_⟩ (fun hHeld => ?_)
         clear hK K
         refine norm_ (a' := ?_) ?_ ?_
         rotate_left
         ·show Act.put _ (some 42) _ = _
          simp only [Act.put, List.setIfInBounds_toArray, List.set_cons_zero, List.set_cons_succ, i64_w, i32_w]
          rfl
         refine pure_ (i := 6) (N := some 43) (v := ?_) (a' := ?_) #[true, true, true, true, true, true, true, true] rfl rfl (any_of HT_.out (by kernel_rfl)) (fun _ _ _ h => h) (Or.inl ⟨by rfl, ?_⟩) ?_ ?_
         rotate_left
         ·intro w'
          go_simp
          with_reducible rfl
         rotate_left
         ·simp only [Act.put, List.setIfInBounds_toArray, List.set_cons_zero, List.set_cons_succ, i64_w, i32_w]
          rfl
         refine done_ (done_of HT_.out (by kernel_rfl)) ?_
         try go_wp2
         go_loopg [8, 44] k1 (fun kq v8 v44 w' => ∃ (x7_2 : List Int) (x8_2 : List Int) (x44_2 : Int), v44 = .int .i64 x44_2 ∧ Aside0 (impl_tray_distances_isBall.l1 kq x7_2 x8_2 x9_1 t115 (t115.length : Int) x44_2 a0_0 a0_1 l0_2 = some r) ∧ Aside0 (kq ≤ k1) ∧ Aside0 (Kd.R (Kd.int .i64) 3 w' w.heap.size (fun k_ => some k_ ≠ (v8 : Value).ownBlock ∧ some k_ ≠ ((.slice Ao28 t115.length co28) : Value).ownBlock) (.slice (some ⟨go10, 0, none⟩) x7_1.length co10) x7_2) ∧ Aside0 (Kd.R (Kd.int .i64) 3 w' w.heap.size (fun k_ => some k_ ≠ ((.slice (some ⟨go10, 0, none⟩) x7_1.length co10) : Value).ownBlock ∧ some k_ ≠ ((.slice Ao28 t115.length co28) : Value).ownBlock) v8 x8_2) ∧ Aside0 (Kd.R (Kd.int .i64) 3 w' w.heap.size (fun k_ => some k_ ≠ ((.slice (some ⟨go10, 0, none⟩) x7_1.length co10) : Value).ownBlock ∧ some k_ ≠ (v8 : Value).ownBlock) (.slice Ao28 t115.length co28) t115) ∧ Aside0 (w'.heap[gb101]? = some (.cells #[.int .i64 a0_0, .int .i64 a0_1, (.slice (some ad108) l0_2.length c0_2)] 41 (0, 0))) ∧ Aside0 (Below w.heap.size w w'))
         case atStart => exact ⟨(x7_1), (x8_1), (0), (by first | rfl | (simp; done) | (simp [*]; done)), H', ⟨Nat.le_refl _⟩, ⟨by (try simp only [hl7_1]); (with_reducible repeat (first | apply Kd.R_alloc | apply Kd.R_drewN | apply Kd.R_drew)); (first | exact HO_7.out | exact R_any HO_7.out)⟩, ⟨by (try simp only [hl7_1]); (with_reducible repeat (first | apply Kd.R_alloc | apply Kd.R_drewN | apply Kd.R_drew)); (first | exact HO_8.out | exact R_any HO_8.out)⟩, ⟨by (try simp only [hl7_1]); (with_reducible repeat (first | apply Kd.R_alloc | apply Kd.R_drewN | apply Kd.R_drew)); exact Kd.R_mono HO117.out (fun _ hk => ⟨hk.1.2, hk.2⟩)⟩, ⟨by (try simp only [hl7_1]); exact blc⟩, ⟨bel HB⟩⟩
         case round =>
          clear H'
          try clear p1
          try clear q1
          try clear hx1
          try clear c2
          try clear p2
          try clear c3
          try clear c5
          try clear c5b0
          try clear c5b0y
          try clear c6
          try clear c6b0
          try clear c6b0y
          try clear c7
          try clear c8
          try clear c9
          try clear c9b0
          try clear c9b0y
          try clear p10
          try clear q10
          try clear hx10
          try clear hf10
          try clear p11
          try clear q11
          try clear hx11
          try clear c22
          try clear c22b0
          try clear c22b0y
          try clear c23
          try clear c23b0
          try clear c23b0y
          try clear hcz14_0
          try clear hcz14_1
          try clear hcz14_2
          try clear hcz17_0
          try clear hcz17_1
          try clear hcz17_2
          try clear hfz14_0
          try clear hfz14_1
          try clear hfz14_2
          try clear hfz17_0
          try clear hfz17_1
          try clear hfz17_2
          try clear hx108_0
          try clear hx10_0
          try clear hx114_0
          try clear p1
          try clear p10
          try clear p108
          try clear p114
          try clear p2
          try clear q1
          try clear q10
          try clear q108
          try clear q114
          obtain ⟨x7_2, x8_2, x44_2, rfl, HA, HK2, HO_7, HO_8, HO_42, BK101, HB⟩ := hrel;have hl7_2 := (Kd.R_reads' HO_7.out).1
          rw [hl7_2] at HO_7
          (try simp only [hl7_2])
          (try simp only [hl7_2] at BK101)
          (try simp only [hl7_2] at HO_8)
          (try simp only [hl7_2] at HO_42)
          cases gk with
          | zero => exact absurd HA.out (by simp [impl_tray_distances_isBall.l1])
          | succ k2 =>
           have H := HA.out;clear HA
           simp only [impl_tray_distances_isBall.l1] at H
           by_cases c29 : x44_2 < (t115.length : Int)
           ·rw [if_pos c29] at H
            have c29b0 : decide (x44_2 < (t115.length : Int)) = true := decide_eq_true c29;clear c29
            by_cases c30 : 0 ≤ x44_2
            ·rw [if_pos c30] at H
             have c30b0 : decide (0 ≤ x44_2) = true := decide_eq_true c30;clear c30
             by_cases c31 : x44_2 < (t115.length : Int)
             ·rw [if_pos c31] at H
              have c31b0 : decide (x44_2 < (t115.length : Int)) = true := decide_eq_true c31;clear c31
              by_cases c32 : 0 ≤ (rd t115 x44_2)
              ·rw [if_pos c32] at H
               have c32b0 : decide (0 ≤ (rd t115 x44_2)) = true := decide_eq_true c32;clear c32
               by_cases c33 : (rd t115 x44_2) < (l0_2.length : Int)
               ·rw [if_pos c33] at H
                have c33b0 : decide ((rd t115 x44_2) < (l0_2.length : Int)) = true := decide_eq_true c33;clear c33;replace H := Option.bind_eq_some_iff.mp H;obtain ⟨t120, A340, H⟩ := H;replace H : (if t120 = true then (if (rd t115 x44_2) < (x7_2.length : Int) then (if (rd x7_2 (rd t115 x44_2)) < 0 then (if 0 ≤ x9_1 then (if x9_1 < (x8_2.length : Int) then (if 0 ≤ (rd x8_2 x9_1) then (if (rd x8_2 x9_1) < (x7_2.length : Int) then (if x8_2.length < 17592186044416 then (impl_tray_distances_isBall.l1 k2 (x7_2.set ((rd t115 x44_2) : Int).toNat (wrap64 ((rd x7_2 (rd x8_2 x9_1)) + 1))) (x8_2 ++ [rd t115 x44_2]) x9_1 t115 (t115.length : Int) (wrap64 (x44_2 + 1)) a0_0 a0_1 l0_2) else (none)) else (none)) else (none)) else (none)) else (none)) else (impl_tray_distances_isBall.l1 k2 x7_2 x8_2 x9_1 t115 (t115.length : Int) (wrap64 (x44_2 + 1)) a0_0 a0_1 l0_2)) else (none)) else (impl_tray_distances_isBall.l1 k2 x7_2 x8_2 x9_1 t115 (t115.length : Int) (wrap64 (x44_2 + 1)) a0_0 a0_1 l0_2)) = some r := H;have A34 := Aside0.mk A340;clear A340
                by_cases c35 : t120 = true
                ·subst c35
                 have H1 : (if (rd t115 x44_2) < (x7_2.length : Int) then (if (rd x7_2 (rd t115 x44_2)) < 0 then (if 0 ≤ x9_1 then (if x9_1 < (x8_2.length : Int) then (if 0 ≤ (rd x8_2 x9_1) then (if (rd x8_2 x9_1) < (x7_2.length : Int) then (if x8_2.length < 17592186044416 then (impl_tray_distances_isBall.l1 k2 (x7_2.set ((rd t115 x44_2) : Int).toNat (wrap64 ((rd x7_2 (rd x8_2 x9_1)) + 1))) (x8_2 ++ [rd t115 x44_2]) x9_1 t115 (t115.length : Int) (wrap64 (x44_2 + 1)) a0_0 a0_1 l0_2) else (none)) else (none)) else (none)) else (none)) else (none)) else (impl_tray_distances_isBall.l1 k2 x7_2 x8_2 x9_1 t115 (t115.length : Int) (wrap64 (x44_2 + 1)) a0_0 a0_1 l0_2)) else (none)) = some r := by rw [if_pos rfl] at H; exact H
                 clear H;have H := H1;clear H1
                 by_cases c36 : (rd t115 x44_2) < (x7_2.length : Int)
                 ·rw [if_pos c36] at H
                  have c36b0 : decide ((rd t115 x44_2) < (x7_2.length : Int)) = true := decide_eq_true c36;clear c36
                  by_cases c37 : (rd x7_2 (rd t115 x44_2)) < 0
                  ·rw [if_pos c37] at H
                   have c37b0 : decide ((rd x7_2 (rd t115 x44_2)) < 0) = true := decide_eq_true c37;clear c37
                   by_cases c38 : 0 ≤ x9_1
                   ·rw [if_pos c38] at H
                    have c38b0 : decide (0 ≤ x9_1) = true := decide_eq_true c38;clear c38
                    by_cases c39 : x9_1 < (x8_2.length : Int)
                    ·rw [if_pos c39] at H
                     have c39b0 : decide (x9_1 < (x8_2.length : Int)) = true := decide_eq_true c39;clear c39
                     by_cases c40 : 0 ≤ (rd x8_2 x9_1)
                     ·rw [if_pos c40] at H
                      have c40b0 : decide (0 ≤ (rd x8_2 x9_1)) = true := decide_eq_true c40;clear c40
                      by_cases c41 : (rd x8_2 x9_1) < (x7_2.length : Int)
                      ·rw [if_pos c41] at H
                       have c41b0 : decide ((rd x8_2 x9_1) < (x7_2.length : Int)) = true := decide_eq_true c41;clear c41;obtain ⟨y124, hy124⟩ : ∃ y_ : List Int, y_ = (x7_2.set ((rd t115 x44_2) : Int).toNat (wrap64 ((rd x7_2 (rd x8_2 x9_1)) + 1))) := ⟨_, rfl⟩;replace H : (if x8_2.length < 17592186044416 then (impl_tray_distances_isBall.l1 k2 y124 (x8_2 ++ [rd t115 x44_2]) x9_1 t115 (t115.length : Int) (wrap64 (x44_2 + 1)) a0_0 a0_1 l0_2) else (none)) = some r := rH hy124 H;have Ny124 := Aside0.mk hy124;clear hy124
                       by_cases c43 : x8_2.length < 17592186044416
                       ·rw [if_pos c43] at H
                        have LMc43 := Aside0.mk c43;clear c43;obtain ⟨y125, hy125⟩ : ∃ y_ : List Int, y_ = (x8_2 ++ [rd t115 x44_2]) := ⟨_, rfl⟩;replace H : (impl_tray_distances_isBall.l1 k2 y124 y125 x9_1 t115 (t115.length : Int) (wrap64 (x44_2 + 1)) a0_0 a0_1 l0_2) = some r := rH hy125 H;have Ny125 := Aside0.mk hy125;clear hy125;have H' := Aside0.mk H;clear H;have p118 : 0 ≤ (x44_2 : Int) := of_decide_eq_true (by first | (with_reducible assumption) | assumption);have q118 : x44_2 < (t115.length : Int) := of_decide_eq_true (by first | (with_reducible assumption) | assumption);obtain ⟨ad118, e118, hx118_0⟩ := Kd.at_int (Kd.R_reads' HO_42.out).2.2 x44_2 p118 q118
                        cases e118
                        replace p118 := eq_true p118;replace q118 := eq_true q118;have hcz44_0 : wr.cell? ⟨gb101, 0, none⟩ = some (.int .i64 a0_0) := (blk_cell BK101.out 0).trans rfl;have hcz44_1 : wr.cell? ⟨gb101, 1, none⟩ = some (.int .i64 a0_1) := (blk_cell BK101.out 1).trans rfl;have hcz44_2 : wr.cell? ⟨gb101, 2, none⟩ = some (.slice (some ad108) l0_2.length c0_2) := (blk_cell BK101.out 2).trans rfl;have hfz44_0 := blk_frozen BK101.out 0;have hfz44_1 := blk_frozen BK101.out 1;have hfz44_2 := blk_frozen BK101.out 2;have p119 : 0 ≤ ((rd t115 x44_2) : Int) := of_decide_eq_true (by first | (with_reducible assumption) | assumption);have q119 : (rd t115 x44_2) < (l0_2.length : Int) := of_decide_eq_true (by first | (with_reducible assumption) | assumption);obtain ⟨ad119, e119, hx119_0⟩ := Kd.at_int HR0_2.out (rd t115 x44_2) p119 q119;obtain rfl : ad108 = ad119 := (by injection e119)
                        (try replace hx119_0 := (HB.out.cell (World.block_lt_of_cell? w _ hx119_0)).trans hx119_0)
                        replace p119 := eq_true p119;replace q119 := eq_true q119
                        go_wp2_with (first | ((first | (with_reducible refine gate_callee (f := 35) rfl ?_) | (with_reducible refine gate_dst (N := 54) rfl ?_)); (first | refine gcall (some 54) Tryd.func35 #[.int .u8 (rd l0_2 (rd t115 x44_2))] rfl ?_ | refine goesV_ (some 54) rfl rfl Tryd.func35 (by kernel_rfl) rfl #[.int .u8 (rd l0_2 (rd t115 x44_2))] rfl (by (try simp only [List.map_toArray, List.map_cons, List.map_nil]); first | done | rfl | (simp only [List.length_drop, List.length_take]; rfl)) ?_); (with_reducible refine (impl_isBall.calls (rd l0_2 (rd t115 x44_2)) true _ A34.out).mono ?_); rintro e w' ⟨rfl, ⟨nd, rfl⟩⟩; refine ⟨_, rfl, ?_⟩; (try (rw [drewN_self wr]; generalize hq_ : World.drewN wr _ = wr; have n0_ : Aside0 (Kd.R (Kd.int .i64) 3 wr w.heap.size (fun k_ => some k_ ≠ (.slice (some ⟨go10, 0, none⟩) x7_2.length co10 : Value).ownBlock ∧ some k_ ≠ (u8 : Value).ownBlock) (.slice (some ad118) t115.length co28) t115) := ⟨by rw [← hq_]; exact (rch HO_42)⟩; have n1_ : Aside0 (Kd.R (Kd.int .i64) 3 wr w.heap.size (fun k_ => some k_ ≠ (.slice (some ad118) t115.length co28 : Value).ownBlock ∧ some k_ ≠ (u8 : Value).ownBlock) (.slice (some ⟨go10, 0, none⟩) x7_2.length co10) x7_2) := ⟨by rw [← hq_]; exact (by (with_reducible repeat (first | apply Kd.R_alloc | apply Kd.R_drewN | apply Kd.R_drew)); (first | exact Kd.R_mono HO_7.out (fun _ hk => ⟨hk.2, hk.1⟩) | exact HO_7.out | exact R_any HO_7.out))⟩; have n2_ : Aside0 (Kd.R (Kd.int .i64) 3 wr w.heap.size (fun k_ => some k_ ≠ (.slice (some ad118) t115.length co28 : Value).ownBlock ∧ some k_ ≠ (.slice (some ⟨go10, 0, none⟩) x7_2.length co10 : Value).ownBlock) u8 x8_2) := ⟨by rw [← hq_]; exact (by (with_reducible repeat (first | apply Kd.R_alloc | apply Kd.R_drewN | apply Kd.R_drew)); (first | exact Kd.R_mono HO_8.out (fun _ hk => ⟨hk.2, hk.1⟩) | exact HO_8.out | exact R_any HO_8.out))⟩; have n3_ : Aside0 (wr.heap[gb101]? = some (.cells #[.int .i64 a0_0, .int .i64 a0_1, .slice (some ad108) l0_2.length c0_2] 41 (0, 0))) := ⟨by rw [← hq_]; exact blc⟩; have n4_ : Aside0 (Below w.heap.size w wr) := ⟨by rw [← hq_]; exact (bel HB)⟩; clear HO_42 HO_7 HO_8 BK101 HB hq_; have HO_42 := n0_; have HO_7 := n1_; have HO_8 := n2_; have BK101 := n3_; have HB := n4_; clear n0_ n1_ n2_ n3_ n4_)); have p121 : 0 ≤ ((rd t115 x44_2) : Int) := of_decide_eq_true (by first | (with_reducible assumption) | assumption); have q121 : (rd t115 x44_2) < (x7_2.length : Int) := of_decide_eq_true (by first | (with_reducible assumption) | assumption); obtain ⟨ad121, e121, hx121_0⟩ := Kd.at_int (Kd.R_reads' HO_7.out).2.2 (rd t115 x44_2) p121 q121; obtain rfl : (⟨go10, 0, none⟩ : Addr) = ad121 := (by injection e121); (first | simp only [add_plain] at hx121_0 | simp only [add_at] at hx121_0 | simp only [Addr.add, Nat.zero_add] at hx121_0 | skip); replace p121 := eq_true p121; replace q121 := eq_true q121; obtain ⟨Ao45, co45, eo45⟩ := Kd.R_slice HO_8.out; subst eo45; have p122 : 0 ≤ (x9_1 : Int) := of_decide_eq_true (by first | (with_reducible assumption) | assumption); have q122 : x9_1 < (x8_2.length : Int) := of_decide_eq_true (by first | (with_reducible assumption) | assumption); obtain ⟨ad122, e122, hx122_0⟩ := Kd.at_int (Kd.R_reads' HO_8.out).2.2 x9_1 p122 q122; cases e122; replace p122 := eq_true p122; replace q122 := eq_true q122; have p123 : 0 ≤ ((rd x8_2 x9_1) : Int) := of_decide_eq_true (by first | (with_reducible assumption) | assumption); have q123 : (rd x8_2 x9_1) < (x7_2.length : Int) := of_decide_eq_true (by first | (with_reducible assumption) | assumption); obtain ⟨ad123, e123, hx123_0⟩ := Kd.at_int (Kd.R_reads' HO_7.out).2.2 (rd x8_2 x9_1) p123 q123; obtain rfl : (⟨go10, 0, none⟩ : Addr) = ad123 := (by injection e123); (first | simp only [add_plain] at hx123_0 | simp only [add_at] at hx123_0 | simp only [Addr.add, Nat.zero_add] at hx123_0 | skip); replace p123 := eq_true p123; replace q123 := eq_true q123; have p42 : 0 ≤ ((rd t115 x44_2) : Int) := of_decide_eq_true (by first | (with_reducible assumption) | assumption); have q42 : ((rd t115 x44_2) : Int) < ((x7_2.length : Int) : Int) := of_decide_eq_true (by first | (with_reducible assumption) | assumption); obtain ⟨hx42_0, hf42_0⟩ := Kd.R_celln 0 HO_7.out ((rd t115 x44_2) : Int) p42 q42; replace p42 := eq_true p42; replace q42 := eq_true q42; obtain ⟨hy46_, hz46_⟩ := Kd.R_celln 0 HO_7.out ((rd t115 x44_2) : Int) (of_decide_eq_true (by first | (with_reducible assumption) | assumption)) (of_decide_eq_true (by first | (with_reducible assumption) | assumption)); have HP46 := Kd.R_putg HO_7.out ((rd t115 x44_2) : Int) (wrap64 ((rd x7_2 (rd x8_2 x9_1)) + 1))) | ((with_reducible refine gate_store (t := 3) (p := 72) rfl ?_); refine store_event (t := 3) (p := 72) (v := ?vo_w47) (w1 := (wr.setCell ⟨go10, ((rd t115 x44_2) : Int).toNat, none⟩ (.int .i64 (wrap64 ((rd x7_2 (rd x8_2 x9_1)) + 1))))) ?hg ?ho ?hn ?hr ?_; (case ho => rfl); (case hg => rfl); (case hn => rfl); (case hr => first | (go_simp; done) | (go_simp; rfl)); intro w47 hw; have hg : wr.grownBy w47 (some go10) := (by rw [hw]; exact HP46.2); have hp_ : Kd.R (Kd.int .i64) 3 w47 w.heap.size (fun k_ => some k_ ≠ (.slice (some ad122) x8_2.length co45 : Value).ownBlock ∧ some k_ ≠ (.slice (some ad118) t115.length co28 : Value).ownBlock) (.slice (some ⟨go10, 0, none⟩) x7_2.length co10) y124 := (by rw [hw, Ny124.out]; (first | exact HP46.1 | exact R_any HP46.1)); clear HP46; have n0_ := Aside0.mk (hp_); have n1_ := Aside0.mk (Kd.R_after (v := (.slice (some ⟨go10, 0, none⟩) x7_2.length co10)) (v1 := (.slice (some ⟨go10, 0, none⟩) x7_2.length co10)) (ok := (fun k_ => some k_ ≠ (.slice (some ad118) t115.length co28 : Value).ownBlock)) (by (with_reducible repeat (first | apply Kd.R_alloc | apply Kd.R_drewN | apply Kd.R_drew)); (first | exact Kd.R_mono HO_8.out (fun _ hk => ⟨hk.2, hk.1⟩) | exact HO_8.out | exact R_any HO_8.out)) hg (.inl rfl)); have n2_ := Aside0.mk (Kd.R_after (v := (.slice (some ⟨go10, 0, none⟩) x7_2.length co10)) (v1 := (.slice (some ⟨go10, 0, none⟩) x7_2.length co10)) (ok := (fun k_ => some k_ ≠ (.slice (some ad122) x8_2.length co45 : Value).ownBlock)) (by (with_reducible repeat (first | apply Kd.R_alloc | apply Kd.R_drewN | apply Kd.R_drew)); (first | exact Kd.R_mono HO_42.out (fun _ hk => ⟨hk.2, hk.1⟩) | exact HO_42.out | exact R_any HO_42.out)) hg (.inl rfl)); have n3_ := Aside0.mk (blk_grown (g := gb101) (o := .cells #[.int .i64 a0_0, .int .i64 a0_1, .slice (some ad108) l0_2.length c0_2] 41 (0, 0)) blc hg (Kd.R_ne HO_7.out BK101.out (by decide))); have n4_ := Aside0.mk ((by rw [hw]; exact below_set (HB.out) GB10.out : Below w.heap.size w w47)); clear HO_7; clear HO_8; clear HO_42; clear BK101; clear HB; have HO_7 := n0_; have HO_8 := n1_; have HO_42 := n2_; have BK101 := n3_; have HB := n4_; clear n0_ n1_ n2_ n3_ n4_; clear hg hw hp_) | ((with_reducible refine gate_builtin (b := .append) (xs := #[.tmp 73, .tmp 75]) rfl ?_); at_builtin; refine Kd.R_append (Kd.int .i64) (w0 := w) w.heap.size rfl (.tmp 73) (.tmp 75) 33 3 (.int .i64 0) 8 rfl Tryd.underlying33 info3 rfl (by decide) (by omega) (.slice (some ad122) x8_2.length co45) x8_2 (rd t115 x44_2) [.int .i64 (rd t115 x44_2)] (fun k_ => some k_ ≠ (.slice (some ⟨go10, 0, none⟩) x7_2.length co10 : Value).ownBlock ∧ some k_ ≠ (.slice (some ad118) t115.length co28 : Value).ownBlock) (fun _ => False) rfl rfl ?aP (fun _ hk => hk.elim) ?aF ?aO ?aB ?aS ?aL ?_; (case aP => exact rfl); (case aB => exact (bel HB)); (case aF => exact (fun k_ hk => ⟨Kd.fresh' (Kd.R_lt (rch HO_7)) k_ hk, Kd.fresh' (Kd.R_lt (rch HO_42)) k_ hk⟩)); (case aO => exact (by (with_reducible repeat (first | apply Kd.R_alloc | apply Kd.R_drewN | apply Kd.R_drew)); (first | exact Kd.R_mono HO_8.out (fun _ hk => ⟨hk.2, hk.1⟩) | exact HO_8.out | exact R_any HO_8.out))); (case aS => exact (below_size (bel HB))); (case aL => have := LMc43.out; omega); intro v126 w48 ho hb hg hat; rw [← Ny125.out] at ho; have n0_ := Aside0.mk (Kd.R_after (ok := (fun k_ => some k_ ≠ (.slice (some ad118) t115.length co28 : Value).ownBlock)) (by (with_reducible repeat (first | apply Kd.R_alloc | apply Kd.R_drewN | apply Kd.R_drew)); (first | exact Kd.R_mono HO_7.out (fun _ hk => ⟨hk.2, hk.1⟩) | exact HO_7.out | exact R_any HO_7.out)) hg hat); have n1_ := Aside0.mk (Kd.R_after (ok := (fun k_ => some k_ ≠ (.slice (some ⟨go10, 0, none⟩) x7_2.length co10 : Value).ownBlock)) (by (with_reducible repeat (first | apply Kd.R_alloc | apply Kd.R_drewN | apply Kd.R_drew)); (first | exact Kd.R_mono HO_42.out (fun _ hk => ⟨hk.2, hk.1⟩) | exact HO_42.out | exact R_any HO_42.out)) hg hat); have n2_ := Aside0.mk (blk_grown (g := gb101) (o := .cells #[.int .i64 a0_0, .int .i64 a0_1, .slice (some ad108) l0_2.length c0_2] 41 (0, 0)) blc hg (Kd.R_ne HO_8.out BK101.out (by decide))); have n3_ := Aside0.mk (hb); have n4_ := Aside0.mk (ho); clear HO_7; clear HO_42; clear BK101; clear HB; clear HO_8; have HO_7 := n0_; have HO_42 := n1_; have BK101 := n2_; have HB := n3_; have HO127 := n4_; clear n0_ n1_ n2_ n3_ n4_; clear ho hb hg hat))
                        (try simp only [← hl7_2])
                        go_roundg k2
                        case measure => have := HK1.out; have := HK2.out; omega
                        case rel => exact ⟨(y124), (y125), (wrap64 (x44_2 + 1)), (by first | rfl | (simp; done) | (simp [*]; done)), H', ⟨by have := HK1.out; have := HK2.out; omega⟩, ⟨by (try simp only [hl7_1]); (try simp only [hl7_2]); (with_reducible repeat (first | apply Kd.R_alloc | apply Kd.R_drewN | apply Kd.R_drew)); (first | exact Kd.R_mono HO_7.out (fun _ hk => ⟨hk.2, hk.1⟩) | exact HO_7.out | exact R_any HO_7.out)⟩, ⟨by (try simp only [hl7_1]); (try simp only [hl7_2]); (with_reducible repeat (first | apply Kd.R_alloc | apply Kd.R_drewN | apply Kd.R_drew)); (first | exact HO127.out | exact R_any HO127.out)⟩, ⟨by (try simp only [hl7_1]); (try simp only [hl7_2]); (with_reducible repeat (first | apply Kd.R_alloc | apply Kd.R_drewN | apply Kd.R_drew)); (first | exact HO_42.out | exact R_any HO_42.out)⟩, ⟨by (try simp only [hl7_1]); (try simp only [hl7_2]); exact blc⟩, ⟨bel HB⟩⟩
                       ·rw [if_neg c43] at H
                        exact absurd H (by simp)
                      ·rw [if_neg c41] at H
                       exact absurd H (by simp)
                     ·rw [if_neg c40] at H
                      exact absurd H (by simp)
                    ·rw [if_neg c39] at H
                     exact absurd H (by simp)
                   ·rw [if_neg c38] at H
                    exact absurd H (by simp)
                  ·rw [if_neg c37] at H
                   have c37b0 : decide ((rd x7_2 (rd t115 x44_2)) < 0) = false := decide_eq_false c37;clear c37;have H' := Aside0.mk H;clear H;have p118 : 0 ≤ (x44_2 : Int) := of_decide_eq_true (by first | (with_reducible assumption) | assumption);have q118 : x44_2 < (t115.length : Int) := of_decide_eq_true (by first | (with_reducible assumption) | assumption);obtain ⟨ad118, e118, hx118_0⟩ := Kd.at_int (Kd.R_reads' HO_42.out).2.2 x44_2 p118 q118
                   cases e118
                   replace p118 := eq_true p118;replace q118 := eq_true q118;have hcz49_0 : wr.cell? ⟨gb101, 0, none⟩ = some (.int .i64 a0_0) := (blk_cell BK101.out 0).trans rfl;have hcz49_1 : wr.cell? ⟨gb101, 1, none⟩ = some (.int .i64 a0_1) := (blk_cell BK101.out 1).trans rfl;have hcz49_2 : wr.cell? ⟨gb101, 2, none⟩ = some (.slice (some ad108) l0_2.length c0_2) := (blk_cell BK101.out 2).trans rfl;have hfz49_0 := blk_frozen BK101.out 0;have hfz49_1 := blk_frozen BK101.out 1;have hfz49_2 := blk_frozen BK101.out 2;have p119 : 0 ≤ ((rd t115 x44_2) : Int) := of_decide_eq_true (by first | (with_reducible assumption) | assumption);have q119 : (rd t115 x44_2) < (l0_2.length : Int) := of_decide_eq_true (by first | (with_reducible assumption) | assumption);obtain ⟨ad119, e119, hx119_0⟩ := Kd.at_int HR0_2.out (rd t115 x44_2) p119 q119;obtain rfl : ad108 = ad119 := (by injection e119)
                   (try replace hx119_0 := (HB.out.cell (World.block_lt_of_cell? w _ hx119_0)).trans hx119_0)
                   replace p119 := eq_true p119;replace q119 := eq_true q119
                   go_wp2_with (first | ((first | (with_reducible refine gate_callee (f := 35) rfl ?_) | (with_reducible refine gate_dst (N := 54) rfl ?_)); (first | refine gcall (some 54) Tryd.func35 #[.int .u8 (rd l0_2 (rd t115 x44_2))] rfl ?_ | refine goesV_ (some 54) rfl rfl Tryd.func35 (by kernel_rfl) rfl #[.int .u8 (rd l0_2 (rd t115 x44_2))] rfl (by (try simp only [List.map_toArray, List.map_cons, List.map_nil]); first | done | rfl | (simp only [List.length_drop, List.length_take]; rfl)) ?_); (with_reducible refine (impl_isBall.calls (rd l0_2 (rd t115 x44_2)) true _ A34.out).mono ?_); rintro e w' ⟨rfl, ⟨nd, rfl⟩⟩; refine ⟨_, rfl, ?_⟩; have p121 : 0 ≤ ((rd t115 x44_2) : Int) := of_decide_eq_true (by first | (with_reducible assumption) | assumption); have q121 : (rd t115 x44_2) < (x7_2.length : Int) := of_decide_eq_true (by first | (with_reducible assumption) | assumption); obtain ⟨ad121, e121, hx121_0⟩ := Kd.at_int (Kd.R_reads' HO_7.out).2.2 (rd t115 x44_2) p121 q121; obtain rfl : (⟨go10, 0, none⟩ : Addr) = ad121 := (by injection e121); (first | simp only [add_plain] at hx121_0 | simp only [add_at] at hx121_0 | simp only [Addr.add, Nat.zero_add] at hx121_0 | skip); replace p121 := eq_true p121; replace q121 := eq_true q121))
                   (try simp only [← hl7_2])
                   go_roundg k2
                   case measure => have := HK1.out; have := HK2.out; omega
                   case rel => exact ⟨(x7_2), (x8_2), (wrap64 (x44_2 + 1)), (by first | rfl | (simp; done) | (simp [*]; done)), H', ⟨by have := HK1.out; have := HK2.out; omega⟩, ⟨by (try simp only [hl7_1]); (try simp only [hl7_2]); (with_reducible repeat (first | apply Kd.R_alloc | apply Kd.R_drewN | apply Kd.R_drew)); (first | exact HO_7.out | exact R_any HO_7.out)⟩, ⟨by (try simp only [hl7_1]); (try simp only [hl7_2]); (with_reducible repeat (first | apply Kd.R_alloc | apply Kd.R_drewN | apply Kd.R_drew)); (first | exact HO_8.out | exact R_any HO_8.out)⟩, ⟨by (try simp only [hl7_1]); (try simp only [hl7_2]); (with_reducible repeat (first | apply Kd.R_alloc | apply Kd.R_drewN | apply Kd.R_drew)); (first | exact HO_42.out | exact R_any HO_42.out)⟩, ⟨by (try simp only [hl7_1]); (try simp only [hl7_2]); exact blc⟩, ⟨bel HB⟩⟩
                 ·rw [if_neg c36] at H
                  exact absurd H (by simp)
                ·replace c35 := Bool.eq_false_iff.mpr c35
                 subst c35
                 have H1 : (impl_tray_distances_isBall.l1 k2 x7_2 x8_2 x9_1 t115 (t115.length : Int) (wrap64 (x44_2 + 1)) a0_0 a0_1 l0_2) = some r := by rw [if_neg (show ¬ (false = true) by decide)] at H; exact H
                 clear H;have H := H1;clear H1;have H' := Aside0.mk H;clear H;have p118 : 0 ≤ (x44_2 : Int) := of_decide_eq_true (by first | (with_reducible assumption) | assumption);have q118 : x44_2 < (t115.length : Int) := of_decide_eq_true (by first | (with_reducible assumption) | assumption);obtain ⟨ad118, e118, hx118_0⟩ := Kd.at_int (Kd.R_reads' HO_42.out).2.2 x44_2 p118 q118
                 cases e118
                 replace p118 := eq_true p118;replace q118 := eq_true q118;have hcz50_0 : wr.cell? ⟨gb101, 0, none⟩ = some (.int .i64 a0_0) := (blk_cell BK101.out 0).trans rfl;have hcz50_1 : wr.cell? ⟨gb101, 1, none⟩ = some (.int .i64 a0_1) := (blk_cell BK101.out 1).trans rfl;have hcz50_2 : wr.cell? ⟨gb101, 2, none⟩ = some (.slice (some ad108) l0_2.length c0_2) := (blk_cell BK101.out 2).trans rfl;have hfz50_0 := blk_frozen BK101.out 0;have hfz50_1 := blk_frozen BK101.out 1;have hfz50_2 := blk_frozen BK101.out 2;have p119 : 0 ≤ ((rd t115 x44_2) : Int) := of_decide_eq_true (by first | (with_reducible assumption) | assumption);have q119 : (rd t115 x44_2) < (l0_2.length : Int) := of_decide_eq_true (by first | (with_reducible assumption) | assumption);obtain ⟨ad119, e119, hx119_0⟩ := Kd.at_int HR0_2.out (rd t115 x44_2) p119 q119;obtain rfl : ad108 = ad119 := (by injection e119)
                 (try replace hx119_0 := (HB.out.cell (World.block_lt_of_cell? w _ hx119_0)).trans hx119_0)
                 replace p119 := eq_true p119;replace q119 := eq_true q119
                 go_wp2_with (first | ((first | (with_reducible refine gate_callee (f := 35) rfl ?_) | (with_reducible refine gate_dst (N := 54) rfl ?_)); (first | refine gcall (some 54) Tryd.func35 #[.int .u8 (rd l0_2 (rd t115 x44_2))] rfl ?_ | refine goesV_ (some 54) rfl rfl Tryd.func35 (by kernel_rfl) rfl #[.int .u8 (rd l0_2 (rd t115 x44_2))] rfl (by (try simp only [List.map_toArray, List.map_cons, List.map_nil]); first | done | rfl | (simp only [List.length_drop, List.length_take]; rfl)) ?_); (with_reducible refine (impl_isBall.calls (rd l0_2 (rd t115 x44_2)) false _ A34.out).mono ?_); rintro e w' ⟨rfl, ⟨nd, rfl⟩⟩; refine ⟨_, rfl, ?_⟩))
                 (try simp only [← hl7_2])
                 go_roundg k2
                 case measure => have := HK1.out; have := HK2.out; omega
                 case rel => exact ⟨(x7_2), (x8_2), (wrap64 (x44_2 + 1)), (by first | rfl | (simp; done) | (simp [*]; done)), H', ⟨by have := HK1.out; have := HK2.out; omega⟩, ⟨by (try simp only [hl7_1]); (try simp only [hl7_2]); (with_reducible repeat (first | apply Kd.R_alloc | apply Kd.R_drewN | apply Kd.R_drew)); (first | exact HO_7.out | exact R_any HO_7.out)⟩, ⟨by (try simp only [hl7_1]); (try simp only [hl7_2]); (with_reducible repeat (first | apply Kd.R_alloc | apply Kd.R_drewN | apply Kd.R_drew)); (first | exact HO_8.out | exact R_any HO_8.out)⟩, ⟨by (try simp only [hl7_1]); (try simp only [hl7_2]); (with_reducible repeat (first | apply Kd.R_alloc | apply Kd.R_drewN | apply Kd.R_drew)); (first | exact HO_42.out | exact R_any HO_42.out)⟩, ⟨by (try simp only [hl7_1]); (try simp only [hl7_2]); exact blc⟩, ⟨bel HB⟩⟩
               ·rw [if_neg c33] at H
                exact absurd H (by simp)
              ·rw [if_neg c32] at H
               exact absurd H (by simp)
             ·rw [if_neg c31] at H
              exact absurd H (by simp)
            ·rw [if_neg c30] at H
             exact absurd H (by simp)
           ·rw [if_neg c29] at H
            have c29b0 : decide (x44_2 < (t115.length : Int)) = false := decide_eq_false c29
            (try (have c29b0y := c29b0; first | rw [hl7_1] at c29b0y | rw [hl7_2] at c29b0y))
            clear c29;have H' := Aside0.mk H;clear H
            go_wp2
            (try simp only [← hl7_1, ← hl7_2])
            go_roundg k2
            case measure => have := HK1.out; have := HK2.out; omega
            case rel => exact ⟨(x7_2), (x8_2), (wrap64 (x9_1 + 1)), (by first | rfl | (simp; done) | (simp [*]; done)), H', ⟨by have := HK1.out; have := HK2.out; omega⟩, ⟨by (try simp only [hl7_1]); (try simp only [hl7_2]); (with_reducible repeat (first | apply Kd.R_alloc | apply Kd.R_drewN | apply Kd.R_drew)); exact Kd.R_mono HO_7.out (fun _ hk => hk.1)⟩, ⟨by (try simp only [hl7_1]); (try simp only [hl7_2]); (with_reducible repeat (first | apply Kd.R_alloc | apply Kd.R_drewN | apply Kd.R_drew)); exact Kd.R_mono HO_8.out (fun _ hk => hk.1)⟩, ⟨by (try simp only [hl7_1]); (try simp only [hl7_2]); exact blc⟩, ⟨bel HB⟩⟩
        ·rw [if_neg c23] at H
         exact absurd H (by simp)
       ·rw [if_neg c22] at H
        have c22b0 : decide (x9_1 < (x8_1.length : Int)) = false := decide_eq_false c22
        (try (have c22b0y := c22b0; first | rw [hl7_1] at c22b0y))
        clear c22;obtain rfl := Option.some.inj H;obtain ⟨Ao51, co51, eo51⟩ := Kd.R_slice HO_8.out;subst eo51
        go_wp2
        go_ret
        exact ⟨_, by first | rfl | (simp [errW_none, errW_some] <;> rfl) | (simp [*, errW_none, errW_some] <;> rfl), by (with_reducible repeat (first | apply Kd.R_alloc | apply Kd.R_drewN | apply Kd.R_drew)); exact Kd.R_mono HO_7.out (fun _ hk => trivial), bel HB⟩
    ·rw [if_neg c9] at H
     exact absurd H (by simp)
   ·replace c8 := Bool.eq_false_iff.mpr c8
    subst c8
    have H1 : (some t105) = some r := by rw [if_neg (show ¬ (false = true) by decide)] at H; exact H
    clear H;have H := H1;clear H1;obtain rfl := Option.some.inj H
    go_enter Tryd.func57, Tryd.ntmps57
    go_wp2_with (first | ((with_reducible refine gate_dst (N := 3) rfl ?_); refine boxE (N := 3) (cs := #[.int .i64 a0_0, .int .i64 a0_1, .slice A0_2 l0_2.length c0_2]) (t := 41) ?_; intro gb101 hg w52 hbox hb; have n0_ := Aside0.mk (below_step (bel HB) hb); have n1_ := Aside0.mk (hbox); have n2_ := Aside0.mk (gsz hg (bel HB)); have n3_ := Aside0.mk (gsz hg (bel HB)); clear HB; have HB := n0_; have BK101 := n1_; have GW101 := n2_; have GE101 := n3_; clear n0_ n1_ n2_ n3_; clear hb hbox hg) | ((with_reducible refine gate_dst (N := 12) rfl ?_); refine R_litG (Kd.int .i64) _ 3 ?hg (N := 12) ?hd (xs := ([(-1)] : List Int)) (inner := [.int .i64 (-1)]) (ok := fun _ => True) (okp := fun _ => True) ?hr ?hp (fun _ hk => hk) trivial (Below.refl _ _) (Nat.le_refl _) (by simp) ?_; (case hd => rfl); (case hg => first | rfl | decide | (simp [Region.wanted, yielded]; done) | (go_simp; done)); (case hr => first | (go_simp; done) | (go_simp; rfl)); (case hp => exact (Reps.one (show Kd.M (Kd.int .i64) _ _ _ (-1) [.int .i64 (-1)] from rfl) (Reps.none _ _))); intro v103 w53 ho54 hb hg_ hnew_; clear hg_ hnew_; (first | rw [← Ny102.out] at ho54 | (simp only [Int.reduceToNat] at ho54; rw [← Ny102.out] at ho54)); have n0_ := Aside0.mk (Kd.R_lower ho54 (below_size (bel HB))); have n1_ := Aside0.mk (blk_below (g := gb101) (o := .cells #[.int .i64 a0_0, .int .i64 a0_1, .slice A0_2 l0_2.length c0_2] 41 (0, 0)) blc hb); have n2_ := Aside0.mk (below_step (bel HB) hb); clear BK101; clear HB; have HO104 := n0_; have BK101 := n1_; have HB := n2_; clear n0_ n1_ n2_; clear hb ho54; have hcz55_0 : w53.cell? ⟨gb101, 0, none⟩ = some (.int .i64 a0_0) := (blk_cell BK101.out 0).trans rfl; have hcz55_1 : w53.cell? ⟨gb101, 1, none⟩ = some (.int .i64 a0_1) := (blk_cell BK101.out 1).trans rfl; have hcz55_2 : w53.cell? ⟨gb101, 2, none⟩ = some (.slice A0_2 l0_2.length c0_2) := (blk_cell BK101.out 2).trans rfl; have hfz55_0 := blk_frozen BK101.out 0; have hfz55_1 := blk_frozen BK101.out 1; have hfz55_2 := blk_frozen BK101.out 2; obtain ⟨Ao56, co56, eo56⟩ := Kd.R_slice HO104.out; subst eo56) | ((first | (with_reducible refine gate_callee (f := 76) rfl ?_) | (with_reducible refine gate_dst (N := 16) rfl ?_)); (first | refine gcall (some 16) Tryd.func76 #[.slice Ao56 y102.length co56, .int .i64 (l0_2.length : Int)] rfl ?_ | refine goesV_ (some 16) rfl rfl Tryd.func76 (by kernel_rfl) rfl #[.slice Ao56 y102.length co56, .int .i64 (l0_2.length : Int)] rfl (by (try simp only [List.map_toArray, List.map_cons, List.map_nil]); first | done | rfl | (simp only [List.length_drop, List.length_take]; rfl)) ?_); (with_reducible refine (slices_Repeat_int.calls _ _ y102 (l0_2.length : Int) t105 _ ?side1 ?side2 A4.out).mono ?_); (case side1 => repeat (first | exact (Kd.R_reads' HO104.out).2.2 | (with_reducible refine Kd.C_alloc ?_ _) | (with_reducible refine Kd.C_drewN ?_ _) | (with_reducible refine Kd.C_drew ?_))); (case side2 => exact (Kd.R_reads' HO104.out).2.1); rintro e w57 ⟨v106, rfl, ho0, hb⟩; refine ⟨_, rfl, ?_⟩; have n0_ := Aside0.mk (Kd.R_elder' (rch HO104) (Kd.R_base ho0) hb); have n1_ := Aside0.mk (Kd.R_lower (Kd.R_new' ho0 (Kd.R_lt (rch HO104))) (below_size (bel HB))); have n2_ := Aside0.mk (blk_below (g := gb101) (o := .cells #[.int .i64 a0_0, .int .i64 a0_1, .slice A0_2 l0_2.length c0_2] 41 (0, 0)) blc hb); have n3_ := Aside0.mk (below_step (bel HB) hb); clear HO104; clear BK101; clear HB; have HO104 := n0_; have HO107 := n1_; have BK101 := n2_; have HB := n3_; clear n0_ n1_ n2_ n3_; (try clear hb); (try clear hb2); (try clear hk); (try clear hi); (try clear ho0); have hcz58_0 : w57.cell? ⟨gb101, 0, none⟩ = some (.int .i64 a0_0) := (blk_cell BK101.out 0).trans rfl; have hcz58_1 : w57.cell? ⟨gb101, 1, none⟩ = some (.int .i64 a0_1) := (blk_cell BK101.out 1).trans rfl; have hcz58_2 : w57.cell? ⟨gb101, 2, none⟩ = some (.slice A0_2 l0_2.length c0_2) := (blk_cell BK101.out 2).trans rfl; have hfz58_0 := blk_frozen BK101.out 0; have hfz58_1 := blk_frozen BK101.out 1; have hfz58_2 := blk_frozen BK101.out 2; have p108 : 0 ≤ (a1 : Int) := of_decide_eq_true (by first | (with_reducible assumption) | assumption); have q108 : a1 < (l0_2.length : Int) := of_decide_eq_true (by first | (with_reducible assumption) | assumption); obtain ⟨ad108, e108, hx108_0⟩ := Kd.at_int HR0_2.out a1 p108 q108; cases e108; replace hx108_0 := (HB.out.cell (World.block_lt_of_cell? w _ hx108_0)).trans hx108_0; replace p108 := eq_true p108; replace q108 := eq_true q108) | ((first | (with_reducible refine gate_callee (f := 35) rfl ?_) | (with_reducible refine gate_dst (N := 23) rfl ?_)); (first | refine gcall (some 23) Tryd.func35 #[.int .u8 (rd l0_2 a1)] rfl ?_ | refine goesV_ (some 23) rfl rfl Tryd.func35 (by kernel_rfl) rfl #[.int .u8 (rd l0_2 a1)] rfl (by (try simp only [List.map_toArray, List.map_cons, List.map_nil]); first | done | rfl | (simp only [List.length_drop, List.length_take]; rfl)) ?_); (with_reducible refine (impl_isBall.calls (rd l0_2 a1) false _ A7.out).mono ?_); rintro e w' ⟨rfl, ⟨nd, rfl⟩⟩; refine ⟨_, rfl, ?_⟩))
    go_ret
    exact ⟨_, by first | rfl | (simp [errW_none, errW_some] <;> rfl) | (simp [*, errW_none, errW_some] <;> rfl), by (with_reducible repeat (first | apply Kd.R_alloc | apply Kd.R_drewN | apply Kd.R_drew)); exact Kd.R_mono HO107.out (fun _ hk => trivial), bel HB⟩
  ·rw [if_neg c6] at H
   exact absurd H (by simp)
 ·rw [if_neg c5] at H
  exact absurd H (by simp)
mutual
def impl_tray_parts_isBall.l0 : Nat → Unit → List (List Int) → Int → Int → Int → Int → List Int → Option ((List (List Int)))
 | 0, _, _, _, _, _, _, _ => none
 | k + 1, x1, x5, x13, x14, x102000, x102001, x102002 => if x14 < x13 then ((impl_tray_distances_isBall.f k x102000 x102001 x102002 x14 x1).bind fun t108 => (impl_tray_parts_isBall.l1 k x1 x5 x14 (([] : List Int)) x13 x14 t108 (t108.length : Int) 0 x102000 x102001 x102002)) else (some x5)
def impl_tray_parts_isBall.l1 : Nat → Unit → List (List Int) → Int → List Int → Int → Int → List Int → Int → Int → Int → Int → List Int → Option ((List (List Int)))
 | 0, _, _, _, _, _, _, _, _, _, _, _, _ => none
 | k + 1, x1, x5, x6, x7, x13, x14, x21, x22, x23, x102000, x102001, x102002 => if x23 < x22 then (if 0 ≤ x23 then (if x23 < (x21.length : Int) then (if (rd x21 x23) ≥ 0 then (if x7.length < 17592186044416 then (impl_tray_parts_isBall.l1 k x1 x5 x6 (x7 ++ [x23]) x13 x14 x21 x22 (wrap64 (x23 + 1)) x102000 x102001 x102002) else (none)) else (impl_tray_parts_isBall.l1 k x1 x5 x6 x7 x13 x14 x21 x22 (wrap64 (x23 + 1)) x102000 x102001 x102002)) else (none)) else (none)) else (if (x7.length : Int) > 0 then (if 0 < (x7.length : Int) then (if (rd x7 0) = x6 then (if x5.length < 5864062014805 then (impl_tray_parts_isBall.l0 k x1 (x5 ++ [x7]) x13 (wrap64 (x14 + 1)) x102000 x102001 x102002) else (none)) else (impl_tray_parts_isBall.l0 k x1 x5 x13 (wrap64 (x14 + 1)) x102000 x102001 x102002)) else (none)) else (impl_tray_parts_isBall.l0 k x1 x5 x13 (wrap64 (x14 + 1)) x102000 x102001 x102002))
end
def impl_tray_parts_isBall.f (k : Nat) (a0_0 : Int) (a0_1 : Int) (l0_2 : List Int) (a1 : Unit) : Option ((List (List Int))) := impl_tray_parts_isBall.l0 k a1 (([] : List (List Int))) (l0_2.length : Int) 0 a0_0 a0_1 l0_2
set_option maxHeartbeats 8000000 in
set_option maxRecDepth 100000 in
theorem impl_tray_parts_isBall.calls (k : Nat) (a0_0 : Int) (a0_1 : Int) (A0_2 : Option Addr) (c0_2 : Nat) (l0_2 : List Int) (a1 : Unit) (r : List (List Int)) (w : World) (hr0_2 : Kd.C (Kd.int .u8) w A0_2 l0_2.length l0_2) (hc0_2 : l0_2.length ≤ c0_2) (h : impl_tray_parts_isBall.f k a0_0 a0_1 l0_2 a1 = some r) :
  Calls Tryd.prog 34 #[.agg #[.int .i64 a0_0, .int .i64 a0_1, .slice A0_2 l0_2.length c0_2], .func (.func 35) #[] #[]] w fun e w' => ∃ v0_ : Value, e = .returned (v0_) ∧ Kd.S (Kd.slice 3 (Kd.int .i64)) 33 w' w.heap.size (fun _ => True) v0_ r ∧ Below w.heap.size w w' := by
 have hu41 := Tryd.underlying41;have HR0_2 := Aside0.mk hr0_2;have HC0_2 := Aside0.mk hc0_2;clear hr0_2 hc0_2;have HB := Aside0.mk (Below.refl w.heap.size w);have H : (impl_tray_parts_isBall.l0 k a1 (([] : List (List Int))) (l0_2.length : Int) 0 a0_0 a0_1 l0_2) = some r := h;clear h;obtain ⟨y102, hy102⟩ : ∃ y_ : List (List Int), y_ = (([] : List (List Int))) := ⟨_, rfl⟩;replace H : (impl_tray_parts_isBall.l0 k a1 y102 (l0_2.length : Int) 0 a0_0 a0_1 l0_2) = some r := rH hy102 H;have Ny102 := Aside0.mk hy102;clear hy102;have H' := Aside0.mk H;clear H
 go_enter Tryd.func34, Tryd.ntmps34
 go_wp2_with (first | ((with_reducible refine gate_dst (N := 2) rfl ?_); refine boxE (N := 2) (cs := #[.int .i64 a0_0, .int .i64 a0_1, .slice A0_2 l0_2.length c0_2]) (t := 41) ?_; intro gb101 hg w3 hbox hb; have n0_ := Aside0.mk (below_step (bel HB) hb); have n1_ := Aside0.mk (hbox); have n2_ := Aside0.mk (gsz hg (bel HB)); have n3_ := Aside0.mk (gsz hg (bel HB)); clear HB; have HB := n0_; have BK101 := n1_; have GW101 := n2_; have GE101 := n3_; clear n0_ n1_ n2_ n3_; clear hb hbox hg) | ((with_reducible refine gate_dst (N := 10) rfl ?_); refine Kd.S_lit (Kd.slice 3 (Kd.int .i64)) _ 33 ?hg (N := 10) ?hd (xs := ([] : List (List Int))) (inner := []) (ok := fun _ => True) (okp := fun _ => True) ?hr ?hp (fun _ hk => hk) trivial (Below.refl _ _) (Nat.le_refl _) (by simp) ?_; (case hd => rfl); (case hg => rfl); (case hr => first | (go_simp; done) | (go_simp; rfl)); (case hp => exact (Reps.none _ _)); intro v103 w4 ho5 hb hg_ hnew_; clear hg_ hnew_; (first | rw [← Ny102.out] at ho5 | (simp only [Int.reduceToNat] at ho5; rw [← Ny102.out] at ho5)); have n0_ := Aside0.mk (Kd.S_lower ho5 (below_size (bel HB))); have n1_ := Aside0.mk (blk_below (g := gb101) (o := .cells #[.int .i64 a0_0, .int .i64 a0_1, .slice A0_2 l0_2.length c0_2] 41 (0, 0)) blc hb); have n2_ := Aside0.mk (below_step (bel HB) hb); clear BK101; clear HB; have HO104 := n0_; have BK101 := n1_; have HB := n2_; clear n0_ n1_ n2_; clear hb ho5; have hcz6_0 : w4.cell? ⟨gb101, 0, none⟩ = some (.int .i64 a0_0) := (blk_cell BK101.out 0).trans rfl; have hcz6_1 : w4.cell? ⟨gb101, 1, none⟩ = some (.int .i64 a0_1) := (blk_cell BK101.out 1).trans rfl; have hcz6_2 : w4.cell? ⟨gb101, 2, none⟩ = some (.slice A0_2 l0_2.length c0_2) := (blk_cell BK101.out 2).trans rfl; have hfz6_0 := blk_frozen BK101.out 0; have hfz6_1 := blk_frozen BK101.out 1; have hfz6_2 := blk_frozen BK101.out 2))
 go_loopg [5, 14] k (fun kq v5 v14 w' => ∃ (x5_1 : List (List Int)) (x14_1 : Int), v14 = .int .i64 x14_1 ∧ Aside0 (impl_tray_parts_isBall.l0 kq a1 x5_1 (l0_2.length : Int) x14_1 a0_0 a0_1 l0_2 = some r) ∧ Aside0 (kq ≤ k) ∧ Aside0 (Kd.S (Kd.slice 3 (Kd.int .i64)) 33 w' w.heap.size (fun _ => True) v5 x5_1) ∧ Aside0 (w'.heap[gb101]? = some (.cells #[.int .i64 a0_0, .int .i64 a0_1, (.slice A0_2 l0_2.length c0_2)] 41 (0, 0))) ∧ Aside0 (Below w.heap.size w w'))
 case atStart => exact ⟨(y102), (0), (by first | rfl | (simp; done) | (simp [*]; done)), H', ⟨Nat.le_refl _⟩, ⟨by (with_reducible repeat (first | apply Kd.S_alloc | apply Kd.S_drewN | apply Kd.S_drew)); (first | exact HO104.out | exact R_any HO104.out)⟩, ⟨blc⟩, ⟨bel HB⟩⟩
 case round =>
  clear H'
  try clear p2
  try clear c3
  try clear hcz6_0
  try clear hcz6_1
  try clear hcz6_2
  try clear hfz6_0
  try clear hfz6_1
  try clear hfz6_2
  obtain ⟨x5_1, x14_1, rfl, HA, HK1, HO_5, BK101, HB⟩ := hrel
  cases gk with
  | zero => exact absurd HA.out (by simp [impl_tray_parts_isBall.l0])
  | succ k1 =>
   have H := HA.out;clear HA
   simp only [impl_tray_parts_isBall.l0] at H
   by_cases c7 : x14_1 < (l0_2.length : Int)
   ·rw [if_pos c7] at H
    have c7b0 : decide (x14_1 < (l0_2.length : Int)) = true := decide_eq_true c7;clear c7;obtain ⟨y105, hy105⟩ : ∃ y_ : List Int, y_ = (([] : List Int)) := ⟨_, rfl⟩;replace H : ((impl_tray_distances_isBall.f k1 a0_0 a0_1 l0_2 x14_1 a1).bind fun t108 => (impl_tray_parts_isBall.l1 k1 a1 x5_1 x14_1 y105 (l0_2.length : Int) x14_1 t108 (t108.length : Int) 0 a0_0 a0_1 l0_2)) = some r := rH hy105 H;have Ny105 := Aside0.mk hy105;clear hy105;replace H := Option.bind_eq_some_iff.mp H;obtain ⟨t108, A80, H⟩ := H;replace H : (impl_tray_parts_isBall.l1 k1 a1 x5_1 x14_1 y105 (l0_2.length : Int) x14_1 t108 (t108.length : Int) 0 a0_0 a0_1 l0_2) = some r := H;have A8 := Aside0.mk A80;clear A80;have H' := Aside0.mk H;clear H
    go_wp2_with (first | ((with_reducible refine gate_dst (N := 17) rfl ?_); refine R_litG (Kd.int .i64) _ 3 ?hg (N := 17) ?hd (xs := ([] : List Int)) (inner := []) (ok := fun _ => True) (okp := fun _ => True) ?hr ?hp (fun _ hk => hk) trivial (Below.refl _ _) (Nat.le_refl _) (by simp) ?_; (case hd => rfl); (case hg => first | rfl | decide | (simp [Region.wanted, yielded]; done) | (go_simp; done)); (case hr => first | (go_simp; done) | (go_simp; rfl)); (case hp => exact (Reps.none _ _)); intro v106 w9 ho10 hb hg_ hnew_; clear hg_ hnew_; (first | rw [← Ny105.out] at ho10 | (simp only [Int.reduceToNat] at ho10; rw [← Ny105.out] at ho10)); have n0_ := Aside0.mk (Kd.S_elder' (by (with_reducible repeat (first | apply Kd.S_alloc | apply Kd.S_drewN | apply Kd.S_drew)); (first | exact HO_5.out | exact R_any HO_5.out)) (Kd.R_base ho10) hb); have n1_ := Aside0.mk (Kd.R_lower ho10 (below_size (bel HB))); have n2_ := Aside0.mk (blk_below (g := gb101) (o := .cells #[.int .i64 a0_0, .int .i64 a0_1, .slice A0_2 l0_2.length c0_2] 41 (0, 0)) blc hb); have n3_ := Aside0.mk (below_step (bel HB) hb); clear HO_5; clear BK101; clear HB; have HO_5 := n0_; have HO107 := n1_; have BK101 := n2_; have HB := n3_; clear n0_ n1_ n2_ n3_; clear hb ho10; have hcz11_0 : w9.cell? ⟨gb101, 0, none⟩ = some (.int .i64 a0_0) := (blk_cell BK101.out 0).trans rfl; have hcz11_1 : w9.cell? ⟨gb101, 1, none⟩ = some (.int .i64 a0_1) := (blk_cell BK101.out 1).trans rfl; have hcz11_2 : w9.cell? ⟨gb101, 2, none⟩ = some (.slice A0_2 l0_2.length c0_2) := (blk_cell BK101.out 2).trans rfl; have hfz11_0 := blk_frozen BK101.out 0; have hfz11_1 := blk_frozen BK101.out 1; have hfz11_2 := blk_frozen BK101.out 2) | ((first | (with_reducible refine gate_callee (f := 57) rfl ?_) | (with_reducible refine gate_dst (N := 21) rfl ?_)); (first | refine gcall (some 21) Tryd.func57 #[.agg #[.int .i64 a0_0, .int .i64 a0_1, .slice A0_2 l0_2.length c0_2], .int .i64 x14_1, .func (.func 35) #[] #[]] rfl ?_ | refine goesV_ (some 21) rfl rfl Tryd.func57 (by kernel_rfl) rfl #[.agg #[.int .i64 a0_0, .int .i64 a0_1, .slice A0_2 l0_2.length c0_2], .int .i64 x14_1, .func (.func 35) #[] #[]] rfl (by (try simp only [List.map_toArray, List.map_cons, List.map_nil]); first | done | rfl | (simp only [List.length_drop, List.length_take]; rfl)) ?_); (with_reducible refine (impl_tray_distances_isBall.calls k1 a0_0 a0_1 _ _ l0_2 x14_1 a1 t108 _ ?side1 ?side2 A8.out).mono ?_); (case side1 => repeat (first | exact (Kd.C_below HR0_2.out HB.out) | (with_reducible refine Kd.C_alloc ?_ _) | (with_reducible refine Kd.C_drewN ?_ _) | (with_reducible refine Kd.C_drew ?_))); (case side2 => exact HC0_2.out); rintro e w12 ⟨v109, rfl, ho0, hb⟩; refine ⟨_, rfl, ?_⟩; have n0_ := Aside0.mk (Kd.S_elder' (by (with_reducible repeat (first | apply Kd.S_alloc | apply Kd.S_drewN | apply Kd.S_drew)); (first | exact HO_5.out | exact R_any HO_5.out)) (Kd.R_base ho0) hb); have n1_ := Aside0.mk (Kd.R_elder' (rch HO107) (Kd.R_base ho0) hb); have n2_ := Aside0.mk (Kd.R_lower (Kd.R_new' ho0 (Kd.R_lt (rch HO107))) (below_size (bel HB))); have n3_ := Aside0.mk (blk_below (g := gb101) (o := .cells #[.int .i64 a0_0, .int .i64 a0_1, .slice A0_2 l0_2.length c0_2] 41 (0, 0)) blc hb); have n4_ := Aside0.mk (below_step (bel HB) hb); clear HO_5; clear HO107; clear BK101; clear HB; have HO_5 := n0_; have HO107 := n1_; have HO110 := n2_; have BK101 := n3_; have HB := n4_; clear n0_ n1_ n2_ n3_ n4_; (try clear hb); (try clear hb2); (try clear hk); (try clear hi); (try clear ho0); obtain ⟨Ao13, co13, eo13⟩ := Kd.R_slice HO110.out; subst eo13))
    go_loopg [7, 23] k1 (fun kq v7 v23 w' => ∃ (x7_2 : List Int) (x23_2 : Int), v23 = .int .i64 x23_2 ∧ Aside0 (impl_tray_parts_isBall.l1 kq a1 x5_1 x14_1 x7_2 (l0_2.length : Int) x14_1 t108 (t108.length : Int) x23_2 a0_0 a0_1 l0_2 = some r) ∧ Aside0 (kq ≤ k1) ∧ Aside0 (Kd.S (Kd.slice 3 (Kd.int .i64)) 33 w' w.heap.size (fun k_ => some k_ ≠ (v7 : Value).ownBlock ∧ some k_ ≠ ((.slice Ao13 t108.length co13) : Value).ownBlock) u5 x5_1) ∧ Aside0 (Kd.R (Kd.int .i64) 3 w' w.heap.size (fun k_ => some k_ ≠ ((.slice Ao13 t108.length co13) : Value).ownBlock) v7 x7_2) ∧ Aside0 (Kd.R (Kd.int .i64) 3 w' w.heap.size (fun k_ => some k_ ≠ (v7 : Value).ownBlock) (.slice Ao13 t108.length co13) t108) ∧ Aside0 (w'.heap[gb101]? = some (.cells #[.int .i64 a0_0, .int .i64 a0_1, (.slice A0_2 l0_2.length c0_2)] 41 (0, 0))) ∧ Aside0 (Below w.heap.size w w'))
    case atStart => exact ⟨(y105), (0), (by first | rfl | (simp; done) | (simp [*]; done)), H', ⟨Nat.le_refl _⟩, ⟨by (with_reducible repeat (first | apply Kd.S_alloc | apply Kd.S_drewN | apply Kd.S_drew)); exact Kd.S_mono HO_5.out (fun _ hk => ⟨hk.1.2, hk.2⟩)⟩, ⟨by (with_reducible repeat (first | apply Kd.R_alloc | apply Kd.R_drewN | apply Kd.R_drew)); (first | exact Kd.R_mono HO107.out (fun _ hk => hk.2) | exact HO107.out | exact R_any HO107.out)⟩, ⟨by (with_reducible repeat (first | apply Kd.R_alloc | apply Kd.R_drewN | apply Kd.R_drew)); (first | exact Kd.R_mono HO110.out (fun _ hk => hk.2) | exact HO110.out | exact R_any HO110.out)⟩, ⟨blc⟩, ⟨bel HB⟩⟩
    case round =>
     clear H'
     try clear p2
     try clear c3
     try clear c5
     try clear c7
     try clear c7b0
     try clear c7b0y
     try clear hcz11_0
     try clear hcz11_1
     try clear hcz11_2
     try clear hcz6_0
     try clear hcz6_1
     try clear hcz6_2
     try clear hfz11_0
     try clear hfz11_1
     try clear hfz11_2
     try clear hfz6_0
     try clear hfz6_1
     try clear hfz6_2
     try clear p2
     obtain ⟨x7_2, x23_2, rfl, HA, HK2, HO_5, HO_7, HO_21, BK101, HB⟩ := hrel
     cases gk with
     | zero => exact absurd HA.out (by simp [impl_tray_parts_isBall.l1])
     | succ k2 =>
      have H := HA.out;clear HA
      simp only [impl_tray_parts_isBall.l1] at H
      by_cases c14 : x23_2 < (t108.length : Int)
      ·rw [if_pos c14] at H
       have c14b0 : decide (x23_2 < (t108.length : Int)) = true := decide_eq_true c14;clear c14
       by_cases c15 : 0 ≤ x23_2
       ·rw [if_pos c15] at H
        have c15b0 : decide (0 ≤ x23_2) = true := decide_eq_true c15;clear c15
        by_cases c16 : x23_2 < (t108.length : Int)
        ·rw [if_pos c16] at H
         have c16b0 : decide (x23_2 < (t108.length : Int)) = true := decide_eq_true c16;clear c16
         by_cases c17 : (rd t108 x23_2) ≥ 0
         ·rw [if_pos c17] at H
          have c17b0 : decide (0 ≤ (rd t108 x23_2)) = true := decide_eq_true c17;clear c17
          by_cases c18 : x7_2.length < 17592186044416
          ·rw [if_pos c18] at H
           have LMc18 := Aside0.mk c18;clear c18;obtain ⟨y112, hy112⟩ : ∃ y_ : List Int, y_ = (x7_2 ++ [x23_2]) := ⟨_, rfl⟩;replace H : (impl_tray_parts_isBall.l1 k2 a1 x5_1 x14_1 y112 (l0_2.length : Int) x14_1 t108 (t108.length : Int) (wrap64 (x23_2 + 1)) a0_0 a0_1 l0_2) = some r := rH hy112 H;have Ny112 := Aside0.mk hy112;clear hy112;have H' := Aside0.mk H;clear H;have p111 : 0 ≤ (x23_2 : Int) := of_decide_eq_true (by first | (with_reducible assumption) | assumption);have q111 : x23_2 < (t108.length : Int) := of_decide_eq_true (by first | (with_reducible assumption) | assumption);obtain ⟨ad111, e111, hx111_0⟩ := Kd.at_int (Kd.R_reads' HO_21.out).2.2 x23_2 p111 q111
           cases e111
           replace p111 := eq_true p111;replace q111 := eq_true q111
           go_wp2_with (first | ((with_reducible refine gate_builtin (b := .append) (xs := #[.tmp 30, .tmp 32]) rfl ?_); at_builtin; refine Kd.R_append (Kd.int .i64) (w0 := w) w.heap.size rfl (.tmp 30) (.tmp 32) 33 3 (.int .i64 0) 8 rfl Tryd.underlying33 info3 rfl (by decide) (by omega) u7 x7_2 x23_2 [.int .i64 x23_2] (fun k_ => some k_ ≠ (.slice (some ad111) t108.length co13 : Value).ownBlock) (fun _ => False) rfl rfl ?aP (fun _ hk => hk.elim) ?aF ?aO ?aB ?aS ?aL ?_; (case aP => exact rfl); (case aB => exact (bel HB)); (case aF => exact (fun k_ hk => Kd.fresh' (Kd.R_lt (rch HO_21)) k_ hk)); (case aO => exact (rch HO_7)); (case aS => exact (below_size (bel HB))); (case aL => have := LMc18.out; omega); intro v113 w19 ho hb hg hat; rw [← Ny112.out] at ho; have n0_ := Aside0.mk (Kd.S_after (ok := (fun k_ => some k_ ≠ (.slice (some ad111) t108.length co13 : Value).ownBlock)) (by (with_reducible repeat (first | apply Kd.S_alloc | apply Kd.S_drewN | apply Kd.S_drew)); exact Kd.S_mono HO_5.out (fun _ hk => ⟨hk.2, hk.1⟩)) hg hat); have n1_ := Aside0.mk (Kd.R_after (ok := (fun _ => True)) (by (with_reducible repeat (first | apply Kd.R_alloc | apply Kd.R_drewN | apply Kd.R_drew)); exact Kd.R_mono HO_21.out (fun _ hk => ⟨trivial, hk⟩)) hg hat); have n2_ := Aside0.mk (blk_grown (g := gb101) (o := .cells #[.int .i64 a0_0, .int .i64 a0_1, .slice A0_2 l0_2.length c0_2] 41 (0, 0)) blc hg (Kd.R_ne HO_7.out BK101.out (by decide))); have n3_ := Aside0.mk (hb); have n4_ := Aside0.mk (ho); clear HO_5; clear HO_21; clear BK101; clear HB; clear HO_7; have HO_5 := n0_; have HO_21 := n1_; have BK101 := n2_; have HB := n3_; have HO114 := n4_; clear n0_ n1_ n2_ n3_ n4_; clear ho hb hg hat))
           go_roundg k2
           case measure => have := HK1.out; have := HK2.out; omega
           case rel => exact ⟨(y112), (wrap64 (x23_2 + 1)), (by first | rfl | (simp; done) | (simp [*]; done)), H', ⟨by have := HK1.out; have := HK2.out; omega⟩, ⟨by (with_reducible repeat (first | apply Kd.S_alloc | apply Kd.S_drewN | apply Kd.S_drew)); exact Kd.S_mono HO_5.out (fun _ hk => ⟨hk.2, hk.1⟩)⟩, ⟨rch HO114⟩, ⟨by (with_reducible repeat (first | apply Kd.R_alloc | apply Kd.R_drewN | apply Kd.R_drew)); (first | exact Kd.R_mono HO_21.out (fun _ hk => hk.2) | exact HO_21.out | exact R_any HO_21.out)⟩, ⟨blc⟩, ⟨bel HB⟩⟩
          ·rw [if_neg c18] at H
           exact absurd H (by simp)
         ·rw [if_neg c17] at H
          have c17b0 : decide (0 ≤ (rd t108 x23_2)) = false := decide_eq_false c17;clear c17;have H' := Aside0.mk H;clear H;have p111 : 0 ≤ (x23_2 : Int) := of_decide_eq_true (by first | (with_reducible assumption) | assumption);have q111 : x23_2 < (t108.length : Int) := of_decide_eq_true (by first | (with_reducible assumption) | assumption);obtain ⟨ad111, e111, hx111_0⟩ := Kd.at_int (Kd.R_reads' HO_21.out).2.2 x23_2 p111 q111
          cases e111
          replace p111 := eq_true p111;replace q111 := eq_true q111
          go_wp2
          go_roundg k2
          case measure => have := HK1.out; have := HK2.out; omega
          case rel => exact ⟨(x7_2), (wrap64 (x23_2 + 1)), (by first | rfl | (simp; done) | (simp [*]; done)), H', ⟨by have := HK1.out; have := HK2.out; omega⟩, ⟨by (with_reducible repeat (first | apply Kd.S_alloc | apply Kd.S_drewN | apply Kd.S_drew)); (first | exact HO_5.out | exact R_any HO_5.out)⟩, ⟨rch HO_7⟩, ⟨rch HO_21⟩, ⟨blc⟩, ⟨bel HB⟩⟩
        ·rw [if_neg c16] at H
         exact absurd H (by simp)
       ·rw [if_neg c15] at H
        exact absurd H (by simp)
      ·rw [if_neg c14] at H
       have c14b0 : decide (x23_2 < (t108.length : Int)) = false := decide_eq_false c14;clear c14
       by_cases c20 : (x7_2.length : Int) > 0
       ·rw [if_pos c20] at H
        have c20b0 : decide (0 < (x7_2.length : Int)) = true := decide_eq_true c20;have c20b1 : decide (0 < x7_2.length) = true := decide_eq_true (by omega);clear c20
        by_cases c21 : 0 < (x7_2.length : Int)
        ·rw [if_pos c21] at H
         have c21b0 : decide (0 < (x7_2.length : Int)) = true := decide_eq_true c21;have c21b1 : decide (0 < x7_2.length) = true := decide_eq_true (by omega);clear c21
         by_cases c22 : (rd x7_2 0) = x14_1
         ·rw [if_pos c22] at H
          have c22b0 : ((rd x7_2 0) == x14_1) = true := beq_iff_eq.mpr c22;have c22b1 : ((rd x7_2 0) != x14_1) = false := bne_eq_false_iff_eq.mpr c22;clear c22
          by_cases c23 : x5_1.length < 5864062014805
          ·rw [if_pos c23] at H
           have LMc23 := Aside0.mk c23;clear c23;obtain ⟨y116, hy116⟩ : ∃ y_ : List (List Int), y_ = (x5_1 ++ [x7_2]) := ⟨_, rfl⟩;replace H : (impl_tray_parts_isBall.l0 k2 a1 y116 (l0_2.length : Int) (wrap64 (x14_1 + 1)) a0_0 a0_1 l0_2) = some r := rH hy116 H;have Ny116 := Aside0.mk hy116;clear hy116;have H' := Aside0.mk H;clear H;obtain ⟨Ao24, co24, eo24⟩ := Kd.R_slice HO_7.out;subst eo24;have p115 : 0 ≤ (0 : Int) := (by omega);have q115 : 0 < (x7_2.length : Int) := of_decide_eq_true (by first | (with_reducible assumption) | assumption);obtain ⟨ad115, e115, hx115_0⟩ := Kd.at_int (Kd.R_reads' HO_7.out).2.2 0 p115 q115
           cases e115
           have qi115 : (0 < x7_2.length) = True := eq_true (by omega)
           (try rw [show ((0 : Int)).toNat = 0 from rfl] at hx115_0)
           (try rw [Addr.add_zero'] at hx115_0)
           replace p115 := eq_true p115;replace q115 := eq_true q115
           go_wp2_with (first | ((with_reducible refine gate_builtin (b := .append) (xs := #[.tmp 45, .tmp 47]) rfl ?_); at_builtin; refine Kd.S_append (Kd.slice 3 (Kd.int .i64)) (w0 := w) w.heap.size rfl (.tmp 45) (.tmp 47) 37 33 (.slice none 0 0) 24 rfl Tryd.underlying37 info33 rfl (by decide) (by omega) u5 x5_1 x7_2 [.slice (some ad115) x7_2.length co24] (fun k_ => some k_ ≠ (.slice Ao13 t108.length co13 : Value).ownBlock) (fun k_ => some k_ = (.slice (some ad115) x7_2.length co24 : Value).ownBlock) rfl rfl ?aP (fun k_ hk_ => ((Kd.R_mono (ok' := fun k_ => ((fun k_ => some k_ ≠ (.slice Ao13 t108.length co13 : Value).ownBlock)) k_ ∧ some k_ ≠ (u5 : Value).ownBlock) (Kd.R_apart' (HO_7.out) (Kd.S_typed HO_5.out) (by decide)) (fun k_ hk => ⟨hk.1, hk.2⟩))).1 k_ hk_.symm) ?aF ?aO ?aB ?aS ?aL ?_; (case aP => exact Kd.M_row (Kd.R_mono (Kd.R_tight rfl (Kd.R_mono (ok' := fun k_ => ((fun k_ => some k_ ≠ (.slice Ao13 t108.length co13 : Value).ownBlock)) k_ ∧ some k_ ≠ (u5 : Value).ownBlock) (Kd.R_apart' (HO_7.out) (Kd.S_typed HO_5.out) (by decide)) (fun k_ hk => ⟨hk.1, hk.2⟩))) (fun _ h_ => h_))); (case aB => exact (bel HB)); (case aF => exact (fun k_ hk => Kd.fresh' (Kd.R_lt (rch HO_21)) k_ hk)); (case aO => exact (by (with_reducible repeat (first | apply Kd.S_alloc | apply Kd.S_drewN | apply Kd.S_drew)); exact Kd.S_mono HO_5.out (fun k_ hk => ⟨hk.2, fun e_ => hk.1 e_⟩))); (case aS => exact (below_size (bel HB))); (case aL => have := LMc23.out; omega); intro v117 w25 ho hb hg hat; rw [← Ny116.out] at ho; have n0_ := Aside0.mk (Kd.R_over' (rch HO_21) (Kd.S_typed (by (with_reducible repeat (first | apply Kd.S_alloc | apply Kd.S_drewN | apply Kd.S_drew)); (first | exact HO_5.out | exact R_any HO_5.out))) (by decide) hg); have n1_ := Aside0.mk (blk_grown (g := gb101) (o := .cells #[.int .i64 a0_0, .int .i64 a0_1, .slice A0_2 l0_2.length c0_2] 41 (0, 0)) blc hg (Kd.S_ne HO_5.out BK101.out (by decide))); have n2_ := Aside0.mk (hb); have n3_ := Aside0.mk (ho); clear HO_21; clear BK101; clear HB; clear HO_5; clear HO_7; have HO_21 := n0_; have BK101 := n1_; have HB := n2_; have HO118 := n3_; clear n0_ n1_ n2_ n3_; clear ho hb hg hat))
           go_roundg k2
           case measure => have := HK1.out; have := HK2.out; omega
           case rel => exact ⟨(y116), (wrap64 (x14_1 + 1)), (by first | rfl | (simp; done) | (simp [*]; done)), H', ⟨by have := HK1.out; have := HK2.out; omega⟩, ⟨by (with_reducible repeat (first | apply Kd.S_alloc | apply Kd.S_drewN | apply Kd.S_drew)); exact Kd.S_mono HO118.out (fun _ hk => trivial)⟩, ⟨blc⟩, ⟨bel HB⟩⟩
          ·rw [if_neg c23] at H
           exact absurd H (by simp)
         ·rw [if_neg c22] at H
          have c22b0 : ((rd x7_2 0) == x14_1) = false := beq_eq_false_iff_ne.mpr c22;have c22b1 : ((rd x7_2 0) != x14_1) = true := bne_iff_ne.mpr c22;have H' := Aside0.mk H;clear H;obtain ⟨Ao26, co26, eo26⟩ := Kd.R_slice HO_7.out;subst eo26;have p115 : 0 ≤ (0 : Int) := (by omega);have q115 : 0 < (x7_2.length : Int) := of_decide_eq_true (by first | (with_reducible assumption) | assumption);obtain ⟨ad115, e115, hx115_0⟩ := Kd.at_int (Kd.R_reads' HO_7.out).2.2 0 p115 q115
          cases e115
          have qi115 : (0 < x7_2.length) = True := eq_true (by omega)
          (try rw [show ((0 : Int)).toNat = 0 from rfl] at hx115_0)
          (try rw [Addr.add_zero'] at hx115_0)
          replace p115 := eq_true p115;replace q115 := eq_true q115
          go_wp2
          go_roundg k2
          case measure => have := HK1.out; have := HK2.out; omega
          case rel => exact ⟨(x5_1), (wrap64 (x14_1 + 1)), (by first | rfl | (simp; done) | (simp [*]; done)), H', ⟨by have := HK1.out; have := HK2.out; omega⟩, ⟨by (with_reducible repeat (first | apply Kd.S_alloc | apply Kd.S_drewN | apply Kd.S_drew)); exact Kd.S_mono HO_5.out (fun _ hk => trivial)⟩, ⟨blc⟩, ⟨bel HB⟩⟩
        ·rw [if_neg c21] at H
         exact absurd H (by simp)
       ·rw [if_neg c20] at H
        have c20b0 : decide (0 < (x7_2.length : Int)) = false := decide_eq_false c20;have c20b1 : decide (0 < x7_2.length) = false := decide_eq_false (by omega);clear c20;have H' := Aside0.mk H;clear H;obtain ⟨Ao27, co27, eo27⟩ := Kd.R_slice HO_7.out;subst eo27
        go_wp2
        go_roundg k2
        case measure => have := HK1.out; have := HK2.out; omega
        case rel => exact ⟨(x5_1), (wrap64 (x14_1 + 1)), (by first | rfl | (simp; done) | (simp [*]; done)), H', ⟨by have := HK1.out; have := HK2.out; omega⟩, ⟨by (with_reducible repeat (first | apply Kd.S_alloc | apply Kd.S_drewN | apply Kd.S_drew)); exact Kd.S_mono HO_5.out (fun _ hk => trivial)⟩, ⟨blc⟩, ⟨bel HB⟩⟩
   ·rw [if_neg c7] at H
    have c7b0 : decide (x14_1 < (l0_2.length : Int)) = false := decide_eq_false c7;clear c7;obtain rfl := Option.some.inj H
    go_wp2
    go_ret
    exact ⟨_, by first | rfl | (simp [errW_none, errW_some] <;> rfl) | (simp [*, errW_none, errW_some] <;> rfl), by (with_reducible repeat (first | apply Kd.S_alloc | apply Kd.S_drewN | apply Kd.S_drew)); (first | exact HO_5.out | exact R_any HO_5.out), bel HB⟩
def impl_tray_pieces.f (k : Nat) (a0_0 : Int) (a0_1 : Int) (l0_2 : List Int) : Option ((List (List Int))) := (impl_tray_parts_isBall.f k a0_0 a0_1 l0_2 ()).bind fun t102 => (some t102)
set_option maxHeartbeats 8000000 in
set_option maxRecDepth 100000 in
theorem impl_tray_pieces.calls (k : Nat) (a0_0 : Int) (a0_1 : Int) (A0_2 : Option Addr) (c0_2 : Nat) (l0_2 : List Int) (r : List (List Int)) (w : World) (hr0_2 : Kd.C (Kd.int .u8) w A0_2 l0_2.length l0_2) (hc0_2 : l0_2.length ≤ c0_2) (h : impl_tray_pieces.f k a0_0 a0_1 l0_2 = some r) :
  Calls Tryd.prog 19 #[.agg #[.int .i64 a0_0, .int .i64 a0_1, .slice A0_2 l0_2.length c0_2]] w fun e w' => ∃ v0_ : Value, e = .returned (v0_) ∧ Kd.S (Kd.slice 3 (Kd.int .i64)) 33 w' w.heap.size (fun _ => True) v0_ r ∧ Below w.heap.size w w' := by
 have hu41 := Tryd.underlying41;have HR0_2 := Aside0.mk hr0_2;have HC0_2 := Aside0.mk hc0_2;clear hr0_2 hc0_2;have HB := Aside0.mk (Below.refl w.heap.size w);have H : ((impl_tray_parts_isBall.f k a0_0 a0_1 l0_2 ()).bind fun t102 => (some t102)) = some r := h;clear h;replace H := Option.bind_eq_some_iff.mp H;obtain ⟨t102, A20, H⟩ := H;replace H : (some t102) = some r := H;have A2 := Aside0.mk A20;clear A20;obtain rfl := Option.some.inj H
 go_enter Tryd.func19, Tryd.ntmps19
 go_wp2_with (first | ((with_reducible refine gate_dst (N := 1) rfl ?_); refine boxE (N := 1) (cs := #[.int .i64 a0_0, .int .i64 a0_1, .slice A0_2 l0_2.length c0_2]) (t := 41) ?_; intro gb101 hg w3 hbox hb; have n0_ := Aside0.mk (below_step (bel HB) hb); have n1_ := Aside0.mk (hbox); have n2_ := Aside0.mk (gsz hg (bel HB)); have n3_ := Aside0.mk (gsz hg (bel HB)); clear HB; have HB := n0_; have BK101 := n1_; have GW101 := n2_; have GE101 := n3_; clear n0_ n1_ n2_ n3_; clear hb hbox hg; have hcz4_0 : w3.cell? ⟨gb101, 0, none⟩ = some (.int .i64 a0_0) := (blk_cell BK101.out 0).trans rfl; have hcz4_1 : w3.cell? ⟨gb101, 1, none⟩ = some (.int .i64 a0_1) := (blk_cell BK101.out 1).trans rfl; have hcz4_2 : w3.cell? ⟨gb101, 2, none⟩ = some (.slice A0_2 l0_2.length c0_2) := (blk_cell BK101.out 2).trans rfl; have hfz4_0 := blk_frozen BK101.out 0; have hfz4_1 := blk_frozen BK101.out 1; have hfz4_2 := blk_frozen BK101.out 2) | ((with_reducible refine gate_callee (f := 34) rfl ?_); refine gcall (some 4) Tryd.func34 #[.agg #[.int .i64 a0_0, .int .i64 a0_1, .slice A0_2 l0_2.length c0_2], .func (.func 35) #[] #[]] rfl ?_; (with_reducible refine (impl_tray_parts_isBall.calls k a0_0 a0_1 _ _ l0_2 () t102 _ ?side1 ?side2 A2.out).mono ?_); (case side1 => repeat (first | exact (Kd.C_below HR0_2.out HB.out) | (with_reducible refine Kd.C_alloc ?_ _) | (with_reducible refine Kd.C_drewN ?_ _) | (with_reducible refine Kd.C_drew ?_))); (case side2 => exact HC0_2.out); rintro e w5 ⟨v103, rfl, ho0, hb⟩; refine ⟨_, rfl, ?_⟩; have n0_ := Aside0.mk (Kd.S_lower ho0 (below_size (bel HB))); have n1_ := Aside0.mk (blk_below (g := gb101) (o := .cells #[.int .i64 a0_0, .int .i64 a0_1, .slice A0_2 l0_2.length c0_2] 41 (0, 0)) blc hb); have n2_ := Aside0.mk (below_step (bel HB) hb); clear BK101; clear HB; have HO104 := n0_; have BK101 := n1_; have HB := n2_; clear n0_ n1_ n2_; (try clear hb); (try clear hb2); (try clear hk); (try clear hi); (try clear ho0)))
 go_ret
 exact ⟨_, by first | rfl | (simp [errW_none, errW_some] <;> rfl) | (simp [*, errW_none, errW_some] <;> rfl), by (with_reducible repeat (first | apply Kd.S_alloc | apply Kd.S_drewN | apply Kd.S_drew)); (first | exact HO104.out | exact R_any HO104.out), bel HB⟩
end Go.Proofs.YtkjlfgceodindaaDoor.Q
end
section
namespace Go.Proofs.YtkjlfgceodindaaDoor.Q
open Go.RowKit Go.Proofs.YtkjlfgceodindaaDoorW.PrintWords Go.Proofs.YtkjlfgceodindaaDoorW.PrintLast Go.Proofs.YtkjlfgceodindaaDoorW.PrintMore
attribute [local go_sem] max2_int min2_int max_two min_two max_three min_three max_four min_four
set_option linter.unusedVariables false
set_option linter.unusedSimpArgs false
def impl_bit.f (a0 : Bool) : Option (Int) := if a0 = true then (some 1) else (some 0)
set_option maxHeartbeats 8000000 in
set_option maxRecDepth 100000 in
theorem impl_bit.calls (a0 : Bool) (r : Int) (w : World) (h : impl_bit.f a0 = some r) :
  Calls Tryd.prog 56 #[.bool a0] w fun e w' => e = .returned (.int .i64 r) ∧ Drawn0 w w' := by
 have H : (if a0 = true then (some 1) else (some 0)) = some r := h;clear h
 by_cases c2 : a0 = true
 ·subst c2
  have H1 : (some 1) = some r := by rw [if_pos rfl] at H; exact H
  clear H;have H := H1;clear H1;obtain rfl := Option.some.inj H
  go_enter Tryd.func56, Tryd.ntmps56
  go_wp2
  go_ret
  exact ⟨by first | rfl | (simp; done) | (simp [*]; done), by repeat (first | exact Drawn0.refl _ | apply Drawn0.step)⟩
 ·replace c2 := Bool.eq_false_iff.mpr c2
  subst c2
  have H1 : (some 0) = some r := by rw [if_neg (show ¬ (false = true) by decide)] at H; exact H
  clear H;have H := H1;clear H1;obtain rfl := Option.some.inj H
  go_enter Tryd.func56, Tryd.ntmps56
  go_wp2
  go_ret
  exact ⟨by first | rfl | (simp; done) | (simp [*]; done), by repeat (first | exact Drawn0.refl _ | apply Drawn0.step)⟩
end Go.Proofs.YtkjlfgceodindaaDoor.Q
end
section
namespace Go.Proofs.YtkjlfgceodindaaDoor.Q
open Go.RowKit Go.Proofs.YtkjlfgceodindaaDoorW.PrintWords Go.Proofs.YtkjlfgceodindaaDoorW.PrintLast Go.Proofs.YtkjlfgceodindaaDoorW.PrintMore
theorem wrap64_small (n : Nat) (h : n < 1000000) : wrap64 ((n : Int) + 1) = ((n + 1 : Nat) : Int) := by unfold wrap64; omega
end Go.Proofs.YtkjlfgceodindaaDoor.Q
end
section
namespace Go.Proofs.YtkjlfgceodindaaDoor.Q
open Go.RowKit Go.Proofs.YtkjlfgceodindaaDoorW.PrintWords Go.Proofs.YtkjlfgceodindaaDoorW.PrintLast Go.Proofs.YtkjlfgceodindaaDoorW.PrintMore
attribute [local go_sem] max2_int min2_int max_two min_two max_three min_three max_four min_four
set_option linter.unusedVariables false
set_option linter.unusedSimpArgs false
def slices_Index_int_int.l0 : Nat → List Int → Int → Int → Int → Option (Int)
 | 0, _, _, _, _ => none
 | k + 1, x0, x1, x7, x8 => if x8 < x7 then (if 0 ≤ x8 then (if x8 < (x0.length : Int) then (if x1 = (rd x0 x8) then (some x8) else (slices_Index_int_int.l0 k x0 x1 x7 (wrap64 (x8 + 1)))) else (none)) else (none)) else (some (-1))
def slices_Index_int_int.f (k : Nat) (l0 : List Int) (a1 : Int) : Option (Int) := slices_Index_int_int.l0 k l0 a1 (l0.length : Int) 0
set_option maxHeartbeats 8000000 in
set_option maxRecDepth 100000 in
theorem slices_Index_int_int.calls (k : Nat) (A0 : Option Addr) (c0 : Nat) (l0 : List Int) (a1 : Int) (r : Int) (w : World) (hr0 : Kd.C (Kd.int .i64) w A0 l0.length l0) (hc0 : l0.length ≤ c0) (h : slices_Index_int_int.f k l0 a1 = some r) :
  Calls Tryd.prog 89 #[.slice A0 l0.length c0, .int .i64 a1] w fun e w' => e = .returned (.int .i64 r) ∧ Drawn0 w w' := by
 have HR0 := Aside0.mk hr0;have HC0 := Aside0.mk hc0;clear hr0 hc0;have H : (slices_Index_int_int.l0 k l0 a1 (l0.length : Int) 0) = some r := h;clear h;have H' := Aside0.mk H;clear H
 go_enter Tryd.func89, Tryd.ntmps89
 go_wp2
 go_loopg [8] k (fun kq v8 w' => ∃ (x8_1 : Int), v8 = .int .i64 x8_1 ∧ Aside0 (slices_Index_int_int.l0 kq l0 a1 (l0.length : Int) x8_1 = some r) ∧ Aside0 (kq ≤ k) ∧ Drawn0 w w')
 case atStart => exact ⟨(0), (by first | rfl | (simp; done) | (simp [*]; done)), H', ⟨Nat.le_refl _⟩, by repeat (first | exact Drawn0.refl _ | apply Drawn0.step)⟩
 case round =>
  clear H'
  try clear p2
  obtain ⟨x8_1, rfl, HA, HK1, ⟨m1, rfl⟩⟩ := hrel
  cases gk with
  | zero => exact absurd HA.out (by simp [slices_Index_int_int.l0])
  | succ k1 =>
   have H := HA.out;clear HA
   simp only [slices_Index_int_int.l0] at H
   by_cases c3 : x8_1 < (l0.length : Int)
   ·rw [if_pos c3] at H
    have c3b0 : decide (x8_1 < (l0.length : Int)) = true := decide_eq_true c3;clear c3
    by_cases c4 : 0 ≤ x8_1
    ·rw [if_pos c4] at H
     have c4b0 : decide (0 ≤ x8_1) = true := decide_eq_true c4;clear c4
     by_cases c5 : x8_1 < (l0.length : Int)
     ·rw [if_pos c5] at H
      have c5b0 : decide (x8_1 < (l0.length : Int)) = true := decide_eq_true c5;clear c5
      by_cases c6 : a1 = (rd l0 x8_1)
      ·rw [if_pos c6] at H
       have c6b0 : (a1 == (rd l0 x8_1)) = true := beq_iff_eq.mpr c6;have c6b1 : (a1 != (rd l0 x8_1)) = false := bne_eq_false_iff_eq.mpr c6;clear c6;obtain rfl := Option.some.inj H;have p101 : 0 ≤ (x8_1 : Int) := of_decide_eq_true (by first | (with_reducible assumption) | assumption);have q101 : x8_1 < (l0.length : Int) := of_decide_eq_true (by first | (with_reducible assumption) | assumption);obtain ⟨ad101, e101, hx101_0⟩ := Kd.at_int HR0.out x8_1 p101 q101
       cases e101
       replace p101 := eq_true p101;replace q101 := eq_true q101
       go_wp2
       go_ret
       exact ⟨by first | rfl | (simp; done) | (simp [*]; done), by repeat (first | exact Drawn0.refl _ | apply Drawn0.step)⟩
      ·rw [if_neg c6] at H
       have c6b0 : (a1 == (rd l0 x8_1)) = false := beq_eq_false_iff_ne.mpr c6;have c6b1 : (a1 != (rd l0 x8_1)) = true := bne_iff_ne.mpr c6;have H' := Aside0.mk H;clear H;have p101 : 0 ≤ (x8_1 : Int) := of_decide_eq_true (by first | (with_reducible assumption) | assumption);have q101 : x8_1 < (l0.length : Int) := of_decide_eq_true (by first | (with_reducible assumption) | assumption);obtain ⟨ad101, e101, hx101_0⟩ := Kd.at_int HR0.out x8_1 p101 q101
       cases e101
       replace p101 := eq_true p101;replace q101 := eq_true q101
       go_wp2
       go_roundg k1
       case measure => have := HK1.out; omega
       case rel => exact ⟨(wrap64 (x8_1 + 1)), (by first | rfl | (simp; done) | (simp [*]; done)), H', ⟨by have := HK1.out; omega⟩, by repeat (first | exact Drawn0.refl _ | apply Drawn0.step)⟩
     ·rw [if_neg c5] at H
      exact absurd H (by simp)
    ·rw [if_neg c4] at H
     exact absurd H (by simp)
   ·rw [if_neg c3] at H
    have c3b0 : decide (x8_1 < (l0.length : Int)) = false := decide_eq_false c3;clear c3;obtain rfl := Option.some.inj H
    go_wp2
    go_ret
    exact ⟨by first | rfl | (simp; done) | (simp [*]; done), by repeat (first | exact Drawn0.refl _ | apply Drawn0.step)⟩
def slices_Contains_int_int.f (k : Nat) (l0 : List Int) (a1 : Int) : Option (Bool) := (slices_Index_int_int.f k l0 a1).bind fun t101 => (some (decide (t101 ≥ 0)))
set_option maxHeartbeats 8000000 in
set_option maxRecDepth 100000 in
theorem slices_Contains_int_int.calls (k : Nat) (A0 : Option Addr) (c0 : Nat) (l0 : List Int) (a1 : Int) (r : Bool) (w : World) (hr0 : Kd.C (Kd.int .i64) w A0 l0.length l0) (hc0 : l0.length ≤ c0) (h : slices_Contains_int_int.f k l0 a1 = some r) :
  Calls Tryd.prog 73 #[.slice A0 l0.length c0, .int .i64 a1] w fun e w' => e = .returned (.bool r) ∧ Drawn0 w w' := by
 have HR0 := Aside0.mk hr0;have HC0 := Aside0.mk hc0;clear hr0 hc0;have H : ((slices_Index_int_int.f k l0 a1).bind fun t101 => (some (decide (t101 ≥ 0)))) = some r := h;clear h;replace H := Option.bind_eq_some_iff.mp H;obtain ⟨t101, A30, H⟩ := H;replace H : (some (decide (t101 ≥ 0))) = some r := H;have A3 := Aside0.mk A30;clear A30;obtain rfl := Option.some.inj H
 go_enter Tryd.func73, Tryd.ntmps73
 go_wp2_with (first | ((with_reducible refine gate_callee (f := 89) rfl ?_); refine gcall (some 7) Tryd.func89 #[.slice A0 l0.length c0, .int .i64 a1] rfl ?_; (with_reducible refine (slices_Index_int_int.calls k _ _ l0 a1 t101 _ ?side1 ?side2 A3.out).mono ?_); (case side1 => repeat (first | exact HR0.out | (with_reducible refine Kd.C_alloc ?_ _) | (with_reducible refine Kd.C_drewN ?_ _) | (with_reducible refine Kd.C_drew ?_))); (case side2 => exact HC0.out); rintro e w' ⟨rfl, ⟨nd, rfl⟩⟩; refine ⟨_, rfl, ?_⟩))
 go_ret
 exact ⟨by first | rfl | (simp; done) | (simp [*]; done), by repeat (first | exact Drawn0.refl _ | apply Drawn0.step)⟩
end Go.Proofs.YtkjlfgceodindaaDoor.Q
end
section
namespace Go.Proofs.YtkjlfgceodindaaDoor.Q
set_option linter.unusedSectionVars false
open Go.RowKit Go.Proofs.YtkjlfgceodindaaDoorW.PrintWords Go.Proofs.YtkjlfgceodindaaDoorW.PrintLast Go.Proofs.YtkjlfgceodindaaDoorW.PrintMore
theorem index_ev (l : List Int) (x : Int) (hl : l.length ≤ 1000000) : ∀ (m i : Nat), i + m = l.length → ∃ r : Int, Ev (fun k => slices_Index_int_int.l0 k l x l.length i) r ∧ (0 ≤ r ↔ x ∈ l.drop i)
 | 0, i, hi => by
  refine ⟨-1, Ev.step (Ev.const (o := some (-1)) rfl) fun k => ?_, ?_⟩
  ·rw [slices_Index_int_int.l0, if_neg (by omega)]
  ·rw [List.drop_eq_nil_of_le (by omega)]
   simp
 | m + 1, i, hi => by
  obtain ⟨r, h1, h2⟩ := index_ev l x hl m (i + 1) (by omega)
  have hlt : i < l.length := by omega
  have hwi : wrap64 ((i : Int) + 1) = ((i + 1 : Nat) : Int) := by rw [w64 (by omega) (by omega)]; omega
  have hrd : rd l (i : Int) = l[i] := rd_nat l i hlt
  rw [List.drop_eq_getElem_cons hlt]
  by_cases he : x = l[i]
  ·refine ⟨i, Ev.step (Ev.const (o := some (i : Int)) rfl) fun k => ?_, ⟨fun _ => he ▸ List.mem_cons_self, fun _ => by omega⟩⟩
   rw [slices_Index_int_int.l0, if_pos (by omega), if_pos (by omega), if_pos (by omega), hrd, if_pos he]
  ·refine ⟨r, Ev.step h1 fun k => ?_, h2.trans ⟨fun h3 => List.mem_cons_of_mem _ h3, fun h3 => (List.mem_cons.1 h3).resolve_left he⟩⟩
   rw [slices_Index_int_int.l0, if_pos (by omega), if_pos (by omega), if_pos (by omega), hrd, if_neg he, hwi]
theorem contains_ev (l : List Int) (x : Int) (hl : l.length ≤ 1000000) : Ev (fun k => slices_Contains_int_int.f k l x) (decide (x ∈ l)) := by
 obtain ⟨r, h1, h2⟩ := index_ev l x hl l.length 0 (by omega)
 rw [List.drop_zero] at h2
 refine Ev.bind (f := fun _ t101 => (some (decide (t101 ≥ 0)))) h1 (Ev.const ?_)
 congr 1
 exact decide_eq_decide.2 h2
end Go.Proofs.YtkjlfgceodindaaDoor.Q
end
section
namespace Go.Proofs.YtkjlfgceodindaaDoor.Q
open Go.RowKit Go.Proofs.YtkjlfgceodindaaDoorW.PrintWords Go.Proofs.YtkjlfgceodindaaDoorW.PrintLast Go.Proofs.YtkjlfgceodindaaDoorW.PrintMore
theorem at_sl {w : World} {A : Option Addr} {n : Nat} {xs : List (List Int)} (h : Kd.C (Kd.slice 3 (Kd.int .i64)) w A n xs) (i : Nat) (h1 : i < n) :
  ∃ ad A0 c0, A = some ad ∧ w.cell? (ad.add i) = some (.slice A0 (xs.getD i []).length c0) ∧ (xs.getD i []).length ≤ c0 ∧ (Kd.int .i64).C w A0 (xs.getD i []).length (xs.getD i []) := by
 obtain ⟨ad, c, e, _, hK, hc0⟩ := Kd.C_get h ([] : List Int) (i : Int) (by omega) (by omega)
 rw [Int.toNat_natCast] at hK hc0
 have hc : ∀ j u, c[j]? = some u → w.cell? (ad.add (i * 1 + j)) = some u := hc0;obtain ⟨A0, c0, rfl, l0, g0⟩ := hK
 exact ⟨ad, A0, c0, e, by have hq := hc 0 _ rfl; rwa [Nat.mul_one, Nat.add_zero] at hq, l0, g0⟩
def idxOf (v : Int) : List (List Int) → Int
 | [] => -1
 | p :: P => if v ∈ p then 0 else if idxOf v P < 0 then -1 else idxOf v P + 1
theorem idxOf_hit (v : Int) : ∀ (P : List (List Int)) (i : Nat), i < P.length → v ∈ P.getD i [] → (∀ j : Nat, j < i → v ∉ P.getD j []) → idxOf v P = i
 | [], i, hi, _, _ => by simp at hi
 | p :: P, 0, _, hv, _ => if_pos (by simpa using hv)
 | p :: P, i + 1, hi, hv, hno => by
  have ih := idxOf_hit v P i (by simpa using hi) (by simpa using hv) (fun j hj => by simpa using hno (j + 1) (by omega));unfold idxOf
  rw [if_neg (by simpa using hno 0 (by omega)), ih, if_neg (by omega)]
  omega
theorem idxOf_miss (v : Int) : ∀ (P : List (List Int)), (∀ j : Nat, j < P.length → v ∉ P.getD j []) → idxOf v P = -1
 | [], _ => rfl
 | p :: P, hno => by
  have ih := idxOf_miss v P (fun j hj => by simpa using hno (j + 1) (by simpa using hj));unfold idxOf
  rw [if_neg (by simpa using hno 0 (by simp)), ih, if_pos (by omega)]
set_option maxHeartbeats 4000000 in
set_option maxRecDepth 100000 in
theorem has_cell (g : Nat) (v : Int) (A : Option Addr) (c : Nat) (p : List Int) (W : World) (hl : p.length ≤ 1000000) (hc : p.length ≤ c) (hC : Kd.C (Kd.int .i64) W A p.length p) (hg : W.cell? ⟨g, 0, none⟩ = some (.int .i64 v)) :
  Calls Tryd.prog 72 #[.slice A p.length c, .pointer (some ⟨g, 0, none⟩)] W fun e W' => e = .returned (.bool (decide (v ∈ p))) ∧ Below W.heap.size W W' := by
 obtain ⟨k, hk⟩ := (contains_ev p v hl).out;have HC := Aside0.mk hC;have HL := Aside0.mk hc;have HK := Aside0.mk hk;generalize decide (v ∈ p) = b at HK ⊢;clear hC hc hk
 go_enter Tryd.func72, Tryd.ntmps72
 go_wp2_with fail
 refine (slices_Contains_int_int.calls k A c p v b _ HC.out HL.out HK.out).mono ?_
 rintro e w' ⟨rfl, ⟨nd, rfl⟩⟩
 go_wp2
 go_ret
 exact ⟨rfl, pw_below_drewN (Below.refl _ _) _⟩
set_option maxHeartbeats 4000000 in
set_option maxRecDepth 100000 in
theorem idxP (g : Nat) (v : Int) (A0 : Option Addr) (c0 : Nat) (P : List (List Int)) (w : World) (hn : P.length ≤ 1000) (hp : ∀ p ∈ P, p.length ≤ 1000) (hr0 : Kd.C (Kd.slice 3 (Kd.int .i64)) w A0 P.length P) (hlt : g < w.heap.size) (hg : w.cell? ⟨g, 0, none⟩ = some (.int .i64 v)) :
  Calls Tryd.prog 71 #[.slice A0 P.length c0, .func (.func 72) #[] #[.pointer (some ⟨g, 0, none⟩)]] w fun e w' => e = .returned (.int .i64 (idxOf v P)) ∧ Below w.heap.size w w' := by
 have HR := Aside0.mk hr0;have HG := Aside0.mk hg;have HP := Aside0.mk hp;have eg : ∀ args w, (callFunc 72 args).run Tryd.prog w = .ok (.enter 72 args) w := enters_of Tryd.func72 (by kernel_rfl) rfl;clear hr0 hg hp
 go_enter Tryd.func71, Tryd.ntmps71
 go_wp2
 go_loopg [5, 8] P.length (fun gg _ s8 wr => ∃ kk : Nat, s8 = .int .i64 kk ∧ Aside0 (kk ≤ P.length ∧ P.length - kk ≤ gg ∧ ∀ j : Nat, j < kk → v ∉ P.getD j []) ∧ Aside0 (Below w.heap.size w wr))
 case atStart => exact ⟨0, rfl, ⟨Nat.zero_le _, by omega, fun j hj => absurd hj (Nat.not_lt_zero _)⟩, ⟨Below.refl _ _⟩⟩
 case round =>
  obtain ⟨kk, rfl, HA, HB⟩ := hrel
  by_cases hlk : kk < P.length
  ·have c1 : decide ((kk : Int) < (P.length : Int)) = true := decide_eq_true (by omega)
   have p1 : (0 ≤ (kk : Int)) = True := eq_true (by omega);have p2 : ((kk : Int) < (P.length : Int)) = True := eq_true (by omega);obtain ⟨ad, A1, c1', e1, hx, hl1, hC1⟩ := at_sl (Kd.C_below HR.out HB.out) kk hlk
   cases e1
   have hm : P.getD kk [] ∈ P := by
    rw [List.getD_eq_getElem?_getD, List.getElem?_eq_getElem hlk]
    exact List.getElem_mem hlk
   have hcall := has_cell g v A1 c1' (P.getD kk []) wr (Nat.le_trans (HP.out _ hm) (by decide)) hl1 hC1 ((HB.out.cell (p := ⟨g, 0, none⟩) hlt).trans HG.out);generalize hv : P.getD kk [] = pc at hx hcall hm;have HV := Aside0.mk hv;clear hv hm hl1 hC1
   cases hq : decide (v ∈ pc) with
   | true =>
    rw [hq] at hcall
    go_wp2_with fail
    refine hcall.mono ?_
    rintro e w' ⟨rfl, hb⟩
    clear hcall
    go_wp2
    go_ret
    refine ⟨?_, below_then HB.out HB.out.size hb⟩
    rw [idxOf_hit v P kk hlk (by rw [HV.out]; exact of_decide_eq_true hq) HA.out.2.2]
    rfl
   | false =>
    rw [hq] at hcall
    go_wp2_with fail
    refine hcall.mono ?_
    rintro e w' ⟨rfl, hb⟩
    clear hcall
    go_wp2
    go_roundg (P.length - (kk + 1))
    case measure => have := HA.out.2.1; omega
    case rel =>
     refine ⟨kk + 1, by first | rfl | rw [wrap64_small kk (by omega)] | simp, ⟨by omega, by omega, fun j hj => ?_⟩, ⟨below_then HB.out HB.out.size hb⟩⟩
     by_cases e : j = kk
     ·rw [e, HV.out]
      exact of_decide_eq_false hq
     ·exact HA.out.2.2 j (by omega)
  ·have hkk := HA.out.1
   obtain rfl : kk = P.length := by omega
   have c1 : decide ((P.length : Int) < (P.length : Int)) = false := decide_eq_false (by omega)
   go_wp2
   go_ret
   refine ⟨?_, HB.out⟩
   rw [idxOf_miss v P HA.out.2.2]
   rfl
set_option maxHeartbeats 4000000 in
set_option maxRecDepth 100000 in
theorem pieceAt_calls (gp : Nat) (v : Int) (A0 : Option Addr) (c0 : Nat) (P : List (List Int)) (w : World) (hn : P.length ≤ 1000) (hp : ∀ p ∈ P, p.length ≤ 1000) (hr0 : Kd.C (Kd.slice 3 (Kd.int .i64)) w A0 P.length P) (hlt : gp < w.heap.size) (hg : w.cell? ⟨gp, 0, none⟩ = some (.slice A0 P.length c0)) :
  Calls Tryd.prog 70 #[.int .i64 v, .pointer (some ⟨gp, 0, none⟩)] w fun e w' => e = .returned (.int .i64 (idxOf v P)) ∧ Below w.heap.size w w' := by
 have hb0 : Below w.heap.size w (w.alloc (.cells #[.int .i64 v] 3)) := below_alloc (Below.refl _ _) _;have h1 := Boxed.new w 3 (.int .i64 v);have hcl := idxP w.heap.size v A0 c0 P (w.alloc (.cells #[.int .i64 v] 3)) hn hp (Kd.C_below hr0 hb0) h1.lt h1.cell;have hg1 : (w.alloc (.cells #[.int .i64 v] 3)).cell? ⟨gp, 0, none⟩ = some (.slice A0 P.length c0) := (hb0.cell (p := ⟨gp, 0, none⟩) hlt).trans hg;generalize idxOf v P = r at hcl ⊢;have HCL := Aside0.mk hcl;have HB := Aside0.mk hb0;clear hr0 hn hp hcl hb0 h1 hg
 go_enter Tryd.func70, Tryd.ntmps70
 go_wp2_with fail
 refine HCL.out.mono ?_
 rintro e w' ⟨rfl, hb⟩
 clear HCL
 go_wp2
 go_ret
 exact ⟨rfl, below_then HB.out HB.out.size hb⟩
end Go.Proofs.YtkjlfgceodindaaDoor.Q
end
section
namespace Go.Proofs.YtkjlfgceodindaaDoor.Q
open Go.RowKit Go.Proofs.YtkjlfgceodindaaDoorW.PrintWords Go.Proofs.YtkjlfgceodindaaDoorW.PrintLast Go.Proofs.YtkjlfgceodindaaDoorW.PrintMore
attribute [local go_sem] max2_int min2_int max_two min_two max_three min_three max_four min_four
set_option linter.unusedVariables false
set_option linter.unusedSimpArgs false
def impl_tray_ahead.j0 : Nat → Int → Int → Int → Int → List Int → Option (Int)
 | 0, _, _, _, _, _ => none
 | k + 1, x7, x8, x102000, x102001, x102002 => (impl_within.f x7 0 (wrap64 (x102000 - 1))).bind fun t102 => (if t102 = true then ((impl_within.f x8 0 (wrap64 (x102001 - 1))).bind fun t103 => (if t103 = true then ((impl_tray_number.f x102000 x102001 x102002 x7 x8).bind fun t104 => (some t104)) else (some (-1)))) else (some (-1)))
def impl_tray_ahead.f (k : Nat) (a0_0 : Int) (a0_1 : Int) (l0_2 : List Int) (a1 : Int) (a2 : Int) : Option (Int) := if a0_0 = 0 then (none) else (if a2 = 117 then (impl_tray_ahead.j0 k (Int.tmod a1 a0_0) (wrap64 ((wrap64 (Int.tdiv a1 a0_0)) - 1)) a0_0 a0_1 l0_2) else (if a2 = 114 then (impl_tray_ahead.j0 k (wrap64 ((Int.tmod a1 a0_0) + 1)) (wrap64 (Int.tdiv a1 a0_0)) a0_0 a0_1 l0_2) else (if a2 = 100 then (impl_tray_ahead.j0 k (Int.tmod a1 a0_0) (wrap64 ((wrap64 (Int.tdiv a1 a0_0)) + 1)) a0_0 a0_1 l0_2) else (impl_tray_ahead.j0 k (wrap64 ((Int.tmod a1 a0_0) - 1)) (wrap64 (Int.tdiv a1 a0_0)) a0_0 a0_1 l0_2))))
set_option maxHeartbeats 8000000 in
set_option maxRecDepth 100000 in
theorem impl_tray_ahead.calls (k : Nat) (a0_0 : Int) (a0_1 : Int) (A0_2 : Option Addr) (c0_2 : Nat) (l0_2 : List Int) (a1 : Int) (a2 : Int) (r : Int) (w : World) (hr0_2 : Kd.C (Kd.int .u8) w A0_2 l0_2.length l0_2) (hc0_2 : l0_2.length ≤ c0_2) (h : impl_tray_ahead.f k a0_0 a0_1 l0_2 a1 a2 = some r) :
  Calls Tryd.prog 74 #[.agg #[.int .i64 a0_0, .int .i64 a0_1, .slice A0_2 l0_2.length c0_2], .int .i64 a1, .int .u8 a2] w fun e w' => e = .returned (.int .i64 r) ∧ Below w.heap.size w w' := by
 have hu41 := Tryd.underlying41;have HR0_2 := Aside0.mk hr0_2;have HC0_2 := Aside0.mk hc0_2;clear hr0_2 hc0_2;have HB := Aside0.mk (Below.refl w.heap.size w);have H : (if a0_0 = 0 then (none) else (if a2 = 117 then (impl_tray_ahead.j0 k (Int.tmod a1 a0_0) (wrap64 ((wrap64 (Int.tdiv a1 a0_0)) - 1)) a0_0 a0_1 l0_2) else (if a2 = 114 then (impl_tray_ahead.j0 k (wrap64 ((Int.tmod a1 a0_0) + 1)) (wrap64 (Int.tdiv a1 a0_0)) a0_0 a0_1 l0_2) else (if a2 = 100 then (impl_tray_ahead.j0 k (Int.tmod a1 a0_0) (wrap64 ((wrap64 (Int.tdiv a1 a0_0)) + 1)) a0_0 a0_1 l0_2) else (impl_tray_ahead.j0 k (wrap64 ((Int.tmod a1 a0_0) - 1)) (wrap64 (Int.tdiv a1 a0_0)) a0_0 a0_1 l0_2))))) = some r := h;clear h
 by_cases c4 : a0_0 = 0
 ·rw [if_pos c4] at H
  exact absurd H (by simp)
 ·rw [if_neg c4] at H
  have c4b0 : (a0_0 == 0) = false := beq_eq_false_iff_ne.mpr c4;have c4b1 : (a0_0 != 0) = true := bne_iff_ne.mpr c4;have HC5 := Aside0.mk H;clear H
  go_enter Tryd.func74, Tryd.ntmps74
  go_upto_block 0 with (first | ((with_reducible refine gate_dst (N := 3) rfl ?_); refine boxE (N := 3) (cs := #[.int .i64 a0_0, .int .i64 a0_1, .slice A0_2 l0_2.length c0_2]) (t := 41) ?_; intro gb101 hg w6 hbox hb; have n0_ := Aside0.mk (below_step (bel HB) hb); have n1_ := Aside0.mk (hbox); have n2_ := Aside0.mk (gsz hg (bel HB)); have n3_ := Aside0.mk (gsz hg (bel HB)); clear HB; have HB := n0_; have BK101 := n1_; have GW101 := n2_; have GE101 := n3_; clear n0_ n1_ n2_ n3_; clear hb hbox hg; have hcz7_0 : w6.cell? ⟨gb101, 0, none⟩ = some (.int .i64 a0_0) := (blk_cell BK101.out 0).trans rfl; have hcz7_1 : w6.cell? ⟨gb101, 1, none⟩ = some (.int .i64 a0_1) := (blk_cell BK101.out 1).trans rfl; have hcz7_2 : w6.cell? ⟨gb101, 2, none⟩ = some (.slice A0_2 l0_2.length c0_2) := (blk_cell BK101.out 2).trans rfl; have hfz7_0 := blk_frozen BK101.out 0; have hfz7_1 := blk_frozen BK101.out 1; have hfz7_2 := blk_frozen BK101.out 2))
  repeat (go_quiet (first | ((with_reducible refine gate_dst (N := 3) rfl ?_); refine boxE (N := 3) (cs := #[.int .i64 a0_0, .int .i64 a0_1, .slice A0_2 l0_2.length c0_2]) (t := 41) ?_; intro gb101 hg w6 hbox hb; have n0_ := Aside0.mk (below_step (bel HB) hb); have n1_ := Aside0.mk (hbox); have n2_ := Aside0.mk (gsz hg (bel HB)); have n3_ := Aside0.mk (gsz hg (bel HB)); clear HB; have HB := n0_; have BK101 := n1_; have GW101 := n2_; have GE101 := n3_; clear n0_ n1_ n2_ n3_; clear hb hbox hg; have hcz7_0 : w6.cell? ⟨gb101, 0, none⟩ = some (.int .i64 a0_0) := (blk_cell BK101.out 0).trans rfl; have hcz7_1 : w6.cell? ⟨gb101, 1, none⟩ = some (.int .i64 a0_1) := (blk_cell BK101.out 1).trans rfl; have hcz7_2 : w6.cell? ⟨gb101, 2, none⟩ = some (.slice A0_2 l0_2.length c0_2) := (blk_cell BK101.out 2).trans rfl; have hfz7_0 := blk_frozen BK101.out 0; have hfz7_1 := blk_frozen BK101.out 1; have hfz7_2 := blk_frozen BK101.out 2)); go_upto_block 0 with (first | ((with_reducible refine gate_dst (N := 3) rfl ?_); refine boxE (N := 3) (cs := #[.int .i64 a0_0, .int .i64 a0_1, .slice A0_2 l0_2.length c0_2]) (t := 41) ?_; intro gb101 hg w6 hbox hb; have n0_ := Aside0.mk (below_step (bel HB) hb); have n1_ := Aside0.mk (hbox); have n2_ := Aside0.mk (gsz hg (bel HB)); have n3_ := Aside0.mk (gsz hg (bel HB)); clear HB; have HB := n0_; have BK101 := n1_; have GW101 := n2_; have GE101 := n3_; clear n0_ n1_ n2_ n3_; clear hb hbox hg; have hcz7_0 : w6.cell? ⟨gb101, 0, none⟩ = some (.int .i64 a0_0) := (blk_cell BK101.out 0).trans rfl; have hcz7_1 : w6.cell? ⟨gb101, 1, none⟩ = some (.int .i64 a0_1) := (blk_cell BK101.out 1).trans rfl; have hcz7_2 : w6.cell? ⟨gb101, 2, none⟩ = some (.slice A0_2 l0_2.length c0_2) := (blk_cell BK101.out 2).trans rfl; have hfz7_0 := blk_frozen BK101.out 0; have hfz7_1 := blk_frozen BK101.out 1; have hfz7_2 := blk_frozen BK101.out 2)))
  (try simp only [Act.put, List.setIfInBounds_toArray, List.set_cons_zero, List.set_cons_succ])
  go_cut [7, 8] (fun v7 v8 wc => ∃ (kq : Nat) (x7_4 : Int) (x8_4 : Int), v7 = .int .i64 x7_4 ∧ v8 = .int .i64 x8_4 ∧ Aside0 (impl_tray_ahead.j0 kq x7_4 x8_4 a0_0 a0_1 l0_2 = some r) ∧ Aside0 (kq ≤ k) ∧ Aside0 (wc.heap[gb101]? = some (.cells #[.int .i64 a0_0, .int .i64 a0_1, (.slice A0_2 l0_2.length c0_2)] 41 (0, 0))) ∧ Aside0 (Below w.heap.size w wc))
  case first =>
   have H := HC5.out;clear HC5
   by_cases c8 : a2 = 117
   ·rw [if_pos c8] at H
    have c8b0 : (a2 == 117) = true := beq_iff_eq.mpr c8;have c8b1 : (a2 != 117) = false := bne_eq_false_iff_eq.mpr c8;clear c8
    (first | rw [c8b0] | (simp only [i64_w, i32_w]; rw [c8b0]) | skip)
    have H' := Aside0.mk H;clear H
    go_wp2
    repeat (go_quiet (fail); try go_wp2)
    go_meet
    case rel => exact ⟨_, (Int.tmod a1 a0_0), (wrap64 ((wrap64 (Int.tdiv a1 a0_0)) - 1)), (by first | rfl | (simp; done) | (simp [*]; done)), (by first | rfl | (simp; done) | (simp [*]; done)), H', ⟨by first | omega | exact Nat.le_refl _⟩, ⟨blc⟩, ⟨bel HB⟩⟩
   ·rw [if_neg c8] at H
    have c8b0 : (a2 == 117) = false := beq_eq_false_iff_ne.mpr c8;have c8b1 : (a2 != 117) = true := bne_iff_ne.mpr c8
    (first | rw [c8b0] | (simp only [i64_w, i32_w]; rw [c8b0]) | skip)
    by_cases c9 : a2 = 114
    ·rw [if_pos c9] at H
     have c9b0 : (a2 == 114) = true := beq_iff_eq.mpr c9;have c9b1 : (a2 != 114) = false := bne_eq_false_iff_eq.mpr c9;clear c9;have H' := Aside0.mk H;clear H
     go_wp2
     repeat (go_quiet (fail); try go_wp2)
     go_meet
     case rel => exact ⟨_, (wrap64 ((Int.tmod a1 a0_0) + 1)), (wrap64 (Int.tdiv a1 a0_0)), (by first | rfl | (simp; done) | (simp [*]; done)), (by first | rfl | (simp; done) | (simp [*]; done)), H', ⟨by first | omega | exact Nat.le_refl _⟩, ⟨blc⟩, ⟨bel HB⟩⟩
    ·rw [if_neg c9] at H
     have c9b0 : (a2 == 114) = false := beq_eq_false_iff_ne.mpr c9;have c9b1 : (a2 != 114) = true := bne_iff_ne.mpr c9
     by_cases c10 : a2 = 100
     ·rw [if_pos c10] at H
      have c10b0 : (a2 == 100) = true := beq_iff_eq.mpr c10;have c10b1 : (a2 != 100) = false := bne_eq_false_iff_eq.mpr c10;clear c10;have H' := Aside0.mk H;clear H
      go_wp2
      repeat (go_quiet (fail); try go_wp2)
      go_meet
      case rel => exact ⟨_, (Int.tmod a1 a0_0), (wrap64 ((wrap64 (Int.tdiv a1 a0_0)) + 1)), (by first | rfl | (simp; done) | (simp [*]; done)), (by first | rfl | (simp; done) | (simp [*]; done)), H', ⟨by first | omega | exact Nat.le_refl _⟩, ⟨blc⟩, ⟨bel HB⟩⟩
     ·rw [if_neg c10] at H
      have c10b0 : (a2 == 100) = false := beq_eq_false_iff_ne.mpr c10;have c10b1 : (a2 != 100) = true := bne_iff_ne.mpr c10;have H' := Aside0.mk H;clear H
      go_wp2
      repeat (go_quiet (fail); try go_wp2)
      go_meet
      case rel => exact ⟨_, (wrap64 ((Int.tmod a1 a0_0) - 1)), (wrap64 (Int.tdiv a1 a0_0)), (by first | rfl | (simp; done) | (simp [*]; done)), (by first | rfl | (simp; done) | (simp [*]; done)), H', ⟨by first | omega | exact Nat.le_refl _⟩, ⟨blc⟩, ⟨bel HB⟩⟩
  case rest =>
   clear HC5
   try clear c1
   try clear p2
   try clear c4
   try clear c4b0
   try clear c4b0y
   try clear c4b1
   try clear p6
   try clear c7
   try clear c8
   try clear c8b0
   try clear c8b0y
   try clear c8b1
   try clear c9
   try clear c9b0
   try clear c9b0y
   try clear c9b1
   try clear c10
   try clear c10b0
   try clear c10b0y
   try clear c10b1
   try clear hcz7_0
   try clear hcz7_1
   try clear hcz7_2
   try clear hfz7_0
   try clear hfz7_1
   try clear hfz7_2
   obtain ⟨kq, x7_4, x8_4, rfl, rfl, HA, HJ4, BK101, HB⟩ := hcut
   cases kq with
   | zero => exact absurd HA.out (by simp [impl_tray_ahead.j0])
   | succ kj4 =>
    have H := HA.out;clear HA
    simp only [impl_tray_ahead.j0] at H
    replace H := Option.bind_eq_some_iff.mp H;obtain ⟨t102, A110, H⟩ := H;replace H : (if t102 = true then ((impl_within.f x8_4 0 (wrap64 (a0_1 - 1))).bind fun t103 => (if t103 = true then ((impl_tray_number.f a0_0 a0_1 l0_2 x7_4 x8_4).bind fun t104 => (some t104)) else (some (-1)))) else (some (-1))) = some r := H;have A11 := Aside0.mk A110;clear A110
    by_cases c12 : t102 = true
    ·subst c12
     have H1 : ((impl_within.f x8_4 0 (wrap64 (a0_1 - 1))).bind fun t103 => (if t103 = true then ((impl_tray_number.f a0_0 a0_1 l0_2 x7_4 x8_4).bind fun t104 => (some t104)) else (some (-1)))) = some r := by rw [if_pos rfl] at H; exact H
     clear H;have H := H1;clear H1;replace H := Option.bind_eq_some_iff.mp H;obtain ⟨t103, A130, H⟩ := H;replace H : (if t103 = true then ((impl_tray_number.f a0_0 a0_1 l0_2 x7_4 x8_4).bind fun t104 => (some t104)) else (some (-1))) = some r := H;have A13 := Aside0.mk A130;clear A130
     by_cases c14 : t103 = true
     ·subst c14
      have H1 : ((impl_tray_number.f a0_0 a0_1 l0_2 x7_4 x8_4).bind fun t104 => (some t104)) = some r := by rw [if_pos rfl] at H; exact H
      clear H;have H := H1;clear H1;replace H := Option.bind_eq_some_iff.mp H;obtain ⟨t104, A150, H⟩ := H;replace H : (some t104) = some r := H;have A15 := Aside0.mk A150;clear A150;obtain rfl := Option.some.inj H;have hcz16_0 : wc.cell? ⟨gb101, 0, none⟩ = some (.int .i64 a0_0) := (blk_cell BK101.out 0).trans rfl;have hcz16_1 : wc.cell? ⟨gb101, 1, none⟩ = some (.int .i64 a0_1) := (blk_cell BK101.out 1).trans rfl;have hcz16_2 : wc.cell? ⟨gb101, 2, none⟩ = some (.slice A0_2 l0_2.length c0_2) := (blk_cell BK101.out 2).trans rfl;have hfz16_0 := blk_frozen BK101.out 0;have hfz16_1 := blk_frozen BK101.out 1;have hfz16_2 := blk_frozen BK101.out 2
      go_wp2_with (first | (go_at_call 40; (with_reducible refine (impl_within.calls x7_4 0 (wrap64 (a0_0 - 1)) true _ A11.out).mono ?_); rintro e w' ⟨rfl, ⟨nd, rfl⟩⟩; (try first | exact ⟨rfl, _, World.drewN_drewN _ _ _⟩ | exact ⟨rfl, _, Eq.trans (World.drewN_drewN _ _ _) (congrArg (World.drewN _) (Nat.add_assoc _ _ _))⟩)) | (go_at_call 40; (with_reducible refine (impl_within.calls x8_4 0 (wrap64 (a0_1 - 1)) true _ A13.out).mono ?_); rintro e w' ⟨rfl, ⟨nd, rfl⟩⟩; (try first | exact ⟨rfl, _, World.drewN_drewN _ _ _⟩ | exact ⟨rfl, _, Eq.trans (World.drewN_drewN _ _ _) (congrArg (World.drewN _) (Nat.add_assoc _ _ _))⟩)) | (go_at_call 90; (with_reducible refine (impl_tray_number.calls a0_0 a0_1 _ _ l0_2 x7_4 x8_4 t104 _ ?side1 ?side2 A15.out).mono ?_); (case side1 => repeat (first | exact (Kd.C_below HR0_2.out (bel HB)) | (with_reducible refine Kd.C_alloc ?_ _) | (with_reducible refine Kd.C_drewN ?_ _) | (with_reducible refine Kd.C_drew ?_))); (case side2 => exact HC0_2.out); rintro e w17 ⟨rfl, hb⟩; have n0_ := Aside0.mk (blk_below (g := gb101) (o := .cells #[.int .i64 a0_0, .int .i64 a0_1, .slice A0_2 l0_2.length c0_2] 41 (0, 0)) blc hb); have n1_ := Aside0.mk (below_step (bel HB) hb); clear BK101; clear HB; have BK101 := n0_; have HB := n1_; clear n0_ n1_; (try clear hb); (try clear hb2); (try clear hk); (try clear hi)))
      repeat (go_quiet (first | (go_at_call 40; (with_reducible refine (impl_within.calls x7_4 0 (wrap64 (a0_0 - 1)) true _ A11.out).mono ?_); rintro e w' ⟨rfl, ⟨nd, rfl⟩⟩; (try first | exact ⟨rfl, _, World.drewN_drewN _ _ _⟩ | exact ⟨rfl, _, Eq.trans (World.drewN_drewN _ _ _) (congrArg (World.drewN _) (Nat.add_assoc _ _ _))⟩)) | (go_at_call 40; (with_reducible refine (impl_within.calls x8_4 0 (wrap64 (a0_1 - 1)) true _ A13.out).mono ?_); rintro e w' ⟨rfl, ⟨nd, rfl⟩⟩; (try first | exact ⟨rfl, _, World.drewN_drewN _ _ _⟩ | exact ⟨rfl, _, Eq.trans (World.drewN_drewN _ _ _) (congrArg (World.drewN _) (Nat.add_assoc _ _ _))⟩)) | (go_at_call 90; (with_reducible refine (impl_tray_number.calls a0_0 a0_1 _ _ l0_2 x7_4 x8_4 t104 _ ?side1 ?side2 A15.out).mono ?_); (case side1 => repeat (first | exact (Kd.C_below HR0_2.out (bel HB)) | (with_reducible refine Kd.C_alloc ?_ _) | (with_reducible refine Kd.C_drewN ?_ _) | (with_reducible refine Kd.C_drew ?_))); (case side2 => exact HC0_2.out); rintro e w17 ⟨rfl, hb⟩; have n0_ := Aside0.mk (blk_below (g := gb101) (o := .cells #[.int .i64 a0_0, .int .i64 a0_1, .slice A0_2 l0_2.length c0_2] 41 (0, 0)) blc hb); have n1_ := Aside0.mk (below_step (bel HB) hb); clear BK101; clear HB; have BK101 := n0_; have HB := n1_; clear n0_ n1_; (try clear hb); (try clear hb2); (try clear hk); (try clear hi))); try go_wp2_with (first | (go_at_call 40; (with_reducible refine (impl_within.calls x7_4 0 (wrap64 (a0_0 - 1)) true _ A11.out).mono ?_); rintro e w' ⟨rfl, ⟨nd, rfl⟩⟩; (try first | exact ⟨rfl, _, World.drewN_drewN _ _ _⟩ | exact ⟨rfl, _, Eq.trans (World.drewN_drewN _ _ _) (congrArg (World.drewN _) (Nat.add_assoc _ _ _))⟩)) | (go_at_call 40; (with_reducible refine (impl_within.calls x8_4 0 (wrap64 (a0_1 - 1)) true _ A13.out).mono ?_); rintro e w' ⟨rfl, ⟨nd, rfl⟩⟩; (try first | exact ⟨rfl, _, World.drewN_drewN _ _ _⟩ | exact ⟨rfl, _, Eq.trans (World.drewN_drewN _ _ _) (congrArg (World.drewN _) (Nat.add_assoc _ _ _))⟩)) | (go_at_call 90; (with_reducible refine (impl_tray_number.calls a0_0 a0_1 _ _ l0_2 x7_4 x8_4 t104 _ ?side1 ?side2 A15.out).mono ?_); (case side1 => repeat (first | exact (Kd.C_below HR0_2.out (bel HB)) | (with_reducible refine Kd.C_alloc ?_ _) | (with_reducible refine Kd.C_drewN ?_ _) | (with_reducible refine Kd.C_drew ?_))); (case side2 => exact HC0_2.out); rintro e w17 ⟨rfl, hb⟩; have n0_ := Aside0.mk (blk_below (g := gb101) (o := .cells #[.int .i64 a0_0, .int .i64 a0_1, .slice A0_2 l0_2.length c0_2] 41 (0, 0)) blc hb); have n1_ := Aside0.mk (below_step (bel HB) hb); clear BK101; clear HB; have BK101 := n0_; have HB := n1_; clear n0_ n1_; (try clear hb); (try clear hb2); (try clear hk); (try clear hi))))
      go_ret
      exact ⟨by first | rfl | (simp [errW_none, errW_some] <;> rfl) | (simp [*, errW_none, errW_some] <;> rfl), bel HB⟩
     ·replace c14 := Bool.eq_false_iff.mpr c14
      subst c14
      have H1 : (some (-1)) = some r := by rw [if_neg (show ¬ (false = true) by decide)] at H; exact H
      clear H;have H := H1;clear H1;obtain rfl := Option.some.inj H;have hcz18_0 : wc.cell? ⟨gb101, 0, none⟩ = some (.int .i64 a0_0) := (blk_cell BK101.out 0).trans rfl;have hcz18_1 : wc.cell? ⟨gb101, 1, none⟩ = some (.int .i64 a0_1) := (blk_cell BK101.out 1).trans rfl;have hcz18_2 : wc.cell? ⟨gb101, 2, none⟩ = some (.slice A0_2 l0_2.length c0_2) := (blk_cell BK101.out 2).trans rfl;have hfz18_0 := blk_frozen BK101.out 0;have hfz18_1 := blk_frozen BK101.out 1;have hfz18_2 := blk_frozen BK101.out 2
      go_wp2_with (first | (go_at_call 40; (with_reducible refine (impl_within.calls x7_4 0 (wrap64 (a0_0 - 1)) true _ A11.out).mono ?_); rintro e w' ⟨rfl, ⟨nd, rfl⟩⟩; (try first | exact ⟨rfl, _, World.drewN_drewN _ _ _⟩ | exact ⟨rfl, _, Eq.trans (World.drewN_drewN _ _ _) (congrArg (World.drewN _) (Nat.add_assoc _ _ _))⟩)) | (go_at_call 40; (with_reducible refine (impl_within.calls x8_4 0 (wrap64 (a0_1 - 1)) false _ A13.out).mono ?_); rintro e w' ⟨rfl, ⟨nd, rfl⟩⟩; (try first | exact ⟨rfl, _, World.drewN_drewN _ _ _⟩ | exact ⟨rfl, _, Eq.trans (World.drewN_drewN _ _ _) (congrArg (World.drewN _) (Nat.add_assoc _ _ _))⟩)))
      repeat (go_quiet (first | (go_at_call 40; (with_reducible refine (impl_within.calls x7_4 0 (wrap64 (a0_0 - 1)) true _ A11.out).mono ?_); rintro e w' ⟨rfl, ⟨nd, rfl⟩⟩; (try first | exact ⟨rfl, _, World.drewN_drewN _ _ _⟩ | exact ⟨rfl, _, Eq.trans (World.drewN_drewN _ _ _) (congrArg (World.drewN _) (Nat.add_assoc _ _ _))⟩)) | (go_at_call 40; (with_reducible refine (impl_within.calls x8_4 0 (wrap64 (a0_1 - 1)) false _ A13.out).mono ?_); rintro e w' ⟨rfl, ⟨nd, rfl⟩⟩; (try first | exact ⟨rfl, _, World.drewN_drewN _ _ _⟩ | exact ⟨rfl, _, Eq.trans (World.drewN_drewN _ _ _) (congrArg (World.drewN _) (Nat.add_assoc _ _ _))⟩))); try go_wp2_with (first | (go_at_call 40; (with_reducible refine (impl_within.calls x7_4 0 (wrap64 (a0_0 - 1)) true _ A11.out).mono ?_); rintro e w' ⟨rfl, ⟨nd, rfl⟩⟩; (try first | exact ⟨rfl, _, World.drewN_drewN _ _ _⟩ | exact ⟨rfl, _, Eq.trans (World.drewN_drewN _ _ _) (congrArg (World.drewN _) (Nat.add_assoc _ _ _))⟩)) | (go_at_call 40; (with_reducible refine (impl_within.calls x8_4 0 (wrap64 (a0_1 - 1)) false _ A13.out).mono ?_); rintro e w' ⟨rfl, ⟨nd, rfl⟩⟩; (try first | exact ⟨rfl, _, World.drewN_drewN _ _ _⟩ | exact ⟨rfl, _, Eq.trans (World.drewN_drewN _ _ _) (congrArg (World.drewN _) (Nat.add_assoc _ _ _))⟩))))
      go_ret
      exact ⟨by first | rfl | (simp [errW_none, errW_some] <;> rfl) | (simp [*, errW_none, errW_some] <;> rfl), bel HB⟩
    ·replace c12 := Bool.eq_false_iff.mpr c12
     subst c12
     have H1 : (some (-1)) = some r := by rw [if_neg (show ¬ (false = true) by decide)] at H; exact H
     clear H;have H := H1;clear H1;obtain rfl := Option.some.inj H;have hcz19_0 : wc.cell? ⟨gb101, 0, none⟩ = some (.int .i64 a0_0) := (blk_cell BK101.out 0).trans rfl;have hcz19_1 : wc.cell? ⟨gb101, 1, none⟩ = some (.int .i64 a0_1) := (blk_cell BK101.out 1).trans rfl;have hcz19_2 : wc.cell? ⟨gb101, 2, none⟩ = some (.slice A0_2 l0_2.length c0_2) := (blk_cell BK101.out 2).trans rfl;have hfz19_0 := blk_frozen BK101.out 0;have hfz19_1 := blk_frozen BK101.out 1;have hfz19_2 := blk_frozen BK101.out 2
     go_wp2_with (first | (go_at_call 40; (with_reducible refine (impl_within.calls x7_4 0 (wrap64 (a0_0 - 1)) false _ A11.out).mono ?_); rintro e w' ⟨rfl, ⟨nd, rfl⟩⟩; (try first | exact ⟨rfl, _, World.drewN_drewN _ _ _⟩ | exact ⟨rfl, _, Eq.trans (World.drewN_drewN _ _ _) (congrArg (World.drewN _) (Nat.add_assoc _ _ _))⟩)))
     repeat (go_quiet (first | (go_at_call 40; (with_reducible refine (impl_within.calls x7_4 0 (wrap64 (a0_0 - 1)) false _ A11.out).mono ?_); rintro e w' ⟨rfl, ⟨nd, rfl⟩⟩; (try first | exact ⟨rfl, _, World.drewN_drewN _ _ _⟩ | exact ⟨rfl, _, Eq.trans (World.drewN_drewN _ _ _) (congrArg (World.drewN _) (Nat.add_assoc _ _ _))⟩))); try go_wp2_with (first | (go_at_call 40; (with_reducible refine (impl_within.calls x7_4 0 (wrap64 (a0_0 - 1)) false _ A11.out).mono ?_); rintro e w' ⟨rfl, ⟨nd, rfl⟩⟩; (try first | exact ⟨rfl, _, World.drewN_drewN _ _ _⟩ | exact ⟨rfl, _, Eq.trans (World.drewN_drewN _ _ _) (congrArg (World.drewN _) (Nat.add_assoc _ _ _))⟩))))
     go_ret
     exact ⟨by first | rfl | (simp [errW_none, errW_some] <;> rfl) | (simp [*, errW_none, errW_some] <;> rfl), bel HB⟩
end Go.Proofs.YtkjlfgceodindaaDoor.Q
end
section
namespace Go.Proofs.YtkjlfgceodindaaDoor.Q
open Go.RowKit Go.Proofs.YtkjlfgceodindaaDoorW.PrintWords Go.Proofs.YtkjlfgceodindaaDoorW.PrintLast Go.Proofs.YtkjlfgceodindaaDoorW.PrintMore
def bstep (w h : Int) (cs : List Int) (dir : Int) (P : List (List Int)) (i : Nat) (out : List Bool) (x : Int) : Option (List Bool) :=
 (impl_tray_ahead.f 1 w h cs x dir).bind fun nx => if nx < 0 then some (out.set i true) else if nx < (cs.length : Int) then (if rd cs nx = 35 then some (out.set i true) else if idxOf nx P < 0 then some out else if idxOf nx P < (out.length : Int) then (if rdOf false out (idxOf nx P) = true then some (out.set i true) else some out) else none) else none
def bpc (w h : Int) (cs : List Int) (dir : Int) (P : List (List Int)) (i : Nat) : List Int → List Bool → Option (List Bool)
 | [], out => some out
 | x :: l, out => (bstep w h cs dir P i out x).bind (bpc w h cs dir P i l)
def bps (w h : Int) (cs : List Int) (dir : Int) (P : List (List Int)) : List (List Int) → Nat → List Bool → Option (List Bool)
 | [], _, out => some out
 | p :: L, i, out => (bpc w h cs dir P i p out).bind (bps w h cs dir P L (i + 1))
def brn (w h : Int) (cs : List Int) (dir : Int) (P : List (List Int)) : Nat → List Bool → Option (List Bool)
 | 0, out => some out
 | n + 1, out => (bps w h cs dir P P 0 out).bind (brn w h cs dir P n)
def smallP (P : List (List Int)) : Bool := decide (P.length ≤ 1000) && P.all fun p => decide (p.length ≤ 1000)
def impl_tray_blocked.f (w h : Int) (cs : List Int) (P : List (List Int)) (dir : Int) : Option (List Bool) := if smallP P = true then brn w h cs dir P (P.length + 1) (List.replicate P.length false) else none
theorem wpList_makeBool {P : Program} {w w0 : World} {ops : Array Oper} {rest : List Oper} {o : Oper} {a : Act} {Q : Exit → Act → World → Prop} {B : Nat} (hgd : o.guard = none) (t : TypeId) (x y : Operand)
  (ho : o.op = .makeSlice t x y) (e : TypeId) (n : Nat) (hx : a.eval x = .int .i64 n) (hy : a.eval y = .int .i64 n) (ht : P.underlying t = some (.slice e)) (hinfo : (P.info? e).map (fun i => (i.zero, i.size, i.bytes)) = some (some (.bool false), 1, 1))
  (hn : n ≤ 1000) (HB : Below B w0 w) (hB : B ≤ w.heap.size)
  (h : ∀ g w', Aside0 (w'.heap[g]? = some (.cells ((List.replicate n false).map Value.bool).toArray e (0, 0))) → B ≤ g → Aside0 (Below B w0 w') → wpList P ops Q rest (a.put o.dst (.slice (some ⟨g, 0, none⟩) n n)) w') : wpList P ops Q (o :: rest) a w := by
 obtain ⟨i, hi, h2⟩ := Option.map_eq_some_iff.1 hinfo
 simp only [Prod.mk.injEq] at h2
 refine wpList_plain hgd fun K hK => ?_
 have hrun := run_makeSlice (P := P) w t e i (.bool false) ht hi h2.1 .i64 .i64 n n (by omega) (by omega) (by rw [h2.2.1]; simp; omega) (by rw [h2.2.2]; omega) (by omega);unfold Oper.wp
 simp only [Int.toNat_natCast] at hrun
 simp [execOp, ho, hx, hy, hrun, Result.andThen]
 refine hK _ _ (h _ _ ⟨?_⟩ hB ⟨below_then HB hB (below_alloc (Below.refl _ _) _)⟩)
 rw [heap_alloc_new, h2.2.1]
 congr 2
 simp [madeCells]
 apply Array.ext
 ·simp
 ·intro j h1 h2
  simp [Value.cells, Nat.mod_one]
structure BS (W1 wr : World) (go n : Nat) (out : List Bool) : Prop where
 below : Below W1.heap.size W1 wr
 row : wr.heap[go]? = some (.cells (out.map Value.bool).toArray 4 (0, 0))
 len : out.length = n
 ge : W1.heap.size ≤ go
section
variable {W1 wr w2 : World} {go n : Nat} {out : List Bool}
theorem BS.step (h : BS W1 wr go n out) (hb : Below wr.heap.size wr w2) : BS W1 w2 go n out := ⟨below_then h.below h.below.size hb, (hb.block _ (blk_lt h.row)).trans h.row, h.len, h.ge⟩
theorem BS.set (h : BS W1 wr go n out) (i : Nat) (b : Bool) : BS W1 (wr.setCell ⟨go, i, none⟩ (.bool b)) go n (out.set i b) := by
 refine ⟨below_set h.below h.ge, ?_, by rw [List.length_set]; exact h.len, h.ge⟩
 rw [blk_set h.row i (.bool b)]
 congr 2
 apply Array.ext'
 simp [List.map_set]
theorem BS.cell (h : BS W1 wr go n out) (i : Nat) (hi : i < out.length) : wr.cell? ⟨go, i, none⟩ = some (.bool (rdOf false out (i : Int))) := by
 rw [blk_cell h.row i]
 unfold rdOf
 simp [List.getD_eq_getElem?_getD, hi]
theorem BS.R (h : BS W1 wr go n out) {base : Nat} (hb : base ≤ W1.heap.size) (hn : n ≤ 1000) : Kd.R Kd.bool 4 wr base (fun _ => True) (.slice (some ⟨go, 0, none⟩) n n) out := by
 have hl := h.len;subst hl
 refine Kd.R_of_own (enc := Value.bool) (show wr.ownsRow base 4 1 _ out.length (out.map Value.bool) from ⟨by simp, .inr ⟨go, out.length, (out.map Value.bool).toArray, rfl, Nat.le_trans hb h.ge, h.row, Nat.le_refl _, by simp [maxLen]; omega, by simp, List.take_of_length_le (by simp)⟩⟩) (fun _ _ => trivial)
end
theorem drop_get {α : Type} (L : List α) (d : α) (i : Nat) (h : i < L.length) : L.drop i = L.getD i d :: L.drop (i + 1) := by
 rw [List.drop_eq_getElem_cons h, List.getD_eq_getElem?_getD, List.getElem?_eq_getElem h]
 rfl
set_option maxHeartbeats 16000000 in
set_option maxRecDepth 100000 in
theorem impl_tray_blocked.calls (a0_0 a0_1 : Int) (A0_2 : Option Addr) (c0_2 : Nat) (l0_2 : List Int) (A1 : Option Addr) (c1 : Nat) (l1 : List (List Int)) (a2 : Int) (r : List Bool) (w : World) (hr0_2 : Kd.C (Kd.int .u8) w A0_2 l0_2.length l0_2) (hc0_2 : l0_2.length ≤ c0_2)
  (hr1 : Kd.C (Kd.slice 3 (Kd.int .i64)) w A1 l1.length l1) (_hc1 : l1.length ≤ c1) (h : impl_tray_blocked.f a0_0 a0_1 l0_2 l1 a2 = some r) :
  Calls Tryd.prog 54 #[.agg #[.int .i64 a0_0, .int .i64 a0_1, .slice A0_2 l0_2.length c0_2], .slice A1 l1.length c1, .int .u8 a2] w fun e w' => ∃ v0_ : Value, e = .returned (v0_) ∧ Kd.R Kd.bool 4 w' w.heap.size (fun _ => True) v0_ r ∧ Below w.heap.size w w' := by
 unfold impl_tray_blocked.f at h
 split at h
 case isFalse => cases h
 rename_i hsm
 simp only [smallP, Bool.and_eq_true, decide_eq_true_eq, List.all_eq_true] at hsm
 obtain ⟨hn, hp⟩ := hsm;have HF := Aside0.mk h;have HP := Aside0.mk hp;have HR := Aside0.mk hr0_2;have HC := Aside0.mk hc0_2;have HR1 := Aside0.mk hr1;have hu := Tryd.underlying41;have epa : ∀ args w, (callFunc 70 args).run Tryd.prog w = .ok (.enter 70 args) w := enters_of Tryd.func70 (by kernel_rfl) rfl;clear h hp hr0_2 hc0_2 hr1
 go_enter Tryd.func54, Tryd.ntmps54
 go_wp2_with (first
  | ((with_reducible refine gate_dst (N := 3) rfl ?_); refine box_event ?hg (N := 3) ?hd (cs := #[.int .i64 a0_0, .int .i64 a0_1, .slice A0_2 l0_2.length c0_2]) (t := 41) ?hr ?_; (case hd => rfl); (case hg => rfl); (case hr => first | (go_simp; done) | (go_simp; rfl)); intro gt hg w3 hbox hb; (have HB3 := Aside0.mk hb); (have HT := Aside0.mk hbox); clear hbox hb hg)
  | ((with_reducible refine gate_dst (N := 4) rfl ?_); refine box_event ?hg (N := 4) ?hd (cs := #[.slice A1 l1.length c1]) (t := 37) ?hr ?_; (case hd => rfl); (case hg => rfl); (case hr => first | (go_simp; done) | (go_simp; rfl)); intro gp hg w4 hbox hb; (have HB4 := Aside0.mk (below_then HB3.out HB3.out.size hb)); (have HT4 := Aside0.mk ((hb.block gt (blk_lt HT.out)).trans HT.out)); (have HPB := Aside0.mk hbox); clear hbox hb hg HT HB3; (have q0 := (blk_cell HPB.out 0).trans rfl))
  | ((with_reducible refine gate_dst (N := 17) rfl ?_); apply wpList_makeBool (w0 := w4) (B := w4.heap.size) (n := l1.length); (case hgd => rfl); (case ho => rfl); (case hx => rfl); (case hy => rfl); (case ht => exact Tryd.underlying64); (case hinfo => exact info4); (case hn => exact hn); (case HB => exact Below.refl _ _); (case hB => exact Nat.le_refl _); intro go w5 HG hgo HBo; (have q5 := (HBo.out.cell (p := ⟨gp, 0, none⟩) (blk_lt HPB.out)).trans q0)))
 have HS := Aside0.mk (BS.mk HBo.out HG.out (by simp) hgo : BS w4 w5 go l1.length (List.replicate l1.length false));have HX := Aside0.mk (Bx.mk ((blk_cell HT4.out 0).trans rfl) ((blk_cell HT4.out 1).trans rfl) ((blk_cell HT4.out 2).trans rfl) (blk_lt HT4.out) (Kd.C_below HR.out HB4.out) : Bx w4 gt a0_0 a0_1 A0_2 c0_2 l0_2);have HQ := Aside0.mk q0;have HPL := Aside0.mk (blk_lt HPB.out);have HR4 := Aside0.mk (Kd.C_below HR1.out HB4.out);clear HG HBo hgo q0 q5 HT4 HPB HR HR1
 go_loopg [22] (l1.length + 1) (fun gg v22 wr => ∃ (t : Nat) (out : List Bool), v22 = .int .i64 t ∧ Aside0 (t ≤ l1.length + 1 ∧ l1.length + 1 - t ≤ gg ∧ brn a0_0 a0_1 l0_2 a2 l1 (l1.length + 1 - t) out = some r) ∧ Aside0 (BS w4 wr go l1.length out))
 case atStart => exact ⟨0, _, rfl, ⟨Nat.zero_le _, Nat.le_refl _, HF.out⟩, HS⟩
 case round =>
  clear HS HF;obtain ⟨t, out, rfl, HA, HS⟩ := hrel;obtain ⟨ht, hgg, hbr⟩ := HA.out;have q5 := (HS.out.below.cell (p := ⟨gp, 0, none⟩) HPL.out).trans HQ.out
  by_cases hlt : t < l1.length + 1
  ·have d1 : decide ((t : Int) < (l1.length : Int) + 1) = true := decide_eq_true (by omega)
   rw [show l1.length + 1 - t = (l1.length - t) + 1 by omega] at hbr
   obtain ⟨out2, hb2, hb3⟩ := Option.bind_eq_some_iff.1 (show (bps a0_0 a0_1 l0_2 a2 l1 l1 0 out).bind (brn a0_0 a0_1 l0_2 a2 l1 (l1.length - t)) = some r from hbr);have HB2 := Aside0.mk hb2;have HB3 := Aside0.mk hb3;clear hbr hb2 hb3;have HGK := Aside0.mk (show l1.length + 1 - t ≤ gk ∧ t < l1.length + 1 from ⟨hgg, hlt⟩);clear hgg hlt ht HA
   go_wp2
   go_loopg [26] l1.length (fun gg v26 wr => ∃ (i : Nat) (o2 : List Bool), v26 = .int .i64 i ∧ Aside0 (i ≤ l1.length ∧ l1.length - i ≤ gg ∧ bps a0_0 a0_1 l0_2 a2 l1 (l1.drop i) i o2 = some out2) ∧ Aside0 (BS w4 wr go l1.length o2))
   case atStart => exact ⟨0, out, rfl, ⟨Nat.zero_le _, by omega, by rw [List.drop_zero]; exact HB2.out⟩, HS⟩
   case round =>
    clear HB2 HS q5 d1;obtain ⟨i, o2, rfl, HA2, HS⟩ := hrel
    by_cases hli : i < l1.length
    ·have c2 : decide ((i : Int) < (l1.length : Int)) = true := decide_eq_true (by omega)
     have p1 : (0 ≤ (i : Int)) = True := eq_true (by omega);have p2 : ((i : Int) < (l1.length : Int)) = True := eq_true (by omega);have hbp := HA2.out.2.2
     rw [drop_get l1 [] i hli] at hbp
     obtain ⟨o3, hb4, hb5⟩ := Option.bind_eq_some_iff.1 (show (bpc a0_0 a0_1 l0_2 a2 l1 i (l1.getD i []) o2).bind (bps a0_0 a0_1 l0_2 a2 l1 (l1.drop (i + 1)) (i + 1)) = some out2 from hbp);have HB4 := Aside0.mk hb4;have HB5 := Aside0.mk hb5;obtain ⟨ad, Ap, cp, e1, hx4, hlp, hCp⟩ := at_sl HR4.out i hli
     cases e1
     have hx := (HS.out.below.cell (World.block_lt_of_cell? _ _ hx4)).trans hx4
     have hpm : (l1.getD i []).length ≤ 1000 := by
      refine HP.out _ ?_
      rw [List.getD_eq_getElem?_getD, List.getElem?_eq_getElem hli]
      exact List.getElem_mem hli
     generalize l1.getD i [] = pc at hx hCp HB4 hpm hx4 hlp hb4;have HCp := Aside0.mk hCp;have HGK2 := Aside0.mk (show l1.length - i ≤ gk ∧ i < l1.length from ⟨HA2.out.2.1, hli⟩);have HB4p := Aside0.mk hb4;clear hbp hb4 hb5 hlp hCp HA2 hli hx4
     go_wp2
     go_loopg [33] pc.length (fun gg v33 wr => ∃ (u : Nat) (o4 : List Bool), v33 = .int .i64 u ∧ Aside0 (u ≤ pc.length ∧ pc.length - u ≤ gg ∧ bpc a0_0 a0_1 l0_2 a2 l1 i (pc.drop u) o4 = some o3) ∧ Aside0 (BS w4 wr go l1.length o4))
     case atStart => exact ⟨0, o2, rfl, ⟨Nat.zero_le _, by omega, by rw [List.drop_zero]; exact HB4p.out⟩, HS⟩
     case round =>
      clear HB4p HS hx c2 p1 p2;obtain ⟨u, o4, rfl, HA3, HS⟩ := hrel
      by_cases hlu : u < pc.length
      ·have c3 : decide ((u : Int) < (pc.length : Int)) = true := decide_eq_true (by omega)
       have p3 : (0 ≤ (u : Int)) = True := eq_true (by omega);have p4 : ((u : Int) < (pc.length : Int)) = True := eq_true (by omega);have hbq := HA3.out.2.2
       rw [drop_get pc 0 u hlu] at hbq
       obtain ⟨o5, hb6, hb7⟩ := Option.bind_eq_some_iff.1 (show (bstep a0_0 a0_1 l0_2 a2 l1 i o4 (pc.getD u 0)).bind (bpc a0_0 a0_1 l0_2 a2 l1 i (pc.drop (u + 1))) = some o3 from hbq);obtain ⟨ad3, e3, hx3⟩ := Kd.at_int (Kd.C_below HCp.out HS.out.below) (u : Int) (by omega) (by omega)
       cases e3
       rw [Int.toNat_natCast] at hx3
       rw [show rd pc (u : Int) = pc.getD u 0 from by unfold rd; rw [Int.toNat_natCast]] at hx3
       generalize pc.getD u 0 = x at hx3 hb6;have HGK3 := Aside0.mk (show pc.length - u ≤ gk ∧ u < pc.length from ⟨HA3.out.2.1, hlu⟩);have HB7 := Aside0.mk hb7;have HB6 := Aside0.mk hb6;clear hbq hb6 hb7 HA3 hlu;obtain ⟨nx, hnx, hb8⟩ := Option.bind_eq_some_iff.1 (show (impl_tray_ahead.f 1 a0_0 a0_1 l0_2 x a2).bind (fun nx => if nx < 0 then some (o4.set i true) else if nx < (l0_2.length : Int) then (if rd l0_2 nx = 35 then some (o4.set i true) else if idxOf nx l1 < 0 then some o4 else if idxOf nx l1 < (o4.length : Int) then (if rdOf false o4 (idxOf nx l1) = true then some (o4.set i true) else some o4) else none) else none) = some o5 from HB6.out);have HNX := Aside0.mk hnx;have H8 := Aside0.mk hb8;have hXX := HX.out.below HS.out.below;obtain ⟨z0, z1, z2, _, _⟩ := hXX;clear hnx hb8 HB6
       go_wp2_with fail
       refine (impl_tray_ahead.calls 1 a0_0 a0_1 _ c0_2 l0_2 x a2 nx _ (Kd.C_below HX.out.reads HS.out.below) HC.out HNX.out).mono ?_
       rintro e w6 ⟨rfl, hb9⟩
       have HS6 := Aside0.mk (HS.out.step hb9);clear HS hx3 z0 z1 z2 hb9 HNX;have hXX := HX.out.below HS6.out.below;obtain ⟨z0, z1, z2, _, _⟩ := hXX;have q5 := (HS6.out.below.cell (p := ⟨gp, 0, none⟩) HPL.out).trans HQ.out
       have hli2 : i < o4.length := by rw [HS6.out.len]; exact HGK2.out.2
       have hs5 := HS6.out.cell i hli2;have hf5 := blk_frozen HS6.out.row i;have hol := HS6.out.len;have p1 : (0 ≤ (i : Int)) = True := eq_true (by omega);have p2 : ((i : Int) < (l1.length : Int)) = True := eq_true (by have := HGK2.out; omega)
       by_cases hneg : nx < 0
       ·have d4 : decide (nx < 0) = true := decide_eq_true hneg
        obtain rfl : o4.set i true = o5 := Option.some.inj ((if_pos hneg).symm.trans H8.out);clear H8
        go_wp2
        go_roundg (pc.length - (u + 1))
        case measure => have := HGK3.out; omega
        case rel => exact ⟨u + 1, _, by first | rfl | rw [wrap64_small u (by have := HGK3.out; omega)] | simp, ⟨by have := HGK3.out; omega, Nat.le_refl _, HB7.out⟩, ⟨HS6.out.set i true⟩⟩
       ·have d4 : decide (nx < 0) = false := decide_eq_false hneg
        have h9 := (if_neg hneg).symm.trans H8.out
        by_cases hlen : nx < (l0_2.length : Int)
        case neg => exact absurd ((if_neg hlen).symm.trans h9) (by simp)
        have h10 := (if_pos hlen).symm.trans h9;have HN := Aside0.mk (show 0 ≤ nx ∧ nx < (l0_2.length : Int) from ⟨by omega, hlen⟩);have p5 : (0 ≤ nx) = True := eq_true HN.out.1;have p6 : (nx < (l0_2.length : Int)) = True := eq_true hlen;obtain ⟨ad5, e5, hx5⟩ := Kd.at_int (HX.out.below HS6.out.below).reads nx HN.out.1 hlen;clear h9 H8 hneg hlen
        cases e5
        generalize rd l0_2 nx = b at h10 hx5
        by_cases hw : b = 35
        ·have d5 : (b == 35) = true := beq_iff_eq.2 hw
         obtain rfl : o4.set i true = o5 := Option.some.inj ((if_pos hw).symm.trans h10);clear h10 hw
         go_wp2
         go_roundg (pc.length - (u + 1))
         case measure => have := HGK3.out; omega
         case rel => exact ⟨u + 1, _, by first | rfl | rw [wrap64_small u (by have := HGK3.out; omega)] | simp, ⟨by have := HGK3.out; omega, Nat.le_refl _, HB7.out⟩, ⟨HS6.out.set i true⟩⟩
        ·have d5 : (b == 35) = false := beq_eq_false_iff_ne.2 hw
         have h11 := (if_neg hw).symm.trans h10;have hcall := pieceAt_calls gp nx _ c1 l1 w6 hn HP.out (Kd.C_below HR4.out HS6.out.below) (Nat.lt_of_lt_of_le HPL.out HS6.out.below.size) q5;clear h10 hw q5;generalize idxOf nx l1 = y at h11 hcall;have HCALL := Aside0.mk hcall;clear hcall
         by_cases hy : y < 0
         ·have d6 : decide (0 ≤ y) = false := decide_eq_false (by omega)
          have d7 : decide (y ≥ 0) = false := decide_eq_false (by omega);obtain rfl : o4 = o5 := Option.some.inj ((if_pos hy).symm.trans h11);clear h11
          go_wp2_with (go_at_call 70; refine HCALL.out.mono ?_; rintro e w7 ⟨rfl, hb9⟩; have HS7 := Aside0.mk (HS6.out.step hb9); clear hx5 z0 z1 z2 hb9 hs5 hf5; have hs5 := HS7.out.cell i hli2; have hf5 := blk_frozen HS7.out.row i)
          go_roundg (pc.length - (u + 1))
          case measure => have := HGK3.out; omega
          case rel => exact ⟨u + 1, _, by first | rfl | rw [wrap64_small u (by have := HGK3.out; omega)] | simp, ⟨by have := HGK3.out; omega, Nat.le_refl _, HB7.out⟩, HS7⟩
         ·have d6 : decide (0 ≤ y) = true := decide_eq_true (by omega)
          have d7 : decide (y ≥ 0) = true := decide_eq_true (by omega);have h13 := (if_neg hy).symm.trans h11
          by_cases hyl : y < (o4.length : Int)
          case neg => exact absurd ((if_neg hyl).symm.trans h13) (by simp)
          have h14 := (if_pos hyl).symm.trans h13;have p7 : (0 ≤ y) = True := eq_true (by omega);have p8 : (y < (l1.length : Int)) = True := eq_true (by rw [← hol]; exact hyl);obtain ⟨yn, rfl⟩ := Int.eq_ofNat_of_zero_le (show 0 ≤ y by omega)
          have hyn : yn < o4.length := by omega
          clear hyl h13 h11 hy
          cases hbb : rdOf false o4 (yn : Int) with
          | true =>
           rw [hbb] at h14
           obtain rfl : o4.set i true = o5 := Option.some.inj ((if_pos rfl).symm.trans h14);clear h14
           go_wp2_with (go_at_call 70; refine HCALL.out.mono ?_; rintro e w7 ⟨rfl, hb9⟩; have HS7 := Aside0.mk (HS6.out.step hb9); clear hx5 z0 z1 z2 hb9 hs5 hf5; have hs5 := HS7.out.cell i hli2; have hf5 := blk_frozen HS7.out.row i; have hs6 := HS7.out.cell yn hyn; rw [hbb] at hs6)
           go_roundg (pc.length - (u + 1))
           case measure => have := HGK3.out; omega
           case rel => exact ⟨u + 1, _, by first | rfl | rw [wrap64_small u (by have := HGK3.out; omega)] | simp, ⟨by have := HGK3.out; omega, Nat.le_refl _, HB7.out⟩, ⟨HS7.out.set i true⟩⟩
          | false =>
           rw [hbb] at h14
           obtain rfl : o4 = o5 := Option.some.inj ((if_neg (by simp)).symm.trans h14);clear h14
           go_wp2_with (go_at_call 70; refine HCALL.out.mono ?_; rintro e w7 ⟨rfl, hb9⟩; have HS7 := Aside0.mk (HS6.out.step hb9); clear hx5 z0 z1 z2 hb9 hs5 hf5; have hs5 := HS7.out.cell i hli2; have hf5 := blk_frozen HS7.out.row i; have hs6 := HS7.out.cell yn hyn; rw [hbb] at hs6)
           go_roundg (pc.length - (u + 1))
           case measure => have := HGK3.out; omega
           case rel => exact ⟨u + 1, _, by first | rfl | rw [wrap64_small u (by have := HGK3.out; omega)] | simp, ⟨by have := HGK3.out; omega, Nat.le_refl _, HB7.out⟩, HS7⟩
      ·have hiq := HA3.out
       obtain rfl : u = pc.length := by omega
       have c3 : decide ((pc.length : Int) < (pc.length : Int)) = false := decide_eq_false (by omega);have he := hiq.2.2
       rw [List.drop_length] at he
       obtain rfl : o4 = o3 := Option.some.inj he;clear hiq he HA3
       go_wp2
       go_roundg (l1.length - (i + 1))
       case measure => have := HGK2.out; omega
       case rel => exact ⟨i + 1, o4, by first | rfl | rw [wrap64_small i (by have := HGK2.out; omega)] | simp, ⟨by have := HGK2.out; omega, Nat.le_refl _, HB5.out⟩, HS⟩
    ·have hiq := HA2.out
     obtain rfl : i = l1.length := by omega
     have c2 : decide ((l1.length : Int) < (l1.length : Int)) = false := decide_eq_false (by omega);have he := hiq.2.2
     rw [List.drop_length] at he
     obtain rfl : o2 = out2 := Option.some.inj he;clear hiq he HA2
     go_wp2
     go_roundg (l1.length + 1 - (t + 1))
     case measure => have := HGK.out; omega
     case rel => exact ⟨t + 1, o2, by first | rfl | rw [wrap64_small t (by have := HGK.out; omega)] | simp, ⟨by have := HGK.out; omega, Nat.le_refl _, by rw [show l1.length + 1 - (t + 1) = l1.length - t by omega]; exact HB3.out⟩, HS⟩
  ·obtain rfl : t = l1.length + 1 := by omega
   have d1 : decide (((l1.length + 1 : Nat) : Int) < (l1.length : Int) + 1) = false := decide_eq_false (by omega)
   have he : some out = some r := by simpa [brn] using hbr
   obtain rfl := Option.some.inj he;clear he hbr
   go_wp2
   go_ret
   exact ⟨_, rfl, HS.out.R HB4.out.size hn, below_then HB4.out HB4.out.size HS.out.below⟩
end Go.Proofs.YtkjlfgceodindaaDoor.Q
end
section
namespace Go.Proofs.YtkjlfgceodindaaDoor.Q
set_option linter.unusedSectionVars false
open Go.RowKit Go.Proofs.YtkjlfgceodindaaDoorW.PrintWords Go.Proofs.YtkjlfgceodindaaDoorW.PrintLast Go.Proofs.YtkjlfgceodindaaDoorW.PrintMore
noncomputable def PE : Value → Option (DataW Unit × List MemPlace) := plainElem Tryd.prog 3
theorem keyI : Maps.Keyed Tryd.prog 3 := Maps.int_keyed Tryd.underlying3
def lk (x : Int) : Lit := .int .i64 x
theorem lk_wf {x : Int} (h0 : 0 ≤ x) (h1 : x ≤ 1000000) : (Lit.int .i64 x).wf = true := by
 unfold Lit.wf
 rw [Bool.and_eq_true]
 exact ⟨decide_eq_true (Int.le_trans (by decide) h0), decide_eq_true (Int.le_trans h1 (by decide))⟩
theorem lk_key (x : Int) : WideAt.IsKeyLit (lk x) := by simp [WideAt.IsKeyLit, lk]
theorem lk_ne {x y : Int} (h : x ≠ y) : lk x ≠ lk y := fun e => h (by injection e)
structure Holds (D : DataW Unit) (f : Int → Option Int) : Prop where
 map : Maps.IsMap D
 at' : ∀ (x : Int) (z : DataW Unit), D.atKey (lk x) z = match f x with | some c => .lit (lk c) | none => z
 has' : ∀ x : Int, Maps.has D (lk x) = (f x).isSome
theorem Holds.made : Holds (.map []) fun _ => none := ⟨Maps.isMap_empty, fun _ _ => rfl, fun _ => rfl⟩
def upd (f : Int → Option Int) (k v : Int) : Int → Option Int := fun x => if x = k then some v else f x
theorem Holds.put {D : DataW Unit} {f : Int → Option Int} (h : Holds D f) (k v : Int) : Holds (D.put (lk k) (.lit (lk v))) (upd f k v) := by
 refine ⟨h.map.put _ _, fun x z => ?_, fun x => ?_⟩
 ·unfold upd
  by_cases e : x = k
  ·rw [if_pos e, e, Maps.atKey_put_same h.map (lk_key k)]
  ·rw [if_neg e, Maps.atKey_put_other (lk_ne e), h.at']
 ·unfold upd
  by_cases e : x = k
  ·rw [if_pos e, e, Maps.has_put_same h.map (lk_key k)]
   rfl
  ·rw [if_neg e, Maps.has_put_other (lk_ne e), h.has']
def MP (w : World) (b n : Nat) (f : Int → Option Int) : Prop := ∃ D : DataW Unit, w.ownsMap Tryd.prog 3 PE b n D ∧ Holds D f
theorem MP.made (w : World) : MP (w.alloc (.map #[] 0)) w.heap.size 0 fun _ => none := ⟨_, World.ownsMap_made w _ _ _, Holds.made⟩
theorem MP.kept {w w' : World} {b n : Nat} {f : Int → Option Int} {row : Option Nat} (h : MP w b n f) (hg : w.grownBy w' row) (hne : some b ≠ row) : MP w' b n f := by
 obtain ⟨D, h1, h2⟩ := h
 exact ⟨D, h1.kept hg hne, h2⟩
theorem MP.below {w w' : World} {b n : Nat} {f : Int → Option Int} (h : MP w b n f) (hb : Below w.heap.size w w') : MP w' b n f := h.kept (grown_of_below hb none) (by simp)
def NC (w : World) (r : Nat) : Prop := ∀ (c : Array Value) (q : Nat) (z : Nat × Nat), w.heap[r]? ≠ some (.cells c q z)
theorem R_turn {α : Type} {d : Kd α} {e base : Nat} {ok : Nat → Prop} {w w1 : World} {v : Value} {xs : List α} (h : Kd.R d e w base ok v xs) {r : Nat} (hg : w.grownBy w1 (some r)) (hn : NC w r) : Kd.R d e w1 base ok v xs :=
 Kd.R_mono (Kd.R_move (Kd.R_bound h) (fun k hk => hg.block k hk.2.2.1 (by
  rintro e
  cases e
  obtain ⟨_, _, _, q, _, cells, hc⟩ := hk
  exact hn _ _ _ hc))) (fun _ hk => hk.1)
theorem blk_turn {w w1 : World} {g r q : Nat} {c : Array Value} {z : Nat × Nat} (h : w.heap[g]? = some (.cells c q z)) (hg : w.grownBy w1 (some r)) (hn : NC w r) : w1.heap[g]? = some (.cells c q z) := by
 refine blk_grown h hg ?_
 rintro e
 cases e
 exact hn _ _ _ h
theorem MP.nc {w : World} {b n : Nat} {f : Int → Option Int} (h : MP w b n f) : NC w b := by
 obtain ⟨D, ⟨es, clock, hb, _⟩, _⟩ := h;intro c q z e
 rw [hb] at e
 cases e
theorem ranges_nc {w : World} {b r n cnt : Nat} {D : DataW Unit} {left : Lit → Bool} (h : w.ranges Tryd.prog 3 PE b r n D left cnt) : NC w r := by
 obtain ⟨es, clock, since, seen, c0, hb, _, _, _, hr, _⟩ := h;intro c q z e
 rw [hr] at e
 cases e
theorem ranges_set {w : World} {b r n cnt : Nat} {D : DataW Unit} {left : Lit → Bool} (h : w.ranges Tryd.prog 3 PE b r n D left cnt) {g : Nat} (h1 : b ≠ g) (h2 : r ≠ g) (i : Nat) (v : Value) : (w.setCell ⟨g, i, none⟩ v).ranges Tryd.prog 3 PE b r n D left cnt := by
 obtain ⟨es, clock, since, seen, c0, hb, F, hs, hD, hr, rest⟩ := h
 exact ⟨es, clock, since, seen, c0, (Below.heap_setCell w ⟨g, i, none⟩ v b h1).trans hb, F, hs, hD, (Below.heap_setCell w ⟨g, i, none⟩ v r h2).trans hr, rest⟩
theorem ranges_drew {w : World} {b r n cnt : Nat} {D : DataW Unit} {left : Lit → Bool} (h : w.ranges Tryd.prog 3 PE b r n D left cnt) : w.drew.ranges Tryd.prog 3 PE b r n D left cnt := h
theorem ranges_mnc {w : World} {b r n cnt : Nat} {D : DataW Unit} {left : Lit → Bool} (h : w.ranges Tryd.prog 3 PE b r n D left cnt) : NC w b := by
 obtain ⟨es, clock, since, seen, c0, hb, _⟩ := h;intro c q z e
 rw [hb] at e
 cases e
theorem R_nc {α : Type} {d : Kd α} {e base n c : Nat} {ok : Nat → Prop} {w : World} {g : Nat} {xs : List α} (h : Kd.R d e w base ok (.slice (some ⟨g, 0, none⟩) n c) xs) {r : Nat} (hn : NC w r) : r ≠ g := by
 rintro rfl
 obtain ⟨_, _, _, q, _, cells, hc⟩ := (Kd.R_bound h).1 _ rfl
 exact hn _ _ _ hc
theorem below_none {W W1 : World} (hg : W.grownBy W1 none) : Below W.heap.size W W1 := (Below.refl _ W).grown hg (Nat.le_refl _) (fun _ h => by cases h)
theorem pe_int {c : Int} (hw : (Lit.int .i64 c).wf = true) : PE (.int .i64 c) = some (.lit (lk c), []) := plainElem_int Tryd.underlying3 hw
end Go.Proofs.YtkjlfgceodindaaDoor.Q
end
