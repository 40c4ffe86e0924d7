/- Texts of this claim, joined. -/
import Derived.Test.YtepmpilopmcjpaaGreatDoorJPermutationOf01
import Derived.Test.YtepmpilopmcjpaaGreatDoorJPermutationOf04
import Derived.Test.YtepmpilopmcjpaaGreatDoorJPermutationOf02
import Derived.Maps.OwnOps
import Derived.Test.YtepmpilopmcjpaaGreatDoorJPermutationOf03
import Derived.WalkKit
import Derived.Laws.AppendOwn
import Derived.Shelf.SlicesE.Clone
set_option linter.unusedVariables false
set_option linter.unusedSimpArgs false
set_option linter.unusedSectionVars false
section
namespace Go.Proofs.YtepmpilopmcjpaaGreatDoor.Q
open Go.RowKit Go.Proofs.YtepmpilopmcjpaaGreatDoorW.PrintWords Go.Proofs.YtepmpilopmcjpaaGreatDoorW.PrintLast Go.Proofs.YtepmpilopmcjpaaGreatDoorW.PrintMore
attribute [local go_sem] max2_int min2_int max_two min_two max_three min_three max_four min_four
set_option linter.unusedVariables false
set_option linter.unusedSimpArgs false
def spec_tiRun.l0 : Nat → ByteArray → Int → Int → Int → List Int → Option (Int × Int × List Int)
 | 0, _, _, _, _, _ => none
 | k + 1, x1, x5, x102000, x102001, x102002 => if x5 < (x1.size : Int) then (if 0 ≤ x5 then (if x5 ≤ (wrap64 (x5 + 1)) then (if (wrap64 (x5 + 1)) ≤ (x1.size : Int) then ((spec_tiDir.f k (x1.extract (x5 : Int).toNat ((wrap64 (x5 + 1)) : Int).toNat)).bind fun t103 => ((spec_tiTilt.f k x102000 x102001 x102002 t103).bind fun bt104 => (spec_tiRun.l0 k x1 (wrap64 (x5 + 1)) bt104.1 bt104.2.1 bt104.2.2))) else (none)) else (none)) else (none)) else (some (x102000, x102001, x102002))
def spec_tiRun.f (k : Nat) (a0_0 : Int) (a0_1 : Int) (l0_2 : List Int) (a1 : ByteArray) : Option (Int × Int × List Int) := spec_tiRun.l0 k a1 0 a0_0 a0_1 l0_2
def spec_tiRun.T4 : Bool × List (List Nat × List Nat) := (true, [([], []), ([], []), ([], []), ([], []), ([3], [3]), ([1, 2, 4], [1, 2, 4]), ([5], [5]), ([0, 6, 6], [0, 6]), ([7, 7, 0, 1, 2, 3, 4, 5, 6, 7], [7])])
def spec_tiRun.B4 : List Nat := [0, 0, 0, 0, 8, 30, 62, 127, 255]
theorem spec_tiRun.tab4 : rtab .any (opsOf Tryz.f53 4) = spec_tiRun.T4 := by kernel_rfl
theorem spec_tiRun.bits4 : waitsOk spec_tiRun.T4.2 spec_tiRun.B4 = true := by kernel_rfl
set_option maxHeartbeats 8000000 in
set_option maxRecDepth 100000 in
theorem spec_tiRun.calls (k : Nat) (a0_0 : Int) (a0_1 : Int) (P0_2_ : Nat → Prop) (A0_2 : Option Addr) (c0_2 : Nat) (l0_2 : List Int) (a1 : ByteArray) (r1 : Int) (r2 : Int) (r3 : List Int) (w : World) (hs0_2 : Kd.V (Kd.int .u8) 5 w w.heap.size (fun k_ => P0_2_ k_) (.slice A0_2 l0_2.length c0_2) l0_2) (h : spec_tiRun.f k a0_0 a0_1 l0_2 a1 = some (r1, r2, r3)) :
  Calls Tryz.prog 53 #[.agg #[.int .i64 a0_0, .int .i64 a0_1, .slice A0_2 l0_2.length c0_2], .string a1] w fun e w' => ∃ v2_ : Value, e = .returned (.agg #[.int .i64 r1, .int .i64 r2, v2_]) ∧ Kd.V (Kd.int .u8) 5 w' w.heap.size (fun k_ => (P0_2_ k_ ∨ w.heap.size ≤ k_)) v2_ r3 ∧ Below w.heap.size w w' := by
 have hu45 := Tryz.underlying45
 have HO0_2 := Aside0.mk (show Kd.V (Kd.int .u8) 5 w w.heap.size (fun k_ => (P0_2_ k_ ∨ w.heap.size ≤ k_)) (.slice A0_2 l0_2.length c0_2) l0_2 from Kd.V_mono hs0_2 (fun k_ hk => .inl hk))
 have HB := Aside0.mk (Below.refl w.heap.size w)
 have H : (spec_tiRun.l0 k a1 0 a0_0 a0_1 l0_2) = some (r1, r2, r3) := h
 clear h
 have H' := Aside0.mk H
 clear H
 go_enter Tryz.func53, Tryz.ntmps53
 go_wp2_with (first | ((with_reducible refine gate_dst (N := 2) rfl ?_); refine boxE (N := 2) (cs := #[.int .i64 a0_0, .int .i64 a0_1, .slice A0_2 l0_2.length c0_2]) (t := 45) ?_; intro gb101 hg w3 hbox hb; have n0_ := Aside0.mk (Kd.V_below (Kd.V_elderB (by (with_reducible repeat (first | apply Kd.V_alloc | apply Kd.V_drewN | apply Kd.V_drew)); (first | exact HO0_2.out | exact R_any HO0_2.out)) gb101 (Nat.le_of_eq hg.symm)) hb); have n1_ := Aside0.mk (below_step (bel HB) hb); have n2_ := Aside0.mk (hbox); have n3_ := Aside0.mk (gsz hg (bel HB)); have n4_ := Aside0.mk (gsz hg (bel HB)); clear HO0_2; clear HB; have HO0_2 := n0_; have HB := n1_; have BK101 := n2_; have GW101 := n3_; have GE101 := n4_; clear n0_ n1_ n2_ n3_ n4_; clear hb hbox hg) | ((with_reducible refine gate_dst (N := 4) rfl ?_); refine boxE (N := 4) (cs := #[.int .i64 0, .int .i64 0, .slice none 0 0]) (t := 45) ?_; intro gb102 hg w4 hbox hb; have n0_ := Aside0.mk (Kd.V_below (Kd.V_elderB (by (with_reducible repeat (first | apply Kd.V_alloc | apply Kd.V_drewN | apply Kd.V_drew)); (first | exact HO0_2.out | exact R_any HO0_2.out)) gb102 (Nat.le_of_eq hg.symm)) hb); have n1_ := Aside0.mk (blk_below (g := gb101) (o := .cells #[.int .i64 a0_0, .int .i64 a0_1, .slice A0_2 l0_2.length c0_2] 45 (0, 0)) blc hb); have n2_ := Aside0.mk (below_step (bel HB) hb); have n3_ := Aside0.mk (hbox); have n4_ := Aside0.mk (gsz hg (bel HB)); have n5_ := Aside0.mk (gsz hg (bel HB)); have n6_ := Aside0.mk ((by rw [hg]; exact Nat.ne_of_lt (blk_lt (g := gb101) (o := .cells #[.int .i64 a0_0, .int .i64 a0_1, .slice A0_2 l0_2.length c0_2] 45 (0, 0)) blc) : gb101 ≠ gb102)); have n7_ := Aside0.mk ((by rw [hg]; exact Nat.ne_of_gt (blk_lt (g := gb101) (o := .cells #[.int .i64 a0_0, .int .i64 a0_1, .slice A0_2 l0_2.length c0_2] 45 (0, 0)) blc) : gb102 ≠ gb101)); clear HO0_2; clear BK101; clear HB; have HO0_2 := n0_; have BK101 := n1_; have HB := n2_; have BK102 := n3_; have GW102 := n4_; have GE102 := n5_; have NB101_102 := n6_; have NB102_101 := n7_; clear n0_ n1_ n2_ n3_ n4_ n5_ n6_ n7_; clear hb hbox hg))
 go_loopg [5] k (fun kq v5 w' => ∃ (x5_1 : Int) (x102000_1 : Int) (x102001_1 : Int) (x102002_1 : List Int) (u102002 : Value), v5 = .int .i64 x5_1 ∧ Aside0 (spec_tiRun.l0 kq a1 x5_1 x102000_1 x102001_1 x102002_1 = some (r1, r2, r3)) ∧ Aside0 (kq ≤ k) ∧ Aside0 (Kd.V (Kd.int .u8) 5 w' w.heap.size (fun k_ => (P0_2_ k_ ∨ w.heap.size ≤ k_) ∧ k_ ≠ gb101 ∧ k_ ≠ gb102) u102002 x102002_1) ∧ Aside0 (w'.heap[gb101]? = some (.cells #[.int .i64 x102000_1, .int .i64 x102001_1, u102002] 45 (0, 0))) ∧ Aside0 (w'.heap[gb102]? = some (.cells #[.int .i64 0, .int .i64 0, (.slice none 0 0)] 45 (0, 0))) ∧ Aside0 (Below w.heap.size w w'))
 case atStart => exact ⟨(0), (a0_0), (a0_1), (l0_2), (.slice A0_2 l0_2.length c0_2), (by first | rfl | (simp; done) | (simp [*]; done)), H', ⟨Nat.le_refl _⟩, ⟨by (with_reducible repeat (first | apply Kd.V_alloc | apply Kd.V_drewN | apply Kd.V_drew)); exact Kd.V_mono HO0_2.out (fun _ hk => ⟨hk.1.1, ⟨hk.1.2, hk.2⟩⟩)⟩, ⟨blc⟩, ⟨blc⟩, ⟨bel HB⟩⟩
 case round =>
  clear H'
  try clear p2
  obtain ⟨x5_1, x102000_1, x102001_1, x102002_1, u102002, rfl, HA, HK1, HO_102002, BK101, BK102, HB⟩ := hrel
  cases gk with
  | zero => exact absurd HA.out (by simp [spec_tiRun.l0])
  | succ k1 =>
   have H := HA.out
   clear HA
   simp only [spec_tiRun.l0] at H
   by_cases c5 : x5_1 < (a1.size : Int)
   ·rw [if_pos c5] at H
    have c5b0 : decide (x5_1 < (a1.size : Int)) = true := decide_eq_true c5
    clear c5
    by_cases c6 : 0 ≤ x5_1
    ·rw [if_pos c6] at H
     have c6b0 := eq_true c6
     have c6b1 : decide (0 ≤ x5_1) = true := decide_eq_true c6
     clear c6
     by_cases c7 : x5_1 ≤ (wrap64 (x5_1 + 1))
     ·rw [if_pos c7] at H
      have c7b0 := eq_true c7
      have c7b1 : decide (x5_1 ≤ (wrap64 (x5_1 + 1))) = true := decide_eq_true c7
      by_cases c8 : (wrap64 (x5_1 + 1)) ≤ (a1.size : Int)
      ·rw [if_pos c8] at H
       have c8b0 := eq_true c8
       have c8b1 : decide ((wrap64 (x5_1 + 1)) ≤ (a1.size : Int)) = true := decide_eq_true c8
       replace H := Option.bind_eq_some_iff.mp H
       obtain ⟨t103, A90, H⟩ := H
       replace H : ((spec_tiTilt.f k1 x102000_1 x102001_1 x102002_1 t103).bind fun bt104 => (spec_tiRun.l0 k1 a1 (wrap64 (x5_1 + 1)) bt104.1 bt104.2.1 bt104.2.2)) = some (r1, r2, r3) := H
       have A9 := Aside0.mk A90
       clear A90
       replace H := Option.bind_eq_some_iff.mp H
       obtain ⟨⟨t104, t105, t106⟩, A100, H⟩ := H
       replace H : (spec_tiRun.l0 k1 a1 (wrap64 (x5_1 + 1)) t104 t105 t106) = some (r1, r2, r3) := H
       have A10 := Aside0.mk A100
       clear A100
       have H' := Aside0.mk H
       clear H
       try go_wp2
       have n0_ := Aside0.mk (Kd.V_drew HO_102002.out)
       have n1_ := Aside0.mk (blk_drew BK101.out)
       have n2_ := Aside0.mk (blk_drew BK102.out)
       have n3_ := Aside0.mk (below_drew1 HB.out)
       clear HO_102002
       clear BK101
       clear BK102
       clear HB
       have HO_102002 := n0_
       have BK101 := n1_
       have BK102 := n2_
       have HB := n3_
       clear n0_ n1_ n2_ n3_
       refine start_ (n := 9) (S := fun w' => w'.cell? ⟨gb101, 0, none⟩ = some (.int .i64 x102000_1) ∧ w'.cell? ⟨gb101, 1, none⟩ = some (.int .i64 x102001_1) ∧ w'.cell? ⟨gb101, 2, none⟩ = some (u102002)) (ds := [8]) #[false, false, false, false, false, false, false, false, false] (by kernel_rfl) rfl rfl ⟨(blk_cell BK101.out 0).trans rfl, (blk_cell BK101.out 1).trans rfl, (blk_cell BK101.out 2).trans rfl⟩ (fun hHeld => ?_); refine with_tabW spec_tiRun.tab4 spec_tiRun.bits4 (fun HT_ HW_ => ?_)
       generalize wr.drew = w11 at HO_102002 BK101 BK102 HB hHeld ⊢
       refine pure_ (i := 1) (N := some 13) (v := ?_) (a' := ?_) #[false, true, false, false, false, false, false, false, false] rfl rfl (any_of HT_.out (by kernel_rfl)) (fun _ _ _ h => h) (Or.inl ⟨by rfl, ?_⟩) ?_ ?_
       rotate_left
       ·intro w'
        go_simp
        with_reducible rfl
       rotate_left
       ·simp only [Act.put, List.setIfInBounds_toArray, List.set_cons_zero, List.set_cons_succ, i64_w, i32_w]
        rfl
       refine pure_ (i := 2) (N := some 14) (v := ?_) (a' := ?_) #[false, true, true, false, false, false, false, false, false] rfl rfl (any_of HT_.out (by kernel_rfl)) (fun _ _ _ h => h) (Or.inl ⟨by rfl, ?_⟩) ?_ ?_
       rotate_left
       ·intro w'
        go_simp
        with_reducible rfl
       rotate_left
       ·simp only [Act.put, List.setIfInBounds_toArray, List.set_cons_zero, List.set_cons_succ, i64_w, i32_w]
        rfl
       refine pure_ (i := 3) (N := some 15) (v := ?_) (a' := ?_) #[false, true, true, true, false, false, false, false, false] rfl rfl (any_of HT_.out (by kernel_rfl)) (fun _ _ _ h => h) (Or.inl ⟨by rfl, ?_⟩) ?_ ?_
       rotate_left
       ·intro w'
        go_simp
        with_reducible rfl
       rotate_left
       ·simp only [Act.put, List.setIfInBounds_toArray, List.set_cons_zero, List.set_cons_succ, i64_w, i32_w]
        rfl
       refine pure_ (i := 4) (N := some 16) (v := ?_) (a' := ?_) #[false, true, true, true, true, false, false, false, false] rfl rfl (any_of HT_.out (by kernel_rfl)) (fun _ _ _ h => h) (Or.inl ⟨by rfl, ?_⟩) ?_ ?_
       rotate_left
       ·intro w'
        go_simp
        with_reducible rfl
       rotate_left
       ·simp only [Act.put, List.setIfInBounds_toArray, List.set_cons_zero, List.set_cons_succ, i64_w, i32_w]
        rfl
       refine pure_ (i := 5) (N := some 17) (v := ?_) (a' := ?_) #[false, true, true, true, true, true, false, false, false] rfl rfl (any_of HT_.out (by kernel_rfl)) (fun _ _ _ h => h) (Or.inl ⟨by rfl, ?_⟩) ?_ ?_
       rotate_left
       ·intro w'
        go_simp
        with_reducible rfl
       rotate_left
       ·simp only [Act.put, List.setIfInBounds_toArray, List.set_cons_zero, List.set_cons_succ, i64_w, i32_w]
        rfl
       refine take_ (i := 0) (N := some 12) (v := ?_) (a' := ?_) #[true, true, true, true, true, true, false, false, false] rfl rfl (take_ofW HT_.out HW_.out (by kernel_rfl)) (fun _ _ _ h => h) (Or.inl ⟨by rfl, ?_⟩) hHeld ?_ ?_
       rotate_left
       ·rintro w' ⟨s0, s1, s2⟩
        go_simp
        with_reducible rfl
       rotate_left
       ·simp only [Act.put, List.setIfInBounds_toArray, List.set_cons_zero, List.set_cons_succ, i64_w, i32_w]
        rfl
       refine one_ (i := 6) (N := some 18) #[true, true, true, true, true, true, true, false, false] rfl rfl (one_of HT_.out (by kernel_rfl)) (by decide) (fun K hK => ?_)
       refine goes_ Tryz.func42 (by kernel_rfl) rfl #[.string (a1.extract (x5_1 : Int).toNat ((wrap64 (x5_1 + 1)) : Int).toNat)] (by rfl) rfl rfl (by (try simp only [List.map_toArray, List.map_cons, List.map_nil]); first | done | rfl | (simp only [List.length_drop, List.length_take]; rfl)) ?_
       with_reducible refine (spec_tiDir.calls k1 (a1.extract (x5_1 : Int).toNat ((wrap64 (x5_1 + 1)) : Int).toNat) t103 _ A9.out).mono ?_
       rintro e w' ⟨rfl, ⟨nd, rfl⟩⟩
       refine ⟨_, rfl, ?_⟩
       obtain ⟨Ao12, co12, eo12⟩ := Kd.V_slice HO_102002.out
       (first | subst eo12 | (injection eo12 with f1_ f2_ f3_; have f4_ := f1_.symm; have f5_ := f3_.symm; clear f1_ f2_ f3_; subst f4_; subst f5_))
       refine hK.out _ _ ⟨(blk_cell BK101.out 0).trans rfl, (blk_cell BK101.out 1).trans rfl, (blk_cell BK101.out 2).trans rfl⟩ (fun hHeld => ?_)
       clear hK K
       refine norm_ (a' := ?_) ?_ ?_
       rotate_left
       ·show Act.put _ (some 18) _ = _
        simp only [Act.put, List.setIfInBounds_toArray, List.set_cons_zero, List.set_cons_succ, i64_w, i32_w]
        rfl
       refine one_ (i := 7) (N := some 19) #[true, true, true, true, true, true, true, true, false] rfl rfl (one_of HT_.out (by kernel_rfl)) (by decide) (fun K hK => ?_)
       refine goes_ Tryz.func28 (by kernel_rfl) rfl #[.agg #[.int .i64 x102000_1, .int .i64 x102001_1, .slice Ao12 x102002_1.length co12], .int .i64 t103] (by rfl) rfl rfl (by (try simp only [List.map_toArray, List.map_cons, List.map_nil]); first | done | rfl | (simp only [List.length_drop, List.length_take]; rfl)) ?_
       with_reducible refine (spec_tiTilt.calls k1 x102000_1 x102001_1 _ _ x102002_1 t103 t104 t105 t106 _ ?side1 ?side2 A10.out).mono ?_
       (case side1 => repeat (first | exact (Kd.V_reads' HO_102002.out).2.2 | (with_reducible refine Kd.C_alloc ?_ _) | (with_reducible refine Kd.C_drewN ?_ _) | (with_reducible refine Kd.C_drew ?_)))
       (case side2 => exact (Kd.V_reads' HO_102002.out).2.1)
       rintro e w13 ⟨v107, rfl, ho0, hb⟩
       refine ⟨_, rfl, ?_⟩
       have n0_ := Aside0.mk (Kd.V_elder' (by (with_reducible repeat (first | apply Kd.V_alloc | apply Kd.V_drewN | apply Kd.V_drew)); (first | exact HO_102002.out | exact R_any HO_102002.out)) (Kd.R_base ho0) hb)
       have n1_ := Aside0.mk (Kd.R_lower (Kd.R_newM (M := fun k_ => (w.heap.size ≤ k_)) ho0 (below_size (bel HB)) (fun k_ h_ => h_)) (below_size (bel HB)))
       have n2_ := Aside0.mk (blk_below (g := gb101) (o := .cells #[.int .i64 x102000_1, .int .i64 x102001_1, .slice Ao12 x102002_1.length co12] 45 (0, 0)) blc hb)
       have n3_ := Aside0.mk (blk_below (g := gb102) (o := .cells #[.int .i64 0, .int .i64 0, .slice none 0 0] 45 (0, 0)) blc hb)
       have n4_ := Aside0.mk (below_step (bel HB) hb)
       clear HO_102002
       clear BK101
       clear BK102
       clear HB
       have HO_102002 := n0_
       have HO108 := n1_
       have BK101 := n2_
       have BK102 := n3_
       have HB := n4_
       clear n0_ n1_ n2_ n3_ n4_
       (try clear hb)
       (try clear hb2)
       (try clear hk)
       (try clear hi)
       (try clear ho0)
       obtain ⟨Ao16, co16, eo16⟩ := Kd.R_slice HO108.out
       (first | subst eo16 | (injection eo16 with f1_ f2_ f3_; have f4_ := f1_.symm; have f5_ := f3_.symm; clear f1_ f2_ f3_; subst f4_; subst f5_))
       refine hK.out _ _ ⟨(blk_cell BK101.out 0).trans rfl, (blk_cell BK101.out 1).trans rfl, (blk_cell BK101.out 2).trans rfl⟩ (fun hHeld => ?_)
       clear hK K
       refine norm_ (a' := ?_) ?_ ?_
       rotate_left
       ·show Act.put _ (some 19) _ = _
        simp only [Act.put, List.setIfInBounds_toArray, List.set_cons_zero, List.set_cons_succ, i64_w, i32_w]
        rfl
       refine last_ (i := 8) (N := none) #[true, true, true, true, true, true, true, true, true] rfl rfl (one_of HT_.out (by kernel_rfl)) (by decide) (fun K hK => ?_)
       have hs14 : w13.cell? ⟨gb101, 0, none⟩ = some (.int .i64 x102000_1) := (blk_cell BK101.out 0).trans rfl
       have hfs14 := blk_frozen BK101.out 0
       have hns14_1 := NB102_101.out
       have hms14_1 := NB101_102.out
       have hs15 : w13.cell? ⟨gb101, 1, none⟩ = some (.int .i64 x102001_1) := (blk_cell BK101.out 1).trans rfl
       have hfs15 := blk_frozen BK101.out 1
       have hns15_1 := NB102_101.out
       have hms15_1 := NB101_102.out
       have hs17 : w13.cell? ⟨gb101, 2, none⟩ = some (.slice Ao12 x102002_1.length co12) := (blk_cell BK101.out 2).trans rfl
       have hfs17 := blk_frozen BK101.out 2
       have hns17_1 := NB102_101.out
       have hms17_1 := NB101_102.out
       refine skip_ (w1 := ?_) (by rfl) rfl ?_ ?_
       rotate_left
       ·go_simp
        rfl
       refine hK.out _ _ ?_
       clear hK K
       refine done_ (done_of HT_.out (by kernel_rfl)) ?_
       try go_wp2
       go_roundg k1
       case measure => have := HK1.out; omega
       case rel => exact ⟨(wrap64 (x5_1 + 1)), (t104), (t105), (t106), (.slice Ao16 t106.length co16), (by first | rfl | (simp; done) | (simp [*]; done)), H', ⟨by have := HK1.out; omega⟩, ⟨(by first | exact V_orR (by (with_reducible repeat (first | apply Kd.R_alloc | apply Kd.R_drewN | apply Kd.R_drew)); exact Kd.R_mono (Kd.R_far (p := ⟨gb101, 2, none⟩) (Kd.R_far (p := ⟨gb101, 1, none⟩) (Kd.R_far (p := ⟨gb101, 0, none⟩) (Kd.R_types (Kd.R_types (Kd.R_types HO108.out BK101.out (by decide)) BK102.out (by decide)) BK101.out (by decide)) (fun _ hk => hk.2) (.int .i64 t104)) (fun _ hk => hk.2) (.int .i64 t105)) (fun _ hk => hk.2) (.slice Ao16 t106.length co16)) (fun _ hk => ⟨hk.1.1.1.1, ⟨hk.1.1.2, hk.1.2⟩⟩)) | exact V_orR0 (by (with_reducible repeat (first | apply Kd.R_alloc | apply Kd.R_drewN | apply Kd.R_drew)); exact Kd.R_mono (Kd.R_far (p := ⟨gb101, 2, none⟩) (Kd.R_far (p := ⟨gb101, 1, none⟩) (Kd.R_far (p := ⟨gb101, 0, none⟩) (Kd.R_types (Kd.R_types (Kd.R_types HO108.out BK101.out (by decide)) BK102.out (by decide)) BK101.out (by decide)) (fun _ hk => hk.2) (.int .i64 t104)) (fun _ hk => hk.2) (.int .i64 t105)) (fun _ hk => hk.2) (.slice Ao16 t106.length co16)) (fun _ hk => ⟨hk.1.1.1.1, ⟨hk.1.1.2, hk.1.2⟩⟩)))⟩, ⟨by (with_reducible repeat (first | refine blk_drewN ?_ _ | refine blk_drew ?_ | refine blk_alloc ?_ _)); refine blk_put (cs := #[.int .i64 t104, .int .i64 t105, .slice Ao12 x102002_1.length co12]) ?_ 2 _ rfl; (with_reducible repeat (first | refine blk_drewN ?_ _ | refine blk_drew ?_ | refine blk_alloc ?_ _)); refine blk_put (cs := #[.int .i64 t104, .int .i64 x102001_1, .slice Ao12 x102002_1.length co12]) ?_ 1 _ rfl; (with_reducible repeat (first | refine blk_drewN ?_ _ | refine blk_drew ?_ | refine blk_alloc ?_ _)); refine blk_put (cs := #[.int .i64 x102000_1, .int .i64 x102001_1, .slice Ao12 x102002_1.length co12]) ?_ 0 _ rfl; exact blc⟩, ⟨by (with_reducible repeat (first | refine blk_drewN ?_ _ | refine blk_drew ?_ | refine blk_alloc ?_ _)); refine blk_far ?_ NB102_101.out _; (with_reducible repeat (first | refine blk_drewN ?_ _ | refine blk_drew ?_ | refine blk_alloc ?_ _)); refine blk_far ?_ NB102_101.out _; (with_reducible repeat (first | refine blk_drewN ?_ _ | refine blk_drew ?_ | refine blk_alloc ?_ _)); refine blk_far ?_ NB102_101.out _; exact blc⟩, ⟨bel HB⟩⟩
      ·rw [if_neg c8] at H
       exact absurd H (by simp)
     ·rw [if_neg c7] at H
      exact absurd H (by simp)
    ·rw [if_neg c6] at H
     exact absurd H (by simp)
   ·rw [if_neg c5] at H
    have c5b0 : decide (x5_1 < (a1.size : Int)) = false := decide_eq_false c5
    clear c5
    simp only [Option.some.injEq, Prod.mk.injEq] at H
    obtain ⟨rfl, rfl, rfl⟩ := H
    have hnb18 := NB101_102.out
    have hnc18 := NB102_101.out
    have hcz19_0 : wr.cell? ⟨gb101, 0, none⟩ = some (.int .i64 x102000_1) := (blk_cell BK101.out 0).trans rfl
    have hcz19_1 : wr.cell? ⟨gb101, 1, none⟩ = some (.int .i64 x102001_1) := (blk_cell BK101.out 1).trans rfl
    have hcz19_2 : wr.cell? ⟨gb101, 2, none⟩ = some (u102002) := (blk_cell BK101.out 2).trans rfl
    have hfz19_0 := blk_frozen BK101.out 0
    have hfz19_1 := blk_frozen BK101.out 1
    have hfz19_2 := blk_frozen BK101.out 2
    have hcz20_0 : wr.cell? ⟨gb102, 0, none⟩ = some (.int .i64 0) := (blk_cell BK102.out 0).trans rfl
    have hcz20_1 : wr.cell? ⟨gb102, 1, none⟩ = some (.int .i64 0) := (blk_cell BK102.out 1).trans rfl
    have hcz20_2 : wr.cell? ⟨gb102, 2, none⟩ = some (.slice none 0 0) := (blk_cell BK102.out 2).trans rfl
    have hfz20_0 := blk_frozen BK102.out 0
    have hfz20_1 := blk_frozen BK102.out 1
    have hfz20_2 := blk_frozen BK102.out 2
    obtain ⟨Ao21, co21, eo21⟩ := Kd.V_slice HO_102002.out
    subst eo21
    go_wp2
    refine bodyPost_ret (results_cell_row rfl _ _ gb102 45 #[.int .i64 x102000_1, .int .i64 x102001_1, .slice Ao21 x102002_1.length co21] (0, 0) _ rfl (by (with_reducible repeat (first | refine blk_drewN ?_ _ | refine blk_drew ?_ | refine blk_alloc ?_ _)); refine blk_put (cs := #[.int .i64 x102000_1, .int .i64 x102001_1, .slice none 0 0]) ?_ 2 _ rfl; (with_reducible repeat (first | refine blk_drewN ?_ _ | refine blk_drew ?_ | refine blk_alloc ?_ _)); refine blk_put (cs := #[.int .i64 x102000_1, .int .i64 0, .slice none 0 0]) ?_ 1 _ rfl; (with_reducible repeat (first | refine blk_drewN ?_ _ | refine blk_drew ?_ | refine blk_alloc ?_ _)); refine blk_put (cs := #[.int .i64 0, .int .i64 0, .slice none 0 0]) ?_ 0 _ rfl; exact blc) Tryz.underlying45 rfl (by kernel_rfl)) rfl ?_
    exact ⟨_, by first | rfl | (simp [errW_none, errW_some] <;> rfl) | (simp [*, errW_none, errW_some] <;> rfl), by (with_reducible repeat (first | apply Kd.V_alloc | apply Kd.V_drewN | apply Kd.V_drew)); exact Kd.V_mono (Kd.V_far (p := ⟨gb102, 2, none⟩) (Kd.V_far (p := ⟨gb102, 1, none⟩) (Kd.V_far (p := ⟨gb102, 0, none⟩) (Kd.V_mono HO_102002.out (fun k_ hk => (⟨hk, hk.2.2⟩ : _ ∧ k_ ≠ gb102))) (fun _ hk => hk.2) (.int .i64 x102000_1)) (fun _ hk => hk.2) (.int .i64 x102001_1)) (fun _ hk => hk.2) (.slice Ao21 x102002_1.length co21)) (fun _ hk => hk.1.1), bel HB⟩
end Go.Proofs.YtepmpilopmcjpaaGreatDoor.Q
end
section
namespace Go.Proofs.YtepmpilopmcjpaaGreatDoor.Q
open Go.RowKit Go.Proofs.YtepmpilopmcjpaaGreatDoorW.PrintWords Go.Proofs.YtepmpilopmcjpaaGreatDoorW.PrintLast Go.Proofs.YtepmpilopmcjpaaGreatDoorW.PrintMore
set_option linter.unusedSectionVars false
def tiltW (w h : Nat) : List Nat → List Int → List Int
 | [], cs => cs
 | d :: l, cs => tiltW w h l (tiltC w h cs d)
section
variable {w h : Nat} (hw : w ≤ 7) (hh : h ≤ 7) (hs : w * h ≤ 36) (hw1 : 0 < w) (hh1 : 0 < h)
include hw hh hs hw1 hh1
theorem tiltW_len : ∀ (l : List Nat) (cs : List Int), (∀ d ∈ l, d < 4) → cs.length = w * h → (tiltW w h l cs).length = w * h
 | [], _, _, hn => hn
 | d :: l, cs, hl, hn => tiltW_len l _ (fun x hx => hl x (List.mem_cons_of_mem _ hx)) ((tiltC_len hw hh hs (hl d List.mem_cons_self)).trans hn)
theorem tiRun_l0 (s : ByteArray) (hb : s.size ≤ 40 ∧ ∀ (t : Nat) (ht : t < s.data.toList.length), isD s.data.toList[t] = true) : ∀ (m t : Nat) (cs : List Int), t + m = s.size → cs.length = w * h → Ev (fun k => spec_tiRun.l0 k s t w h cs) (w, h, tiltW w h ((s.data.toList.drop t).map dirN) cs)
 | 0, t, cs, ht, hn => by
  have hl := data_length s
  rw [List.drop_eq_nil_of_le (by omega)]
  refine Ev.step (Ev.const (o := some ((w : Int), (h : Int), cs)) rfl) fun k => ?_
  rw [spec_tiRun.l0, if_neg (by omega)]
 | m + 1, t, cs, ht, hn => by
  have hl := data_length s
  have htl : t < s.data.toList.length := by omega
  have hwt : wrap64 ((t : Int) + 1) = ((t + 1 : Nat) : Int) := by have := hb.1; rw [w64 (by omega) (by omega)]; omega
  have hd := hb.2 t htl
  have hd4 := dirN_lt s.data.toList[t]
  have ih := tiRun_l0 s hb m (t + 1) (tiltC w h cs (dirN s.data.toList[t])) (by omega) ((tiltC_len hw hh hs hd4).trans hn)
  have h1 := tiDir_ev (s.extract ((t : Nat) : Int).toNat (((t + 1 : Nat) : Int)).toNat)
  rw [dirI_one (cut_one s t (by omega)), if_pos hd] at h1
  rw [List.drop_eq_getElem_cons htl, List.map_cons]
  refine Ev.step (Ev.bind (f := fun k t103 => ((spec_tiTilt.f k w h cs t103).bind fun bt104 => (spec_tiRun.l0 k s ((t + 1 : Nat) : Int) bt104.1 bt104.2.1 bt104.2.2))) h1 (Ev.bind (f := fun k (bt104 : Int × Int × List Int) => (spec_tiRun.l0 k s ((t + 1 : Nat) : Int) bt104.1 bt104.2.1 bt104.2.2)) (tiTilt_ev hw hh hs hd4 hw1 hh1 hn) ih)) fun k => ?_
  rw [spec_tiRun.l0, if_pos (by omega), if_pos (by omega), hwt, if_pos (by omega), if_pos (by omega)]
theorem tiRun_ev {s : ByteArray} (hb : wordB s = true) {cs : List Int} (hn : cs.length = w * h) : Ev (fun k => spec_tiRun.f k w h cs s) (w, h, tiltW w h (s.data.toList.map dirN) cs) := by
 have h1 := tiRun_l0 hw hh hs hw1 hh1 s (wordB_parts hb) s.size 0 cs (by omega) hn
 rw [List.drop_zero] at h1
 exact h1
end
end Go.Proofs.YtepmpilopmcjpaaGreatDoor.Q
end
section
namespace Go.Proofs.YtepmpilopmcjpaaGreatDoor.Q
open Go.RowKit Go.Proofs.YtepmpilopmcjpaaGreatDoorW.PrintWords Go.Proofs.YtepmpilopmcjpaaGreatDoorW.PrintLast Go.Proofs.YtepmpilopmcjpaaGreatDoorW.PrintMore
attribute [local go_sem] max2_int min2_int max_two min_two max_three min_three max_four min_four
set_option linter.unusedVariables false
set_option linter.unusedSimpArgs false
def spec_tyBalls.l0 : Nat → List Int → List Int → Int → Int → Option (List Int)
 | 0, _, _, _, _ => none
 | k + 1, x3, x7, x8, x9 => if x9 < x8 then (if 0 ≤ x9 then (if x9 < (x7.length : Int) then ((spec_tyBall.f (rd x7 x9)).bind fun t103 => (if t103 = true then (if x3.length < 17592186044416 then (spec_tyBalls.l0 k (x3 ++ [x9]) x7 x8 (wrap64 (x9 + 1))) else (none)) else (spec_tyBalls.l0 k x3 x7 x8 (wrap64 (x9 + 1))))) else (none)) else (none)) else (some x3)
def spec_tyBalls.f (k : Nat) (a0_0 : Int) (a0_1 : Int) (l0_2 : List Int) : Option (List Int) := spec_tyBalls.l0 k ([] : List Int) l0_2 (l0_2.length : Int) 0
set_option maxHeartbeats 8000000 in
set_option maxRecDepth 100000 in
theorem spec_tyBalls.calls (k : Nat) (a0_0 : Int) (a0_1 : Int) (A0_2 : Option Addr) (c0_2 : Nat) (l0_2 : List Int) (r : List Int) (w : World) (hr0_2 : Kd.C (Kd.int .u8) w A0_2 l0_2.length l0_2) (hc0_2 : l0_2.length ≤ c0_2) (h : spec_tyBalls.f k a0_0 a0_1 l0_2 = some r) :
  Calls Tryz.prog 106 #[.agg #[.int .i64 a0_0, .int .i64 a0_1, .slice A0_2 l0_2.length c0_2]] w fun e w' => ∃ v0_ : Value, e = .returned (v0_) ∧ Kd.R (Kd.int .i64) 3 w' w.heap.size (fun _ => True) v0_ r ∧ Below w.heap.size w w' := by
 have hu45 := Tryz.underlying45
 have HR0_2 := Aside0.mk hr0_2
 have HC0_2 := Aside0.mk hc0_2
 clear hr0_2 hc0_2
 have HB := Aside0.mk (Below.refl w.heap.size w)
 have H : (spec_tyBalls.l0 k ([] : List Int) l0_2 (l0_2.length : Int) 0) = some r := h
 clear h
 have H' := Aside0.mk H
 clear H
 go_enter Tryz.func106, Tryz.ntmps106
 go_wp2_with (first | ((with_reducible refine gate_dst (N := 1) rfl ?_); refine boxE (N := 1) (cs := #[.int .i64 a0_0, .int .i64 a0_1, .slice A0_2 l0_2.length c0_2]) (t := 45) ?_; intro gb101 hg w2 hbox hb; have n0_ := Aside0.mk (below_step (bel HB) hb); have n1_ := Aside0.mk (hbox); have n2_ := Aside0.mk (gsz hg (bel HB)); have n3_ := Aside0.mk (gsz hg (bel HB)); clear HB; have HB := n0_; have BK101 := n1_; have GW101 := n2_; have GE101 := n3_; clear n0_ n1_ n2_ n3_; clear hb hbox hg; have hcz3_0 : w2.cell? ⟨gb101, 0, none⟩ = some (.int .i64 a0_0) := (blk_cell BK101.out 0).trans rfl; have hcz3_1 : w2.cell? ⟨gb101, 1, none⟩ = some (.int .i64 a0_1) := (blk_cell BK101.out 1).trans rfl; have hcz3_2 : w2.cell? ⟨gb101, 2, none⟩ = some (.slice A0_2 l0_2.length c0_2) := (blk_cell BK101.out 2).trans rfl; have hfz3_0 := blk_frozen BK101.out 0; have hfz3_1 := blk_frozen BK101.out 1; have hfz3_2 := blk_frozen BK101.out 2))
 go_loopg [3, 9] k (fun kq v3 v9 w' => ∃ (x3_1 : List Int) (x9_1 : Int), v9 = .int .i64 x9_1 ∧ Aside0 (spec_tyBalls.l0 kq x3_1 l0_2 (l0_2.length : Int) x9_1 = some r) ∧ Aside0 (kq ≤ k) ∧ Aside0 (Kd.R (Kd.int .i64) 3 w' w.heap.size (fun _ => True) v3 x3_1) ∧ Aside0 (w'.heap[gb101]? = some (.cells #[.int .i64 a0_0, .int .i64 a0_1, (.slice A0_2 l0_2.length c0_2)] 45 (0, 0))) ∧ Aside0 (Below w.heap.size w w'))
 case atStart => exact ⟨(([] : List Int)), (0), (by first | rfl | (simp; done) | (simp [*]; done)), H', ⟨Nat.le_refl _⟩, ⟨by first | exact Kd.R_nil _ _ _ _ _ | exact Kd.N_nil _ _ _ _ _ | exact Kd.V_nil _ _ _ _ _ | exact Kd.Q_nil _ _ _ _ _ | exact Kd.S_nil _ _ _ _ _⟩, ⟨blc⟩, ⟨bel HB⟩⟩
 case round =>
  clear H'
  try clear c1
  try clear p2
  try clear hcz3_0
  try clear hcz3_1
  try clear hcz3_2
  try clear hfz3_0
  try clear hfz3_1
  try clear hfz3_2
  obtain ⟨x3_1, x9_1, rfl, HA, HK1, HO_3, BK101, HB⟩ := hrel
  cases gk with
  | zero => exact absurd HA.out (by simp [spec_tyBalls.l0])
  | succ k1 =>
   have H := HA.out
   clear HA
   simp only [spec_tyBalls.l0] at H
   by_cases c4 : x9_1 < (l0_2.length : Int)
   ·rw [if_pos c4] at H
    have c4b0 : decide (x9_1 < (l0_2.length : Int)) = true := decide_eq_true c4
    clear c4
    by_cases c5 : 0 ≤ x9_1
    ·rw [if_pos c5] at H
     have c5b0 : decide (0 ≤ x9_1) = true := decide_eq_true c5
     clear c5
     by_cases c6 : x9_1 < (l0_2.length : Int)
     ·rw [if_pos c6] at H
      have c6b0 : decide (x9_1 < (l0_2.length : Int)) = true := decide_eq_true c6
      clear c6
      replace H := Option.bind_eq_some_iff.mp H
      obtain ⟨t103, A70, H⟩ := H
      replace H : (if t103 = true then (if x3_1.length < 17592186044416 then (spec_tyBalls.l0 k1 (x3_1 ++ [x9_1]) l0_2 (l0_2.length : Int) (wrap64 (x9_1 + 1))) else (none)) else (spec_tyBalls.l0 k1 x3_1 l0_2 (l0_2.length : Int) (wrap64 (x9_1 + 1)))) = some r := H
      have A7 := Aside0.mk A70
      clear A70
      by_cases c8 : t103 = true
      ·subst c8
       have H1 : (if x3_1.length < 17592186044416 then (spec_tyBalls.l0 k1 (x3_1 ++ [x9_1]) l0_2 (l0_2.length : Int) (wrap64 (x9_1 + 1))) else (none)) = some r := by rw [if_pos rfl] at H; exact H
       clear H
       have H := H1
       clear H1
       by_cases c9 : x3_1.length < 17592186044416
       ·rw [if_pos c9] at H
        have LMc9 := Aside0.mk c9
        clear c9
        obtain ⟨y104, hy104⟩ : ∃ y_ : List Int, y_ = (x3_1 ++ [x9_1]) := ⟨_, rfl⟩
        replace H : (spec_tyBalls.l0 k1 y104 l0_2 (l0_2.length : Int) (wrap64 (x9_1 + 1))) = some r := rH hy104 H
        have Ny104 := Aside0.mk hy104
        clear hy104
        have H' := Aside0.mk H
        clear H
        have p102 : 0 ≤ (x9_1 : Int) := of_decide_eq_true (by first | (with_reducible assumption) | assumption)
        have q102 : x9_1 < (l0_2.length : Int) := of_decide_eq_true (by first | (with_reducible assumption) | assumption)
        obtain ⟨ad102, e102, hx102_0⟩ := Kd.at_int HR0_2.out x9_1 p102 q102
        cases e102
        (try replace hx102_0 := (HB.out.cell (World.block_lt_of_cell? w _ hx102_0)).trans hx102_0)
        replace p102 := eq_true p102
        replace q102 := eq_true q102
        go_wp2_with (first | ((with_reducible refine gate_callee (f := 30) rfl ?_); refine gcall (some 15) Tryz.func30 #[.int .u8 (rd l0_2 x9_1)] rfl ?_; (with_reducible refine (spec_tyBall.calls (rd l0_2 x9_1) true _ A7.out).mono ?_); rintro e w' ⟨rfl, ⟨nd, rfl⟩⟩; refine ⟨_, rfl, ?_⟩) | ((with_reducible refine gate_builtin (b := .append) (xs := #[.tmp 16, .tmp 18]) rfl ?_); at_builtin; refine Kd.R_append (Kd.int .i64) (w0 := w) w.heap.size rfl (.tmp 16) (.tmp 18) 25 3 (.int .i64 0) 8 rfl Tryz.underlying25 info3 rfl (by decide) (by omega) u3 x3_1 x9_1 [.int .i64 x9_1] (fun _ => True) (fun _ => False) rfl rfl ?aP (fun _ hk => hk.elim) ?aF ?aO ?aB ?aS ?aL ?_; (case aP => exact rfl); (case aB => exact (bel HB)); (case aF => exact (fun _ _ => trivial)); (case aO => exact (rch HO_3)); (case aS => exact (below_size (bel HB))); (case aL => have := LMc9.out; omega); intro v105 w10 ho hb hg hat; rw [← Ny104.out] at ho; have n0_ := Aside0.mk (blk_grown (g := gb101) (o := .cells #[.int .i64 a0_0, .int .i64 a0_1, .slice (some ad102) l0_2.length c0_2] 45 (0, 0)) blc hg (Kd.R_ne HO_3.out BK101.out (by decide))); have n1_ := Aside0.mk (hb); have n2_ := Aside0.mk (ho); clear BK101; clear HB; clear HO_3; have BK101 := n0_; have HB := n1_; have HO106 := n2_; clear n0_ n1_ n2_; clear ho hb hg hat))
        go_roundg k1
        case measure => have := HK1.out; omega
        case rel => exact ⟨(y104), (wrap64 (x9_1 + 1)), (by first | rfl | (simp; done) | (simp [*]; done)), H', ⟨by have := HK1.out; omega⟩, ⟨rch HO106⟩, ⟨blc⟩, ⟨bel HB⟩⟩
       ·rw [if_neg c9] at H
        exact absurd H (by simp)
      ·replace c8 := Bool.eq_false_iff.mpr c8
       subst c8
       have H1 : (spec_tyBalls.l0 k1 x3_1 l0_2 (l0_2.length : Int) (wrap64 (x9_1 + 1))) = some r := by rw [if_neg (show ¬ (false = true) by decide)] at H; exact H
       clear H
       have H := H1
       clear H1
       have H' := Aside0.mk H
       clear H
       have p102 : 0 ≤ (x9_1 : Int) := of_decide_eq_true (by first | (with_reducible assumption) | assumption)
       have q102 : x9_1 < (l0_2.length : Int) := of_decide_eq_true (by first | (with_reducible assumption) | assumption)
       obtain ⟨ad102, e102, hx102_0⟩ := Kd.at_int HR0_2.out x9_1 p102 q102
       cases e102
       (try replace hx102_0 := (HB.out.cell (World.block_lt_of_cell? w _ hx102_0)).trans hx102_0)
       replace p102 := eq_true p102
       replace q102 := eq_true q102
       go_wp2_with (first | ((with_reducible refine gate_callee (f := 30) rfl ?_); refine gcall (some 15) Tryz.func30 #[.int .u8 (rd l0_2 x9_1)] rfl ?_; (with_reducible refine (spec_tyBall.calls (rd l0_2 x9_1) false _ A7.out).mono ?_); rintro e w' ⟨rfl, ⟨nd, rfl⟩⟩; refine ⟨_, rfl, ?_⟩))
       go_roundg k1
       case measure => have := HK1.out; omega
       case rel => exact ⟨(x3_1), (wrap64 (x9_1 + 1)), (by first | rfl | (simp; done) | (simp [*]; done)), H', ⟨by have := HK1.out; omega⟩, ⟨rch HO_3⟩, ⟨blc⟩, ⟨bel HB⟩⟩
     ·rw [if_neg c6] at H
      exact absurd H (by simp)
    ·rw [if_neg c5] at H
     exact absurd H (by simp)
   ·rw [if_neg c4] at H
    have c4b0 : decide (x9_1 < (l0_2.length : Int)) = false := decide_eq_false c4
    clear c4
    obtain rfl := Option.some.inj H
    go_wp2
    go_ret
    exact ⟨_, by first | rfl | (simp [errW_none, errW_some] <;> rfl) | (simp [*, errW_none, errW_some] <;> rfl), rch HO_3, bel HB⟩
end Go.Proofs.YtepmpilopmcjpaaGreatDoor.Q
end
section
namespace Go.Proofs.YtepmpilopmcjpaaGreatDoor.Q
open Go.RowKit Go.Proofs.YtepmpilopmcjpaaGreatDoorW.PrintWords Go.Proofs.YtepmpilopmcjpaaGreatDoorW.PrintLast Go.Proofs.YtepmpilopmcjpaaGreatDoorW.PrintMore
set_option linter.unusedSectionVars false
def ballsTo (cs : List Int) (t : Nat) : List Int := ((List.range t).filter (fun j : Nat => bI cs (j : Int))).map (fun j : Nat => (j : Int))
def ballsOf (cs : List Int) : List Int := ballsTo cs cs.length
theorem ballsTo_succ (cs : List Int) (t : Nat) : ballsTo cs (t + 1) = ballsTo cs t ++ if bI cs (t : Int) = true then [(t : Int)] else [] := by
 unfold ballsTo
 rw [List.range_succ, List.filter_append, List.map_append]
 congr 1
 by_cases hm : bI cs (t : Int) = true
 ·rw [if_pos hm]; simp [hm]
 ·rw [if_neg hm]; simp [hm]
theorem ballsTo_len (cs : List Int) (t : Nat) : (ballsTo cs t).length ≤ t := by
 unfold ballsTo
 rw [List.length_map]
 have := List.length_filter_le (fun j : Nat => bI cs (j : Int)) (List.range t)
 rw [List.length_range] at this
 exact this
theorem tyBalls_l0 (cs : List Int) (hc : cs.length ≤ 36) : ∀ (m t : Nat), t + m = cs.length → Ev (fun k => spec_tyBalls.l0 k (ballsTo cs t) cs cs.length t) (ballsOf cs)
 | 0, t, ht => by
  obtain rfl : t = cs.length := by omega
  refine Ev.step (Ev.const (o := some (ballsOf cs)) rfl) fun k => ?_
  rw [spec_tyBalls.l0, if_neg (by omega)]
  rfl
 | m + 1, t, ht => by
  have ih := tyBalls_l0 cs hc m (t + 1) (by omega)
  have hwt : wrap64 ((t : Int) + 1) = ((t + 1 : Nat) : Int) := by rw [w64 (by omega) (by omega)]; omega
  have c1 : (t : Int) < (cs.length : Int) := by omega
  have c0 : (0 : Int) ≤ (t : Int) := by omega
  have c6 : (ballsTo cs t).length < 17592186044416 := Nat.lt_of_le_of_lt (Nat.le_trans (ballsTo_len cs t) (show t ≤ 36 by omega)) (by decide)
  rw [ballsTo_succ] at ih
  refine Ev.step ih fun k => ?_
  rw [spec_tyBalls.l0, if_pos c1, if_pos c0, if_pos c1, tyBall_eq, Option.bind_some, hwt]
  show (if bI cs t = true then _ else _) = _
  by_cases h1 : bI cs t = true
  ·rw [if_pos h1, if_pos c6, if_pos h1]
  ·rw [if_neg h1, if_neg h1, List.append_nil]
theorem tyBalls_ev (cs : List Int) (hc : cs.length ≤ 36) (w h : Int) : Ev (fun k => spec_tyBalls.f k w h cs) (ballsOf cs) := tyBalls_l0 cs hc cs.length 0 (by omega)
end Go.Proofs.YtepmpilopmcjpaaGreatDoor.Q
end
section
namespace Go.Proofs.YtepmpilopmcjpaaGreatDoor.Q
open Go.RowKit Go.Shelf Go.Proofs.YtepmpilopmcjpaaGreatDoorW.PrintWords Go.Proofs.YtepmpilopmcjpaaGreatDoorW.PrintLast Go.Proofs.YtepmpilopmcjpaaGreatDoorW.PrintMore
set_option linter.unusedSectionVars false
def slideW (w h : Nat) : List Nat → List Int → Int → Int
 | [], _, x => x
 | d :: l, cs, x => slideW w h l (tiltC w h cs d) (slideF w h cs d x)
section
variable {w h : Nat} (hw : w ≤ 7) (hh : h ≤ 7) (hs : w * h ≤ 36)
include hw hh hs
theorem run_at : ∀ (l : List Nat) (cs : List Int), (∀ d ∈ l, d < 4) → cs.length = w * h → ∀ x : Int, 0 ≤ x → x < ((w * h : Nat) : Int) → isB (rd cs x) = true → rd (tiltW w h l cs) (slideW w h l cs x) = rd cs x ∧ 0 ≤ slideW w h l cs x ∧ slideW w h l cs x < ((w * h : Nat) : Int)
 | [], _, _, _, x, x0, x1, _ => ⟨rfl, x0, x1⟩
 | d :: l, cs, hl, hn, x, x0, x1, hb => by
  have hd := hl d List.mem_cons_self
  have hx1 : x < (cs.length : Int) := by rw [hn]; exact x1
  have h1 := tilt_at hw hh hs hd hn x x0 hx1 hb
  obtain ⟨_, s0, s1⟩ := slide_some hw hh hs hd hn x x0 hx1 hb
  obtain ⟨i1, i2, i3⟩ := run_at l (tiltC w h cs d) (fun e he => hl e (List.mem_cons_of_mem _ he)) ((tiltC_len hw hh hs hd).trans hn) (slideF w h cs d x) s0 (by rw [← hn]; exact s1) (by rw [h1]; exact hb)
  exact ⟨i1.trans h1, i2, i3⟩
theorem run_from : ∀ (l : List Nat) (cs : List Int), (∀ d ∈ l, d < 4) → cs.length = w * h → ∀ y : Int, 0 ≤ y → y < ((w * h : Nat) : Int) → isB (rd (tiltW w h l cs) y) = true → ∃ x : Int, 0 ≤ x ∧ x < ((w * h : Nat) : Int) ∧ isB (rd cs x) = true ∧ slideW w h l cs x = y
 | [], _, _, _, y, y0, y1, hb => ⟨y, y0, y1, hb, rfl⟩
 | d :: l, cs, hl, hn, y, y0, y1, hb => by
  have hd := hl d List.mem_cons_self
  obtain ⟨z, z0, z1, hz, e⟩ := run_from l (tiltC w h cs d) (fun e he => hl e (List.mem_cons_of_mem _ he)) ((tiltC_len hw hh hs hd).trans hn) y y0 y1 hb
  obtain ⟨x, hx, hxb, hxs, _⟩ := tilt_from hw hh hs hd hn z z0 (by rw [hn]; exact z1) hz
  exact ⟨x, hx.1, by rw [← hn]; exact hx.2, hxb, by show slideW w h l (tiltC w h cs d) (slideF w h cs d x) = y; rw [hxs, e]⟩
theorem run_inj : ∀ (l : List Nat) (cs : List Int), (∀ d ∈ l, d < 4) → cs.length = w * h → ∀ x y : Int, 0 ≤ x → x < ((w * h : Nat) : Int) → isB (rd cs x) = true → 0 ≤ y → y < ((w * h : Nat) : Int) → isB (rd cs y) = true → slideW w h l cs x = slideW w h l cs y → x = y
 | [], _, _, _, x, y, _, _, _, _, _, _, e => e
 | d :: l, cs, hl, hn, x, y, x0, x1, hx, y0, y1, hy, e => by
  have hd := hl d List.mem_cons_self
  have hx1 : x < (cs.length : Int) := by rw [hn]; exact x1
  have hy1 : y < (cs.length : Int) := by rw [hn]; exact y1
  obtain ⟨_, s0, s1⟩ := slide_some hw hh hs hd hn x x0 hx1 hx
  obtain ⟨_, t0, t1⟩ := slide_some hw hh hs hd hn y y0 hy1 hy
  have h1 := run_inj l (tiltC w h cs d) (fun e he => hl e (List.mem_cons_of_mem _ he)) ((tiltC_len hw hh hs hd).trans hn) _ _ s0 (by rw [← hn]; exact s1) (by rw [tilt_at hw hh hs hd hn x x0 hx1 hx]; exact hx) t0 (by rw [← hn]; exact t1) (by rw [tilt_at hw hh hs hd hn y y0 hy1 hy]; exact hy) e
  exact slide_inj hw hh hs hd hn x y x0 hx1 hx y0 hy1 hy h1
theorem only_run : ∀ (l : List Nat) (cs : List Int), (∀ d ∈ l, d < 4) → cs.length = w * h → ∀ c x : Int, isB c = true → only cs c x → only (tiltW w h l cs) c (slideW w h l cs x)
 | [], _, _, _, _, _, _, ho => ho
 | d :: l, cs, hl, hn, c, x, hc, ho => by
  have hd := hl d List.mem_cons_self
  exact only_run l (tiltC w h cs d) (fun e he => hl e (List.mem_cons_of_mem _ he)) ((tiltC_len hw hh hs hd).trans hn) c _ hc (only_tilt hw hh hs hd hn hc ho)
end
theorem balls_mem (cs : List Int) (x : Int) : x ∈ ballsOf cs ↔ 0 ≤ x ∧ x < (cs.length : Int) ∧ isB (rd cs x) = true := by
 unfold ballsOf ballsTo
 constructor
 ·intro h
  obtain ⟨j, hj, rfl⟩ := List.mem_map.1 h
  obtain ⟨h1, h2⟩ := List.mem_filter.1 hj
  exact ⟨by omega, by have := List.mem_range.1 h1; omega, h2⟩
 ·rintro ⟨h0, h1, h2⟩
  obtain ⟨n, rfl⟩ := Int.eq_ofNat_of_zero_le h0
  exact List.mem_map.2 ⟨n, List.mem_filter.2 ⟨List.mem_range.2 (by omega), h2⟩, rfl⟩
theorem balls_nodup (cs : List Int) : (ballsOf cs).Nodup := by
 unfold ballsOf ballsTo
 refine List.pairwise_map.2 (List.Pairwise.imp (fun {a b} hab e => hab (by omega)) (List.nodup_range.filter _))
theorem onto_of {L M : List Int} (hM : M.Nodup) (hl : L.length ≤ M.length) (hs : ∀ x ∈ M, x ∈ L) (y : Int) (hy : y ∈ L) : y ∈ M := by
 refine Classical.byContradiction fun hn => ?_
 have key : ∀ (A B : List Int), A.Nodup → (∀ x ∈ A, x ∈ B) → A.length ≤ B.length := by
  intro A
  induction A with
  | nil => intro B _ _; exact Nat.zero_le _
  | cons a A ih =>
   intro B hA hAB
   obtain ⟨h1, h2⟩ := List.nodup_cons.1 hA
   have h3 := ih (B.erase a) h2 fun x hx => (List.mem_erase_of_ne (fun (e : x = a) => h1 (e ▸ hx))).2 (hAB x (List.mem_cons_of_mem _ hx))
   have h4 := hAB a List.mem_cons_self
   rw [List.length_erase_of_mem h4] at h3
   have := List.length_pos_of_mem h4
   rw [List.length_cons]
   omega
 have h1 := key (y :: M) L (List.nodup_cons.2 ⟨hn, hM⟩) fun x hx => by
  rcases List.mem_cons.1 hx with rfl | hx
  ·exact hy
  ·exact hs x hx
 rw [List.length_cons] at h1
 omega
section
variable {w h : Nat} (hw : w ≤ 7) (hh : h ≤ 7) (hs : w * h ≤ 36)
include hw hh hs
theorem back_iff (l : List Nat) (cs : List Int) (hl : ∀ d ∈ l, d < 4) (hn : cs.length = w * h) : (∀ x ∈ ballsOf cs, slideW w h l cs x ∈ ballsOf cs) ↔ ∀ i : Nat, i < cs.length → isB (rd cs (i : Int)) = isB (rd (tiltW w h l cs) (i : Int)) := by
 constructor
 ·intro hb i hi
  rw [Bool.eq_iff_iff]
  constructor
  ·intro h1
   have hN : ((ballsOf cs).map (slideW w h l cs)).Nodup := by
    refine List.pairwise_map.2 (List.Pairwise.imp_of_mem (fun {a b} ha hb2 hab e => ?_) (balls_nodup cs))
    obtain ⟨a0, a1, a2⟩ := (balls_mem cs a).1 ha
    obtain ⟨b0, b1, b2⟩ := (balls_mem cs b).1 hb2
    exact hab (run_inj hw hh hs l cs hl hn a b a0 (by rw [← hn]; exact a1) a2 b0 (by rw [← hn]; exact b1) b2 e)
   have h2 := onto_of (L := ballsOf cs) hN (by rw [List.length_map]; exact Nat.le_refl _) (fun x hx => by obtain ⟨z, hz, rfl⟩ := List.mem_map.1 hx; exact hb z hz) (i : Int) ((balls_mem cs i).2 ⟨by omega, by omega, h1⟩)
   obtain ⟨z, hz, e⟩ := List.mem_map.1 h2
   obtain ⟨z0, z1, z2⟩ := (balls_mem cs z).1 hz
   have h3 := (run_at hw hh hs l cs hl hn z z0 (by rw [← hn]; exact z1) z2).1
   rw [← e, h3]
   exact z2
  ·intro h1
   obtain ⟨x, x0, x1, hx, e⟩ := run_from hw hh hs l cs hl hn (i : Int) (by omega) (by rw [← hn]; omega) h1
   have h2 := hb x ((balls_mem cs x).2 ⟨x0, by rw [hn]; exact x1, hx⟩)
   rw [e] at h2
   exact ((balls_mem cs i).1 h2).2.2
 ·intro hb x hx
  obtain ⟨x0, x1, x2⟩ := (balls_mem cs x).1 hx
  obtain ⟨h1, h2, h3⟩ := run_at hw hh hs l cs hl hn x x0 (by rw [← hn]; exact x1) x2
  obtain ⟨n, e⟩ := Int.eq_ofNat_of_zero_le h2
  have h4 := hb n (by omega)
  rw [← e, h1, x2] at h4
  exact (balls_mem cs _).2 ⟨h2, by rw [hn]; exact h3, h4⟩
def alike (cs A : List Int) : Prop := A.length = cs.length ∧ ∀ y : Int, 0 ≤ y → y < (cs.length : Int) → (rd cs y = 35 ↔ rd A y = 35) ∧ isB (rd cs y) = isB (rd A y)
theorem alike_slide {cs A : List Int} {d : Nat} (hd : d < 4) (hn : cs.length = w * h) (ha : alike cs A) : slideM w h A d = slideM w h cs d := by
 have h1 : strL w h cs d = strL w h A d := str_congr hw hh hs hd fun y y0 y1 => (ha.2 y y0 (by rw [hn]; exact y1)).1
 unfold slideM
 rw [← h1]
 congr 1
 unfold pairsP
 rw [List.flatMap_def, List.flatMap_def]
 congr 1
 refine List.map_congr_left fun s hm => ?_
 unfold pairsS
 congr 1
 refine List.filter_congr fun x hx => ?_
 obtain ⟨x0, x1⟩ := (str_in hw hh hs hd hn s hm).2 x hx
 exact (ha.2 x x0 x1).2.symm
theorem tiltC_wall {cs : List Int} {d : Nat} (hd : d < 4) (hn : cs.length = w * h) (y : Int) (y0 : 0 ≤ y) (y1 : y < (cs.length : Int)) : rd cs y = 35 ↔ rd (tiltC w h cs d) y = 35 := by
 have hF := fits_tilt (slide_fits hw hh hs hd hn)
 obtain ⟨n, rfl⟩ := Int.eq_ofNat_of_zero_le y0
 by_cases hx : ∃ x : Int, asF (slideM w h cs d) x = some (n : Int)
 ·obtain ⟨x, hx⟩ := hx
  have h1 : rd (tiltC w h cs d) (n : Int) = rd cs x := laid_at cs (emptyC cs) _ hF x _ hx
  have hp : (x, (n : Int)) ∈ pairsP cs (strL w h cs d) := List.mem_reverse.1 (asF_mem _ _ _ hx)
  have hk : x ∈ (pairsP cs (strL w h cs d)).map Prod.fst := List.mem_map.2 ⟨_, hp, rfl⟩
  rw [pairs_keys] at hk
  have hb : isB (rd cs x) = true := (List.mem_filter.1 hk).2
  have hv : (n : Int) ∈ (strL w h cs d).flatten := (pairs_vals cs _).subset (List.mem_map.2 ⟨_, hp, rfl⟩)
  have h2 := (str_flat_mem hw hh hs hd (cs := cs) (n : Int) y0 (by rw [← hn]; exact y1)).1 hv
  refine ⟨fun e => absurd e h2, fun e => ?_⟩
  rw [h1] at e
  rw [e, isB_35] at hb
  cases hb
 ·have h1 : rd (tiltC w h cs d) (n : Int) = rd (emptyC cs) (n : Int) := laid_off cs (emptyC cs) _ _ n (by omega) fun x _ e => hx ⟨x, e⟩
  rw [h1, emptyC_rd cs n (by omega)]
  split
  ·rename_i hb
   refine ⟨fun e => ?_, fun e => by cases e⟩
   rw [e, isB_35] at hb
   cases hb
  ·exact Iff.rfl
theorem tiltC_ball {cs : List Int} {d : Nat} (hd : d < 4) (hn : cs.length = w * h) (y : Int) (y0 : 0 ≤ y) (y1 : y < (cs.length : Int)) : isB (rd (tiltC w h cs d) y) = true ↔ ∃ x : Int, asF (slideM w h cs d) x = some y := by
 constructor
 ·intro hb
  obtain ⟨x, hx, hxb, hxs, _⟩ := tilt_from hw hh hs hd hn y y0 y1 hb
  exact ⟨x, by rw [(slide_some hw hh hs hd hn x hx.1 hx.2 hxb).1, hxs]⟩
 ·rintro ⟨x, hx⟩
  have hF := fits_tilt (slide_fits hw hh hs hd hn)
  have hp : (x, y) ∈ pairsP cs (strL w h cs d) := List.mem_reverse.1 (asF_mem _ _ _ hx)
  have hk : x ∈ (pairsP cs (strL w h cs d)).map Prod.fst := List.mem_map.2 ⟨_, hp, rfl⟩
  rw [pairs_keys] at hk
  rw [show rd (tiltC w h cs d) y = rd cs x from laid_at cs (emptyC cs) _ hF x _ hx]
  exact (List.mem_filter.1 hk).2
theorem alike_tilt {cs A : List Int} {d : Nat} (hd : d < 4) (hn : cs.length = w * h) (ha : alike cs A) : alike (tiltC w h cs d) (tiltC w h A d) := by
 have hA : A.length = w * h := ha.1.trans hn
 have l1 : (tiltC w h cs d).length = cs.length := tiltC_len hw hh hs hd
 have l2 : (tiltC w h A d).length = A.length := tiltC_len hw hh hs hd
 refine ⟨by rw [l1, l2, ha.1], fun y y0 y1 => ?_⟩
 rw [l1] at y1
 have y2 : y < (A.length : Int) := by rw [ha.1]; exact y1
 refine ⟨(tiltC_wall hw hh hs hd hn y y0 y1).symm.trans ((ha.2 y y0 y1).1.trans (tiltC_wall hw hh hs hd hA y y0 y2)), ?_⟩
 rw [Bool.eq_iff_iff, tiltC_ball hw hh hs hd hn y y0 y1, tiltC_ball hw hh hs hd hA y y0 y2, alike_slide hw hh hs hd hn ha]
theorem alike_run : ∀ (l : List Nat) (cs A : List Int), (∀ d ∈ l, d < 4) → cs.length = w * h → alike cs A → ∀ x : Int, slideW w h l A x = slideW w h l cs x
 | [], _, _, _, _, _, _ => rfl
 | d :: l, cs, A, hl, hn, ha, x => by
  have hd := hl d List.mem_cons_self
  have h1 : slideF w h A d x = slideF w h cs d x := by
   unfold slideF
   rw [alike_slide hw hh hs hd hn ha]
  show slideW w h l (tiltC w h A d) (slideF w h A d x) = _
  rw [h1]
  exact alike_run l (tiltC w h cs d) (tiltC w h A d) (fun e he => hl e (List.mem_cons_of_mem _ he)) ((tiltC_len hw hh hs hd).trans hn) (alike_tilt hw hh hs hd hn ha) _
end
end Go.Proofs.YtepmpilopmcjpaaGreatDoor.Q
end
section
namespace Go.Proofs.YtepmpilopmcjpaaGreatDoor.Q
set_option linter.unusedSectionVars false
open Go.RowKit Go.Proofs.YtepmpilopmcjpaaGreatDoorW.PrintWords Go.Proofs.YtepmpilopmcjpaaGreatDoorW.PrintLast Go.Proofs.YtepmpilopmcjpaaGreatDoorW.PrintMore
theorem zeroI (w : World) : (zeroValue 3).run Tryz.prog w = .ok (.int .i64 0) w := by kernel_rfl
def litI : DataW Unit → Int
 | .lit (.int _ c) => c
 | _ => 0
theorem wpList_look {P : Program} {ops : Array Oper} {rest : List Oper} {o : Oper} {a : Act} {Q : Exit → Act → World → Prop} (hP : P = Tryz.prog) (w : World) (hg : o.guard = none) (m x : Operand) (t : TypeId) (hop : o.op = .lookup t m x false) (ht : Tryz.prog.underlying t = some (.map 3 3))
  (b n : Nat) (f : Int → Option Int) (h : MP w b n f) (kx : Int) (hm : a.eval m = .map (some b)) (hx : a.eval x = .int .i64 kx) (hb : 0 ≤ kx ∧ kx ≤ 1000000)
  (hK : wpList P ops Q rest (a.put o.dst (.int .i64 ((f kx).getD 0))) w) : wpList P ops Q (o :: rest) a w := by
 subst hP
 obtain ⟨D, hown, hh⟩ := h
 refine wpList_lookup_own_int w hg m x t hop 3 3 .i64 keyI ht Tryz.underlying3 (zeroI w) b n D hm hown _ (lk kx) hx (Maps.keyOf_int_mk Tryz.underlying3 (lk_wf hb.1 hb.2)) fun c hat _ => ?_
 have hc : c = (f kx).getD 0 := by
  rw [hh.at'] at hat
  cases e : f kx with
  | none =>
   rw [e] at hat
   exact (congrArg litI hat).symm
  | some c' =>
   rw [e] at hat
   exact (congrArg litI hat).symm
 rw [hc]
 exact hK
end Go.Proofs.YtepmpilopmcjpaaGreatDoor.Q
end
section
namespace Go.Proofs.YtepmpilopmcjpaaGreatDoor.Q
open Go.RowKit Go.Shelf Go.Proofs.YtepmpilopmcjpaaGreatDoorW.PrintWords Go.Proofs.YtepmpilopmcjpaaGreatDoorW.PrintLast Go.Proofs.YtepmpilopmcjpaaGreatDoorW.PrintMore
def slices_Clone_int.f (l0 : List Int) : Option (List Int) := if l0.length ≤ 1000000 then some l0 else none
set_option maxHeartbeats 4000000 in
set_option maxRecDepth 100000 in
theorem slices_Clone_int.calls (A0 : Option Addr) (c0 : Nat) (l0 : List Int) (r : List Int) (w : World) (hr0 : Kd.C (Kd.int .i64) w A0 l0.length l0) (hc0 : l0.length ≤ c0) (h : slices_Clone_int.f l0 = some r) :
  Calls Tryz.prog 76 #[.slice A0 l0.length c0] w fun e w' => ∃ v0_ : Value, e = .returned (v0_) ∧ Kd.R (Kd.int .i64) 3 w' w.heap.size (fun _ => True) v0_ r ∧ Below w.heap.size w w' := by
 unfold slices_Clone_int.f at h
 split at h
 case isFalse => cases h
 rename_i hn
 obtain rfl := Option.some.inj h
 have q37 : ∀ (w : World) (a : Option Addr) (n c n' c' : Nat), (binOp .eql 25 (.slice a n c) (.slice none n' c')).run Tryz.prog w = .ok (.bool a.isNone) w := fun w a n c n' c' => Lib.run_eql_slice_nil w _ _ a n c n' c' Tryz.underlying25
 cases A0 with
 | none =>
  have hl : l0 = [] := Classical.byContradiction fun hne => by
   have := List.length_pos_iff.2 hne
   obtain ⟨ad, e, _⟩ := Kd.at_int hr0 0 (by omega) (by omega)
   cases e
  subst hl
  clear hr0 hc0 h
  go_enter Tryz.func76, Tryz.ntmps76
  go_wp2
  go_ret
  exact ⟨_, rfl, Kd.R_nil _ _ _ _ _, Below.refl _ w⟩
 | some ad =>
  have hcell : ∀ j : Nat, j < l0.length → w.cell? (ad.add j) = some (.int .i64 (l0.getD j 0)) := fun j hj => by
   obtain ⟨ad2, e2, h2⟩ := Kd.at_int hr0 (j : Int) (by omega) (by omega)
   cases e2
   rw [Int.toNat_natCast] at h2
   rw [h2]
   unfold rd
   rw [Int.toNat_natCast]
  obtain ⟨i0, hi, hz0, hz1, hz2⟩ := info_parts info3
  have HC := Aside0.mk hcell
  clear hcell hr0 hc0 h
  go_enter Tryz.func76, Tryz.ntmps76
  go_wp2_with (at_builtin; refine wpList_append_own _ rfl _ _ 25 rfl w.heap.size 3 i0 (.int .i64 0) 1 8 Tryz.underlying25 hi hz0 hz1 hz2 rfl (by decide) _ _ _ rfl (World.ownsRow_made w #[] 0 (Nat.le_refl _) (Nat.zero_le _) (by simp)) ad l0.length c0 (l0.map (Value.int .i64)) rfl ?qc1 ?qc2 ?qc3 ?qc4 ?qc5 ?qc6 ?_)
  case qc1 => simp
  case qc2 =>
   intro j u hj
   have hjl : j < l0.length := by
    have := (List.getElem?_eq_some_iff.1 hj).1
    simpa using this
   have h2 := HC.out j hjl
   rw [List.getElem?_map, List.getElem?_eq_getElem hjl] at hj
   obtain rfl := Option.some.inj hj
   rw [List.getD_eq_getElem?_getD, List.getElem?_eq_getElem hjl] at h2
   exact Lib.cell?_alloc_some _ h2
  case qc3 =>
   intro u hu
   obtain ⟨x, _, rfl⟩ := List.mem_map.1 hu
   rfl
  case qc4 => simp [maxLen]; omega
  case qc5 => omega
  case qc6 => simp
  intro v' w1 hown hgrow hnil
  go_wp2
  go_ret
  refine ⟨v', rfl, Kd.R_of_own (enc := Value.int .i64) (show w1.ownsRow w.heap.size 3 1 v' l0.length (l0.map (Value.int .i64)) by simpa using hown) (fun _ _ => trivial), ?_⟩
  exact ((Below.refl _ w).alloc (Nat.le_refl _) _).grown hgrow (by simp) (by intro k hk; simp [Value.ownBlock] at hk; omega)
end Go.Proofs.YtepmpilopmcjpaaGreatDoor.Q
end
section
namespace Go.Proofs.YtepmpilopmcjpaaGreatDoor.Q
open Go.RowKit Go.Proofs.YtepmpilopmcjpaaGreatDoorW.PrintWords Go.Proofs.YtepmpilopmcjpaaGreatDoorW.PrintLast Go.Proofs.YtepmpilopmcjpaaGreatDoorW.PrintMore
attribute [local go_sem] max2_int min2_int max_two min_two max_three min_three max_four min_four
set_option linter.unusedVariables false
set_option linter.unusedSimpArgs false
def impl_tray_indices_isBall.l0 : Nat → List Int → List Int → Int → Int → Option (List Int)
 | 0, _, _, _, _ => none
 | k + 1, x5, x10, x11, x12 => if x12 < x11 then (if 0 ≤ x12 then (if x12 < (x10.length : Int) then ((impl_isBall.f (rd x10 x12)).bind fun t106 => (if t106 = true then (if x5.length < 17592186044416 then (impl_tray_indices_isBall.l0 k (x5 ++ [x12]) x10 x11 (wrap64 (x12 + 1))) else (none)) else (impl_tray_indices_isBall.l0 k x5 x10 x11 (wrap64 (x12 + 1))))) else (none)) else (none)) else (some x5)
def impl_tray_indices_isBall.f (k : Nat) (a0_0 : Int) (a0_1 : Int) (l0_2 : List Int) (a1 : Unit) : Option (List Int) := impl_tray_indices_isBall.l0 k (([] : List Int)) l0_2 (l0_2.length : Int) 0
set_option maxHeartbeats 8000000 in
set_option maxRecDepth 100000 in
theorem impl_tray_indices_isBall.calls (k : Nat) (a0_0 : Int) (a0_1 : Int) (A0_2 : Option Addr) (c0_2 : Nat) (l0_2 : List Int) (a1 : Unit) (r : List Int) (w : World) (hr0_2 : Kd.C (Kd.int .u8) w A0_2 l0_2.length l0_2) (hc0_2 : l0_2.length ≤ c0_2) (h : impl_tray_indices_isBall.f k a0_0 a0_1 l0_2 a1 = some r) :
  Calls Tryz.prog 75 #[.agg #[.int .i64 a0_0, .int .i64 a0_1, .slice A0_2 l0_2.length c0_2], .func (.func 37) #[] #[]] w fun e w' => ∃ v0_ : Value, e = .returned (v0_) ∧ Kd.R (Kd.int .i64) 3 w' w.heap.size (fun _ => True) v0_ r ∧ Below w.heap.size w w' := by
 have hu55 := Tryz.underlying55
 have HR0_2 := Aside0.mk hr0_2
 have HC0_2 := Aside0.mk hc0_2
 clear hr0_2 hc0_2
 have HB := Aside0.mk (Below.refl w.heap.size w)
 have H : (impl_tray_indices_isBall.l0 k (([] : List Int)) l0_2 (l0_2.length : Int) 0) = some r := h
 clear h
 obtain ⟨y102, hy102⟩ : ∃ y_ : List Int, y_ = (([] : List Int)) := ⟨_, rfl⟩
 replace H : (impl_tray_indices_isBall.l0 k y102 l0_2 (l0_2.length : Int) 0) = some r := rH hy102 H
 have Ny102 := Aside0.mk hy102
 clear hy102
 have H' := Aside0.mk H
 clear H
 go_enter Tryz.func75, Tryz.ntmps75
 go_wp2_with (first | ((with_reducible refine gate_dst (N := 2) rfl ?_); refine boxE (N := 2) (cs := #[.int .i64 a0_0, .int .i64 a0_1, .slice A0_2 l0_2.length c0_2]) (t := 55) ?_; intro gb101 hg w3 hbox hb; have n0_ := Aside0.mk (below_step (bel HB) hb); have n1_ := Aside0.mk (hbox); have n2_ := Aside0.mk (gsz hg (bel HB)); have n3_ := Aside0.mk (gsz hg (bel HB)); clear HB; have HB := n0_; have BK101 := n1_; have GW101 := n2_; have GE101 := n3_; clear n0_ n1_ n2_ n3_; clear hb hbox hg) | ((with_reducible refine gate_dst (N := 8) rfl ?_); refine R_litG (Kd.int .i64) _ 3 ?hg (N := 8) ?hd (xs := ([] : List Int)) (inner := []) (ok := fun _ => True) (okp := fun _ => True) ?hr ?hp (fun _ hk => hk) trivial (Below.refl _ _) (Nat.le_refl _) (by simp) ?_; (case hd => rfl); (case hg => first | rfl | decide | (simp [Region.wanted, yielded]; done) | (go_simp; done)); (case hr => first | (go_simp; done) | (go_simp; rfl)); (case hp => exact (Reps.none _ _)); intro v103 w4 ho5 hb hg_ hnew_; clear hg_ hnew_; (first | rw [← Ny102.out] at ho5 | (simp only [Int.reduceToNat] at ho5; rw [← Ny102.out] at ho5)); have n0_ := Aside0.mk (Kd.R_lower ho5 (below_size (bel HB))); have n1_ := Aside0.mk (blk_below (g := gb101) (o := .cells #[.int .i64 a0_0, .int .i64 a0_1, .slice A0_2 l0_2.length c0_2] 55 (0, 0)) blc hb); have n2_ := Aside0.mk (below_step (bel HB) hb); clear BK101; clear HB; have HO104 := n0_; have BK101 := n1_; have HB := n2_; clear n0_ n1_ n2_; clear hb ho5; have hcz6_0 : w4.cell? ⟨gb101, 0, none⟩ = some (.int .i64 a0_0) := (blk_cell BK101.out 0).trans rfl; have hcz6_1 : w4.cell? ⟨gb101, 1, none⟩ = some (.int .i64 a0_1) := (blk_cell BK101.out 1).trans rfl; have hcz6_2 : w4.cell? ⟨gb101, 2, none⟩ = some (.slice A0_2 l0_2.length c0_2) := (blk_cell BK101.out 2).trans rfl; have hfz6_0 := blk_frozen BK101.out 0; have hfz6_1 := blk_frozen BK101.out 1; have hfz6_2 := blk_frozen BK101.out 2))
 go_loopg [5, 12] k (fun kq v5 v12 w' => ∃ (x5_1 : List Int) (x12_1 : Int), v12 = .int .i64 x12_1 ∧ Aside0 (impl_tray_indices_isBall.l0 kq x5_1 l0_2 (l0_2.length : Int) x12_1 = some r) ∧ Aside0 (kq ≤ k) ∧ Aside0 (Kd.R (Kd.int .i64) 3 w' w.heap.size (fun _ => True) v5 x5_1) ∧ Aside0 (w'.heap[gb101]? = some (.cells #[.int .i64 a0_0, .int .i64 a0_1, (.slice A0_2 l0_2.length c0_2)] 55 (0, 0))) ∧ Aside0 (Below w.heap.size w w'))
 case atStart => exact ⟨(y102), (0), (by first | rfl | (simp; done) | (simp [*]; done)), H', ⟨Nat.le_refl _⟩, ⟨rch HO104⟩, ⟨blc⟩, ⟨bel HB⟩⟩
 case round =>
  clear H'
  try clear p2
  try clear hcz6_0
  try clear hcz6_1
  try clear hcz6_2
  try clear hfz6_0
  try clear hfz6_1
  try clear hfz6_2
  obtain ⟨x5_1, x12_1, rfl, HA, HK1, HO_5, BK101, HB⟩ := hrel
  cases gk with
  | zero => exact absurd HA.out (by simp [impl_tray_indices_isBall.l0])
  | succ k1 =>
   have H := HA.out
   clear HA
   simp only [impl_tray_indices_isBall.l0] at H
   by_cases c7 : x12_1 < (l0_2.length : Int)
   ·rw [if_pos c7] at H
    have c7b0 : decide (x12_1 < (l0_2.length : Int)) = true := decide_eq_true c7
    clear c7
    by_cases c8 : 0 ≤ x12_1
    ·rw [if_pos c8] at H
     have c8b0 : decide (0 ≤ x12_1) = true := decide_eq_true c8
     clear c8
     by_cases c9 : x12_1 < (l0_2.length : Int)
     ·rw [if_pos c9] at H
      have c9b0 : decide (x12_1 < (l0_2.length : Int)) = true := decide_eq_true c9
      clear c9
      replace H := Option.bind_eq_some_iff.mp H
      obtain ⟨t106, A100, H⟩ := H
      replace H : (if t106 = true then (if x5_1.length < 17592186044416 then (impl_tray_indices_isBall.l0 k1 (x5_1 ++ [x12_1]) l0_2 (l0_2.length : Int) (wrap64 (x12_1 + 1))) else (none)) else (impl_tray_indices_isBall.l0 k1 x5_1 l0_2 (l0_2.length : Int) (wrap64 (x12_1 + 1)))) = some r := H
      have A10 := Aside0.mk A100
      clear A100
      by_cases c11 : t106 = true
      ·subst c11
       have H1 : (if x5_1.length < 17592186044416 then (impl_tray_indices_isBall.l0 k1 (x5_1 ++ [x12_1]) l0_2 (l0_2.length : Int) (wrap64 (x12_1 + 1))) else (none)) = some r := by rw [if_pos rfl] at H; exact H
       clear H
       have H := H1
       clear H1
       by_cases c12 : x5_1.length < 17592186044416
       ·rw [if_pos c12] at H
        have LMc12 := Aside0.mk c12
        clear c12
        obtain ⟨y107, hy107⟩ : ∃ y_ : List Int, y_ = (x5_1 ++ [x12_1]) := ⟨_, rfl⟩
        replace H : (impl_tray_indices_isBall.l0 k1 y107 l0_2 (l0_2.length : Int) (wrap64 (x12_1 + 1))) = some r := rH hy107 H
        have Ny107 := Aside0.mk hy107
        clear hy107
        have H' := Aside0.mk H
        clear H
        have p105 : 0 ≤ (x12_1 : Int) := of_decide_eq_true (by first | (with_reducible assumption) | assumption)
        have q105 : x12_1 < (l0_2.length : Int) := of_decide_eq_true (by first | (with_reducible assumption) | assumption)
        obtain ⟨ad105, e105, hx105_0⟩ := Kd.at_int HR0_2.out x12_1 p105 q105
        cases e105
        (try replace hx105_0 := (HB.out.cell (World.block_lt_of_cell? w _ hx105_0)).trans hx105_0)
        replace p105 := eq_true p105
        replace q105 := eq_true q105
        go_wp2_with (first | ((first | (with_reducible refine gate_callee (f := 37) rfl ?_) | (with_reducible refine gate_dst (N := 19) rfl ?_)); (first | refine gcall (some 19) Tryz.func37 #[.int .u8 (rd l0_2 x12_1)] rfl ?_ | refine goesV_ (some 19) rfl rfl Tryz.func37 (by kernel_rfl) rfl #[.int .u8 (rd l0_2 x12_1)] rfl (by (try simp only [List.map_toArray, List.map_cons, List.map_nil]); first | done | rfl | (simp only [List.length_drop, List.length_take]; rfl)) ?_); (with_reducible refine (impl_isBall.calls (rd l0_2 x12_1) true _ A10.out).mono ?_); rintro e w' ⟨rfl, ⟨nd, rfl⟩⟩; refine ⟨_, rfl, ?_⟩) | ((with_reducible refine gate_builtin (b := .append) (xs := #[.tmp 20, .tmp 22]) rfl ?_); at_builtin; refine Kd.R_append (Kd.int .i64) (w0 := w) w.heap.size rfl (.tmp 20) (.tmp 22) 25 3 (.int .i64 0) 8 rfl Tryz.underlying25 info3 rfl (by decide) (by omega) u5 x5_1 x12_1 [.int .i64 x12_1] (fun _ => True) (fun _ => False) rfl rfl ?aP (fun _ hk => hk.elim) ?aF ?aO ?aB ?aS ?aL ?_; (case aP => exact rfl); (case aB => exact (bel HB)); (case aF => exact (fun _ _ => trivial)); (case aO => exact (rch HO_5)); (case aS => exact (below_size (bel HB))); (case aL => have := LMc12.out; omega); intro v108 w13 ho hb hg hat; rw [← Ny107.out] at ho; have n0_ := Aside0.mk (blk_grown (g := gb101) (o := .cells #[.int .i64 a0_0, .int .i64 a0_1, .slice (some ad105) l0_2.length c0_2] 55 (0, 0)) blc hg (Kd.R_ne HO_5.out BK101.out (by decide))); have n1_ := Aside0.mk (hb); have n2_ := Aside0.mk (ho); clear BK101; clear HB; clear HO_5; have BK101 := n0_; have HB := n1_; have HO109 := n2_; clear n0_ n1_ n2_; clear ho hb hg hat))
        go_roundg k1
        case measure => have := HK1.out; omega
        case rel => exact ⟨(y107), (wrap64 (x12_1 + 1)), (by first | rfl | (simp; done) | (simp [*]; done)), H', ⟨by have := HK1.out; omega⟩, ⟨rch HO109⟩, ⟨blc⟩, ⟨bel HB⟩⟩
       ·rw [if_neg c12] at H
        exact absurd H (by simp)
      ·replace c11 := Bool.eq_false_iff.mpr c11
       subst c11
       have H1 : (impl_tray_indices_isBall.l0 k1 x5_1 l0_2 (l0_2.length : Int) (wrap64 (x12_1 + 1))) = some r := by rw [if_neg (show ¬ (false = true) by decide)] at H; exact H
       clear H
       have H := H1
       clear H1
       have H' := Aside0.mk H
       clear H
       have p105 : 0 ≤ (x12_1 : Int) := of_decide_eq_true (by first | (with_reducible assumption) | assumption)
       have q105 : x12_1 < (l0_2.length : Int) := of_decide_eq_true (by first | (with_reducible assumption) | assumption)
       obtain ⟨ad105, e105, hx105_0⟩ := Kd.at_int HR0_2.out x12_1 p105 q105
       cases e105
       (try replace hx105_0 := (HB.out.cell (World.block_lt_of_cell? w _ hx105_0)).trans hx105_0)
       replace p105 := eq_true p105
       replace q105 := eq_true q105
       go_wp2_with (first | ((first | (with_reducible refine gate_callee (f := 37) rfl ?_) | (with_reducible refine gate_dst (N := 19) rfl ?_)); (first | refine gcall (some 19) Tryz.func37 #[.int .u8 (rd l0_2 x12_1)] rfl ?_ | refine goesV_ (some 19) rfl rfl Tryz.func37 (by kernel_rfl) rfl #[.int .u8 (rd l0_2 x12_1)] rfl (by (try simp only [List.map_toArray, List.map_cons, List.map_nil]); first | done | rfl | (simp only [List.length_drop, List.length_take]; rfl)) ?_); (with_reducible refine (impl_isBall.calls (rd l0_2 x12_1) false _ A10.out).mono ?_); rintro e w' ⟨rfl, ⟨nd, rfl⟩⟩; refine ⟨_, rfl, ?_⟩))
       go_roundg k1
       case measure => have := HK1.out; omega
       case rel => exact ⟨(x5_1), (wrap64 (x12_1 + 1)), (by first | rfl | (simp; done) | (simp [*]; done)), H', ⟨by have := HK1.out; omega⟩, ⟨rch HO_5⟩, ⟨blc⟩, ⟨bel HB⟩⟩
     ·rw [if_neg c9] at H
      exact absurd H (by simp)
    ·rw [if_neg c8] at H
     exact absurd H (by simp)
   ·rw [if_neg c7] at H
    have c7b0 : decide (x12_1 < (l0_2.length : Int)) = false := decide_eq_false c7
    clear c7
    obtain rfl := Option.some.inj H
    go_wp2
    go_ret
    exact ⟨_, by first | rfl | (simp [errW_none, errW_some] <;> rfl) | (simp [*, errW_none, errW_some] <;> rfl), rch HO_5, bel HB⟩
end Go.Proofs.YtepmpilopmcjpaaGreatDoor.Q
end
section
namespace Go.Proofs.YtepmpilopmcjpaaGreatDoor.Q
open Go.RowKit Go.Proofs.YtepmpilopmcjpaaGreatDoorW.PrintWords Go.Proofs.YtepmpilopmcjpaaGreatDoorW.PrintLast Go.Proofs.YtepmpilopmcjpaaGreatDoorW.PrintMore
attribute [local go_sem] max2_int min2_int max_two min_two max_three min_three max_four min_four
set_option linter.unusedVariables false
set_option linter.unusedSimpArgs false
def slices_Index_int_int.l0 : Nat → List Int → Int → Int → Int → Option (Int)
 | 0, _, _, _, _ => none
 | k + 1, x0, x1, x7, x8 => if x8 < x7 then (if 0 ≤ x8 then (if x8 < (x0.length : Int) then (if x1 = (rd x0 x8) then (some x8) else (slices_Index_int_int.l0 k x0 x1 x7 (wrap64 (x8 + 1)))) else (none)) else (none)) else (some (-1))
def slices_Index_int_int.f (k : Nat) (l0 : List Int) (a1 : Int) : Option (Int) := slices_Index_int_int.l0 k l0 a1 (l0.length : Int) 0
set_option maxHeartbeats 8000000 in
set_option maxRecDepth 100000 in
theorem slices_Index_int_int.calls (k : Nat) (A0 : Option Addr) (c0 : Nat) (l0 : List Int) (a1 : Int) (r : Int) (w : World) (hr0 : Kd.C (Kd.int .i64) w A0 l0.length l0) (hc0 : l0.length ≤ c0) (h : slices_Index_int_int.f k l0 a1 = some r) :
  Calls Tryz.prog 77 #[.slice A0 l0.length c0, .int .i64 a1] w fun e w' => e = .returned (.int .i64 r) ∧ Drawn0 w w' := by
 have HR0 := Aside0.mk hr0
 have HC0 := Aside0.mk hc0
 clear hr0 hc0
 have H : (slices_Index_int_int.l0 k l0 a1 (l0.length : Int) 0) = some r := h
 clear h
 have H' := Aside0.mk H
 clear H
 go_enter Tryz.func77, Tryz.ntmps77
 go_wp2
 go_loopg [8] k (fun kq v8 w' => ∃ (x8_1 : Int), v8 = .int .i64 x8_1 ∧ Aside0 (slices_Index_int_int.l0 kq l0 a1 (l0.length : Int) x8_1 = some r) ∧ Aside0 (kq ≤ k) ∧ Drawn0 w w')
 case atStart => exact ⟨(0), (by first | rfl | (simp; done) | (simp [*]; done)), H', ⟨Nat.le_refl _⟩, by repeat (first | exact Drawn0.refl _ | apply Drawn0.step)⟩
 case round =>
  clear H'
  try clear p2
  obtain ⟨x8_1, rfl, HA, HK1, ⟨m1, rfl⟩⟩ := hrel
  cases gk with
  | zero => exact absurd HA.out (by simp [slices_Index_int_int.l0])
  | succ k1 =>
   have H := HA.out
   clear HA
   simp only [slices_Index_int_int.l0] at H
   by_cases c3 : x8_1 < (l0.length : Int)
   ·rw [if_pos c3] at H
    have c3b0 : decide (x8_1 < (l0.length : Int)) = true := decide_eq_true c3
    clear c3
    by_cases c4 : 0 ≤ x8_1
    ·rw [if_pos c4] at H
     have c4b0 : decide (0 ≤ x8_1) = true := decide_eq_true c4
     clear c4
     by_cases c5 : x8_1 < (l0.length : Int)
     ·rw [if_pos c5] at H
      have c5b0 : decide (x8_1 < (l0.length : Int)) = true := decide_eq_true c5
      clear c5
      by_cases c6 : a1 = (rd l0 x8_1)
      ·rw [if_pos c6] at H
       have c6b0 : (a1 == (rd l0 x8_1)) = true := beq_iff_eq.mpr c6
       have c6b1 : (a1 != (rd l0 x8_1)) = false := bne_eq_false_iff_eq.mpr c6
       clear c6
       obtain rfl := Option.some.inj H
       have p101 : 0 ≤ (x8_1 : Int) := of_decide_eq_true (by first | (with_reducible assumption) | assumption)
       have q101 : x8_1 < (l0.length : Int) := of_decide_eq_true (by first | (with_reducible assumption) | assumption)
       obtain ⟨ad101, e101, hx101_0⟩ := Kd.at_int HR0.out x8_1 p101 q101
       cases e101
       replace p101 := eq_true p101
       replace q101 := eq_true q101
       go_wp2
       go_ret
       exact ⟨by first | rfl | (simp; done) | (simp [*]; done), by repeat (first | exact Drawn0.refl _ | apply Drawn0.step)⟩
      ·rw [if_neg c6] at H
       have c6b0 : (a1 == (rd l0 x8_1)) = false := beq_eq_false_iff_ne.mpr c6
       have c6b1 : (a1 != (rd l0 x8_1)) = true := bne_iff_ne.mpr c6
       have H' := Aside0.mk H
       clear H
       have p101 : 0 ≤ (x8_1 : Int) := of_decide_eq_true (by first | (with_reducible assumption) | assumption)
       have q101 : x8_1 < (l0.length : Int) := of_decide_eq_true (by first | (with_reducible assumption) | assumption)
       obtain ⟨ad101, e101, hx101_0⟩ := Kd.at_int HR0.out x8_1 p101 q101
       cases e101
       replace p101 := eq_true p101
       replace q101 := eq_true q101
       go_wp2
       go_roundg k1
       case measure => have := HK1.out; omega
       case rel => exact ⟨(wrap64 (x8_1 + 1)), (by first | rfl | (simp; done) | (simp [*]; done)), H', ⟨by have := HK1.out; omega⟩, by repeat (first | exact Drawn0.refl _ | apply Drawn0.step)⟩
     ·rw [if_neg c5] at H
      exact absurd H (by simp)
    ·rw [if_neg c4] at H
     exact absurd H (by simp)
   ·rw [if_neg c3] at H
    have c3b0 : decide (x8_1 < (l0.length : Int)) = false := decide_eq_false c3
    clear c3
    obtain rfl := Option.some.inj H
    go_wp2
    go_ret
    exact ⟨by first | rfl | (simp; done) | (simp [*]; done), by repeat (first | exact Drawn0.refl _ | apply Drawn0.step)⟩
def slices_Contains_int_int.f (k : Nat) (l0 : List Int) (a1 : Int) : Option (Bool) := (slices_Index_int_int.f k l0 a1).bind fun t101 => (some (decide (t101 ≥ 0)))
set_option maxHeartbeats 8000000 in
set_option maxRecDepth 100000 in
theorem slices_Contains_int_int.calls (k : Nat) (A0 : Option Addr) (c0 : Nat) (l0 : List Int) (a1 : Int) (r : Bool) (w : World) (hr0 : Kd.C (Kd.int .i64) w A0 l0.length l0) (hc0 : l0.length ≤ c0) (h : slices_Contains_int_int.f k l0 a1 = some r) :
  Calls Tryz.prog 78 #[.slice A0 l0.length c0, .int .i64 a1] w fun e w' => e = .returned (.bool r) ∧ Drawn0 w w' := by
 have HR0 := Aside0.mk hr0
 have HC0 := Aside0.mk hc0
 clear hr0 hc0
 have H : ((slices_Index_int_int.f k l0 a1).bind fun t101 => (some (decide (t101 ≥ 0)))) = some r := h
 clear h
 replace H := Option.bind_eq_some_iff.mp H
 obtain ⟨t101, A30, H⟩ := H
 replace H : (some (decide (t101 ≥ 0))) = some r := H
 have A3 := Aside0.mk A30
 clear A30
 obtain rfl := Option.some.inj H
 go_enter Tryz.func78, Tryz.ntmps78
 go_wp2_with (first | ((with_reducible refine gate_callee (f := 77) rfl ?_); refine gcall (some 7) Tryz.func77 #[.slice A0 l0.length c0, .int .i64 a1] rfl ?_; (with_reducible refine (slices_Index_int_int.calls k _ _ l0 a1 t101 _ ?side1 ?side2 A3.out).mono ?_); (case side1 => repeat (first | exact HR0.out | (with_reducible refine Kd.C_alloc ?_ _) | (with_reducible refine Kd.C_drewN ?_ _) | (with_reducible refine Kd.C_drew ?_))); (case side2 => exact HC0.out); rintro e w' ⟨rfl, ⟨nd, rfl⟩⟩; refine ⟨_, rfl, ?_⟩))
 go_ret
 exact ⟨by first | rfl | (simp; done) | (simp [*]; done), by repeat (first | exact Drawn0.refl _ | apply Drawn0.step)⟩
end Go.Proofs.YtepmpilopmcjpaaGreatDoor.Q
end
section
namespace Go.Proofs.YtepmpilopmcjpaaGreatDoor.Q
set_option linter.unusedSectionVars false
set_option linter.unusedSimpArgs false
open Go.RowKit Go.Proofs.YtepmpilopmcjpaaGreatDoorW.PrintWords Go.Proofs.YtepmpilopmcjpaaGreatDoorW.PrintLast Go.Proofs.YtepmpilopmcjpaaGreatDoorW.PrintMore
def lookM (m : List (Int × Int)) (x : Int) : Int := (asF m x).getD 0
def backN (k : Nat) : List Int → Int → Int → List Int → List Int → Option (List Int)
 | [], _, _, _, now => some now
 | b :: l, w, h, cs, now => (impl_tray_slide.f k w h cs b).bind fun m => if ∀ x ∈ now, 0 ≤ x ∧ x ≤ 1000000 then (impl_tray_tilted.f k w h cs b).bind fun g => backN k l g.1 g.2.1 g.2.2 (now.map (lookM m)) else none
def backP (k : Nat) (list : List Int) : List Int → List Int → Option (List Int)
 | [], out => some out
 | x :: l, out => (slices_Index_int_int.f k list x).bind fun i => backP k list l (out ++ [i])
def impl_comesBack.f (k : Nat) (a0 a1 : ByteArray) : Option (List Int × Bool) :=
 (impl_read.f a0).bind fun g => (impl_tray_indices_isBall.f k g.1 g.2.1 g.2.2 ()).bind fun list => if list.length ≤ 1000 then (convB.f a1).bind fun l => if l.length ≤ 1000 then (backN k l g.1 g.2.1 g.2.2 list).bind fun now => if now.length = list.length then (backP k list now []).bind fun out => (slices_Contains_int_int.f k out (-1)).bind fun b => some (out, !b) else none else none else none
def halfM (m : List (Int × Int)) (now : List Int) (u : Nat) : List Int := (now.take u).map (lookM m) ++ now.drop u
theorem halfM_all (m : List (Int × Int)) (now : List Int) : halfM m now now.length = now.map (lookM m) := by
 unfold halfM
 rw [List.take_length, List.drop_length, List.append_nil]
theorem halfM_len (m : List (Int × Int)) (now : List Int) (u : Nat) : (halfM m now u).length = now.length := by
 unfold halfM
 rw [List.length_append, List.length_map, List.length_take, List.length_drop]
 omega
theorem halfM_at (m : List (Int × Int)) (now : List Int) (u : Nat) (h : u < now.length) : rd (halfM m now u) (u : Int) = rd now (u : Int) := by
 unfold rd halfM
 rw [Int.toNat_natCast, List.getD_eq_getElem?_getD, List.getElem?_append_right (by rw [List.length_map, List.length_take]; omega), List.length_map, List.length_take, List.getElem?_drop, List.getD_eq_getElem?_getD]
 congr 2
 omega
theorem halfM_succ (m : List (Int × Int)) (now : List Int) (u : Nat) (h : u < now.length) : (halfM m now u).set u (lookM m (rd now (u : Int))) = halfM m now (u + 1) := by
 have hl : u = ((now.take u).map (lookM m)).length := by rw [List.length_map, List.length_take]; omega
 have hr : rd now (u : Int) = now[u] := by
  unfold rd
  rw [Int.toNat_natCast, List.getD_eq_getElem?_getD, List.getElem?_eq_getElem h]
  rfl
 unfold halfM
 rw [hr, List.drop_eq_getElem_cons h, List.take_succ_eq_append_getElem h, List.map_append, List.map_singleton]
 rw [List.set_append_right _ _ (by omega), show u - ((now.take u).map (lookM m)).length = 0 by omega, List.set_cons_zero]
 simp
set_option maxHeartbeats 16000000 in
set_option maxRecDepth 100000 in
theorem impl_comesBack.calls (k : Nat) (a0 a1 : ByteArray) (r1 : List Int) (r2 : Bool) (w : World) (hG : GoodW w) (h : impl_comesBack.f k a0 a1 = some (r1, r2)) :
  Calls Tryz.prog 50 #[.string a0, .string a1] w fun e w' => ∃ v0_ : Value, e = .returned (.tuple #[v0_, .bool r2]) ∧ Kd.R (Kd.int .i64) 3 w' w.heap.size (fun _ => True) v0_ r1 ∧ Below w.heap.size w w' := by
 unfold impl_comesBack.f at h
 have HG := Aside0.mk hG
 clear hG
 obtain ⟨⟨gw, gh, gc⟩, hr, h⟩ := Option.bind_eq_some_iff.1 h
 obtain ⟨list, hli, h⟩ := Option.bind_eq_some_iff.1 h
 split at h
 case isFalse => cases h
 rename_i hll
 obtain ⟨bs, hbs, h⟩ := Option.bind_eq_some_iff.1 h
 split at h
 case isFalse => cases h
 rename_i hlen
 obtain ⟨fin, hbn, h⟩ := Option.bind_eq_some_iff.1 h
 split at h
 case isFalse => cases h
 rename_i hfl
 obtain ⟨out, hbp, h⟩ := Option.bind_eq_some_iff.1 h
 obtain ⟨bb, hct, h⟩ := Option.bind_eq_some_iff.1 h
 simp only [Option.some.injEq, Prod.mk.injEq] at h
 obtain ⟨rfl, rfl⟩ := h
 have HRD := Aside0.mk hr
 have HLI := Aside0.mk hli
 have HLL := Aside0.mk hll
 have HCV := Aside0.mk hbs
 have HLEN := Aside0.mk hlen
 have HBN := Aside0.mk hbn
 have HFL := Aside0.mk hfl
 have HBP := Aside0.mk hbp
 have HCT := Aside0.mk hct
 have HCL := Aside0.mk (show slices_Clone_int.f list = some list from if_pos (by omega))
 clear hr hli hll hbs hlen hbn hfl hbp hct
 go_enter Tryz.func50, Tryz.ntmps50
 go_wp2_with (first
  | (go_at_call 33; refine (impl_read.calls a0 gw gh gc _ HG.out HRD.out).mono ?_; rintro e w3 ⟨v3, rfl, ho3, hb3⟩; (have HB3 := Aside0.mk hb3); (obtain ⟨A3, c3, e3⟩ := Kd.V_slice ho3); subst e3; (have HV3 := Aside0.mk (Kd.V_bound ho3)); clear ho3 hb3)
  | ((with_reducible refine gate_dst (N := 6) rfl ?_); refine box_event ?hg (N := 6) ?hd (cs := #[.int .i64 0, .int .i64 0, .slice none 0 0]) (t := 55) ?hr ?_; (case hd => rfl); (case hg => rfl); (case hr => first | (go_simp; done) | (go_simp; rfl)); intro go hg w5 hbox hb; (have HGO := Aside0.mk (show w3.heap.size ≤ go by rw [hg]; exact Nat.le_refl _)); (have HB5 := Aside0.mk (below_then HB3.out HB3.out.size hb)); (have HV5 := Aside0.mk (Kd.V_below HV3.out hb)); (have HU := Aside0.mk hbox); (have y0 := (blk_cell HU.out 0).trans rfl); (have y1 := (blk_cell HU.out 1).trans rfl); (have y2 := (blk_cell HU.out 2).trans rfl); (have f0 := blk_frozen HU.out 0); (have f1 := blk_frozen HU.out 1); (have f2 := blk_frozen HU.out 2); clear hbox hb hg HV3)
  | ((with_reducible refine gate_store (t := 55) (p := 6) rfl ?_); refine store_event (t := 55) (p := 6) (v := ?vo) (w1 := (((w5.setCell ⟨go, 0, none⟩ (.int .i64 gw)).setCell ⟨go, 1, none⟩ (.int .i64 gh)).setCell ⟨go, 2, none⟩ (.slice A3 gc.length c3))) ?hg ?ho ?hn ?hr ?_; (case ho => rfl); (case hg => rfl); (case hn => rfl); (case hr => first | (go_simp; done) | (go_simp; rfl)); intro w6 hw; (have HGW := Aside0.mk (Nat.le_trans HB3.out.size HGO.out)); (have HB6 := Aside0.mk (show Below w.heap.size w w6 by rw [hw]; exact below_set (below_set (below_set HB5.out HGW.out) HGW.out) HGW.out)); (have HU6 := Aside0.mk (show w6.heap[go]? = some (.cells #[.int .i64 gw, .int .i64 gh, .slice A3 gc.length c3] 55 (0, 0)) by rw [hw]; refine blk_put (cs := #[.int .i64 gw, .int .i64 gh, .slice none 0 0]) ?_ 2 _ rfl; refine blk_put (cs := #[.int .i64 gw, .int .i64 0, .slice none 0 0]) ?_ 1 _ rfl; refine blk_put (cs := #[.int .i64 0, .int .i64 0, .slice none 0 0]) ?_ 0 _ rfl; exact HU.out)); (have HV6 := Aside0.mk (show Kd.V (Kd.int .u8) 5 w6 0 (fun k_ => k_ ≠ go) (.slice A3 gc.length c3) gc by rw [hw]; exact Kd.V_mono (Kd.V_far (p := ⟨go, 2, none⟩) (Kd.V_far (p := ⟨go, 1, none⟩) (Kd.V_far (p := ⟨go, 0, none⟩) HV5.out (fun k_ hk => Nat.ne_of_lt (Nat.lt_of_lt_of_le hk.2 HGO.out)) (.int .i64 gw)) (fun k_ hk => Nat.ne_of_lt (Nat.lt_of_lt_of_le hk.2 HGO.out)) (.int .i64 gh)) (fun k_ hk => Nat.ne_of_lt (Nat.lt_of_lt_of_le hk.2 HGO.out)) (.slice A3 gc.length c3)) (fun k_ hk => Nat.ne_of_lt (Nat.lt_of_lt_of_le hk.2 HGO.out)))); clear hw HV5 HB5 HU y0 y1 y2 f0 f1 f2; (have z0 := (blk_cell HU6.out 0).trans rfl); (have z1 := (blk_cell HU6.out 1).trans rfl); (have z2 := (blk_cell HU6.out 2).trans rfl))
  | (go_at_call 75; refine (impl_tray_indices_isBall.calls k gw gh A3 c3 gc () list _ (Kd.V_reads' HV6.out).2.2 (Kd.V_reads' HV6.out).2.1 HLI.out).mono ?_; rintro e w7 ⟨v7, rfl, hr7, hb7⟩; (have HV7 := Aside0.mk (Kd.V_below HV6.out hb7)); (have HU7 := Aside0.mk ((hb7.block go (blk_lt HU6.out)).trans HU6.out)); (have HB7 := Aside0.mk (below_then HB6.out HB6.out.size hb7)); (have HO7 := Aside0.mk hr7); (have HG7 := Aside0.mk (blk_lt HU6.out)); (obtain ⟨A7, c7, e7⟩ := Kd.R_slice HO7.out); subst e7; clear hr7 hb7 HV6 HU6 HB6 z0 z1 z2)
  | (go_at_call 76; refine (slices_Clone_int.calls A7 c7 list list _ (Kd.R_reads' HO7.out).2.2 (Kd.R_reads' HO7.out).2.1 HCL.out).mono ?_; rintro e w8 ⟨v8, rfl, hr8, hb8⟩; (have HS8 := Aside0.mk (show go < w7.heap.size ∧ w.heap.size ≤ w7.heap.size from ⟨blk_lt HU7.out, HB7.out.size⟩)); (obtain ⟨A8, c8, e8⟩ := Kd.R_slice hr8); subst e8; (have HN8 := Aside0.mk (Kd.R_base hr8)); (have HV8 := Aside0.mk (Kd.V_mono (ok' := (fun k_ => k_ ≠ go ∧ some k_ ≠ (Value.slice A8 list.length c8).ownBlock)) (Kd.V_bound (Kd.V_below (Kd.V_bound HV7.out) hb8)) (fun k_ hk => ⟨hk.1.1, fun e => by have h1 := HN8.out k_ e.symm; have h2 := hk.1.2; omega⟩))); (have HI8 := Aside0.mk (Kd.V_mono (ok' := (fun k_ => k_ ≠ go ∧ some k_ ≠ (Value.slice A8 list.length c8).ownBlock)) (Kd.V_below (Kd.V_bound (Kd.R_V (base' := 0) (Kd.R_tight rfl HO7.out))) hb8) (fun k_ hk => ⟨fun e => by have h1 := Kd.R_base HO7.out k_ hk.1.symm; have h2 := HG7.out; omega, fun e => by have h1 := HN8.out k_ e.symm; have h2 := hk.2; omega⟩))); (have HU8 := Aside0.mk ((hb8.block go (blk_lt HU7.out)).trans HU7.out)); (have HB8 := Aside0.mk (below_then HB7.out HB7.out.size hb8)); (have HO8 := Aside0.mk (Kd.R_lower hr8 HS8.out.2)); clear hr8 hb8 HV7 HU7 HB7 HO7 HG7)
  | ((with_reducible refine gate_dst (N := 24) rfl ?_); refine convB.step rfl (N := 24) rfl 9 43 5 _ rfl Tryz.underlying9 Tryz.underlying43 Tryz.underlying5 rfl HCV.out ?_; intro v9 w9 hv9 hb9; (have HV9 := Aside0.mk (Kd.V_below HV8.out hb9)); (have HI9 := Aside0.mk (Kd.V_below HI8.out hb9)); (have HO9 := Aside0.mk (Kd.R_below HO8.out hb9)); (have HU9 := Aside0.mk ((hb9.block go (blk_lt HU8.out)).trans HU8.out)); (have HB9 := Aside0.mk (below_then HB8.out HB8.out.size hb9)); (obtain ⟨A9, c9, e9⟩ := Kd.V_slice hv9); subst e9; (have HY9 := Aside0.mk (Kd.V_mono (ok' := (fun k_ => k_ ≠ go ∧ some k_ ≠ (Value.slice A8 list.length c8).ownBlock)) hv9 (fun k_ hk => ⟨fun e => by have := blk_lt HU8.out; omega, fun e => by have := Kd.R_lt HO8.out k_ e.symm; omega⟩))); clear hv9 hb9 HV8 HI8 HO8 HU8 HB8))
 go_loopg [26] bs.length (fun gg v26 wr => ∃ (i : Nat) (ww hh : Int) (cs now : List Int) (A : Option Addr) (cc : Nat), v26 = .int .i64 i ∧ Aside0 ((i ≤ bs.length ∧ bs.length - i ≤ gg) ∧ now.length = list.length ∧ backN k (bs.drop i) ww hh cs now = some fin) ∧ Aside0 (Kd.V (Kd.int .u8) 5 wr 0 (fun k_ => k_ ≠ go ∧ some k_ ≠ (Value.slice A8 list.length c8).ownBlock) (.slice A cs.length cc) cs) ∧ Aside0 (wr.heap[go]? = some (.cells #[.int .i64 ww, .int .i64 hh, .slice A cs.length cc] 55 (0, 0))) ∧ Aside0 (Kd.R (Kd.int .i64) 3 wr w.heap.size (fun _ => True) (.slice A8 list.length c8) now) ∧ Aside0 (Kd.V (Kd.int .u8) 5 wr 0 (fun k_ => k_ ≠ go ∧ some k_ ≠ (Value.slice A8 list.length c8).ownBlock) (.slice A9 bs.length c9) bs) ∧ Aside0 (Kd.V (Kd.int .i64) 3 wr 0 (fun k_ => k_ ≠ go ∧ some k_ ≠ (Value.slice A8 list.length c8).ownBlock) (.slice A7 list.length c7) list) ∧ Aside0 (Below w.heap.size w wr))
 case atStart => exact ⟨0, gw, gh, gc, list, A3, c3, rfl, ⟨⟨Nat.zero_le _, Nat.le_refl _⟩, rfl, by rw [List.drop_zero]; exact HBN.out⟩, HV9, HU9, HO9, HY9, HI9, HB9⟩
 case round =>
  clear HV9 HU9 HO9 HY9 HI9 HB9 HBN
  obtain ⟨i, ww, hh, cs, now, A, cc, rfl, HA, HV, HU, HO, HY, HI, HB⟩ := hrel
  by_cases hlib : i < bs.length
  ·have c2 : decide ((i : Int) < (bs.length : Int)) = true := decide_eq_true (by omega)
   have p1 : (0 ≤ (i : Int)) = True := eq_true (by omega)
   have p2 : ((i : Int) < (bs.length : Int)) = True := eq_true (by omega)
   have hsp := HA.out.2.2
   rw [drop_at bs 0 i hlib] at hsp
   obtain ⟨ad3, e3, hx3⟩ := Kd.at_int (Kd.V_reads' HY.out).2.2 (i : Int) (by omega) (by omega)
   cases e3
   rw [Int.toNat_natCast] at hx3
   rw [show rd bs (i : Int) = bs.getD i 0 from by unfold rd; rw [Int.toNat_natCast]] at hx3
   generalize bs.getD i 0 = d at hx3 hsp
   unfold backN at hsp
   obtain ⟨m, hm, hsp⟩ := Option.bind_eq_some_iff.1 hsp
   split at hsp
   case isFalse => cases hsp
   rename_i hxr
   obtain ⟨⟨w2, h2, cs2⟩, hg, hsp⟩ := Option.bind_eq_some_iff.1 hsp
   have HM := Aside0.mk hm
   have HXR := Aside0.mk hxr
   have HT := Aside0.mk hg
   have HNX := Aside0.mk hsp
   have HNL := Aside0.mk HA.out.2.1
   have HGK := Aside0.mk (show bs.length - i ≤ gk ∧ i < bs.length from ⟨HA.out.1.2, hlib⟩)
   have z0 := (blk_cell HU.out 0).trans rfl
   have z1 := (blk_cell HU.out 1).trans rfl
   have z2 := (blk_cell HU.out 2).trans rfl
   clear hm hxr hg hsp HA hlib
   go_wp2_with (first
    | (go_at_call 45; refine (impl_tray_slide.calls k ww hh A cc cs d m _ (Kd.V_reads' HV.out).2.2 (Kd.V_reads' HV.out).2.1 HM.out).mono ?_; rintro e w8 ⟨bm, rfl, hbm, hM8, hb8⟩; (have HM8 := Aside0.mk hM8); (have HVa := Aside0.mk (Kd.V_below HV.out hb8)); (have HUa := Aside0.mk ((hb8.block go (blk_lt HU.out)).trans HU.out)); (have HOa := Aside0.mk (Kd.R_below HO.out hb8)); (have HYa := Aside0.mk (Kd.V_below HY.out hb8)); (have HIa := Aside0.mk (Kd.V_below HI.out hb8)); (have HBa := Aside0.mk (below_then HB.out HB.out.size hb8)); clear hbm hM8 hb8 HV HU HO HY HI HB hx3 z0 z1 z2 c2 p1 p2))
   go_loopg [35] list.length (fun gg v35 wr => ∃ u : Nat, v35 = .int .i64 u ∧ Aside0 (u ≤ list.length ∧ list.length - u ≤ gg) ∧ Aside0 (Kd.V (Kd.int .u8) 5 wr 0 (fun k_ => k_ ≠ go ∧ some k_ ≠ (Value.slice A8 list.length c8).ownBlock) (.slice A cs.length cc) cs) ∧ Aside0 (wr.heap[go]? = some (.cells #[.int .i64 ww, .int .i64 hh, .slice A cs.length cc] 55 (0, 0))) ∧ Aside0 (Kd.R (Kd.int .i64) 3 wr w.heap.size (fun _ => True) (.slice A8 list.length c8) (halfM m now u)) ∧ Aside0 (Kd.V (Kd.int .u8) 5 wr 0 (fun k_ => k_ ≠ go ∧ some k_ ≠ (Value.slice A8 list.length c8).ownBlock) (.slice (some ad3) bs.length c9) bs) ∧ Aside0 (Kd.V (Kd.int .i64) 3 wr 0 (fun k_ => k_ ≠ go ∧ some k_ ≠ (Value.slice A8 list.length c8).ownBlock) (.slice A7 list.length c7) list) ∧ Aside0 (MP wr bm m.length (asF m)) ∧ Aside0 (Below w.heap.size w wr))
   case atStart => exact ⟨0, rfl, ⟨Nat.zero_le _, Nat.le_refl _⟩, HVa, HUa, HOa, HYa, HIa, HM8, HBa⟩
   case round =>
    clear HVa HUa HOa HYa HIa HM8 HBa
    obtain ⟨u, rfl, HA2, HVb, HUb, HOb, HYb, HIb, HMb, HBb⟩ := hrel
    by_cases hlu : u < list.length
    ·have hnl := HNL.out
     have c3 : decide ((u : Int) < (list.length : Int)) = true := decide_eq_true (by omega)
     have p3 : (0 ≤ (u : Int)) = True := eq_true (by omega)
     have p4 : ((u : Int) < (list.length : Int)) = True := eq_true (by omega)
     obtain ⟨ad8, e8, _⟩ := Kd.at_int (Kd.R_reads' HOb.out).2.2 (u : Int) (by omega) (by rw [halfM_len]; omega)
     cases e8
     obtain ⟨g8, rfl⟩ := Kd.R_head HOb.out
     obtain ⟨x0, x1⟩ := Kd.R_celln 0 HOb.out (u : Int) (by omega) (by omega)
     rw [Int.toNat_natCast] at x0 x1
     replace x0 : wr.cell? ⟨g8, u, none⟩ = some (.int .i64 (rd (halfM m now u) (u : Int))) := x0
     rw [halfM_at m now u (by omega)] at x0
     have HSU := Aside0.mk (halfM_succ m now u (by omega))
     have HXU := Aside0.mk (show 0 ≤ rd now (u : Int) ∧ rd now (u : Int) ≤ 1000000 from HXR.out _ (by
      have hun : u < now.length := by omega
      have : rd now (u : Int) = now[u] := by
       unfold rd
       rw [Int.toNat_natCast, List.getD_eq_getElem?_getD, List.getElem?_eq_getElem hun]
       rfl
      rw [this]
      exact List.getElem_mem hun))
     have HGK2 := Aside0.mk (show list.length - u ≤ gk ∧ u < list.length from ⟨HA2.out.2, hlu⟩)
     generalize rd now (u : Int) = x at x0 HSU HXU
     clear HA2 hlu hnl
     go_wp2_with (first
      | (at_lookup; refine wpList_look rfl _ rfl _ _ 64 rfl Tryz.underlying64 bm m.length (asF m) HMb.out x rfl rfl HXU.out ?_))
     go_roundg (list.length - (u + 1))
     case measure => have := HGK2.out; omega
     case rel =>
      have hown : ∀ k_ : Nat, some k_ ≠ (Value.slice (some ⟨g8, 0, none⟩) list.length c8).ownBlock → k_ ≠ g8 := fun k_ hk e => hk (by rw [e]; simp [Value.ownBlock])
      have HTB : go ≠ g8 := fun e => Kd.R_ne HOb.out HUb.out (by decide) (by rw [e]; rfl)
      have h7 := (Kd.R_putg HOb.out (u : Int) (lookM m x)).1
      rw [Int.toNat_natCast, HSU.out] at h7
      exact ⟨u + 1, by first | rfl | rw [wrap64_nat u (by have := HGK2.out; have := HLL.out; omega)] | simp, ⟨by have := HGK2.out; omega, Nat.le_refl _⟩, ⟨Kd.V_far (p := ⟨g8, u, none⟩) HVb.out (fun k_ hk => hown k_ hk.2) _⟩, ⟨blk_far (p := ⟨g8, u, none⟩) HUb.out HTB _⟩, ⟨h7⟩, ⟨Kd.V_far (p := ⟨g8, u, none⟩) HYb.out (fun k_ hk => hown k_ hk.2) _⟩, ⟨Kd.V_far (p := ⟨g8, u, none⟩) HIb.out (fun k_ hk => hown k_ hk.2) _⟩, ⟨HMb.out.set (R_nc HOb.out HMb.out.nc) u _⟩, ⟨below_set HBb.out (Kd.R_base HOb.out g8 (by simp [Value.ownBlock]))⟩⟩
    ·obtain rfl : u = list.length := by have := HA2.out.1; omega
     have c3 : decide ((list.length : Int) < (list.length : Int)) = false := decide_eq_false (by omega)
     have HOc := Aside0.mk (show Kd.R (Kd.int .i64) 3 wr w.heap.size (fun _ => True) (.slice A8 list.length c8) (now.map (lookM m)) by
      have h7 := HOb.out
      rw [← HNL.out, halfM_all, HNL.out] at h7
      exact h7)
     clear HA2 hlu HOb HMb
     have z0 := (blk_cell HUb.out 0).trans rfl
     have z1 := (blk_cell HUb.out 1).trans rfl
     have z2 := (blk_cell HUb.out 2).trans rfl
     go_wp2_with (first
      | (go_at_call 46; refine (impl_tray_tilted.calls k ww hh A cc cs d w2 h2 cs2 _ (Kd.V_reads' HVb.out).2.2 (Kd.V_reads' HVb.out).2.1 HT.out).mono ?_; rintro e w9 ⟨v9, rfl, hr9, hb9⟩; (have HW9 := Aside0.mk (show go < wr.heap.size ∧ (∀ q, (Value.slice A8 list.length c8).ownBlock = some q → q < wr.heap.size) from ⟨blk_lt HUb.out, Kd.R_lt HOc.out⟩)); (obtain ⟨A5, c5, e5⟩ := Kd.R_slice hr9); subst e5; (have HVd := Aside0.mk (show Kd.V (Kd.int .u8) 5 w9 0 (fun k_ => k_ ≠ go ∧ some k_ ≠ (Value.slice A8 list.length c8).ownBlock) (.slice A5 cs2.length c5) cs2 from Kd.V_mono (Kd.R_V (Kd.R_tight rfl hr9)) (fun k_ hk => ⟨fun e => by have h1 := Kd.R_base hr9 k_ hk.symm; have h2 := HW9.out.1; omega, fun e => by have h1 := Kd.R_base hr9 k_ hk.symm; have h2 := HW9.out.2 k_ e.symm; omega⟩))); (have HUd := Aside0.mk ((hb9.block go (blk_lt HUb.out)).trans HUb.out)); (have HOd := Aside0.mk (Kd.R_below HOc.out hb9)); (have HYd := Aside0.mk (Kd.V_below HYb.out hb9)); (have HId := Aside0.mk (Kd.V_below HIb.out hb9)); (have HBd := Aside0.mk (below_then HBb.out HBb.out.size hb9)); clear hr9 hb9 HVb HUb HOc HYb HIb HBb HW9 z0 z1 z2; (have y0 := (blk_cell HUd.out 0).trans rfl); (have y1 := (blk_cell HUd.out 1).trans rfl); (have y2 := (blk_cell HUd.out 2).trans rfl); (have f0 := blk_frozen HUd.out 0); (have f1 := blk_frozen HUd.out 1); (have f2 := blk_frozen HUd.out 2)))
     obtain ⟨w11, hw⟩ : ∃ w11, w11 = ((w9.setCell ⟨go, 0, none⟩ (.int .i64 w2)).setCell ⟨go, 1, none⟩ (.int .i64 h2)).setCell ⟨go, 2, none⟩ (.slice A5 cs2.length c5) := ⟨_, rfl⟩
     rw [← hw]
     have HB11 := Aside0.mk (show Below w.heap.size w w11 by rw [hw]; exact below_set (below_set (below_set HBd.out HGW.out) HGW.out) HGW.out)
     have HU11 := Aside0.mk (show w11.heap[go]? = some (.cells #[.int .i64 w2, .int .i64 h2, .slice A5 cs2.length c5] 55 (0, 0)) by rw [hw]; refine blk_put (cs := #[.int .i64 w2, .int .i64 h2, .slice A cs.length cc]) ?_ 2 _ rfl; refine blk_put (cs := #[.int .i64 w2, .int .i64 hh, .slice A cs.length cc]) ?_ 1 _ rfl; refine blk_put (cs := #[.int .i64 ww, .int .i64 hh, .slice A cs.length cc]) ?_ 0 _ rfl; exact HUd.out)
     have HV11 := Aside0.mk (show Kd.V (Kd.int .u8) 5 w11 0 (fun k_ => k_ ≠ go ∧ some k_ ≠ (Value.slice A8 list.length c8).ownBlock) (.slice A5 cs2.length c5) cs2 by rw [hw]; exact Kd.V_far (p := ⟨go, 2, none⟩) (Kd.V_far (p := ⟨go, 1, none⟩) (Kd.V_far (p := ⟨go, 0, none⟩) HVd.out (fun k_ hk => hk.1) (.int .i64 w2)) (fun k_ hk => hk.1) (.int .i64 h2)) (fun k_ hk => hk.1) (.slice A5 cs2.length c5))
     have HY11 := Aside0.mk (show Kd.V (Kd.int .u8) 5 w11 0 (fun k_ => k_ ≠ go ∧ some k_ ≠ (Value.slice A8 list.length c8).ownBlock) (.slice (some ad3) bs.length c9) bs by rw [hw]; exact Kd.V_far (p := ⟨go, 2, none⟩) (Kd.V_far (p := ⟨go, 1, none⟩) (Kd.V_far (p := ⟨go, 0, none⟩) HYd.out (fun k_ hk => hk.1) (.int .i64 w2)) (fun k_ hk => hk.1) (.int .i64 h2)) (fun k_ hk => hk.1) (.slice A5 cs2.length c5))
     have HI11 := Aside0.mk (show Kd.V (Kd.int .i64) 3 w11 0 (fun k_ => k_ ≠ go ∧ some k_ ≠ (Value.slice A8 list.length c8).ownBlock) (.slice A7 list.length c7) list by rw [hw]; exact Kd.V_far (p := ⟨go, 2, none⟩) (Kd.V_far (p := ⟨go, 1, none⟩) (Kd.V_far (p := ⟨go, 0, none⟩) HId.out (fun k_ hk => hk.1) (.int .i64 w2)) (fun k_ hk => hk.1) (.int .i64 h2)) (fun k_ hk => hk.1) (.slice A5 cs2.length c5))
     have HO11 := Aside0.mk (show Kd.R (Kd.int .i64) 3 w11 w.heap.size (fun _ => True) (.slice A8 list.length c8) (now.map (lookM m)) by rw [hw]; exact Kd.R_mono (Kd.R_far (p := ⟨go, 2, none⟩) (Kd.R_far (p := ⟨go, 1, none⟩) (Kd.R_far (p := ⟨go, 0, none⟩) (Kd.R_types HOd.out HUd.out (by decide)) (fun _ hk => hk.2) (.int .i64 w2)) (fun _ hk => hk.2) (.int .i64 h2)) (fun _ hk => hk.2) (.slice A5 cs2.length c5)) (fun _ _ => trivial))
     clear hw HBd HUd HVd HYd HId HOd y0 y1 y2 f0 f1 f2
     go_roundg (bs.length - (i + 1))
     case measure => have := HGK.out; omega
     case rel => exact ⟨i + 1, w2, h2, cs2, now.map (lookM m), A5, c5, by first | rfl | rw [wrap64_nat i (by have := HGK.out; have := HLEN.out; omega)] | simp, ⟨⟨by have := HGK.out; omega, Nat.le_refl _⟩, by rw [List.length_map]; exact HNL.out, HNX.out⟩, HV11, HU11, HO11, HY11, HI11, HB11⟩
  ·obtain rfl : i = bs.length := by have := HA.out.1.1; omega
   have c2 : decide ((bs.length : Int) < (bs.length : Int)) = false := decide_eq_false (by omega)
   have he := HA.out.2.2
   rw [List.drop_length] at he
   obtain rfl : now = fin := Option.some.inj he
   have HNL := Aside0.mk HA.out.2.1
   have HIe := Aside0.mk (show Kd.V (Kd.int .i64) 3 wr 0 (fun k_ => k_ < wr.heap.size) (.slice A7 list.length c7) list from Kd.V_mono (Kd.V_bound HI.out) (fun k_ hk => hk.2))
   have HNe := Aside0.mk (show Kd.V (Kd.int .i64) 3 wr 0 (fun k_ => k_ < wr.heap.size) (.slice A8 list.length c8) now from (by
    have h7 := Kd.V_mono (Kd.V_bound (Kd.R_V (base' := 0) HO.out)) (fun k_ hk => hk.2) (ok' := fun k_ => k_ < wr.heap.size)
    exact h7))
   clear he HA hlib HV HU HO HY HI
   go_wp2_with (first
    | ((with_reducible refine gate_dst (N := 51) rfl ?_); refine R_litG (Kd.int .i64) _ 3 ?hg (N := 51) ?hd (xs := ([] : List Int)) (inner := []) (ok := fun _ => True) (okp := fun _ => True) ?hr ?hp (fun _ hk => hk) trivial (Below.refl _ _) (Nat.le_refl _) (by simp) ?_; (case hd => rfl); (case hg => first | rfl | decide | (simp [Region.wanted, yielded]; done) | (go_simp; done)); (case hr => first | (go_simp; done) | (go_simp; rfl)); (case hp => exact (Reps.none _ _)); intro v4 w4 ho4 hb4 hg4 hn4; (have HI4 := Aside0.mk (Kd.V_mono (ok' := fun k_ => True ∧ some k_ ≠ v4.ownBlock) (Kd.V_below HIe.out hb4) (fun k_ hk => ⟨trivial, fun e => by have := Kd.R_base ho4 k_ e.symm; omega⟩))); (have HN4 := Aside0.mk (Kd.V_mono (ok' := fun k_ => True ∧ some k_ ≠ v4.ownBlock) (Kd.V_below HNe.out hb4) (fun k_ hk => ⟨trivial, fun e => by have := Kd.R_base ho4 k_ e.symm; omega⟩))); (have HB4 := Aside0.mk (below_then HB.out HB.out.size hb4)); (have HO4 := Aside0.mk (Kd.R_lower ho4 HB.out.size)); clear ho4 hb4 hg4 hn4 HIe HNe HB))
   go_loopg [14, 54] list.length (fun gg v14 v54 wr => ∃ (u : Nat) (o : List Int), v54 = .int .i64 u ∧ Aside0 ((u ≤ list.length ∧ list.length - u ≤ gg ∧ o.length ≤ u) ∧ backP k list (now.drop u) o = some out) ∧ Aside0 (Kd.R (Kd.int .i64) 3 wr w.heap.size (fun _ => True) v14 o) ∧ Aside0 (Kd.V (Kd.int .i64) 3 wr 0 (fun k_ => True ∧ some k_ ≠ v14.ownBlock) (.slice A7 list.length c7) list) ∧ Aside0 (Kd.V (Kd.int .i64) 3 wr 0 (fun k_ => True ∧ some k_ ≠ v14.ownBlock) (.slice A8 list.length c8) now) ∧ Aside0 (Below w.heap.size w wr))
   case atStart => exact ⟨0, [], rfl, ⟨⟨Nat.zero_le _, Nat.le_refl _, Nat.le_refl _⟩, by rw [List.drop_zero]; exact HBP.out⟩, HO4, HI4, HN4, HB4⟩
   case round =>
    clear HO4 HI4 HN4 HB4 HBP
    obtain ⟨u, o, rfl, HA, HO, HI, HN, HB⟩ := hrel
    by_cases hlu : u < list.length
    ·have hnl := HNL.out
     have c3 : decide ((u : Int) < (list.length : Int)) = true := decide_eq_true (by omega)
     have p3 : (0 ≤ (u : Int)) = True := eq_true (by omega)
     have p4 : ((u : Int) < (list.length : Int)) = True := eq_true (by omega)
     have hsp := HA.out.2
     rw [drop_at now 0 u (by omega)] at hsp
     obtain ⟨ad8, e8, hx8⟩ := Kd.at_int (Kd.V_reads' HN.out).2.2 (u : Int) (by omega) (by omega)
     cases e8
     rw [Int.toNat_natCast] at hx8
     rw [show rd now (u : Int) = now.getD u 0 from by unfold rd; rw [Int.toNat_natCast]] at hx8
     generalize now.getD u 0 = x at hx8 hsp
     unfold backP at hsp
     obtain ⟨r, hr, hsp⟩ := Option.bind_eq_some_iff.1 hsp
     have HIX := Aside0.mk hr
     have HNX := Aside0.mk hsp
     have HGK := Aside0.mk (show list.length - u ≤ gk ∧ u < list.length ∧ o.length ≤ u from ⟨HA.out.1.2.1, hlu, HA.out.1.2.2⟩)
     clear hr hsp HA hlu hnl
     go_wp2_with (first
      | (go_at_call 77; refine (slices_Index_int_int.calls k A7 c7 list x r _ (Kd.V_reads' HI.out).2.2 (Kd.V_reads' HI.out).2.1 HIX.out).mono ?_; rintro e w5 ⟨rfl, hd5⟩; (have hb5 := hd5.below); (have HO5 := Aside0.mk (Kd.R_below HO.out hb5)); (have HI5 := Aside0.mk (Kd.V_below HI.out hb5)); (have HN5 := Aside0.mk (Kd.V_below HN.out hb5)); (have HB5 := Aside0.mk (below_then HB.out HB.out.size hb5)); clear hd5 hb5 HO HI HN HB hx8)
      | ((with_reducible refine gate_dst (N := 63) rfl ?_); refine Kd.R_append (Kd.int .i64) (w0 := w) w.heap.size rfl (.tmp 58) (.tmp 62) 25 3 (.int .i64 0) 8 rfl Tryz.underlying25 info3 rfl (by decide) (by omega) u14 o r [.int .i64 r] (fun _ => True) (fun _ => False) rfl rfl ?aP (fun _ hk => hk.elim) ?aF ?aO ?aB ?aS ?aL ?_; (case aP => exact rfl); (case aB => exact HB5.out); (case aF => exact (fun _ _ => trivial)); (case aO => exact HO5.out); (case aS => exact HB5.out.size); (case aL => have h1 := HGK.out; have h2 := HLL.out; omega); intro v10 w10 ho10 hb10 hg10 hat10; (have HI10 := Aside0.mk (Kd.V_after (ok := fun _ => True) HI5.out hg10 hat10)); (have HN10 := Aside0.mk (Kd.V_after (ok := fun _ => True) HN5.out hg10 hat10)); (have HO10 := Aside0.mk ho10); (have HB10 := Aside0.mk hb10); clear ho10 hb10 hg10 hat10 HI5 HN5 HO5 HB5))
     go_roundg (list.length - (u + 1))
     case measure => have := HGK.out; omega
     case rel => exact ⟨u + 1, o ++ [r], by first | rfl | rw [wrap64_nat u (by have := HGK.out; have := HLL.out; omega)] | simp, ⟨⟨by have := HGK.out; omega, Nat.le_refl _, by rw [List.length_append, List.length_singleton]; have := HGK.out; omega⟩, HNX.out⟩, HO10, HI10, HN10, HB10⟩
    ·obtain rfl : u = list.length := by have := HA.out.1.1; omega
     have c3 : decide ((list.length : Int) < (list.length : Int)) = false := decide_eq_false (by omega)
     have he := HA.out.2
     rw [← HNL.out, List.drop_length] at he
     obtain rfl : o = out := Option.some.inj he
     clear he HA hlu HI HN
     obtain ⟨Ao, co, eo⟩ := Kd.R_slice HO.out
     subst eo
     go_wp2_with (first
      | (go_at_call 78; refine (slices_Contains_int_int.calls k Ao co o (-1) bb _ (Kd.R_reads' HO.out).2.2 (Kd.R_reads' HO.out).2.1 HCT.out).mono ?_; rintro e w5 ⟨rfl, hd5⟩; (have HO5 := Aside0.mk (Kd.R_below HO.out hd5.below)); (have HB5 := Aside0.mk (below_then HB.out HB.out.size hd5.below)); clear hd5))
     go_ret2
     exact ⟨_, rfl, HO5.out, HB5.out⟩
end Go.Proofs.YtepmpilopmcjpaaGreatDoor.Q
end
section
namespace Go.Proofs.YtepmpilopmcjpaaGreatDoor.Q
open Go.RowKit Go.Proofs.YtepmpilopmcjpaaGreatDoorW.PrintWords Go.Proofs.YtepmpilopmcjpaaGreatDoorW.PrintLast Go.Proofs.YtepmpilopmcjpaaGreatDoorW.PrintMore
attribute [local go_sem] max2_int min2_int max_two min_two max_three min_three max_four min_four
set_option linter.unusedVariables false
set_option linter.unusedSimpArgs false
def spec_mcRead.f (k : Nat) (a0 : ByteArray) (a1 : ByteArray) : Option (Int × Int × List Int × Bool) := (spec_tyRead.f k a0).bind fun bt102 => (if bt102.2.2.2 = true then ((spec_tiWord.f k a1).bind fun t109 => (some (bt102.1, bt102.2.1, bt102.2.2.1, t109))) else (some (bt102.1, bt102.2.1, bt102.2.2.1, false)))
def spec_mcRead.T2 : Bool × List (List Nat × List Nat) := (true, [([], []), ([], []), ([1], [1]), ([2], [2]), ([3, 2, 2], [2, 3]), ([2, 4], [2, 4]), ([0, 4, 0], [0]), ([5, 6, 0, 1, 2, 3, 4, 5, 6], [5])])
def spec_mcRead.B2 : List Nat := [0, 0, 2, 6, 14, 30, 31, 127]
theorem spec_mcRead.tab2 : rtab .any (opsOf Tryz.f47 2) = spec_mcRead.T2 := by kernel_rfl
theorem spec_mcRead.bits2 : waitsOk spec_mcRead.T2.2 spec_mcRead.B2 = true := by kernel_rfl
set_option maxHeartbeats 8000000 in
set_option maxRecDepth 100000 in
theorem spec_mcRead.calls (k : Nat) (a0 : ByteArray) (a1 : ByteArray) (r1 : Int) (r2 : Int) (r3 : List Int) (r4 : Bool) (w : World) (h : spec_mcRead.f k a0 a1 = some (r1, r2, r3, r4)) :
  Calls Tryz.prog 47 #[.string a0, .string a1] w fun e w' => ∃ v2_ : Value, e = .returned (.tuple #[.agg #[.int .i64 r1, .int .i64 r2, v2_], .bool r4]) ∧ Kd.R (Kd.int .u8) 5 w' w.heap.size (fun _ => True) v2_ r3 ∧ Below w.heap.size w w' := by
 have hu45 := Tryz.underlying45
 have HB := Aside0.mk (Below.refl w.heap.size w)
 have H : ((spec_tyRead.f k a0).bind fun bt102 => (if bt102.2.2.2 = true then ((spec_tiWord.f k a1).bind fun t109 => (some (bt102.1, bt102.2.1, bt102.2.2.1, t109))) else (some (bt102.1, bt102.2.1, bt102.2.2.1, false)))) = some (r1, r2, r3, r4) := h
 clear h
 replace H := Option.bind_eq_some_iff.mp H
 obtain ⟨⟨t102, t103, t104, t107⟩, A30, H⟩ := H
 replace H : (if t107 = true then ((spec_tiWord.f k a1).bind fun t109 => (some (t102, t103, t104, t109))) else (some (t102, t103, t104, false))) = some (r1, r2, r3, r4) := H
 have A3 := Aside0.mk A30
 clear A30
 by_cases c4 : t107 = true
 ·subst c4
  have H1 : ((spec_tiWord.f k a1).bind fun t109 => (some (t102, t103, t104, t109))) = some (r1, r2, r3, r4) := by rw [if_pos rfl] at H; exact H
  clear H
  have H := H1
  clear H1
  replace H := Option.bind_eq_some_iff.mp H
  obtain ⟨t109, A50, H⟩ := H
  replace H : (some (t102, t103, t104, t109)) = some (r1, r2, r3, r4) := H
  have A5 := Aside0.mk A50
  clear A50
  simp only [Option.some.injEq, Prod.mk.injEq] at H
  obtain ⟨rfl, rfl, rfl, rfl⟩ := H
  go_enter Tryz.func47, Tryz.ntmps47
  try go_wp2_with (first | ((with_reducible refine gate_dst (N := 4) rfl ?_); refine boxE (N := 4) (cs := #[.int .i64 0, .int .i64 0, .slice none 0 0]) (t := 45) ?_; intro gb101 hg w6 hbox hb; have n0_ := Aside0.mk (below_step (bel HB) hb); have n1_ := Aside0.mk (hbox); have n2_ := Aside0.mk (gsz hg (bel HB)); have n3_ := Aside0.mk (gsz hg (bel HB)); clear HB; have HB := n0_; have BK101 := n1_; have GW101 := n2_; have GE101 := n3_; clear n0_ n1_ n2_ n3_; clear hb hbox hg) | ((with_reducible refine gate_callee (f := 39) rfl ?_); refine gcall (some 10) Tryz.func39 #[.string a0] rfl ?_; (with_reducible refine (spec_tyRead.calls k a0 t102 t103 t104 true _ A3.out).mono ?_); rintro e w7 ⟨v105, rfl, ho0, hb⟩; refine ⟨_, rfl, ?_⟩; have n0_ := Aside0.mk (Kd.R_lower ho0 (below_size (bel HB))); have n1_ := Aside0.mk (blk_below (g := gb101) (o := .cells #[.int .i64 0, .int .i64 0, .slice none 0 0] 45 (0, 0)) blc hb); have n2_ := Aside0.mk (below_step (bel HB) hb); clear BK101; clear HB; have HO106 := n0_; have BK101 := n1_; have HB := n2_; clear n0_ n1_ n2_; (try clear hb); (try clear hb2); (try clear hk); (try clear hi); (try clear ho0)) | ((with_reducible refine gate_dst (N := 6) rfl ?_); refine boxE (N := 6) (cs := #[.int .i64 0, .int .i64 0, .slice none 0 0]) (t := 45) ?_; intro gb108 hg w8 hbox hb; have n0_ := Aside0.mk (Kd.R_below (rch HO106) hb); have n1_ := Aside0.mk (blk_below (g := gb101) (o := .cells #[.int .i64 0, .int .i64 0, .slice none 0 0] 45 (0, 0)) blc hb); have n2_ := Aside0.mk (below_step (bel HB) hb); have n3_ := Aside0.mk (hbox); have n4_ := Aside0.mk (gsz hg (bel HB)); have n5_ := Aside0.mk (gsz hg (bel HB)); have n6_ := Aside0.mk ((by rw [hg]; exact Nat.ne_of_lt (blk_lt (g := gb101) (o := .cells #[.int .i64 0, .int .i64 0, .slice none 0 0] 45 (0, 0)) blc) : gb101 ≠ gb108)); have n7_ := Aside0.mk ((by rw [hg]; exact Nat.ne_of_gt (blk_lt (g := gb101) (o := .cells #[.int .i64 0, .int .i64 0, .slice none 0 0] 45 (0, 0)) blc) : gb108 ≠ gb101)); clear HO106; clear BK101; clear HB; have HO106 := n0_; have BK101 := n1_; have HB := n2_; have BK108 := n3_; have GW108 := n4_; have GE108 := n5_; have NB101_108 := n6_; have NB108_101 := n7_; clear n0_ n1_ n2_ n3_ n4_ n5_ n6_ n7_; clear hb hbox hg; have hnb9 := NB108_101.out; have hnc9 := NB101_108.out; have hcz10_0 : w8.cell? ⟨gb108, 0, none⟩ = some (.int .i64 0) := (blk_cell BK108.out 0).trans rfl; have hcz10_1 : w8.cell? ⟨gb108, 1, none⟩ = some (.int .i64 0) := (blk_cell BK108.out 1).trans rfl; have hcz10_2 : w8.cell? ⟨gb108, 2, none⟩ = some (.slice none 0 0) := (blk_cell BK108.out 2).trans rfl; have hfz10_0 := blk_frozen BK108.out 0; have hfz10_1 := blk_frozen BK108.out 1; have hfz10_2 := blk_frozen BK108.out 2; obtain ⟨Ao11, co11, eo11⟩ := Kd.R_slice HO106.out; subst eo11))
  have n0_ : Aside0 (Kd.R (Kd.int .u8) 5 (((w8.setCell ⟨gb108, 0, none⟩ (.int .i64 t102)).setCell ⟨gb108, 1, none⟩ (.int .i64 t103)).setCell ⟨gb108, 2, none⟩ (.slice Ao11 t104.length co11)) w.heap.size (fun _ => True) (.slice Ao11 t104.length co11) t104) := ⟨by (with_reducible repeat (first | apply Kd.R_alloc | apply Kd.R_drewN | apply Kd.R_drew)); exact Kd.R_mono (Kd.R_far (p := ⟨gb108, 2, none⟩) (Kd.R_far (p := ⟨gb108, 1, none⟩) (Kd.R_far (p := ⟨gb108, 0, none⟩) (Kd.R_types HO106.out BK108.out (by decide)) (fun _ hk => hk.2) (.int .i64 t102)) (fun _ hk => hk.2) (.int .i64 t103)) (fun _ hk => hk.2) (.slice Ao11 t104.length co11)) (fun _ hk => trivial)⟩
  have n1_ : Aside0 ((((w8.setCell ⟨gb108, 0, none⟩ (.int .i64 t102)).setCell ⟨gb108, 1, none⟩ (.int .i64 t103)).setCell ⟨gb108, 2, none⟩ (.slice Ao11 t104.length co11)).heap[gb101]? = some (.cells #[.int .i64 0, .int .i64 0, .slice none 0 0] 45 (0, 0))) := ⟨by (with_reducible repeat (first | refine blk_drewN ?_ _ | refine blk_drew ?_ | refine blk_alloc ?_ _)); refine blk_far ?_ NB101_108.out _; (with_reducible repeat (first | refine blk_drewN ?_ _ | refine blk_drew ?_ | refine blk_alloc ?_ _)); refine blk_far ?_ NB101_108.out _; (with_reducible repeat (first | refine blk_drewN ?_ _ | refine blk_drew ?_ | refine blk_alloc ?_ _)); refine blk_far ?_ NB101_108.out _; exact blc⟩
  have n2_ : Aside0 ((((w8.setCell ⟨gb108, 0, none⟩ (.int .i64 t102)).setCell ⟨gb108, 1, none⟩ (.int .i64 t103)).setCell ⟨gb108, 2, none⟩ (.slice Ao11 t104.length co11)).heap[gb108]? = some (.cells #[.int .i64 t102, .int .i64 t103, .slice Ao11 t104.length co11] 45 (0, 0))) := ⟨by (with_reducible repeat (first | refine blk_drewN ?_ _ | refine blk_drew ?_ | refine blk_alloc ?_ _)); refine blk_put (cs := #[.int .i64 t102, .int .i64 t103, .slice none 0 0]) ?_ 2 _ rfl; (with_reducible repeat (first | refine blk_drewN ?_ _ | refine blk_drew ?_ | refine blk_alloc ?_ _)); refine blk_put (cs := #[.int .i64 t102, .int .i64 0, .slice none 0 0]) ?_ 1 _ rfl; (with_reducible repeat (first | refine blk_drewN ?_ _ | refine blk_drew ?_ | refine blk_alloc ?_ _)); refine blk_put (cs := #[.int .i64 0, .int .i64 0, .slice none 0 0]) ?_ 0 _ rfl; exact blc⟩
  have n3_ : Aside0 (Below w.heap.size w (((w8.setCell ⟨gb108, 0, none⟩ (.int .i64 t102)).setCell ⟨gb108, 1, none⟩ (.int .i64 t103)).setCell ⟨gb108, 2, none⟩ (.slice Ao11 t104.length co11))) := ⟨bel HB⟩
  (try clear HO106)
  (try clear BK101)
  (try clear BK108)
  (try clear HB)
  generalize (((w8.setCell ⟨gb108, 0, none⟩ (.int .i64 t102)).setCell ⟨gb108, 1, none⟩ (.int .i64 t103)).setCell ⟨gb108, 2, none⟩ (.slice Ao11 t104.length co11)) = w12 at n0_ n1_ n2_ n3_ ⊢
  have HO106 := n0_
  have BK101 := n1_
  have BK108 := n2_
  have HB := n3_
  clear n0_ n1_ n2_ n3_
  have n0_ := Aside0.mk (Kd.R_drew HO106.out)
  have n1_ := Aside0.mk (blk_drew BK101.out)
  have n2_ := Aside0.mk (blk_drew BK108.out)
  have n3_ := Aside0.mk (below_drew1 HB.out)
  clear HO106
  clear BK101
  clear BK108
  clear HB
  have HO106 := n0_
  have BK101 := n1_
  have BK108 := n2_
  have HB := n3_
  clear n0_ n1_ n2_ n3_
  refine start_ (n := 8) (S := fun w' => w'.cell? ⟨gb108, 0, none⟩ = some (.int .i64 t102) ∧ w'.cell? ⟨gb108, 1, none⟩ = some (.int .i64 t103) ∧ w'.cell? ⟨gb108, 2, none⟩ = some (.slice Ao11 t104.length co11)) (ds := []) #[false, false, false, false, false, false, false, false] (by kernel_rfl) rfl rfl ⟨(blk_cell BK108.out 0).trans rfl, (blk_cell BK108.out 1).trans rfl, (blk_cell BK108.out 2).trans rfl⟩ (fun hHeld => ?_); refine with_tabW spec_mcRead.tab2 spec_mcRead.bits2 (fun HT_ HW_ => ?_)
  generalize w12.drew = w13 at HO106 BK101 BK108 HB hHeld ⊢
  refine pure_ (i := 1) (N := some 14) (v := ?_) (a' := ?_) #[false, true, false, false, false, false, false, false] rfl rfl (any_of HT_.out (by kernel_rfl)) (fun _ _ _ h => h) (Or.inl ⟨by rfl, ?_⟩) ?_ ?_
  rotate_left
  ·intro w'
   go_simp
   with_reducible rfl
  rotate_left
  ·simp only [Act.put, List.setIfInBounds_toArray, List.set_cons_zero, List.set_cons_succ, i64_w, i32_w]
   rfl
  refine pure_ (i := 2) (N := some 15) (v := ?_) (a' := ?_) #[false, true, true, false, false, false, false, false] rfl rfl (any_of HT_.out (by kernel_rfl)) (fun _ _ _ h => h) (Or.inl ⟨by rfl, ?_⟩) ?_ ?_
  rotate_left
  ·intro w'
   go_simp
   with_reducible rfl
  rotate_left
  ·simp only [Act.put, List.setIfInBounds_toArray, List.set_cons_zero, List.set_cons_succ, i64_w, i32_w]
   rfl
  refine pure_ (i := 3) (N := some 16) (v := ?_) (a' := ?_) #[false, true, true, true, false, false, false, false] rfl rfl (any_of HT_.out (by kernel_rfl)) (fun _ _ _ h => h) (Or.inl ⟨by rfl, ?_⟩) ?_ ?_
  rotate_left
  ·intro w'
   go_simp
   with_reducible rfl
  rotate_left
  ·simp only [Act.put, List.setIfInBounds_toArray, List.set_cons_zero, List.set_cons_succ, i64_w, i32_w]
   rfl
  refine take_ (i := 0) (N := some 13) (v := ?_) (a' := ?_) #[true, true, true, true, false, false, false, false] rfl rfl (take_ofW HT_.out HW_.out (by kernel_rfl)) (fun _ _ _ h => h) (Or.inl ⟨by rfl, ?_⟩) hHeld ?_ ?_
  rotate_left
  ·rintro w' ⟨s0, s1, s2⟩
   go_simp
   with_reducible rfl
  rotate_left
  ·simp only [Act.put, List.setIfInBounds_toArray, List.set_cons_zero, List.set_cons_succ, i64_w, i32_w]
   rfl
  refine one_ (i := 4) (N := some 17) #[true, true, true, true, true, false, false, false] rfl rfl (one_of HT_.out (by kernel_rfl)) (by decide) (fun K hK => ?_)
  refine goes_ Tryz.func40 (by kernel_rfl) rfl #[.string a1] (by rfl) rfl rfl (by (try simp only [List.map_toArray, List.map_cons, List.map_nil]); first | done | rfl | (simp only [List.length_drop, List.length_take]; rfl)) ?_
  with_reducible refine (spec_tiWord.calls k a1 t109 _ A5.out).mono ?_
  rintro e w' ⟨rfl, ⟨nd, rfl⟩⟩
  refine ⟨_, rfl, ?_⟩
  refine hK.out _ _ ⟨(blk_cell BK108.out 0).trans rfl, (blk_cell BK108.out 1).trans rfl, (blk_cell BK108.out 2).trans rfl⟩ (fun hHeld => ?_)
  clear hK K
  refine norm_ (a' := ?_) ?_ ?_
  rotate_left
  ·show Act.put _ (some 17) _ = _
   simp only [Act.put, List.setIfInBounds_toArray, List.set_cons_zero, List.set_cons_succ, i64_w, i32_w]
   rfl
  refine pure_ (i := 5) (N := some 18) (v := ?_) (a' := ?_) #[true, true, true, true, true, true, false, false] rfl rfl (any_of HT_.out (by kernel_rfl)) (fun _ _ _ h => h) (Or.inl ⟨by rfl, ?_⟩) ?_ ?_
  rotate_left
  ·intro w'
   go_simp
   with_reducible rfl
  rotate_left
  ·simp only [Act.put, List.setIfInBounds_toArray, List.set_cons_zero, List.set_cons_succ, i64_w, i32_w]
   rfl
  refine one_ (i := 6) (N := none) #[true, true, true, true, true, true, true, false] rfl rfl (one_of HT_.out (by kernel_rfl)) (by decide) (fun K hK => ?_)
  have hs14 : w13.cell? ⟨gb101, 0, none⟩ = some (.int .i64 0) := (blk_cell BK101.out 0).trans rfl
  have hfs14 := blk_frozen BK101.out 0
  have hns14_1 := NB108_101.out
  have hms14_1 := NB101_108.out
  have hs15 : w13.cell? ⟨gb101, 1, none⟩ = some (.int .i64 0) := (blk_cell BK101.out 1).trans rfl
  have hfs15 := blk_frozen BK101.out 1
  have hns15_1 := NB108_101.out
  have hms15_1 := NB101_108.out
  have hs16 : w13.cell? ⟨gb101, 2, none⟩ = some (.slice none 0 0) := (blk_cell BK101.out 2).trans rfl
  have hfs16 := blk_frozen BK101.out 2
  have hns16_1 := NB108_101.out
  have hms16_1 := NB101_108.out
  refine skip_ (w1 := ?_) (by rfl) rfl ?_ ?_
  rotate_left
  ·go_simp
   rfl
  refine hK.out _ _ ⟨((cell_far (p := ⟨gb101, _, none⟩) NB108_101.out _).trans (((cell_far (p := ⟨gb101, _, none⟩) NB108_101.out _).trans (((cell_far (p := ⟨gb101, _, none⟩) NB108_101.out _).trans (hHeld.1)))))), ((cell_far (p := ⟨gb101, _, none⟩) NB108_101.out _).trans (((cell_far (p := ⟨gb101, _, none⟩) NB108_101.out _).trans (((cell_far (p := ⟨gb101, _, none⟩) NB108_101.out _).trans (hHeld.2.1)))))), ((cell_far (p := ⟨gb101, _, none⟩) NB108_101.out _).trans (((cell_far (p := ⟨gb101, _, none⟩) NB108_101.out _).trans (((cell_far (p := ⟨gb101, _, none⟩) NB108_101.out _).trans (hHeld.2.2))))))⟩ (fun hHeld => ?_)
  clear hK K
  refine pure_ (i := 7) (N := some 5) (v := ?_) (a' := ?_) #[true, true, true, true, true, true, true, true] rfl rfl (any_of HT_.out (by kernel_rfl)) (fun _ _ _ h => h) (Or.inl ⟨by rfl, ?_⟩) ?_ ?_
  rotate_left
  ·intro w'
   go_simp
   with_reducible rfl
  rotate_left
  ·simp only [Act.put, List.setIfInBounds_toArray, List.set_cons_zero, List.set_cons_succ, i64_w, i32_w]
   rfl
  refine done_ (done_of HT_.out (by kernel_rfl)) ?_
  try go_wp2
  refine bodyPost_ret (results_ct rfl _ _ gb101 45 #[.int .i64 t102, .int .i64 t103, .slice Ao11 t104.length co11] (0, 0) _ rfl (by (with_reducible repeat (first | refine blk_drewN ?_ _ | refine blk_drew ?_ | refine blk_alloc ?_ _)); refine blk_put (cs := #[.int .i64 t102, .int .i64 t103, .slice none 0 0]) ?_ 2 _ rfl; (with_reducible repeat (first | refine blk_drewN ?_ _ | refine blk_drew ?_ | refine blk_alloc ?_ _)); refine blk_put (cs := #[.int .i64 t102, .int .i64 0, .slice none 0 0]) ?_ 1 _ rfl; (with_reducible repeat (first | refine blk_drewN ?_ _ | refine blk_drew ?_ | refine blk_alloc ?_ _)); refine blk_put (cs := #[.int .i64 0, .int .i64 0, .slice none 0 0]) ?_ 0 _ rfl; exact blc) Tryz.underlying45 rfl (by kernel_rfl)) rfl ?_
  exact ⟨_, by first | rfl | (simp [errW_none, errW_some] <;> rfl) | (simp [*, errW_none, errW_some] <;> rfl), by (with_reducible repeat (first | apply Kd.R_alloc | apply Kd.R_drewN | apply Kd.R_drew)); exact Kd.R_mono (Kd.R_far (p := ⟨gb101, 2, none⟩) (Kd.R_far (p := ⟨gb101, 1, none⟩) (Kd.R_far (p := ⟨gb101, 0, none⟩) (Kd.R_types HO106.out BK101.out (by decide)) (fun _ hk => hk.2) (.int .i64 t102)) (fun _ hk => hk.2) (.int .i64 t103)) (fun _ hk => hk.2) (.slice Ao11 t104.length co11)) (fun _ hk => trivial), bel HB⟩
 ·replace c4 := Bool.eq_false_iff.mpr c4
  subst c4
  have H1 : (some (t102, t103, t104, false)) = some (r1, r2, r3, r4) := by rw [if_neg (show ¬ (false = true) by decide)] at H; exact H
  clear H
  have H := H1
  clear H1
  simp only [Option.some.injEq, Prod.mk.injEq] at H
  obtain ⟨rfl, rfl, rfl, rfl⟩ := H
  go_enter Tryz.func47, Tryz.ntmps47
  try go_wp2_with (first | ((with_reducible refine gate_dst (N := 4) rfl ?_); refine boxE (N := 4) (cs := #[.int .i64 0, .int .i64 0, .slice none 0 0]) (t := 45) ?_; intro gb101 hg w17 hbox hb; have n0_ := Aside0.mk (below_step (bel HB) hb); have n1_ := Aside0.mk (hbox); have n2_ := Aside0.mk (gsz hg (bel HB)); have n3_ := Aside0.mk (gsz hg (bel HB)); clear HB; have HB := n0_; have BK101 := n1_; have GW101 := n2_; have GE101 := n3_; clear n0_ n1_ n2_ n3_; clear hb hbox hg) | ((with_reducible refine gate_callee (f := 39) rfl ?_); refine gcall (some 10) Tryz.func39 #[.string a0] rfl ?_; (with_reducible refine (spec_tyRead.calls k a0 t102 t103 t104 false _ A3.out).mono ?_); rintro e w18 ⟨v105, rfl, ho0, hb⟩; refine ⟨_, rfl, ?_⟩; have n0_ := Aside0.mk (Kd.R_lower ho0 (below_size (bel HB))); have n1_ := Aside0.mk (blk_below (g := gb101) (o := .cells #[.int .i64 0, .int .i64 0, .slice none 0 0] 45 (0, 0)) blc hb); have n2_ := Aside0.mk (below_step (bel HB) hb); clear BK101; clear HB; have HO106 := n0_; have BK101 := n1_; have HB := n2_; clear n0_ n1_ n2_; (try clear hb); (try clear hb2); (try clear hk); (try clear hi); (try clear ho0)) | ((with_reducible refine gate_dst (N := 6) rfl ?_); refine boxE (N := 6) (cs := #[.int .i64 0, .int .i64 0, .slice none 0 0]) (t := 45) ?_; intro gb108 hg w19 hbox hb; have n0_ := Aside0.mk (Kd.R_below (rch HO106) hb); have n1_ := Aside0.mk (blk_below (g := gb101) (o := .cells #[.int .i64 0, .int .i64 0, .slice none 0 0] 45 (0, 0)) blc hb); have n2_ := Aside0.mk (below_step (bel HB) hb); have n3_ := Aside0.mk (hbox); have n4_ := Aside0.mk (gsz hg (bel HB)); have n5_ := Aside0.mk (gsz hg (bel HB)); have n6_ := Aside0.mk ((by rw [hg]; exact Nat.ne_of_lt (blk_lt (g := gb101) (o := .cells #[.int .i64 0, .int .i64 0, .slice none 0 0] 45 (0, 0)) blc) : gb101 ≠ gb108)); have n7_ := Aside0.mk ((by rw [hg]; exact Nat.ne_of_gt (blk_lt (g := gb101) (o := .cells #[.int .i64 0, .int .i64 0, .slice none 0 0] 45 (0, 0)) blc) : gb108 ≠ gb101)); clear HO106; clear BK101; clear HB; have HO106 := n0_; have BK101 := n1_; have HB := n2_; have BK108 := n3_; have GW108 := n4_; have GE108 := n5_; have NB101_108 := n6_; have NB108_101 := n7_; clear n0_ n1_ n2_ n3_ n4_ n5_ n6_ n7_; clear hb hbox hg; have hnb20 := NB108_101.out; have hnc20 := NB101_108.out; have hcz21_0 : w19.cell? ⟨gb108, 0, none⟩ = some (.int .i64 0) := (blk_cell BK108.out 0).trans rfl; have hcz21_1 : w19.cell? ⟨gb108, 1, none⟩ = some (.int .i64 0) := (blk_cell BK108.out 1).trans rfl; have hcz21_2 : w19.cell? ⟨gb108, 2, none⟩ = some (.slice none 0 0) := (blk_cell BK108.out 2).trans rfl; have hfz21_0 := blk_frozen BK108.out 0; have hfz21_1 := blk_frozen BK108.out 1; have hfz21_2 := blk_frozen BK108.out 2; obtain ⟨Ao22, co22, eo22⟩ := Kd.R_slice HO106.out; subst eo22))
  have n0_ : Aside0 (Kd.R (Kd.int .u8) 5 (((w19.setCell ⟨gb108, 0, none⟩ (.int .i64 t102)).setCell ⟨gb108, 1, none⟩ (.int .i64 t103)).setCell ⟨gb108, 2, none⟩ (.slice Ao22 t104.length co22)) w.heap.size (fun _ => True) (.slice Ao22 t104.length co22) t104) := ⟨by (with_reducible repeat (first | apply Kd.R_alloc | apply Kd.R_drewN | apply Kd.R_drew)); exact Kd.R_mono (Kd.R_far (p := ⟨gb108, 2, none⟩) (Kd.R_far (p := ⟨gb108, 1, none⟩) (Kd.R_far (p := ⟨gb108, 0, none⟩) (Kd.R_types HO106.out BK108.out (by decide)) (fun _ hk => hk.2) (.int .i64 t102)) (fun _ hk => hk.2) (.int .i64 t103)) (fun _ hk => hk.2) (.slice Ao22 t104.length co22)) (fun _ hk => trivial)⟩
  have n1_ : Aside0 ((((w19.setCell ⟨gb108, 0, none⟩ (.int .i64 t102)).setCell ⟨gb108, 1, none⟩ (.int .i64 t103)).setCell ⟨gb108, 2, none⟩ (.slice Ao22 t104.length co22)).heap[gb101]? = some (.cells #[.int .i64 0, .int .i64 0, .slice none 0 0] 45 (0, 0))) := ⟨by (with_reducible repeat (first | refine blk_drewN ?_ _ | refine blk_drew ?_ | refine blk_alloc ?_ _)); refine blk_far ?_ NB101_108.out _; (with_reducible repeat (first | refine blk_drewN ?_ _ | refine blk_drew ?_ | refine blk_alloc ?_ _)); refine blk_far ?_ NB101_108.out _; (with_reducible repeat (first | refine blk_drewN ?_ _ | refine blk_drew ?_ | refine blk_alloc ?_ _)); refine blk_far ?_ NB101_108.out _; exact blc⟩
  have n2_ : Aside0 ((((w19.setCell ⟨gb108, 0, none⟩ (.int .i64 t102)).setCell ⟨gb108, 1, none⟩ (.int .i64 t103)).setCell ⟨gb108, 2, none⟩ (.slice Ao22 t104.length co22)).heap[gb108]? = some (.cells #[.int .i64 t102, .int .i64 t103, .slice Ao22 t104.length co22] 45 (0, 0))) := ⟨by (with_reducible repeat (first | refine blk_drewN ?_ _ | refine blk_drew ?_ | refine blk_alloc ?_ _)); refine blk_put (cs := #[.int .i64 t102, .int .i64 t103, .slice none 0 0]) ?_ 2 _ rfl; (with_reducible repeat (first | refine blk_drewN ?_ _ | refine blk_drew ?_ | refine blk_alloc ?_ _)); refine blk_put (cs := #[.int .i64 t102, .int .i64 0, .slice none 0 0]) ?_ 1 _ rfl; (with_reducible repeat (first | refine blk_drewN ?_ _ | refine blk_drew ?_ | refine blk_alloc ?_ _)); refine blk_put (cs := #[.int .i64 0, .int .i64 0, .slice none 0 0]) ?_ 0 _ rfl; exact blc⟩
  have n3_ : Aside0 (Below w.heap.size w (((w19.setCell ⟨gb108, 0, none⟩ (.int .i64 t102)).setCell ⟨gb108, 1, none⟩ (.int .i64 t103)).setCell ⟨gb108, 2, none⟩ (.slice Ao22 t104.length co22))) := ⟨bel HB⟩
  (try clear HO106)
  (try clear BK101)
  (try clear BK108)
  (try clear HB)
  generalize (((w19.setCell ⟨gb108, 0, none⟩ (.int .i64 t102)).setCell ⟨gb108, 1, none⟩ (.int .i64 t103)).setCell ⟨gb108, 2, none⟩ (.slice Ao22 t104.length co22)) = w23 at n0_ n1_ n2_ n3_ ⊢
  have HO106 := n0_
  have BK101 := n1_
  have BK108 := n2_
  have HB := n3_
  clear n0_ n1_ n2_ n3_
  have n0_ := Aside0.mk (Kd.R_drew HO106.out)
  have n1_ := Aside0.mk (blk_drew BK101.out)
  have n2_ := Aside0.mk (blk_drew BK108.out)
  have n3_ := Aside0.mk (below_drew1 HB.out)
  clear HO106
  clear BK101
  clear BK108
  clear HB
  have HO106 := n0_
  have BK101 := n1_
  have BK108 := n2_
  have HB := n3_
  clear n0_ n1_ n2_ n3_
  refine start_ (n := 8) (S := fun w' => w'.cell? ⟨gb108, 0, none⟩ = some (.int .i64 t102) ∧ w'.cell? ⟨gb108, 1, none⟩ = some (.int .i64 t103) ∧ w'.cell? ⟨gb108, 2, none⟩ = some (.slice Ao22 t104.length co22)) (ds := []) #[false, false, false, false, false, false, false, false] (by kernel_rfl) rfl rfl ⟨(blk_cell BK108.out 0).trans rfl, (blk_cell BK108.out 1).trans rfl, (blk_cell BK108.out 2).trans rfl⟩ (fun hHeld => ?_); refine with_tabW spec_mcRead.tab2 spec_mcRead.bits2 (fun HT_ HW_ => ?_)
  generalize w23.drew = w24 at HO106 BK101 BK108 HB hHeld ⊢
  refine pure_ (i := 1) (N := some 14) (v := ?_) (a' := ?_) #[false, true, false, false, false, false, false, false] rfl rfl (any_of HT_.out (by kernel_rfl)) (fun _ _ _ h => h) (Or.inl ⟨by rfl, ?_⟩) ?_ ?_
  rotate_left
  ·intro w'
   go_simp
   with_reducible rfl
  rotate_left
  ·simp only [Act.put, List.setIfInBounds_toArray, List.set_cons_zero, List.set_cons_succ, i64_w, i32_w]
   rfl
  refine pure_ (i := 2) (N := some 15) (v := ?_) (a' := ?_) #[false, true, true, false, false, false, false, false] rfl rfl (any_of HT_.out (by kernel_rfl)) (fun _ _ _ h => h) (Or.inl ⟨by rfl, ?_⟩) ?_ ?_
  rotate_left
  ·intro w'
   go_simp
   with_reducible rfl
  rotate_left
  ·simp only [Act.put, List.setIfInBounds_toArray, List.set_cons_zero, List.set_cons_succ, i64_w, i32_w]
   rfl
  refine pure_ (i := 3) (N := some 16) (v := undef) (a' := ?_) #[false, true, true, true, false, false, false, false] rfl rfl (any_of HT_.out (by kernel_rfl)) (fun _ _ _ h => h) (Or.inr ⟨by rfl, rfl⟩) ?_ ?_
  rotate_left
  ·simp only [Act.put, List.setIfInBounds_toArray, List.set_cons_zero, List.set_cons_succ, i64_w, i32_w]
   rfl
  refine pure_ (i := 4) (N := some 17) (v := undef) (a' := ?_) #[false, true, true, true, true, false, false, false] rfl rfl (any_of HT_.out (by kernel_rfl)) (fun _ _ _ h => h) (Or.inr ⟨by rfl, rfl⟩) ?_ ?_
  rotate_left
  ·simp only [Act.put, List.setIfInBounds_toArray, List.set_cons_zero, List.set_cons_succ, i64_w, i32_w]
   rfl
  refine pure_ (i := 5) (N := some 18) (v := ?_) (a' := ?_) #[false, true, true, true, true, true, false, false] rfl rfl (any_of HT_.out (by kernel_rfl)) (fun _ _ _ h => h) (Or.inl ⟨by rfl, ?_⟩) ?_ ?_
  rotate_left
  ·intro w'
   go_simp
   with_reducible rfl
  rotate_left
  ·simp only [Act.put, List.setIfInBounds_toArray, List.set_cons_zero, List.set_cons_succ, i64_w, i32_w]
   rfl
  refine take_ (i := 0) (N := some 13) (v := ?_) (a' := ?_) #[true, true, true, true, true, true, false, false] rfl rfl (take_ofW HT_.out HW_.out (by kernel_rfl)) (fun _ _ _ h => h) (Or.inl ⟨by rfl, ?_⟩) hHeld ?_ ?_
  rotate_left
  ·rintro w' ⟨s0, s1, s2⟩
   go_simp
   with_reducible rfl
  rotate_left
  ·simp only [Act.put, List.setIfInBounds_toArray, List.set_cons_zero, List.set_cons_succ, i64_w, i32_w]
   rfl
  refine one_ (i := 6) (N := none) #[true, true, true, true, true, true, true, false] rfl rfl (one_of HT_.out (by kernel_rfl)) (by decide) (fun K hK => ?_)
  have hs25 : w24.cell? ⟨gb101, 0, none⟩ = some (.int .i64 0) := (blk_cell BK101.out 0).trans rfl
  have hfs25 := blk_frozen BK101.out 0
  have hns25_1 := NB108_101.out
  have hms25_1 := NB101_108.out
  have hs26 : w24.cell? ⟨gb101, 1, none⟩ = some (.int .i64 0) := (blk_cell BK101.out 1).trans rfl
  have hfs26 := blk_frozen BK101.out 1
  have hns26_1 := NB108_101.out
  have hms26_1 := NB101_108.out
  have hs27 : w24.cell? ⟨gb101, 2, none⟩ = some (.slice none 0 0) := (blk_cell BK101.out 2).trans rfl
  have hfs27 := blk_frozen BK101.out 2
  have hns27_1 := NB108_101.out
  have hms27_1 := NB101_108.out
  refine skip_ (w1 := ?_) (by rfl) rfl ?_ ?_
  rotate_left
  ·go_simp
   rfl
  refine hK.out _ _ ⟨((cell_far (p := ⟨gb101, _, none⟩) NB108_101.out _).trans (((cell_far (p := ⟨gb101, _, none⟩) NB108_101.out _).trans (((cell_far (p := ⟨gb101, _, none⟩) NB108_101.out _).trans (hHeld.1)))))), ((cell_far (p := ⟨gb101, _, none⟩) NB108_101.out _).trans (((cell_far (p := ⟨gb101, _, none⟩) NB108_101.out _).trans (((cell_far (p := ⟨gb101, _, none⟩) NB108_101.out _).trans (hHeld.2.1)))))), ((cell_far (p := ⟨gb101, _, none⟩) NB108_101.out _).trans (((cell_far (p := ⟨gb101, _, none⟩) NB108_101.out _).trans (((cell_far (p := ⟨gb101, _, none⟩) NB108_101.out _).trans (hHeld.2.2))))))⟩ (fun hHeld => ?_)
  clear hK K
  refine pure_ (i := 7) (N := some 5) (v := ?_) (a' := ?_) #[true, true, true, true, true, true, true, true] rfl rfl (any_of HT_.out (by kernel_rfl)) (fun _ _ _ h => h) (Or.inl ⟨by rfl, ?_⟩) ?_ ?_
  rotate_left
  ·intro w'
   go_simp
   with_reducible rfl
  rotate_left
  ·simp only [Act.put, List.setIfInBounds_toArray, List.set_cons_zero, List.set_cons_succ, i64_w, i32_w]
   rfl
  refine done_ (done_of HT_.out (by kernel_rfl)) ?_
  try go_wp2
  refine bodyPost_ret (results_ct rfl _ _ gb101 45 #[.int .i64 t102, .int .i64 t103, .slice Ao22 t104.length co22] (0, 0) _ rfl (by (with_reducible repeat (first | refine blk_drewN ?_ _ | refine blk_drew ?_ | refine blk_alloc ?_ _)); refine blk_put (cs := #[.int .i64 t102, .int .i64 t103, .slice none 0 0]) ?_ 2 _ rfl; (with_reducible repeat (first | refine blk_drewN ?_ _ | refine blk_drew ?_ | refine blk_alloc ?_ _)); refine blk_put (cs := #[.int .i64 t102, .int .i64 0, .slice none 0 0]) ?_ 1 _ rfl; (with_reducible repeat (first | refine blk_drewN ?_ _ | refine blk_drew ?_ | refine blk_alloc ?_ _)); refine blk_put (cs := #[.int .i64 0, .int .i64 0, .slice none 0 0]) ?_ 0 _ rfl; exact blc) Tryz.underlying45 rfl (by kernel_rfl)) rfl ?_
  exact ⟨_, by first | rfl | (simp [errW_none, errW_some] <;> rfl) | (simp [*, errW_none, errW_some] <;> rfl), by (with_reducible repeat (first | apply Kd.R_alloc | apply Kd.R_drewN | apply Kd.R_drew)); exact Kd.R_mono (Kd.R_far (p := ⟨gb101, 2, none⟩) (Kd.R_far (p := ⟨gb101, 1, none⟩) (Kd.R_far (p := ⟨gb101, 0, none⟩) (Kd.R_types HO106.out BK101.out (by decide)) (fun _ hk => hk.2) (.int .i64 t102)) (fun _ hk => hk.2) (.int .i64 t103)) (fun _ hk => hk.2) (.slice Ao22 t104.length co22)) (fun _ hk => trivial), bel HB⟩
def spec_mcBack.l0 : Nat → List Int → Int → Int → Int → Int → List Int → Option (Int × Int × List Int × Bool)
 | 0, _, _, _, _, _, _ => none
 | k + 1, x13, x14, x15, x109000, x109001, x109002 => if x15 < x14 then (if 0 ≤ x15 then (if x15 < (x13.length : Int) then ((spec_tyBall.f (rd x13 x15)).bind fun t110 => (if x15 < (x109002.length : Int) then ((spec_tyBall.f (rd x109002 x15)).bind fun t112 => (if (t110 != t112) = true then (some (x109000, x109001, x109002, false)) else (spec_mcBack.l0 k x13 x14 (wrap64 (x15 + 1)) x109000 x109001 x109002))) else (none))) else (none)) else (none)) else (some (x109000, x109001, x109002, true))
def spec_mcBack.f (k : Nat) (a0_0 : Int) (a0_1 : Int) (l0_2 : List Int) (a1 : ByteArray) : Option (Int × Int × List Int × Bool) := (spec_tiRun.f k a0_0 a0_1 l0_2 a1).bind fun bt103 => (spec_mcBack.l0 k l0_2 (l0_2.length : Int) 0 bt103.1 bt103.2.1 bt103.2.2)
set_option maxHeartbeats 8000000 in
set_option maxRecDepth 100000 in
theorem spec_mcBack.calls (k : Nat) (a0_0 : Int) (a0_1 : Int) (P0_2_ : Nat → Prop) (A0_2 : Option Addr) (c0_2 : Nat) (l0_2 : List Int) (a1 : ByteArray) (r1 : Int) (r2 : Int) (r3 : List Int) (r4 : Bool) (w : World) (hs0_2 : Kd.V (Kd.int .u8) 5 w w.heap.size (fun k_ => P0_2_ k_) (.slice A0_2 l0_2.length c0_2) l0_2) (h : spec_mcBack.f k a0_0 a0_1 l0_2 a1 = some (r1, r2, r3, r4)) :
  Calls Tryz.prog 48 #[.agg #[.int .i64 a0_0, .int .i64 a0_1, .slice A0_2 l0_2.length c0_2], .string a1] w fun e w' => ∃ v2_ : Value, e = .returned (.tuple #[.agg #[.int .i64 r1, .int .i64 r2, v2_], .bool r4]) ∧ Kd.V (Kd.int .u8) 5 w' w.heap.size (fun k_ => (P0_2_ k_ ∨ w.heap.size ≤ k_)) v2_ r3 ∧ Below w.heap.size w w' := by
 have hu45 := Tryz.underlying45
 have HO0_2 := Aside0.mk (show Kd.V (Kd.int .u8) 5 w w.heap.size (fun k_ => (P0_2_ k_ ∨ w.heap.size ≤ k_)) (.slice A0_2 l0_2.length c0_2) l0_2 from Kd.V_mono hs0_2 (fun k_ hk => .inl hk))
 have HB := Aside0.mk (Below.refl w.heap.size w)
 have H : ((spec_tiRun.f k a0_0 a0_1 l0_2 a1).bind fun bt103 => (spec_mcBack.l0 k l0_2 (l0_2.length : Int) 0 bt103.1 bt103.2.1 bt103.2.2)) = some (r1, r2, r3, r4) := h
 clear h
 replace H := Option.bind_eq_some_iff.mp H
 obtain ⟨⟨t103, t104, t105⟩, A30, H⟩ := H
 replace H : (spec_mcBack.l0 k l0_2 (l0_2.length : Int) 0 t103 t104 t105) = some (r1, r2, r3, r4) := H
 have A3 := Aside0.mk A30
 clear A30
 have H' := Aside0.mk H
 clear H
 go_enter Tryz.func48, Tryz.ntmps48
 go_wp2_with (first | ((with_reducible refine gate_dst (N := 2) rfl ?_); refine boxE (N := 2) (cs := #[.int .i64 a0_0, .int .i64 a0_1, .slice A0_2 l0_2.length c0_2]) (t := 45) ?_; intro gb101 hg w4 hbox hb; have n0_ := Aside0.mk (Kd.V_below (Kd.V_elderB (by (with_reducible repeat (first | apply Kd.V_alloc | apply Kd.V_drewN | apply Kd.V_drew)); (first | exact HO0_2.out | exact R_any HO0_2.out)) gb101 (Nat.le_of_eq hg.symm)) hb); have n1_ := Aside0.mk (below_step (bel HB) hb); have n2_ := Aside0.mk (hbox); have n3_ := Aside0.mk (gsz hg (bel HB)); have n4_ := Aside0.mk (gsz hg (bel HB)); clear HO0_2; clear HB; have HO0_2 := n0_; have HB := n1_; have BK101 := n2_; have GW101 := n3_; have GE101 := n4_; clear n0_ n1_ n2_ n3_ n4_; clear hb hbox hg) | ((with_reducible refine gate_dst (N := 4) rfl ?_); refine boxE (N := 4) (cs := #[.int .i64 0, .int .i64 0, .slice none 0 0]) (t := 45) ?_; intro gb102 hg w5 hbox hb; have n0_ := Aside0.mk (Kd.V_below (Kd.V_elderB (by (with_reducible repeat (first | apply Kd.V_alloc | apply Kd.V_drewN | apply Kd.V_drew)); (first | exact HO0_2.out | exact R_any HO0_2.out)) gb102 (Nat.le_of_eq hg.symm)) hb); have n1_ := Aside0.mk (blk_below (g := gb101) (o := .cells #[.int .i64 a0_0, .int .i64 a0_1, .slice A0_2 l0_2.length c0_2] 45 (0, 0)) blc hb); have n2_ := Aside0.mk (below_step (bel HB) hb); have n3_ := Aside0.mk (hbox); have n4_ := Aside0.mk (gsz hg (bel HB)); have n5_ := Aside0.mk (gsz hg (bel HB)); have n6_ := Aside0.mk ((by rw [hg]; exact Nat.ne_of_lt (blk_lt (g := gb101) (o := .cells #[.int .i64 a0_0, .int .i64 a0_1, .slice A0_2 l0_2.length c0_2] 45 (0, 0)) blc) : gb101 ≠ gb102)); have n7_ := Aside0.mk ((by rw [hg]; exact Nat.ne_of_gt (blk_lt (g := gb101) (o := .cells #[.int .i64 a0_0, .int .i64 a0_1, .slice A0_2 l0_2.length c0_2] 45 (0, 0)) blc) : gb102 ≠ gb101)); clear HO0_2; clear BK101; clear HB; have HO0_2 := n0_; have BK101 := n1_; have HB := n2_; have BK102 := n3_; have GW102 := n4_; have GE102 := n5_; have NB101_102 := n6_; have NB102_101 := n7_; clear n0_ n1_ n2_ n3_ n4_ n5_ n6_ n7_; clear hb hbox hg; have hnb6 := NB101_102.out; have hnc6 := NB102_101.out; have hcz7_0 : w5.cell? ⟨gb101, 0, none⟩ = some (.int .i64 a0_0) := (blk_cell BK101.out 0).trans rfl; have hcz7_1 : w5.cell? ⟨gb101, 1, none⟩ = some (.int .i64 a0_1) := (blk_cell BK101.out 1).trans rfl; have hcz7_2 : w5.cell? ⟨gb101, 2, none⟩ = some (.slice A0_2 l0_2.length c0_2) := (blk_cell BK101.out 2).trans rfl; have hfz7_0 := blk_frozen BK101.out 0; have hfz7_1 := blk_frozen BK101.out 1; have hfz7_2 := blk_frozen BK101.out 2) | (go_at_call 53; (with_reducible refine (spec_tiRun.calls k a0_0 a0_1 (fun k_ => (((P0_2_ k_ ∨ w.heap.size ≤ k_) ∧ k_ ≠ gb101) ∧ k_ ≠ gb102)) _ _ l0_2 a1 t103 t104 t105 _ ?side1 A3.out).mono ?_); (case side1 => (first | exact HO0_2.out | exact R_any HO0_2.out)); rintro e w8 ⟨v106, rfl, ho0, hb⟩; have n0_ := Aside0.mk (Kd.V_below (by (with_reducible repeat (first | apply Kd.V_alloc | apply Kd.V_drewN | apply Kd.V_drew)); (first | exact HO0_2.out | exact R_any HO0_2.out)) hb); have n1_ := Aside0.mk (Kd.V_lower (Kd.V_mono (ok' := fun k_ => (P0_2_ k_ ∨ w.heap.size ≤ k_) ∧ k_ ≠ gb101 ∧ k_ ≠ gb102) ho0 (fun k_ hk_ => ⟨Or.elim hk_ (fun hs_ => hs_.1.1) (fun hn_ => (.inr (Nat.le_trans (below_size (bel HB)) hn_))), Or.elim hk_ (fun hs_ => hs_.1.2) (fun hn_ => (Kd.freshB (g := gb101) (o := .cells #[.int .i64 a0_0, .int .i64 a0_1, .slice A0_2 l0_2.length c0_2] 45 (0, 0)) blc k_ hn_)), Or.elim hk_ (fun hs_ => hs_.2) (fun hn_ => (Kd.freshB (g := gb102) (o := .cells #[.int .i64 0, .int .i64 0, .slice none 0 0] 45 (0, 0)) blc k_ hn_))⟩)) (below_size (bel HB))); have n2_ := Aside0.mk (blk_below (g := gb101) (o := .cells #[.int .i64 a0_0, .int .i64 a0_1, .slice A0_2 l0_2.length c0_2] 45 (0, 0)) blc hb); have n3_ := Aside0.mk (blk_below (g := gb102) (o := .cells #[.int .i64 0, .int .i64 0, .slice none 0 0] 45 (0, 0)) blc hb); have n4_ := Aside0.mk (below_step (bel HB) hb); clear HO0_2; clear BK101; clear BK102; clear HB; have HO0_2 := n0_; have HO107 := n1_; have BK101 := n2_; have BK102 := n3_; have HB := n4_; clear n0_ n1_ n2_ n3_ n4_; (try clear hb); (try clear hb2); (try clear hk); (try clear hi); (try clear ho0)) | ((with_reducible refine gate_dst (N := 6) rfl ?_); refine boxE (N := 6) (cs := #[.int .i64 0, .int .i64 0, .slice none 0 0]) (t := 45) ?_; intro gb108 hg w9 hbox hb; have n0_ := Aside0.mk (Kd.V_below (Kd.V_elderB (by (with_reducible repeat (first | apply Kd.V_alloc | apply Kd.V_drewN | apply Kd.V_drew)); (first | exact HO0_2.out | exact R_any HO0_2.out)) gb108 (Nat.le_of_eq hg.symm)) hb); have n1_ := Aside0.mk (Kd.V_below (Kd.V_elderB (by (with_reducible repeat (first | apply Kd.V_alloc | apply Kd.V_drewN | apply Kd.V_drew)); (first | exact HO107.out | exact R_any HO107.out)) gb108 (Nat.le_of_eq hg.symm)) hb); have n2_ := Aside0.mk (blk_below (g := gb101) (o := .cells #[.int .i64 a0_0, .int .i64 a0_1, .slice A0_2 l0_2.length c0_2] 45 (0, 0)) blc hb); have n3_ := Aside0.mk (blk_below (g := gb102) (o := .cells #[.int .i64 0, .int .i64 0, .slice none 0 0] 45 (0, 0)) blc hb); have n4_ := Aside0.mk (below_step (bel HB) hb); have n5_ := Aside0.mk (hbox); have n6_ := Aside0.mk (gsz hg (bel HB)); have n7_ := Aside0.mk (gsz hg (bel HB)); have n8_ := Aside0.mk ((by rw [hg]; exact Nat.ne_of_lt (blk_lt (g := gb101) (o := .cells #[.int .i64 a0_0, .int .i64 a0_1, .slice A0_2 l0_2.length c0_2] 45 (0, 0)) blc) : gb101 ≠ gb108)); have n9_ := Aside0.mk ((by rw [hg]; exact Nat.ne_of_gt (blk_lt (g := gb101) (o := .cells #[.int .i64 a0_0, .int .i64 a0_1, .slice A0_2 l0_2.length c0_2] 45 (0, 0)) blc) : gb108 ≠ gb101)); have n10_ := Aside0.mk ((by rw [hg]; exact Nat.ne_of_lt (blk_lt (g := gb102) (o := .cells #[.int .i64 0, .int .i64 0, .slice none 0 0] 45 (0, 0)) blc) : gb102 ≠ gb108)); have n11_ := Aside0.mk ((by rw [hg]; exact Nat.ne_of_gt (blk_lt (g := gb102) (o := .cells #[.int .i64 0, .int .i64 0, .slice none 0 0] 45 (0, 0)) blc) : gb108 ≠ gb102)); clear HO0_2; clear HO107; clear BK101; clear BK102; clear HB; have HO0_2 := n0_; have HO107 := n1_; have BK101 := n2_; have BK102 := n3_; have HB := n4_; have BK108 := n5_; have GW108 := n6_; have GE108 := n7_; have NB101_108 := n8_; have NB108_101 := n9_; have NB102_108 := n10_; have NB108_102 := n11_; clear n0_ n1_ n2_ n3_ n4_ n5_ n6_ n7_ n8_ n9_ n10_ n11_; clear hb hbox hg; have hnb10 := NB108_101.out; have hnc10 := NB101_108.out; have hnb11 := NB108_102.out; have hnc11 := NB102_108.out; have hcz12_0 : w9.cell? ⟨gb108, 0, none⟩ = some (.int .i64 0) := (blk_cell BK108.out 0).trans rfl; have hcz12_1 : w9.cell? ⟨gb108, 1, none⟩ = some (.int .i64 0) := (blk_cell BK108.out 1).trans rfl; have hcz12_2 : w9.cell? ⟨gb108, 2, none⟩ = some (.slice none 0 0) := (blk_cell BK108.out 2).trans rfl; have hfz12_0 := blk_frozen BK108.out 0; have hfz12_1 := blk_frozen BK108.out 1; have hfz12_2 := blk_frozen BK108.out 2; obtain ⟨Ao13, co13, eo13⟩ := Kd.V_slice HO107.out; subst eo13; have hcz14_0 : w9.cell? ⟨gb101, 0, none⟩ = some (.int .i64 a0_0) := (blk_cell BK101.out 0).trans rfl; have hcz14_1 : w9.cell? ⟨gb101, 1, none⟩ = some (.int .i64 a0_1) := (blk_cell BK101.out 1).trans rfl; have hcz14_2 : w9.cell? ⟨gb101, 2, none⟩ = some (.slice A0_2 l0_2.length c0_2) := (blk_cell BK101.out 2).trans rfl; have hfz14_0 := blk_frozen BK101.out 0; have hfz14_1 := blk_frozen BK101.out 1; have hfz14_2 := blk_frozen BK101.out 2))
 repeat (go_quiet (first | ((with_reducible refine gate_dst (N := 2) rfl ?_); refine boxE (N := 2) (cs := #[.int .i64 a0_0, .int .i64 a0_1, .slice A0_2 l0_2.length c0_2]) (t := 45) ?_; intro gb101 hg w4 hbox hb; have n0_ := Aside0.mk (Kd.V_below (Kd.V_elderB (by (with_reducible repeat (first | apply Kd.V_alloc | apply Kd.V_drewN | apply Kd.V_drew)); (first | exact HO0_2.out | exact R_any HO0_2.out)) gb101 (Nat.le_of_eq hg.symm)) hb); have n1_ := Aside0.mk (below_step (bel HB) hb); have n2_ := Aside0.mk (hbox); have n3_ := Aside0.mk (gsz hg (bel HB)); have n4_ := Aside0.mk (gsz hg (bel HB)); clear HO0_2; clear HB; have HO0_2 := n0_; have HB := n1_; have BK101 := n2_; have GW101 := n3_; have GE101 := n4_; clear n0_ n1_ n2_ n3_ n4_; clear hb hbox hg) | ((with_reducible refine gate_dst (N := 4) rfl ?_); refine boxE (N := 4) (cs := #[.int .i64 0, .int .i64 0, .slice none 0 0]) (t := 45) ?_; intro gb102 hg w5 hbox hb; have n0_ := Aside0.mk (Kd.V_below (Kd.V_elderB (by (with_reducible repeat (first | apply Kd.V_alloc | apply Kd.V_drewN | apply Kd.V_drew)); (first | exact HO0_2.out | exact R_any HO0_2.out)) gb102 (Nat.le_of_eq hg.symm)) hb); have n1_ := Aside0.mk (blk_below (g := gb101) (o := .cells #[.int .i64 a0_0, .int .i64 a0_1, .slice A0_2 l0_2.length c0_2] 45 (0, 0)) blc hb); have n2_ := Aside0.mk (below_step (bel HB) hb); have n3_ := Aside0.mk (hbox); have n4_ := Aside0.mk (gsz hg (bel HB)); have n5_ := Aside0.mk (gsz hg (bel HB)); have n6_ := Aside0.mk ((by rw [hg]; exact Nat.ne_of_lt (blk_lt (g := gb101) (o := .cells #[.int .i64 a0_0, .int .i64 a0_1, .slice A0_2 l0_2.length c0_2] 45 (0, 0)) blc) : gb101 ≠ gb102)); have n7_ := Aside0.mk ((by rw [hg]; exact Nat.ne_of_gt (blk_lt (g := gb101) (o := .cells #[.int .i64 a0_0, .int .i64 a0_1, .slice A0_2 l0_2.length c0_2] 45 (0, 0)) blc) : gb102 ≠ gb101)); clear HO0_2; clear BK101; clear HB; have HO0_2 := n0_; have BK101 := n1_; have HB := n2_; have BK102 := n3_; have GW102 := n4_; have GE102 := n5_; have NB101_102 := n6_; have NB102_101 := n7_; clear n0_ n1_ n2_ n3_ n4_ n5_ n6_ n7_; clear hb hbox hg; have hnb6 := NB101_102.out; have hnc6 := NB102_101.out; have hcz7_0 : w5.cell? ⟨gb101, 0, none⟩ = some (.int .i64 a0_0) := (blk_cell BK101.out 0).trans rfl; have hcz7_1 : w5.cell? ⟨gb101, 1, none⟩ = some (.int .i64 a0_1) := (blk_cell BK101.out 1).trans rfl; have hcz7_2 : w5.cell? ⟨gb101, 2, none⟩ = some (.slice A0_2 l0_2.length c0_2) := (blk_cell BK101.out 2).trans rfl; have hfz7_0 := blk_frozen BK101.out 0; have hfz7_1 := blk_frozen BK101.out 1; have hfz7_2 := blk_frozen BK101.out 2) | (go_at_call 53; (with_reducible refine (spec_tiRun.calls k a0_0 a0_1 (fun k_ => (((P0_2_ k_ ∨ w.heap.size ≤ k_) ∧ k_ ≠ gb101) ∧ k_ ≠ gb102)) _ _ l0_2 a1 t103 t104 t105 _ ?side1 A3.out).mono ?_); (case side1 => (first | exact HO0_2.out | exact R_any HO0_2.out)); rintro e w8 ⟨v106, rfl, ho0, hb⟩; have n0_ := Aside0.mk (Kd.V_below (by (with_reducible repeat (first | apply Kd.V_alloc | apply Kd.V_drewN | apply Kd.V_drew)); (first | exact HO0_2.out | exact R_any HO0_2.out)) hb); have n1_ := Aside0.mk (Kd.V_lower (Kd.V_mono (ok' := fun k_ => (P0_2_ k_ ∨ w.heap.size ≤ k_) ∧ k_ ≠ gb101 ∧ k_ ≠ gb102) ho0 (fun k_ hk_ => ⟨Or.elim hk_ (fun hs_ => hs_.1.1) (fun hn_ => (.inr (Nat.le_trans (below_size (bel HB)) hn_))), Or.elim hk_ (fun hs_ => hs_.1.2) (fun hn_ => (Kd.freshB (g := gb101) (o := .cells #[.int .i64 a0_0, .int .i64 a0_1, .slice A0_2 l0_2.length c0_2] 45 (0, 0)) blc k_ hn_)), Or.elim hk_ (fun hs_ => hs_.2) (fun hn_ => (Kd.freshB (g := gb102) (o := .cells #[.int .i64 0, .int .i64 0, .slice none 0 0] 45 (0, 0)) blc k_ hn_))⟩)) (below_size (bel HB))); have n2_ := Aside0.mk (blk_below (g := gb101) (o := .cells #[.int .i64 a0_0, .int .i64 a0_1, .slice A0_2 l0_2.length c0_2] 45 (0, 0)) blc hb); have n3_ := Aside0.mk (blk_below (g := gb102) (o := .cells #[.int .i64 0, .int .i64 0, .slice none 0 0] 45 (0, 0)) blc hb); have n4_ := Aside0.mk (below_step (bel HB) hb); clear HO0_2; clear BK101; clear BK102; clear HB; have HO0_2 := n0_; have HO107 := n1_; have BK101 := n2_; have BK102 := n3_; have HB := n4_; clear n0_ n1_ n2_ n3_ n4_; (try clear hb); (try clear hb2); (try clear hk); (try clear hi); (try clear ho0)) | ((with_reducible refine gate_dst (N := 6) rfl ?_); refine boxE (N := 6) (cs := #[.int .i64 0, .int .i64 0, .slice none 0 0]) (t := 45) ?_; intro gb108 hg w9 hbox hb; have n0_ := Aside0.mk (Kd.V_below (Kd.V_elderB (by (with_reducible repeat (first | apply Kd.V_alloc | apply Kd.V_drewN | apply Kd.V_drew)); (first | exact HO0_2.out | exact R_any HO0_2.out)) gb108 (Nat.le_of_eq hg.symm)) hb); have n1_ := Aside0.mk (Kd.V_below (Kd.V_elderB (by (with_reducible repeat (first | apply Kd.V_alloc | apply Kd.V_drewN | apply Kd.V_drew)); (first | exact HO107.out | exact R_any HO107.out)) gb108 (Nat.le_of_eq hg.symm)) hb); have n2_ := Aside0.mk (blk_below (g := gb101) (o := .cells #[.int .i64 a0_0, .int .i64 a0_1, .slice A0_2 l0_2.length c0_2] 45 (0, 0)) blc hb); have n3_ := Aside0.mk (blk_below (g := gb102) (o := .cells #[.int .i64 0, .int .i64 0, .slice none 0 0] 45 (0, 0)) blc hb); have n4_ := Aside0.mk (below_step (bel HB) hb); have n5_ := Aside0.mk (hbox); have n6_ := Aside0.mk (gsz hg (bel HB)); have n7_ := Aside0.mk (gsz hg (bel HB)); have n8_ := Aside0.mk ((by rw [hg]; exact Nat.ne_of_lt (blk_lt (g := gb101) (o := .cells #[.int .i64 a0_0, .int .i64 a0_1, .slice A0_2 l0_2.length c0_2] 45 (0, 0)) blc) : gb101 ≠ gb108)); have n9_ := Aside0.mk ((by rw [hg]; exact Nat.ne_of_gt (blk_lt (g := gb101) (o := .cells #[.int .i64 a0_0, .int .i64 a0_1, .slice A0_2 l0_2.length c0_2] 45 (0, 0)) blc) : gb108 ≠ gb101)); have n10_ := Aside0.mk ((by rw [hg]; exact Nat.ne_of_lt (blk_lt (g := gb102) (o := .cells #[.int .i64 0, .int .i64 0, .slice none 0 0] 45 (0, 0)) blc) : gb102 ≠ gb108)); have n11_ := Aside0.mk ((by rw [hg]; exact Nat.ne_of_gt (blk_lt (g := gb102) (o := .cells #[.int .i64 0, .int .i64 0, .slice none 0 0] 45 (0, 0)) blc) : gb108 ≠ gb102)); clear HO0_2; clear HO107; clear BK101; clear BK102; clear HB; have HO0_2 := n0_; have HO107 := n1_; have BK101 := n2_; have BK102 := n3_; have HB := n4_; have BK108 := n5_; have GW108 := n6_; have GE108 := n7_; have NB101_108 := n8_; have NB108_101 := n9_; have NB102_108 := n10_; have NB108_102 := n11_; clear n0_ n1_ n2_ n3_ n4_ n5_ n6_ n7_ n8_ n9_ n10_ n11_; clear hb hbox hg; have hnb10 := NB108_101.out; have hnc10 := NB101_108.out; have hnb11 := NB108_102.out; have hnc11 := NB102_108.out; have hcz12_0 : w9.cell? ⟨gb108, 0, none⟩ = some (.int .i64 0) := (blk_cell BK108.out 0).trans rfl; have hcz12_1 : w9.cell? ⟨gb108, 1, none⟩ = some (.int .i64 0) := (blk_cell BK108.out 1).trans rfl; have hcz12_2 : w9.cell? ⟨gb108, 2, none⟩ = some (.slice none 0 0) := (blk_cell BK108.out 2).trans rfl; have hfz12_0 := blk_frozen BK108.out 0; have hfz12_1 := blk_frozen BK108.out 1; have hfz12_2 := blk_frozen BK108.out 2; obtain ⟨Ao13, co13, eo13⟩ := Kd.V_slice HO107.out; subst eo13; have hcz14_0 : w9.cell? ⟨gb101, 0, none⟩ = some (.int .i64 a0_0) := (blk_cell BK101.out 0).trans rfl; have hcz14_1 : w9.cell? ⟨gb101, 1, none⟩ = some (.int .i64 a0_1) := (blk_cell BK101.out 1).trans rfl; have hcz14_2 : w9.cell? ⟨gb101, 2, none⟩ = some (.slice A0_2 l0_2.length c0_2) := (blk_cell BK101.out 2).trans rfl; have hfz14_0 := blk_frozen BK101.out 0; have hfz14_1 := blk_frozen BK101.out 1; have hfz14_2 := blk_frozen BK101.out 2)); try go_wp2_with (first | ((with_reducible refine gate_dst (N := 2) rfl ?_); refine boxE (N := 2) (cs := #[.int .i64 a0_0, .int .i64 a0_1, .slice A0_2 l0_2.length c0_2]) (t := 45) ?_; intro gb101 hg w4 hbox hb; have n0_ := Aside0.mk (Kd.V_below (Kd.V_elderB (by (with_reducible repeat (first | apply Kd.V_alloc | apply Kd.V_drewN | apply Kd.V_drew)); (first | exact HO0_2.out | exact R_any HO0_2.out)) gb101 (Nat.le_of_eq hg.symm)) hb); have n1_ := Aside0.mk (below_step (bel HB) hb); have n2_ := Aside0.mk (hbox); have n3_ := Aside0.mk (gsz hg (bel HB)); have n4_ := Aside0.mk (gsz hg (bel HB)); clear HO0_2; clear HB; have HO0_2 := n0_; have HB := n1_; have BK101 := n2_; have GW101 := n3_; have GE101 := n4_; clear n0_ n1_ n2_ n3_ n4_; clear hb hbox hg) | ((with_reducible refine gate_dst (N := 4) rfl ?_); refine boxE (N := 4) (cs := #[.int .i64 0, .int .i64 0, .slice none 0 0]) (t := 45) ?_; intro gb102 hg w5 hbox hb; have n0_ := Aside0.mk (Kd.V_below (Kd.V_elderB (by (with_reducible repeat (first | apply Kd.V_alloc | apply Kd.V_drewN | apply Kd.V_drew)); (first | exact HO0_2.out | exact R_any HO0_2.out)) gb102 (Nat.le_of_eq hg.symm)) hb); have n1_ := Aside0.mk (blk_below (g := gb101) (o := .cells #[.int .i64 a0_0, .int .i64 a0_1, .slice A0_2 l0_2.length c0_2] 45 (0, 0)) blc hb); have n2_ := Aside0.mk (below_step (bel HB) hb); have n3_ := Aside0.mk (hbox); have n4_ := Aside0.mk (gsz hg (bel HB)); have n5_ := Aside0.mk (gsz hg (bel HB)); have n6_ := Aside0.mk ((by rw [hg]; exact Nat.ne_of_lt (blk_lt (g := gb101) (o := .cells #[.int .i64 a0_0, .int .i64 a0_1, .slice A0_2 l0_2.length c0_2] 45 (0, 0)) blc) : gb101 ≠ gb102)); have n7_ := Aside0.mk ((by rw [hg]; exact Nat.ne_of_gt (blk_lt (g := gb101) (o := .cells #[.int .i64 a0_0, .int .i64 a0_1, .slice A0_2 l0_2.length c0_2] 45 (0, 0)) blc) : gb102 ≠ gb101)); clear HO0_2; clear BK101; clear HB; have HO0_2 := n0_; have BK101 := n1_; have HB := n2_; have BK102 := n3_; have GW102 := n4_; have GE102 := n5_; have NB101_102 := n6_; have NB102_101 := n7_; clear n0_ n1_ n2_ n3_ n4_ n5_ n6_ n7_; clear hb hbox hg; have hnb6 := NB101_102.out; have hnc6 := NB102_101.out; have hcz7_0 : w5.cell? ⟨gb101, 0, none⟩ = some (.int .i64 a0_0) := (blk_cell BK101.out 0).trans rfl; have hcz7_1 : w5.cell? ⟨gb101, 1, none⟩ = some (.int .i64 a0_1) := (blk_cell BK101.out 1).trans rfl; have hcz7_2 : w5.cell? ⟨gb101, 2, none⟩ = some (.slice A0_2 l0_2.length c0_2) := (blk_cell BK101.out 2).trans rfl; have hfz7_0 := blk_frozen BK101.out 0; have hfz7_1 := blk_frozen BK101.out 1; have hfz7_2 := blk_frozen BK101.out 2) | (go_at_call 53; (with_reducible refine (spec_tiRun.calls k a0_0 a0_1 (fun k_ => (((P0_2_ k_ ∨ w.heap.size ≤ k_) ∧ k_ ≠ gb101) ∧ k_ ≠ gb102)) _ _ l0_2 a1 t103 t104 t105 _ ?side1 A3.out).mono ?_); (case side1 => (first | exact HO0_2.out | exact R_any HO0_2.out)); rintro e w8 ⟨v106, rfl, ho0, hb⟩; have n0_ := Aside0.mk (Kd.V_below (by (with_reducible repeat (first | apply Kd.V_alloc | apply Kd.V_drewN | apply Kd.V_drew)); (first | exact HO0_2.out | exact R_any HO0_2.out)) hb); have n1_ := Aside0.mk (Kd.V_lower (Kd.V_mono (ok' := fun k_ => (P0_2_ k_ ∨ w.heap.size ≤ k_) ∧ k_ ≠ gb101 ∧ k_ ≠ gb102) ho0 (fun k_ hk_ => ⟨Or.elim hk_ (fun hs_ => hs_.1.1) (fun hn_ => (.inr (Nat.le_trans (below_size (bel HB)) hn_))), Or.elim hk_ (fun hs_ => hs_.1.2) (fun hn_ => (Kd.freshB (g := gb101) (o := .cells #[.int .i64 a0_0, .int .i64 a0_1, .slice A0_2 l0_2.length c0_2] 45 (0, 0)) blc k_ hn_)), Or.elim hk_ (fun hs_ => hs_.2) (fun hn_ => (Kd.freshB (g := gb102) (o := .cells #[.int .i64 0, .int .i64 0, .slice none 0 0] 45 (0, 0)) blc k_ hn_))⟩)) (below_size (bel HB))); have n2_ := Aside0.mk (blk_below (g := gb101) (o := .cells #[.int .i64 a0_0, .int .i64 a0_1, .slice A0_2 l0_2.length c0_2] 45 (0, 0)) blc hb); have n3_ := Aside0.mk (blk_below (g := gb102) (o := .cells #[.int .i64 0, .int .i64 0, .slice none 0 0] 45 (0, 0)) blc hb); have n4_ := Aside0.mk (below_step (bel HB) hb); clear HO0_2; clear BK101; clear BK102; clear HB; have HO0_2 := n0_; have HO107 := n1_; have BK101 := n2_; have BK102 := n3_; have HB := n4_; clear n0_ n1_ n2_ n3_ n4_; (try clear hb); (try clear hb2); (try clear hk); (try clear hi); (try clear ho0)) | ((with_reducible refine gate_dst (N := 6) rfl ?_); refine boxE (N := 6) (cs := #[.int .i64 0, .int .i64 0, .slice none 0 0]) (t := 45) ?_; intro gb108 hg w9 hbox hb; have n0_ := Aside0.mk (Kd.V_below (Kd.V_elderB (by (with_reducible repeat (first | apply Kd.V_alloc | apply Kd.V_drewN | apply Kd.V_drew)); (first | exact HO0_2.out | exact R_any HO0_2.out)) gb108 (Nat.le_of_eq hg.symm)) hb); have n1_ := Aside0.mk (Kd.V_below (Kd.V_elderB (by (with_reducible repeat (first | apply Kd.V_alloc | apply Kd.V_drewN | apply Kd.V_drew)); (first | exact HO107.out | exact R_any HO107.out)) gb108 (Nat.le_of_eq hg.symm)) hb); have n2_ := Aside0.mk (blk_below (g := gb101) (o := .cells #[.int .i64 a0_0, .int .i64 a0_1, .slice A0_2 l0_2.length c0_2] 45 (0, 0)) blc hb); have n3_ := Aside0.mk (blk_below (g := gb102) (o := .cells #[.int .i64 0, .int .i64 0, .slice none 0 0] 45 (0, 0)) blc hb); have n4_ := Aside0.mk (below_step (bel HB) hb); have n5_ := Aside0.mk (hbox); have n6_ := Aside0.mk (gsz hg (bel HB)); have n7_ := Aside0.mk (gsz hg (bel HB)); have n8_ := Aside0.mk ((by rw [hg]; exact Nat.ne_of_lt (blk_lt (g := gb101) (o := .cells #[.int .i64 a0_0, .int .i64 a0_1, .slice A0_2 l0_2.length c0_2] 45 (0, 0)) blc) : gb101 ≠ gb108)); have n9_ := Aside0.mk ((by rw [hg]; exact Nat.ne_of_gt (blk_lt (g := gb101) (o := .cells #[.int .i64 a0_0, .int .i64 a0_1, .slice A0_2 l0_2.length c0_2] 45 (0, 0)) blc) : gb108 ≠ gb101)); have n10_ := Aside0.mk ((by rw [hg]; exact Nat.ne_of_lt (blk_lt (g := gb102) (o := .cells #[.int .i64 0, .int .i64 0, .slice none 0 0] 45 (0, 0)) blc) : gb102 ≠ gb108)); have n11_ := Aside0.mk ((by rw [hg]; exact Nat.ne_of_gt (blk_lt (g := gb102) (o := .cells #[.int .i64 0, .int .i64 0, .slice none 0 0] 45 (0, 0)) blc) : gb108 ≠ gb102)); clear HO0_2; clear HO107; clear BK101; clear BK102; clear HB; have HO0_2 := n0_; have HO107 := n1_; have BK101 := n2_; have BK102 := n3_; have HB := n4_; have BK108 := n5_; have GW108 := n6_; have GE108 := n7_; have NB101_108 := n8_; have NB108_101 := n9_; have NB102_108 := n10_; have NB108_102 := n11_; clear n0_ n1_ n2_ n3_ n4_ n5_ n6_ n7_ n8_ n9_ n10_ n11_; clear hb hbox hg; have hnb10 := NB108_101.out; have hnc10 := NB101_108.out; have hnb11 := NB108_102.out; have hnc11 := NB102_108.out; have hcz12_0 : w9.cell? ⟨gb108, 0, none⟩ = some (.int .i64 0) := (blk_cell BK108.out 0).trans rfl; have hcz12_1 : w9.cell? ⟨gb108, 1, none⟩ = some (.int .i64 0) := (blk_cell BK108.out 1).trans rfl; have hcz12_2 : w9.cell? ⟨gb108, 2, none⟩ = some (.slice none 0 0) := (blk_cell BK108.out 2).trans rfl; have hfz12_0 := blk_frozen BK108.out 0; have hfz12_1 := blk_frozen BK108.out 1; have hfz12_2 := blk_frozen BK108.out 2; obtain ⟨Ao13, co13, eo13⟩ := Kd.V_slice HO107.out; subst eo13; have hcz14_0 : w9.cell? ⟨gb101, 0, none⟩ = some (.int .i64 a0_0) := (blk_cell BK101.out 0).trans rfl; have hcz14_1 : w9.cell? ⟨gb101, 1, none⟩ = some (.int .i64 a0_1) := (blk_cell BK101.out 1).trans rfl; have hcz14_2 : w9.cell? ⟨gb101, 2, none⟩ = some (.slice A0_2 l0_2.length c0_2) := (blk_cell BK101.out 2).trans rfl; have hfz14_0 := blk_frozen BK101.out 0; have hfz14_1 := blk_frozen BK101.out 1; have hfz14_2 := blk_frozen BK101.out 2)))
 go_loopg [15] k (fun kq v15 w' => ∃ (x15_1 : Int) (x103000_1 : Int) (x103001_1 : Int), v15 = .int .i64 x15_1 ∧ Aside0 (spec_mcBack.l0 kq l0_2 (l0_2.length : Int) x15_1 t103 t104 t105 = some (r1, r2, r3, r4)) ∧ Aside0 (kq ≤ k) ∧ Aside0 (Kd.V (Kd.int .u8) 5 w' w.heap.size (fun k_ => (P0_2_ k_ ∨ w.heap.size ≤ k_) ∧ k_ ≠ gb101 ∧ k_ ≠ gb102 ∧ k_ ≠ gb108) (.slice A0_2 l0_2.length c0_2) l0_2) ∧ Aside0 (Kd.V (Kd.int .u8) 5 w' w.heap.size (fun k_ => (P0_2_ k_ ∨ w.heap.size ≤ k_) ∧ k_ ≠ gb101 ∧ k_ ≠ gb102 ∧ k_ ≠ gb108) (.slice A0_2 l0_2.length c0_2) l0_2) ∧ Aside0 (Kd.V (Kd.int .u8) 5 w' w.heap.size (fun k_ => (P0_2_ k_ ∨ w.heap.size ≤ k_) ∧ k_ ≠ gb101 ∧ k_ ≠ gb102 ∧ k_ ≠ gb108) (.slice Ao13 t105.length co13) t105) ∧ Aside0 (w'.heap[gb101]? = some (.cells #[.int .i64 a0_0, .int .i64 a0_1, (.slice A0_2 l0_2.length c0_2)] 45 (0, 0))) ∧ Aside0 (w'.heap[gb102]? = some (.cells #[.int .i64 x103000_1, .int .i64 x103001_1, (.slice none 0 0)] 45 (0, 0))) ∧ Aside0 (w'.heap[gb108]? = some (.cells #[.int .i64 t103, .int .i64 t104, (.slice Ao13 t105.length co13)] 45 (0, 0))) ∧ Aside0 (Below w.heap.size w w'))
 case atStart => exact ⟨(0), (0), (0), (by first | rfl | (simp; done) | (simp [*]; done)), H', ⟨Nat.le_refl _⟩, ⟨by (with_reducible repeat (first | apply Kd.V_alloc | apply Kd.V_drewN | apply Kd.V_drew)); exact Kd.V_mono (Kd.V_far (p := ⟨gb108, 2, none⟩) (Kd.V_far (p := ⟨gb108, 1, none⟩) (Kd.V_far (p := ⟨gb108, 0, none⟩) (Kd.V_mono HO0_2.out (fun k_ hk => (⟨hk, hk.2⟩ : _ ∧ k_ ≠ gb108))) (fun _ hk => hk.2) (.int .i64 t103)) (fun _ hk => hk.2) (.int .i64 t104)) (fun _ hk => hk.2) (.slice Ao13 t105.length co13)) (fun _ hk => ⟨hk.1.1.1.1, ⟨hk.1.1.1.2, ⟨hk.1.1.2, hk.1.2⟩⟩⟩)⟩, ⟨by (with_reducible repeat (first | apply Kd.V_alloc | apply Kd.V_drewN | apply Kd.V_drew)); exact Kd.V_mono (Kd.V_far (p := ⟨gb108, 2, none⟩) (Kd.V_far (p := ⟨gb108, 1, none⟩) (Kd.V_far (p := ⟨gb108, 0, none⟩) (Kd.V_mono HO0_2.out (fun k_ hk => (⟨hk, hk.2⟩ : _ ∧ k_ ≠ gb108))) (fun _ hk => hk.2) (.int .i64 t103)) (fun _ hk => hk.2) (.int .i64 t104)) (fun _ hk => hk.2) (.slice Ao13 t105.length co13)) (fun _ hk => ⟨hk.1.1.1.1, ⟨hk.1.1.1.2, ⟨hk.1.1.2, hk.1.2⟩⟩⟩)⟩, ⟨by (with_reducible repeat (first | apply Kd.V_alloc | apply Kd.V_drewN | apply Kd.V_drew)); exact Kd.V_mono (Kd.V_far (p := ⟨gb108, 2, none⟩) (Kd.V_far (p := ⟨gb108, 1, none⟩) (Kd.V_far (p := ⟨gb108, 0, none⟩) (Kd.V_mono HO107.out (fun k_ hk => (⟨hk, hk.2⟩ : _ ∧ k_ ≠ gb108))) (fun _ hk => hk.2) (.int .i64 t103)) (fun _ hk => hk.2) (.int .i64 t104)) (fun _ hk => hk.2) (.slice Ao13 t105.length co13)) (fun _ hk => ⟨hk.1.1.1, ⟨hk.1.1.2.1, ⟨hk.1.1.2.2, hk.1.2⟩⟩⟩)⟩, ⟨by (with_reducible repeat (first | refine blk_drewN ?_ _ | refine blk_drew ?_ | refine blk_alloc ?_ _)); refine blk_far ?_ NB101_108.out _; (with_reducible repeat (first | refine blk_drewN ?_ _ | refine blk_drew ?_ | refine blk_alloc ?_ _)); refine blk_far ?_ NB101_108.out _; (with_reducible repeat (first | refine blk_drewN ?_ _ | refine blk_drew ?_ | refine blk_alloc ?_ _)); refine blk_far ?_ NB101_108.out _; exact blc⟩, ⟨by (with_reducible repeat (first | refine blk_drewN ?_ _ | refine blk_drew ?_ | refine blk_alloc ?_ _)); refine blk_far ?_ NB102_108.out _; (with_reducible repeat (first | refine blk_drewN ?_ _ | refine blk_drew ?_ | refine blk_alloc ?_ _)); refine blk_far ?_ NB102_108.out _; (with_reducible repeat (first | refine blk_drewN ?_ _ | refine blk_drew ?_ | refine blk_alloc ?_ _)); refine blk_far ?_ NB102_108.out _; exact blc⟩, ⟨by (with_reducible repeat (first | refine blk_drewN ?_ _ | refine blk_drew ?_ | refine blk_alloc ?_ _)); refine blk_put (cs := #[.int .i64 t103, .int .i64 t104, .slice none 0 0]) ?_ 2 _ rfl; (with_reducible repeat (first | refine blk_drewN ?_ _ | refine blk_drew ?_ | refine blk_alloc ?_ _)); refine blk_put (cs := #[.int .i64 t103, .int .i64 0, .slice none 0 0]) ?_ 1 _ rfl; (with_reducible repeat (first | refine blk_drewN ?_ _ | refine blk_drew ?_ | refine blk_alloc ?_ _)); refine blk_put (cs := #[.int .i64 0, .int .i64 0, .slice none 0 0]) ?_ 0 _ rfl; exact blc⟩, ⟨bel HB⟩⟩
 case round =>
  clear H'
  try clear c1
  try clear p2
  try clear c4
  try clear c6
  try clear c10
  try clear c11
  try clear hcz12_0
  try clear hcz12_1
  try clear hcz12_2
  try clear hcz14_0
  try clear hcz14_1
  try clear hcz14_2
  try clear hcz7_0
  try clear hcz7_1
  try clear hcz7_2
  try clear hfz12_0
  try clear hfz12_1
  try clear hfz12_2
  try clear hfz14_0
  try clear hfz14_1
  try clear hfz14_2
  try clear hfz7_0
  try clear hfz7_1
  try clear hfz7_2
  obtain ⟨x15_1, x103000_1, x103001_1, rfl, HA, HK1, HO_13, HO_102002, HO_109002, BK101, BK102, BK108, HB⟩ := hrel
  cases gk with
  | zero => exact absurd HA.out (by simp [spec_mcBack.l0])
  | succ k1 =>
   have H := HA.out
   clear HA
   simp only [spec_mcBack.l0] at H
   by_cases c15 : x15_1 < (l0_2.length : Int)
   ·rw [if_pos c15] at H
    have c15b0 : decide (x15_1 < (l0_2.length : Int)) = true := decide_eq_true c15
    clear c15
    by_cases c16 : 0 ≤ x15_1
    ·rw [if_pos c16] at H
     have c16b0 : decide (0 ≤ x15_1) = true := decide_eq_true c16
     clear c16
     by_cases c17 : x15_1 < (l0_2.length : Int)
     ·rw [if_pos c17] at H
      have c17b0 : decide (x15_1 < (l0_2.length : Int)) = true := decide_eq_true c17
      clear c17
      replace H := Option.bind_eq_some_iff.mp H
      obtain ⟨t110, A180, H⟩ := H
      replace H : (if x15_1 < (t105.length : Int) then ((spec_tyBall.f (rd t105 x15_1)).bind fun t112 => (if (t110 != t112) = true then (some (t103, t104, t105, false)) else (spec_mcBack.l0 k1 l0_2 (l0_2.length : Int) (wrap64 (x15_1 + 1)) t103 t104 t105))) else (none)) = some (r1, r2, r3, r4) := H
      have A18 := Aside0.mk A180
      clear A180
      by_cases c19 : x15_1 < (t105.length : Int)
      ·rw [if_pos c19] at H
       have c19b0 : decide (x15_1 < (t105.length : Int)) = true := decide_eq_true c19
       clear c19
       replace H := Option.bind_eq_some_iff.mp H
       obtain ⟨t112, A200, H⟩ := H
       replace H : (if (t110 != t112) = true then (some (t103, t104, t105, false)) else (spec_mcBack.l0 k1 l0_2 (l0_2.length : Int) (wrap64 (x15_1 + 1)) t103 t104 t105)) = some (r1, r2, r3, r4) := H
       have A20 := Aside0.mk A200
       clear A200
       by_cases c21 : (t110 != t112) = true
       ·rw [if_pos c21] at H
        have c21b0 : (t110 != t112) = true := c21
        (try (have c21b1 : decide (t110 = t112) = false := by simpa using c21))
        (try (have c21b2 : (t110 == t112) = false := by simpa using c21))
        (try (have c21b3 : ¬ (t110 = t112) := by simpa using c21))
        clear c21
        simp only [Option.some.injEq, Prod.mk.injEq] at H
        obtain ⟨rfl, rfl, rfl, rfl⟩ := H
        have p109 : 0 ≤ (x15_1 : Int) := of_decide_eq_true (by first | (with_reducible assumption) | assumption)
        have q109 : x15_1 < (l0_2.length : Int) := of_decide_eq_true (by first | (with_reducible assumption) | assumption)
        obtain ⟨ad109, e109, hx109_0⟩ := Kd.at_int (Kd.V_reads' HO_13.out).2.2 x15_1 p109 q109
        cases e109
        replace p109 := eq_true p109
        replace q109 := eq_true q109
        go_wp2_with (first | (go_at_call 30; (with_reducible refine (spec_tyBall.calls (rd l0_2 x15_1) t110 _ A18.out).mono ?_); rintro e w' ⟨rfl, ⟨nd, rfl⟩⟩; (try first | exact ⟨rfl, _, World.drewN_drewN _ _ _⟩ | exact ⟨rfl, _, Eq.trans (World.drewN_drewN _ _ _) (congrArg (World.drewN _) (Nat.add_assoc _ _ _))⟩); have hnb22 := NB108_101.out; have hnc22 := NB101_108.out; have hnb23 := NB108_102.out; have hnc23 := NB102_108.out; have hcz24_0 : wr.cell? ⟨gb108, 0, none⟩ = some (.int .i64 t103) := (blk_cell BK108.out 0).trans rfl; have hcz24_1 : wr.cell? ⟨gb108, 1, none⟩ = some (.int .i64 t104) := (blk_cell BK108.out 1).trans rfl; have hcz24_2 : wr.cell? ⟨gb108, 2, none⟩ = some (.slice Ao13 t105.length co13) := (blk_cell BK108.out 2).trans rfl; have hfz24_0 := blk_frozen BK108.out 0; have hfz24_1 := blk_frozen BK108.out 1; have hfz24_2 := blk_frozen BK108.out 2; have p111 : 0 ≤ (x15_1 : Int) := of_decide_eq_true (by first | (with_reducible assumption) | assumption); have q111 : x15_1 < (t105.length : Int) := of_decide_eq_true (by first | (with_reducible assumption) | assumption); obtain ⟨ad111, e111, hx111_0⟩ := Kd.at_int (Kd.V_reads' HO_109002.out).2.2 x15_1 p111 q111; cases e111; replace p111 := eq_true p111; replace q111 := eq_true q111) | (go_at_call 30; (with_reducible refine (spec_tyBall.calls (rd t105 x15_1) t112 _ A20.out).mono ?_); rintro e w' ⟨rfl, ⟨nd, rfl⟩⟩; (try first | exact ⟨rfl, _, World.drewN_drewN _ _ _⟩ | exact ⟨rfl, _, Eq.trans (World.drewN_drewN _ _ _) (congrArg (World.drewN _) (Nat.add_assoc _ _ _))⟩); have hnb25 := NB102_101.out; have hnc25 := NB101_102.out; have hcz26_0 : wr.cell? ⟨gb102, 0, none⟩ = some (.int .i64 x103000_1) := (blk_cell BK102.out 0).trans rfl; have hcz26_1 : wr.cell? ⟨gb102, 1, none⟩ = some (.int .i64 x103001_1) := (blk_cell BK102.out 1).trans rfl; have hcz26_2 : wr.cell? ⟨gb102, 2, none⟩ = some (.slice none 0 0) := (blk_cell BK102.out 2).trans rfl; have hfz26_0 := blk_frozen BK102.out 0; have hfz26_1 := blk_frozen BK102.out 1; have hfz26_2 := blk_frozen BK102.out 2))
        repeat (go_quiet (first | (go_at_call 30; (with_reducible refine (spec_tyBall.calls (rd l0_2 x15_1) t110 _ A18.out).mono ?_); rintro e w' ⟨rfl, ⟨nd, rfl⟩⟩; (try first | exact ⟨rfl, _, World.drewN_drewN _ _ _⟩ | exact ⟨rfl, _, Eq.trans (World.drewN_drewN _ _ _) (congrArg (World.drewN _) (Nat.add_assoc _ _ _))⟩); have hnb22 := NB108_101.out; have hnc22 := NB101_108.out; have hnb23 := NB108_102.out; have hnc23 := NB102_108.out; have hcz24_0 : wr.cell? ⟨gb108, 0, none⟩ = some (.int .i64 t103) := (blk_cell BK108.out 0).trans rfl; have hcz24_1 : wr.cell? ⟨gb108, 1, none⟩ = some (.int .i64 t104) := (blk_cell BK108.out 1).trans rfl; have hcz24_2 : wr.cell? ⟨gb108, 2, none⟩ = some (.slice Ao13 t105.length co13) := (blk_cell BK108.out 2).trans rfl; have hfz24_0 := blk_frozen BK108.out 0; have hfz24_1 := blk_frozen BK108.out 1; have hfz24_2 := blk_frozen BK108.out 2; have p111 : 0 ≤ (x15_1 : Int) := of_decide_eq_true (by first | (with_reducible assumption) | assumption); have q111 : x15_1 < (t105.length : Int) := of_decide_eq_true (by first | (with_reducible assumption) | assumption); obtain ⟨ad111, e111, hx111_0⟩ := Kd.at_int (Kd.V_reads' HO_109002.out).2.2 x15_1 p111 q111; cases e111; replace p111 := eq_true p111; replace q111 := eq_true q111) | (go_at_call 30; (with_reducible refine (spec_tyBall.calls (rd t105 x15_1) t112 _ A20.out).mono ?_); rintro e w' ⟨rfl, ⟨nd, rfl⟩⟩; (try first | exact ⟨rfl, _, World.drewN_drewN _ _ _⟩ | exact ⟨rfl, _, Eq.trans (World.drewN_drewN _ _ _) (congrArg (World.drewN _) (Nat.add_assoc _ _ _))⟩); have hnb25 := NB102_101.out; have hnc25 := NB101_102.out; have hcz26_0 : wr.cell? ⟨gb102, 0, none⟩ = some (.int .i64 x103000_1) := (blk_cell BK102.out 0).trans rfl; have hcz26_1 : wr.cell? ⟨gb102, 1, none⟩ = some (.int .i64 x103001_1) := (blk_cell BK102.out 1).trans rfl; have hcz26_2 : wr.cell? ⟨gb102, 2, none⟩ = some (.slice none 0 0) := (blk_cell BK102.out 2).trans rfl; have hfz26_0 := blk_frozen BK102.out 0; have hfz26_1 := blk_frozen BK102.out 1; have hfz26_2 := blk_frozen BK102.out 2)); try go_wp2_with (first | (go_at_call 30; (with_reducible refine (spec_tyBall.calls (rd l0_2 x15_1) t110 _ A18.out).mono ?_); rintro e w' ⟨rfl, ⟨nd, rfl⟩⟩; (try first | exact ⟨rfl, _, World.drewN_drewN _ _ _⟩ | exact ⟨rfl, _, Eq.trans (World.drewN_drewN _ _ _) (congrArg (World.drewN _) (Nat.add_assoc _ _ _))⟩); have hnb22 := NB108_101.out; have hnc22 := NB101_108.out; have hnb23 := NB108_102.out; have hnc23 := NB102_108.out; have hcz24_0 : wr.cell? ⟨gb108, 0, none⟩ = some (.int .i64 t103) := (blk_cell BK108.out 0).trans rfl; have hcz24_1 : wr.cell? ⟨gb108, 1, none⟩ = some (.int .i64 t104) := (blk_cell BK108.out 1).trans rfl; have hcz24_2 : wr.cell? ⟨gb108, 2, none⟩ = some (.slice Ao13 t105.length co13) := (blk_cell BK108.out 2).trans rfl; have hfz24_0 := blk_frozen BK108.out 0; have hfz24_1 := blk_frozen BK108.out 1; have hfz24_2 := blk_frozen BK108.out 2; have p111 : 0 ≤ (x15_1 : Int) := of_decide_eq_true (by first | (with_reducible assumption) | assumption); have q111 : x15_1 < (t105.length : Int) := of_decide_eq_true (by first | (with_reducible assumption) | assumption); obtain ⟨ad111, e111, hx111_0⟩ := Kd.at_int (Kd.V_reads' HO_109002.out).2.2 x15_1 p111 q111; cases e111; replace p111 := eq_true p111; replace q111 := eq_true q111) | (go_at_call 30; (with_reducible refine (spec_tyBall.calls (rd t105 x15_1) t112 _ A20.out).mono ?_); rintro e w' ⟨rfl, ⟨nd, rfl⟩⟩; (try first | exact ⟨rfl, _, World.drewN_drewN _ _ _⟩ | exact ⟨rfl, _, Eq.trans (World.drewN_drewN _ _ _) (congrArg (World.drewN _) (Nat.add_assoc _ _ _))⟩); have hnb25 := NB102_101.out; have hnc25 := NB101_102.out; have hcz26_0 : wr.cell? ⟨gb102, 0, none⟩ = some (.int .i64 x103000_1) := (blk_cell BK102.out 0).trans rfl; have hcz26_1 : wr.cell? ⟨gb102, 1, none⟩ = some (.int .i64 x103001_1) := (blk_cell BK102.out 1).trans rfl; have hcz26_2 : wr.cell? ⟨gb102, 2, none⟩ = some (.slice none 0 0) := (blk_cell BK102.out 2).trans rfl; have hfz26_0 := blk_frozen BK102.out 0; have hfz26_1 := blk_frozen BK102.out 1; have hfz26_2 := blk_frozen BK102.out 2)))
        refine bodyPost_ret (results_ct rfl _ _ gb102 45 #[.int .i64 t103, .int .i64 t104, .slice (some ad111) t105.length co13] (0, 0) _ rfl (by (with_reducible repeat (first | refine blk_drewN ?_ _ | refine blk_drew ?_ | refine blk_alloc ?_ _)); refine blk_put (cs := #[.int .i64 t103, .int .i64 t104, .slice none 0 0]) ?_ 2 _ rfl; (with_reducible repeat (first | refine blk_drewN ?_ _ | refine blk_drew ?_ | refine blk_alloc ?_ _)); refine blk_put (cs := #[.int .i64 t103, .int .i64 x103001_1, .slice none 0 0]) ?_ 1 _ rfl; (with_reducible repeat (first | refine blk_drewN ?_ _ | refine blk_drew ?_ | refine blk_alloc ?_ _)); refine blk_put (cs := #[.int .i64 x103000_1, .int .i64 x103001_1, .slice none 0 0]) ?_ 0 _ rfl; exact blc) Tryz.underlying45 rfl (by kernel_rfl)) rfl ?_
        exact ⟨_, by first | rfl | (simp [errW_none, errW_some] <;> rfl) | (simp [*, errW_none, errW_some] <;> rfl), by (with_reducible repeat (first | apply Kd.V_alloc | apply Kd.V_drewN | apply Kd.V_drew)); exact Kd.V_mono (Kd.V_far (p := ⟨gb102, 2, none⟩) (Kd.V_far (p := ⟨gb102, 1, none⟩) (Kd.V_far (p := ⟨gb102, 0, none⟩) (Kd.V_mono HO_109002.out (fun k_ hk => (⟨hk, hk.2.2.1⟩ : _ ∧ k_ ≠ gb102))) (fun _ hk => hk.2) (.int .i64 t103)) (fun _ hk => hk.2) (.int .i64 t104)) (fun _ hk => hk.2) (.slice (some ad111) t105.length co13)) (fun _ hk => hk.1.1), bel HB⟩
       ·rw [if_neg c21] at H
        have c21b0 : (t110 != t112) = false := by simpa using c21
        (try (have c21b1 : decide (t110 = t112) = true := by simpa using c21))
        (try (have c21b2 : (t110 == t112) = true := by simpa using c21))
        clear c21
        have H' := Aside0.mk H
        clear H
        have p109 : 0 ≤ (x15_1 : Int) := of_decide_eq_true (by first | (with_reducible assumption) | assumption)
        have q109 : x15_1 < (l0_2.length : Int) := of_decide_eq_true (by first | (with_reducible assumption) | assumption)
        obtain ⟨ad109, e109, hx109_0⟩ := Kd.at_int (Kd.V_reads' HO_13.out).2.2 x15_1 p109 q109
        cases e109
        replace p109 := eq_true p109
        replace q109 := eq_true q109
        go_wp2_with (first | (go_at_call 30; (with_reducible refine (spec_tyBall.calls (rd l0_2 x15_1) t110 _ A18.out).mono ?_); rintro e w' ⟨rfl, ⟨nd, rfl⟩⟩; (try first | exact ⟨rfl, _, World.drewN_drewN _ _ _⟩ | exact ⟨rfl, _, Eq.trans (World.drewN_drewN _ _ _) (congrArg (World.drewN _) (Nat.add_assoc _ _ _))⟩); have hnb27 := NB108_101.out; have hnc27 := NB101_108.out; have hnb28 := NB108_102.out; have hnc28 := NB102_108.out; have hcz29_0 : wr.cell? ⟨gb108, 0, none⟩ = some (.int .i64 t103) := (blk_cell BK108.out 0).trans rfl; have hcz29_1 : wr.cell? ⟨gb108, 1, none⟩ = some (.int .i64 t104) := (blk_cell BK108.out 1).trans rfl; have hcz29_2 : wr.cell? ⟨gb108, 2, none⟩ = some (.slice Ao13 t105.length co13) := (blk_cell BK108.out 2).trans rfl; have hfz29_0 := blk_frozen BK108.out 0; have hfz29_1 := blk_frozen BK108.out 1; have hfz29_2 := blk_frozen BK108.out 2; have p111 : 0 ≤ (x15_1 : Int) := of_decide_eq_true (by first | (with_reducible assumption) | assumption); have q111 : x15_1 < (t105.length : Int) := of_decide_eq_true (by first | (with_reducible assumption) | assumption); obtain ⟨ad111, e111, hx111_0⟩ := Kd.at_int (Kd.V_reads' HO_109002.out).2.2 x15_1 p111 q111; cases e111; replace p111 := eq_true p111; replace q111 := eq_true q111) | (go_at_call 30; (with_reducible refine (spec_tyBall.calls (rd t105 x15_1) t112 _ A20.out).mono ?_); rintro e w' ⟨rfl, ⟨nd, rfl⟩⟩; (try first | exact ⟨rfl, _, World.drewN_drewN _ _ _⟩ | exact ⟨rfl, _, Eq.trans (World.drewN_drewN _ _ _) (congrArg (World.drewN _) (Nat.add_assoc _ _ _))⟩)))
        repeat (go_quiet (first | (go_at_call 30; (with_reducible refine (spec_tyBall.calls (rd l0_2 x15_1) t110 _ A18.out).mono ?_); rintro e w' ⟨rfl, ⟨nd, rfl⟩⟩; (try first | exact ⟨rfl, _, World.drewN_drewN _ _ _⟩ | exact ⟨rfl, _, Eq.trans (World.drewN_drewN _ _ _) (congrArg (World.drewN _) (Nat.add_assoc _ _ _))⟩); have hnb27 := NB108_101.out; have hnc27 := NB101_108.out; have hnb28 := NB108_102.out; have hnc28 := NB102_108.out; have hcz29_0 : wr.cell? ⟨gb108, 0, none⟩ = some (.int .i64 t103) := (blk_cell BK108.out 0).trans rfl; have hcz29_1 : wr.cell? ⟨gb108, 1, none⟩ = some (.int .i64 t104) := (blk_cell BK108.out 1).trans rfl; have hcz29_2 : wr.cell? ⟨gb108, 2, none⟩ = some (.slice Ao13 t105.length co13) := (blk_cell BK108.out 2).trans rfl; have hfz29_0 := blk_frozen BK108.out 0; have hfz29_1 := blk_frozen BK108.out 1; have hfz29_2 := blk_frozen BK108.out 2; have p111 : 0 ≤ (x15_1 : Int) := of_decide_eq_true (by first | (with_reducible assumption) | assumption); have q111 : x15_1 < (t105.length : Int) := of_decide_eq_true (by first | (with_reducible assumption) | assumption); obtain ⟨ad111, e111, hx111_0⟩ := Kd.at_int (Kd.V_reads' HO_109002.out).2.2 x15_1 p111 q111; cases e111; replace p111 := eq_true p111; replace q111 := eq_true q111) | (go_at_call 30; (with_reducible refine (spec_tyBall.calls (rd t105 x15_1) t112 _ A20.out).mono ?_); rintro e w' ⟨rfl, ⟨nd, rfl⟩⟩; (try first | exact ⟨rfl, _, World.drewN_drewN _ _ _⟩ | exact ⟨rfl, _, Eq.trans (World.drewN_drewN _ _ _) (congrArg (World.drewN _) (Nat.add_assoc _ _ _))⟩))); try go_wp2_with (first | (go_at_call 30; (with_reducible refine (spec_tyBall.calls (rd l0_2 x15_1) t110 _ A18.out).mono ?_); rintro e w' ⟨rfl, ⟨nd, rfl⟩⟩; (try first | exact ⟨rfl, _, World.drewN_drewN _ _ _⟩ | exact ⟨rfl, _, Eq.trans (World.drewN_drewN _ _ _) (congrArg (World.drewN _) (Nat.add_assoc _ _ _))⟩); have hnb27 := NB108_101.out; have hnc27 := NB101_108.out; have hnb28 := NB108_102.out; have hnc28 := NB102_108.out; have hcz29_0 : wr.cell? ⟨gb108, 0, none⟩ = some (.int .i64 t103) := (blk_cell BK108.out 0).trans rfl; have hcz29_1 : wr.cell? ⟨gb108, 1, none⟩ = some (.int .i64 t104) := (blk_cell BK108.out 1).trans rfl; have hcz29_2 : wr.cell? ⟨gb108, 2, none⟩ = some (.slice Ao13 t105.length co13) := (blk_cell BK108.out 2).trans rfl; have hfz29_0 := blk_frozen BK108.out 0; have hfz29_1 := blk_frozen BK108.out 1; have hfz29_2 := blk_frozen BK108.out 2; have p111 : 0 ≤ (x15_1 : Int) := of_decide_eq_true (by first | (with_reducible assumption) | assumption); have q111 : x15_1 < (t105.length : Int) := of_decide_eq_true (by first | (with_reducible assumption) | assumption); obtain ⟨ad111, e111, hx111_0⟩ := Kd.at_int (Kd.V_reads' HO_109002.out).2.2 x15_1 p111 q111; cases e111; replace p111 := eq_true p111; replace q111 := eq_true q111) | (go_at_call 30; (with_reducible refine (spec_tyBall.calls (rd t105 x15_1) t112 _ A20.out).mono ?_); rintro e w' ⟨rfl, ⟨nd, rfl⟩⟩; (try first | exact ⟨rfl, _, World.drewN_drewN _ _ _⟩ | exact ⟨rfl, _, Eq.trans (World.drewN_drewN _ _ _) (congrArg (World.drewN _) (Nat.add_assoc _ _ _))⟩))))
        go_roundg k1
        case measure => have := HK1.out; omega
        case rel => exact ⟨(wrap64 (x15_1 + 1)), (x103000_1), (x103001_1), (by first | rfl | (simp; done) | (simp [*]; done)), H', ⟨by have := HK1.out; omega⟩, ⟨by (with_reducible repeat (first | apply Kd.V_alloc | apply Kd.V_drewN | apply Kd.V_drew)); (first | exact HO_13.out | exact R_any HO_13.out)⟩, ⟨by (with_reducible repeat (first | apply Kd.V_alloc | apply Kd.V_drewN | apply Kd.V_drew)); (first | exact HO_102002.out | exact R_any HO_102002.out)⟩, ⟨by (with_reducible repeat (first | apply Kd.V_alloc | apply Kd.V_drewN | apply Kd.V_drew)); (first | exact HO_109002.out | exact R_any HO_109002.out)⟩, ⟨blc⟩, ⟨blc⟩, ⟨blc⟩, ⟨bel HB⟩⟩
      ·rw [if_neg c19] at H
       exact absurd H (by simp)
     ·rw [if_neg c17] at H
      exact absurd H (by simp)
    ·rw [if_neg c16] at H
     exact absurd H (by simp)
   ·rw [if_neg c15] at H
    have c15b0 : decide (x15_1 < (l0_2.length : Int)) = false := decide_eq_false c15
    clear c15
    simp only [Option.some.injEq, Prod.mk.injEq] at H
    obtain ⟨rfl, rfl, rfl, rfl⟩ := H
    have hnb30 := NB108_101.out
    have hnc30 := NB101_108.out
    have hnb31 := NB108_102.out
    have hnc31 := NB102_108.out
    have hcz32_0 : wr.cell? ⟨gb108, 0, none⟩ = some (.int .i64 t103) := (blk_cell BK108.out 0).trans rfl
    have hcz32_1 : wr.cell? ⟨gb108, 1, none⟩ = some (.int .i64 t104) := (blk_cell BK108.out 1).trans rfl
    have hcz32_2 : wr.cell? ⟨gb108, 2, none⟩ = some (.slice Ao13 t105.length co13) := (blk_cell BK108.out 2).trans rfl
    have hfz32_0 := blk_frozen BK108.out 0
    have hfz32_1 := blk_frozen BK108.out 1
    have hfz32_2 := blk_frozen BK108.out 2
    have hnb33 := NB102_101.out
    have hnc33 := NB101_102.out
    have hcz34_0 : wr.cell? ⟨gb102, 0, none⟩ = some (.int .i64 x103000_1) := (blk_cell BK102.out 0).trans rfl
    have hcz34_1 : wr.cell? ⟨gb102, 1, none⟩ = some (.int .i64 x103001_1) := (blk_cell BK102.out 1).trans rfl
    have hcz34_2 : wr.cell? ⟨gb102, 2, none⟩ = some (.slice none 0 0) := (blk_cell BK102.out 2).trans rfl
    have hfz34_0 := blk_frozen BK102.out 0
    have hfz34_1 := blk_frozen BK102.out 1
    have hfz34_2 := blk_frozen BK102.out 2
    go_wp2
    repeat (go_quiet (fail); try go_wp2)
    refine bodyPost_ret (results_ct rfl _ _ gb102 45 #[.int .i64 t103, .int .i64 t104, .slice Ao13 t105.length co13] (0, 0) _ rfl (by (with_reducible repeat (first | refine blk_drewN ?_ _ | refine blk_drew ?_ | refine blk_alloc ?_ _)); refine blk_put (cs := #[.int .i64 t103, .int .i64 t104, .slice none 0 0]) ?_ 2 _ rfl; (with_reducible repeat (first | refine blk_drewN ?_ _ | refine blk_drew ?_ | refine blk_alloc ?_ _)); refine blk_put (cs := #[.int .i64 t103, .int .i64 x103001_1, .slice none 0 0]) ?_ 1 _ rfl; (with_reducible repeat (first | refine blk_drewN ?_ _ | refine blk_drew ?_ | refine blk_alloc ?_ _)); refine blk_put (cs := #[.int .i64 x103000_1, .int .i64 x103001_1, .slice none 0 0]) ?_ 0 _ rfl; exact blc) Tryz.underlying45 rfl (by kernel_rfl)) rfl ?_
    exact ⟨_, by first | rfl | (simp [errW_none, errW_some] <;> rfl) | (simp [*, errW_none, errW_some] <;> rfl), by (with_reducible repeat (first | apply Kd.V_alloc | apply Kd.V_drewN | apply Kd.V_drew)); exact Kd.V_mono (Kd.V_far (p := ⟨gb102, 2, none⟩) (Kd.V_far (p := ⟨gb102, 1, none⟩) (Kd.V_far (p := ⟨gb102, 0, none⟩) (Kd.V_mono HO_109002.out (fun k_ hk => (⟨hk, hk.2.2.1⟩ : _ ∧ k_ ≠ gb102))) (fun _ hk => hk.2) (.int .i64 t103)) (fun _ hk => hk.2) (.int .i64 t104)) (fun _ hk => hk.2) (.slice Ao13 t105.length co13)) (fun _ hk => hk.1.1), bel HB⟩
def impl_isRun.f (k : Nat) (a0 : ByteArray) (a1 : ByteArray) : Option (Bool) := (impl_IsTray.f k a0).bind fun t101 => (if t101 = true then ((impl_IsWord.f a1).bind fun t102 => (some t102)) else (some false))
set_option maxHeartbeats 8000000 in
set_option maxRecDepth 100000 in
theorem impl_isRun.calls (k : Nat) (a0 : ByteArray) (a1 : ByteArray) (r : Bool) (w : World) (hG : GoodW w) (h : impl_isRun.f k a0 a1 = some r) :
  Calls Tryz.prog 49 #[.string a0, .string a1] w fun e w' => e = .returned (.bool r) ∧ Below w.heap.size w w' := by
 have HG := Aside0.mk hG
 clear hG
 have HB := Aside0.mk (Below.refl w.heap.size w)
 have H : ((impl_IsTray.f k a0).bind fun t101 => (if t101 = true then ((impl_IsWord.f a1).bind fun t102 => (some t102)) else (some false))) = some r := h
 clear h
 replace H := Option.bind_eq_some_iff.mp H
 obtain ⟨t101, A30, H⟩ := H
 replace H : (if t101 = true then ((impl_IsWord.f a1).bind fun t102 => (some t102)) else (some false)) = some r := H
 have A3 := Aside0.mk A30
 clear A30
 by_cases c4 : t101 = true
 ·subst c4
  have H1 : ((impl_IsWord.f a1).bind fun t102 => (some t102)) = some r := by rw [if_pos rfl] at H; exact H
  clear H
  have H := H1
  clear H1
  replace H := Option.bind_eq_some_iff.mp H
  obtain ⟨t102, A50, H⟩ := H
  replace H : (some t102) = some r := H
  have A5 := Aside0.mk A50
  clear A50
  obtain rfl := Option.some.inj H
  go_enter Tryz.func49, Tryz.ntmps49
  go_wp2_with (first | ((with_reducible refine gate_callee (f := 59) rfl ?_); refine gcall (some 6) Tryz.func59 #[.string a0] rfl ?_; (with_reducible refine (impl_IsTray.calls k a0 true _ ?side1 A3.out).mono ?_); (case side1 => (refine GoodW.below HG.out ?_); exact bel HB); rintro e w6 ⟨rfl, hb⟩; refine ⟨_, rfl, ?_⟩; have n0_ := Aside0.mk (below_step (bel HB) hb); clear HB; have HB := n0_; clear n0_; (try clear hb); (try clear hb2); (try clear hk); (try clear hi)) | (go_at_call 44; (with_reducible refine (impl_IsWord.calls a1 t102 _ A5.out).mono ?_); rintro e w7 ⟨rfl, hb⟩; have n0_ := Aside0.mk (below_step (bel HB) hb); clear HB; have HB := n0_; clear n0_; (try clear hb); (try clear hb2); (try clear hk); (try clear hi)))
  go_ret
  exact ⟨by first | rfl | (simp [errW_none, errW_some] <;> rfl) | (simp [*, errW_none, errW_some] <;> rfl), bel HB⟩
 ·replace c4 := Bool.eq_false_iff.mpr c4
  subst c4
  have H1 : (some false) = some r := by rw [if_neg (show ¬ (false = true) by decide)] at H; exact H
  clear H
  have H := H1
  clear H1
  obtain rfl := Option.some.inj H
  go_enter Tryz.func49, Tryz.ntmps49
  go_wp2_with (first | ((with_reducible refine gate_callee (f := 59) rfl ?_); refine gcall (some 6) Tryz.func59 #[.string a0] rfl ?_; (with_reducible refine (impl_IsTray.calls k a0 false _ ?side1 A3.out).mono ?_); (case side1 => (refine GoodW.below HG.out ?_); exact bel HB); rintro e w8 ⟨rfl, hb⟩; refine ⟨_, rfl, ?_⟩; have n0_ := Aside0.mk (below_step (bel HB) hb); clear HB; have HB := n0_; clear n0_; (try clear hb); (try clear hb2); (try clear hk); (try clear hi)))
  go_ret
  exact ⟨by first | rfl | (simp [errW_none, errW_some] <;> rfl) | (simp [*, errW_none, errW_some] <;> rfl), bel HB⟩
end Go.Proofs.YtepmpilopmcjpaaGreatDoor.Q
end
section
namespace Go.Proofs.YtepmpilopmcjpaaGreatDoor.Q
open Go.RowKit Go.Shelf Go.Proofs.YtepmpilopmcjpaaGreatDoorW.PrintWords Go.Proofs.YtepmpilopmcjpaaGreatDoorW.PrintLast Go.Proofs.YtepmpilopmcjpaaGreatDoorW.PrintMore
set_option linter.unusedSectionVars false
theorem indB_l0 (cs : List Int) (hc : cs.length ≤ 36) : ∀ (m t : Nat), t + m = cs.length → Ev (fun k => impl_tray_indices_isBall.l0 k (ballsTo cs t) cs cs.length t) (ballsOf cs)
 | 0, t, ht => by
  obtain rfl : t = cs.length := by omega
  refine Ev.step (Ev.const (o := some (ballsOf cs)) rfl) fun k => ?_
  rw [impl_tray_indices_isBall.l0, if_neg (by omega)]
  rfl
 | m + 1, t, ht => by
  have ih := indB_l0 cs hc m (t + 1) (by omega)
  have hwt : wrap64 ((t : Int) + 1) = ((t + 1 : Nat) : Int) := by rw [w64 (by omega) (by omega)]; omega
  have c1 : (t : Int) < (cs.length : Int) := by omega
  have c0 : (0 : Int) ≤ (t : Int) := by omega
  have c6 : (ballsTo cs t).length < 17592186044416 := Nat.lt_of_le_of_lt (Nat.le_trans (ballsTo_len cs t) (show t ≤ 36 by omega)) (by decide)
  rw [ballsTo_succ] at ih
  refine Ev.step ih fun k => ?_
  rw [impl_tray_indices_isBall.l0, if_pos c1, if_pos c0, if_pos c1, isBall_eq, Option.bind_some, hwt]
  show (if bI cs t = true then _ else _) = _
  by_cases h1 : bI cs t = true
  ·rw [if_pos h1, if_pos c6, if_pos h1]
  ·rw [if_neg h1, if_neg h1, List.append_nil]
theorem indB_ev (cs : List Int) (hc : cs.length ≤ 36) (w h : Int) : Ev (fun k => impl_tray_indices_isBall.f k w h cs ()) (ballsOf cs) := indB_l0 cs hc cs.length 0 (by omega)
theorem indexI_l0 (L : List Int) (c : Int) (hl : L.length ≤ 1000) : ∀ (l : List Int) (i : Nat), L.drop i = l → i ≤ L.length → Ev (fun k => slices_Index_int_int.l0 k L c (L.length : Int) (i : Int)) (idxL l c i)
 | [], i, hd, hi => by
  have h1 : i = L.length := by
   have := congrArg List.length hd
   simp at this
   omega
  subst h1
  refine Ev.step (Ev.const rfl) fun k => ?_
  rw [slices_Index_int_int.l0, if_neg (by omega)]
  rfl
 | x :: l, i, hd, _ => by
  obtain ⟨h1, h2, h3⟩ := rd_drop hd
  have ih := indexI_l0 L c hl l (i + 1) h3 h1
  rw [← wr1 i (by omega)] at ih
  unfold idxL
  by_cases e : x = c
  ·rw [if_pos e]
   refine Ev.step (Ev.const rfl) fun k => ?_
   rw [slices_Index_int_int.l0, if_pos (by omega), if_pos (by omega), if_pos (by omega), h2, if_pos e.symm]
  ·rw [if_neg e]
   refine Ev.step ih fun k => ?_
   rw [slices_Index_int_int.l0, if_pos (by omega), if_pos (by omega), if_pos (by omega), h2, if_neg fun e2 => e e2.symm]
theorem indexI_ev (L : List Int) (c : Int) (hl : L.length ≤ 1000) : Ev (fun k => slices_Index_int_int.f k L c) (idxL L c 0) := indexI_l0 L c hl L 0 rfl (Nat.zero_le _)
theorem idxL_ge : ∀ (l : List Int) (c : Int) (i : Nat), -1 ≤ idxL l c i
 | [], _, _ => Int.le_refl _
 | x :: l, c, i => by
  unfold idxL
  split
  ·omega
  ·exact idxL_ge l c (i + 1)
theorem backP_ev (L : List Int) (hl : L.length ≤ 1000) : ∀ (l out : List Int), Ev (fun k => backP k L l out) (out ++ l.map fun x => idxL L x 0)
 | [], out => by
  rw [List.map_nil, List.append_nil]
  exact Ev.const rfl
 | x :: l, out => by
  have ih := backP_ev L hl l (out ++ [idxL L x 0])
  rw [List.append_assoc, List.singleton_append] at ih
  exact Ev.bind (f := fun k i => backP k L l (out ++ [i])) (indexI_ev L x hl) ih
def backL (w h : Nat) (l : List Nat) (cs : List Int) : List Int := (ballsOf cs).map fun x => idxL (ballsOf cs) (slideW w h l cs x) 0
def backB (w h : Nat) (l : List Nat) (cs : List Int) : Bool := (ballsOf cs).all fun x => (ballsOf cs).contains (slideW w h l cs x)
theorem backB_iff (w h : Nat) (l : List Nat) (cs : List Int) : backB w h l cs = true ↔ ∀ x ∈ ballsOf cs, slideW w h l cs x ∈ ballsOf cs := by
 unfold backB
 rw [List.all_eq_true]
 exact ⟨fun h x hx => List.contains_iff_mem.1 (h x hx), fun h x hx => List.contains_iff_mem.2 (h x hx)⟩
theorem back_neg (w h : Nat) (l : List Nat) (cs : List Int) : (!decide (idxL (backL w h l cs) (-1) 0 ≥ 0)) = backB w h l cs := by
 rw [Bool.eq_iff_iff, backB_iff, Bool.not_eq_true', decide_eq_false_iff_not]
 have h1 := idxL_neg (backL w h l cs) (-1) 0
 constructor
 ·intro h2 x hx
  have h3 : (-1 : Int) ∉ backL w h l cs := h1.1 (by omega)
  refine Classical.byContradiction fun h4 => h3 ?_
  unfold backL
  refine List.mem_map.2 ⟨x, hx, ?_⟩
  have h5 := (idxL_neg (ballsOf cs) (slideW w h l cs x) 0).2 h4
  have h6 := idxL_ge (ballsOf cs) (slideW w h l cs x) 0
  omega
 ·intro h2 h3
  have h4 : (-1 : Int) ∉ backL w h l cs := by
   unfold backL
   intro hm
   obtain ⟨x, hx, e⟩ := List.mem_map.1 hm
   exact ((idxL_neg (ballsOf cs) (slideW w h l cs x) 0).1 (by omega)) (h2 x hx)
  have := h1.2 h4
  omega
theorem balls_small {cs : List Int} (hc : cs.length ≤ 36) : (ballsOf cs).length ≤ 36 := by
 have := ballsTo_len cs cs.length
 unfold ballsOf
 omega
section
variable {w h : Nat} (hw : w ≤ 7) (hh : h ≤ 7) (hs : w * h ≤ 36) (hw1 : 0 < w) (hh1 : 0 < h)
include hw hh hs hw1 hh1
theorem backN_ev : ∀ (l : List UInt8) (cs now : List Int), (∀ b ∈ l, isD b = true) → cs.length = w * h → (∀ x ∈ now, 0 ≤ x ∧ x < (cs.length : Int) ∧ isB (rd cs x) = true) → Ev (fun k => backN k (l.map fun b => (b.toNat : Int)) w h cs now) (now.map (slideW w h (l.map dirN) cs))
 | [], cs, now, _, _, _ => by
  rw [show now.map (slideW w h (([] : List UInt8).map dirN) cs) = now from by
   rw [show slideW w h (([] : List UInt8).map dirN) cs = id from rfl, List.map_id]]
  exact Ev.const rfl
 | b :: l, cs, now, hd, hn, hx => by
  have hb := hd b List.mem_cons_self
  have hd4 := dirN_lt b
  have hdc : dirC (dirN b) = (b.toNat : Int) := (dirN_C hb).2
  have h1 := slide_ev hw hh hs hd4 hw1 hh1 hn
  have h2 := tilted_ev hw hh hs hd4 hw1 hh1 hn
  rw [hdc] at h1 h2
  have hl2 : (tiltC w h cs (dirN b)).length = cs.length := tiltC_len hw hh hs hd4
  have ih := backN_ev l (tiltC w h cs (dirN b)) (now.map (slideF w h cs (dirN b))) (fun e he => hd e (List.mem_cons_of_mem _ he)) (hl2.trans hn) (fun y hy => by
   obtain ⟨x, hxm, rfl⟩ := List.mem_map.1 hy
   obtain ⟨x0, x1, xb⟩ := hx x hxm
   obtain ⟨_, s0, s1⟩ := slide_some hw hh hs hd4 hn x x0 x1 xb
   exact ⟨s0, by rw [hl2]; exact s1, by rw [tilt_at hw hh hs hd4 hn x x0 x1 xb]; exact xb⟩)
  rw [List.map_map] at ih
  refine Ev.congr (Ev.bind (f := fun k (m : List (Int × Int)) => if ∀ x ∈ now, 0 ≤ x ∧ x ≤ 1000000 then (impl_tray_tilted.f k w h cs (b.toNat : Int)).bind fun g => backN k (l.map fun b => (b.toNat : Int)) g.1 g.2.1 g.2.2 (now.map (lookM m)) else none) h1 (Ev.congr (Ev.bind (f := fun k (g : Int × Int × List Int) => backN k (l.map fun b => (b.toNat : Int)) g.1 g.2.1 g.2.2 (now.map (slideF w h cs (dirN b)))) h2 ih) fun k => if_pos fun x hxm => ⟨(hx x hxm).1, by have := (hx x hxm).2.1; omega⟩)) fun k => ?_
  rw [List.map_cons, backN]
theorem comesBack_ev {t s : ByteArray} {cs : List Int} (ht : trayOf t = some ((w : Int), (h : Int), cs)) (hn : cs.length = w * h) (hb : wordB s = true) : Ev (fun k => impl_comesBack.f k t s) (backL w h (s.data.toList.map dirN) cs, backB w h (s.data.toList.map dirN) cs) := by
 have hp := wordB_parts hb
 have hdl := data_length s
 have hbl := balls_small (cs := cs) (by omega)
 have h1 := backN_ev hw hh hs hw1 hh1 s.data.toList cs (ballsOf cs) (fun b hm => by
  obtain ⟨i, hi, rfl⟩ := List.mem_iff_getElem.1 hm
  exact hp.2 i hi) hn fun x hx => (balls_mem cs x).1 hx
 have h2 := backP_ev (ballsOf cs) (by omega) ((ballsOf cs).map (slideW w h (s.data.toList.map dirN) cs)) []
 rw [List.nil_append, List.map_map] at h2
 have h3 := indexI_ev (backL w h (s.data.toList.map dirN) cs) (-1) (by unfold backL; rw [List.length_map]; omega)
 have h4 : Ev (fun k => (backP k (ballsOf cs) ((ballsOf cs).map (slideW w h (s.data.toList.map dirN) cs)) []).bind fun out => (slices_Contains_int_int.f k out (-1)).bind fun b => some (out, !b)) (backL w h (s.data.toList.map dirN) cs, backB w h (s.data.toList.map dirN) cs) := by
  refine Ev.bind (f := fun k out => (slices_Contains_int_int.f k out (-1)).bind fun b => some (out, !b)) h2 (Ev.bind (f := fun _ b => some (backL w h (s.data.toList.map dirN) cs, !b)) (Ev.bind (f := fun _ t101 => some (decide (t101 ≥ 0))) h3 (Ev.const rfl)) (Ev.const ?_))
  rw [back_neg]
 refine Ev.congr (Ev.bind (f := fun k list => if list.length ≤ 1000 then (convB.f s).bind fun l => if l.length ≤ 1000 then (backN k l w h cs list).bind fun now => if now.length = list.length then (backP k list now []).bind fun out => (slices_Contains_int_int.f k out (-1)).bind fun b => some (out, !b) else none else none else none) (indB_ev cs (by omega) w h) (Ev.congr (Ev.bind (f := fun k now => if now.length = (ballsOf cs).length then (backP k (ballsOf cs) now []).bind fun out => (slices_Contains_int_int.f k out (-1)).bind fun b => some (out, !b) else none) h1 (Ev.congr h4 fun k => if_pos (by rw [List.length_map]))) fun k => ?_)) fun k => ?_
 ·rw [if_pos (by omega)]
  unfold convB.f
  rw [if_pos (by omega), Option.bind_some, if_pos (by rw [bytesOf_length]; omega)]
  rfl
 ·unfold impl_comesBack.f
  rw [tray_read ht, Option.bind_some]
theorem mcBack_l0 (cs A : List Int) (hc : cs.length ≤ 1000) (ha : A.length = cs.length) (r : Bool) (hr : r = true ↔ ∀ i : Nat, i < cs.length → isB (rd cs (i : Int)) = isB (rd A (i : Int))) : ∀ (m i : Nat), i + m = cs.length → (∀ j : Nat, j < i → isB (rd cs (j : Int)) = isB (rd A (j : Int))) → Ev (fun k => spec_mcBack.l0 k cs (cs.length : Int) (i : Int) w h A) ((w : Int), (h : Int), A, r)
 | 0, i, hi, hj => by
  obtain rfl : i = cs.length := by omega
  rw [hr.2 hj]
  refine Ev.step (Ev.const rfl) fun k => ?_
  rw [spec_mcBack.l0, if_neg (by omega)]
 | m + 1, i, hi, hj => by
  by_cases e : isB (rd cs (i : Int)) = isB (rd A (i : Int))
  ·have ih := mcBack_l0 cs A hc ha r hr m (i + 1) (by omega) fun j hj2 => by
    by_cases h2 : j = i
    ·rw [h2]
     exact e
    ·exact hj j (by omega)
   rw [← wr1 i (by omega)] at ih
   refine Ev.step ih fun k => ?_
   rw [spec_mcBack.l0, if_pos (by omega), if_pos (by omega), if_pos (by omega), tyBall_eq, Option.bind_some, if_pos (by omega), tyBall_eq, Option.bind_some, if_neg (by rw [e]; simp)]
  ·have h2 : r = false := by
    cases r with
    | false => rfl
    | true => exact absurd (hr.1 rfl i (by omega)) e
   rw [h2]
   refine Ev.step (Ev.const rfl) fun k => ?_
   rw [spec_mcBack.l0, if_pos (by omega), if_pos (by omega), if_pos (by omega), tyBall_eq, Option.bind_some, if_pos (by omega), tyBall_eq, Option.bind_some, if_pos (by simpa using e)]
theorem mcBack_ev {s : ByteArray} {cs : List Int} (hn : cs.length = w * h) (hb : wordB s = true) : Ev (fun k => spec_mcBack.f k w h cs s) ((w : Int), (h : Int), tiltW w h (s.data.toList.map dirN) cs, backB w h (s.data.toList.map dirN) cs) := by
 have hl := tiltW_len hw hh hs hw1 hh1 (s.data.toList.map dirN) cs wordB_lt hn
 exact Ev.bind (f := fun k (bt103 : Int × Int × List Int) => (spec_mcBack.l0 k cs (cs.length : Int) 0 bt103.1 bt103.2.1 bt103.2.2)) (tiRun_ev hw hh hs hw1 hh1 hb hn) (mcBack_l0 hw hh hs hw1 hh1 cs _ (by omega) (by omega) _ ((backB_iff w h _ cs).trans (back_iff hw hh hs _ cs wordB_lt hn)) cs.length 0 (by omega) fun j hj => absurd hj (Nat.not_lt_zero _))
end
theorem mcRead_ev (t s : ByteArray) : Ev (fun k => spec_mcRead.f k t s) (match trayOf t with | none => (0, 0, [], false) | some (w, h, cs) => (w, h, cs, wordB s)) := by
 refine Ev.bind (f := fun k (bt102 : Int × Int × List Int × Bool) => (if bt102.2.2.2 = true then ((spec_tiWord.f k s).bind fun t109 => (some (bt102.1, bt102.2.1, bt102.2.2.1, t109))) else (some (bt102.1, bt102.2.1, bt102.2.2.1, false)))) (tyRead_ev t) ?_
 rcases trayOf t with _ | ⟨w, h, cs⟩
 ·exact Ev.congr (Ev.const rfl) fun k => if_neg Bool.false_ne_true
 ·exact Ev.congr (Ev.bind (f := fun _ t109 => some (w, h, cs, t109)) (tiWord_ev s) (Ev.const rfl)) fun k => if_pos rfl
theorem isRun_ev (t s : ByteArray) (ht0 : t.size ≤ 1048576) : Ev (fun k => impl_isRun.f k t s) ((trayOf t).isSome && wordB s) := by
 refine Ev.bind (f := fun _ (t101 : Bool) => (if t101 = true then ((impl_IsWord.f s).bind fun t102 => (some t102)) else (some false))) (isTray_ev t ht0) (Ev.const ?_)
 cases (trayOf t).isSome with
 | false => exact if_neg (by decide)
 | true =>
  rw [if_pos rfl, isWord_eq]
  rfl
end Go.Proofs.YtepmpilopmcjpaaGreatDoor.Q
end
