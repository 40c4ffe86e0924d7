/- Texts of this claim, joined. -/
import Derived.Test.YtkjlfgceodindaaDoorJWordToOne01
import Derived.Test.YtkjlfgceodindaaDoorJWordToOne03
import Derived.Test.YtkjlfgceodindaaDoorJWordToOne04
import Derived.Test.YtkjlfgceodindaaDoorJWordToOne02
import Derived.Laws.CopyOwn
import Derived.Deep.RegionLaw
import Derived.Laws.MakeOwn
set_option linter.unusedVariables false
set_option linter.unusedSimpArgs false
set_option linter.unusedSectionVars false
section
namespace Go.Proofs.YtkjlfgceodindaaDoor.Q
open Go.RowKit Go.Proofs.YtkjlfgceodindaaDoorW.PrintWords Go.Proofs.YtkjlfgceodindaaDoorW.PrintLast Go.Proofs.YtkjlfgceodindaaDoorW.PrintMore
attribute [local go_sem] max2_int min2_int max_two min_two max_three min_three max_four min_four
set_option linter.unusedVariables false
set_option linter.unusedSimpArgs false
mutual
def spec_skSearch.l0 : Nat → Int → Int → List ByteArray → List ByteArray → Option (List ByteArray × List ByteArray)
 | 0, _, _, _, _ => none
 | k + 1, x1, x6, x111000, x111001 => if x6 < (x111000.length : Int) then (if 0 ≤ x6 then (if x6 < (x111001.length : Int) then (if ((rdOf ByteArray.empty x111001 x6).size : Int) = x1 then (some (x111000, x111001)) else ((spec_tyRead.f k (rdOf ByteArray.empty x111000 x6)).bind fun bt113 => (spec_skSearch.l1 k x1 x6 0 x111000 x111001 bt113.1 bt113.2.1 bt113.2.2.1))) else (none)) else (none)) else (some (x111000, x111001))
def spec_skSearch.l1 : Nat → Int → Int → Int → List ByteArray → List ByteArray → Int → Int → List Int → Option (List ByteArray × List ByteArray)
 | 0, _, _, _, _, _, _, _, _ => none
 | k + 1, x1, x6, x9, x111000, x111001, x120000, x120001, x120002 => if x9 < 4 then ((spec_skTilt.f k x120000 x120001 x120002 x9).bind fun bt120 => ((spec_tyText.f k bt120.1 bt120.2.1 bt120.2.2.1).bind fun t129 => (spec_skSearch.l2 k x1 x6 x9 t129 false x111000 (x111000.length : Int) 0 x111000 x111001 x120000 x120001 x120002))) else (spec_skSearch.l0 k x1 (wrap64 (x6 + 1)) x111000 x111001)
def spec_skSearch.l2 : Nat → Int → Int → Int → ByteArray → Bool → List ByteArray → Int → Int → List ByteArray → List ByteArray → Int → Int → List Int → Option (List ByteArray × List ByteArray)
 | 0, _, _, _, _, _, _, _, _, _, _, _, _, _ => none
 | k + 1, x1, x6, x9, x12, x13, x58, x59, x60, x111000, x111001, x120000, x120001, x120002 => if x60 < x59 then (if 0 ≤ x60 then (if x60 < (x58.length : Int) then (if x13 = true then (spec_skSearch.l2 k x1 x6 x9 x12 true x58 x59 (wrap64 (x60 + 1)) x111000 x111001 x120000 x120001 x120002) else (spec_skSearch.l2 k x1 x6 x9 x12 ((rdOf ByteArray.empty x58 x60).toList == x12.toList) x58 x59 (wrap64 (x60 + 1)) x111000 x111001 x120000 x120001 x120002)) else (none)) else (none)) else (if x13 = true then (spec_skSearch.l1 k x1 x6 (wrap64 (x9 + 1)) x111000 x111001 x120000 x120001 x120002) else (if x111000.length < 8796093022208 then (if 0 ≤ x6 then (if x6 < (x111001.length : Int) then ((spec_tiDirs.f).bind fun t135 => (if 0 ≤ x9 then (if x9 ≤ (wrap64 (x9 + 1)) then (if (wrap64 (x9 + 1)) ≤ (t135.size : Int) then (if (rdOf ByteArray.empty x111001 x6).size + (t135.extract (x9 : Int).toNat ((wrap64 (x9 + 1)) : Int).toNat).size ≤ 9223372036854775807 then (if x111001.length < 8796093022208 then (spec_skSearch.l1 k x1 x6 (wrap64 (x9 + 1)) (x111000 ++ [x12]) (x111001 ++ [(rdOf ByteArray.empty x111001 x6) ++ (t135.extract (x9 : Int).toNat ((wrap64 (x9 + 1)) : Int).toNat)]) x120000 x120001 x120002) else (none)) else (none)) else (none)) else (none)) else (none))) else (none)) else (none)) else (none)))
end
def spec_skSearch.f (k : Nat) (a0_0 : Int) (a0_1 : Int) (l0_2 : List Int) (a1 : Int) : Option (List ByteArray × List ByteArray) := (spec_tyText.f k a0_0 a0_1 l0_2).bind fun t103 => (spec_skSearch.l0 k a1 0 (([t103] : List ByteArray)) (([(⟨#[]⟩ : ByteArray)] : List ByteArray)))
def spec_skSearch.T20 : Bool × List (List Nat × List Nat) := (true, [([], []), ([0], [0]), ([], []), ([2], [2]), ([], []), ([3, 4], [3, 4]), ([5], [5]), ([], []), ([], []), ([], []), ([9], [9]), ([7, 8, 10], [7, 8, 10]), ([6, 11], [6, 11]), ([12], [12]), ([1, 13, 7], [1, 13]), ([0, 1, 2, 3, 4, 5, 6, 7, 8, 9, 10, 11, 12, 13, 14], []), ([15, 14, 14, 0, 1, 2, 3, 4, 5, 6, 7, 8, 9, 10, 11, 12, 13, 14], [14, 15])])
def spec_skSearch.B20 : List Nat := [0, 1, 0, 4, 0, 28, 60, 0, 0, 0, 512, 1920, 4092, 8188, 16383, 32767, 65535]
theorem spec_skSearch.tab20 : rtab .any (opsOf Tryd.f20 20) = spec_skSearch.T20 := by kernel_rfl
theorem spec_skSearch.bits20 : waitsOk spec_skSearch.T20.2 spec_skSearch.B20 = true := by kernel_rfl
set_option maxHeartbeats 8000000 in
set_option maxRecDepth 100000 in
theorem spec_skSearch.calls (k : Nat) (a0_0 : Int) (a0_1 : Int) (A0_2 : Option Addr) (c0_2 : Nat) (l0_2 : List Int) (a1 : Int) (r1 : List ByteArray) (r2 : List ByteArray) (w : World) (hr0_2 : Kd.C (Kd.int .u8) w A0_2 l0_2.length l0_2) (hc0_2 : l0_2.length ≤ c0_2) (h : spec_skSearch.f k a0_0 a0_1 l0_2 a1 = some (r1, r2)) :
  Calls Tryd.prog 20 #[.agg #[.int .i64 a0_0, .int .i64 a0_1, .slice A0_2 l0_2.length c0_2], .int .i64 a1] w fun e w' => ∃ v0_ v1_ : Value, e = .returned (.agg #[v0_, v1_]) ∧ Kd.R Kd.string 9 w' w.heap.size (fun k_ => some k_ ≠ (v1_ : Value).ownBlock) v0_ r1 ∧ Kd.R Kd.string 9 w' w.heap.size (fun k_ => some k_ ≠ (v0_ : Value).ownBlock) v1_ r2 ∧ Below w.heap.size w w' := by
 have hu30 := Tryd.underlying30;have hu46 := Tryd.underlying46;have HR0_2 := Aside0.mk hr0_2;have HC0_2 := Aside0.mk hc0_2;clear hr0_2 hc0_2;have HB := Aside0.mk (Below.refl w.heap.size w);have H : ((spec_tyText.f k a0_0 a0_1 l0_2).bind fun t103 => (spec_skSearch.l0 k a1 0 (([t103] : List ByteArray)) (([(⟨#[]⟩ : ByteArray)] : List ByteArray)))) = some (r1, r2) := h;clear h;replace H := Option.bind_eq_some_iff.mp H;obtain ⟨t103, A30, H⟩ := H;replace H : (spec_skSearch.l0 k a1 0 (([t103] : List ByteArray)) (([(⟨#[]⟩ : ByteArray)] : List ByteArray))) = some (r1, r2) := H;have A3 := Aside0.mk A30;clear A30;obtain ⟨y104, hy104⟩ : ∃ y_ : List ByteArray, y_ = (([t103] : List ByteArray)) := ⟨_, rfl⟩;replace H : (spec_skSearch.l0 k a1 0 y104 (([(⟨#[]⟩ : ByteArray)] : List ByteArray))) = some (r1, r2) := rH hy104 H;have Ny104 := Aside0.mk hy104;clear hy104;obtain ⟨y107, hy107⟩ : ∃ y_ : List ByteArray, y_ = (([(⟨#[]⟩ : ByteArray)] : List ByteArray)) := ⟨_, rfl⟩;replace H : (spec_skSearch.l0 k a1 0 y104 y107) = some (r1, r2) := rH hy107 H;have Ny107 := Aside0.mk hy107;clear hy107;have H' := Aside0.mk H;clear H
 go_enter Tryd.func20, Tryd.ntmps20
 go_wp2_with (first | ((with_reducible refine gate_dst (N := 2) rfl ?_); refine boxE (N := 2) (cs := #[.int .i64 a0_0, .int .i64 a0_1, .slice A0_2 l0_2.length c0_2]) (t := 30) ?_; intro gb101 hg w4 hbox hb; have n0_ := Aside0.mk (below_step (bel HB) hb); have n1_ := Aside0.mk (hbox); have n2_ := Aside0.mk (gsz hg (bel HB)); have n3_ := Aside0.mk (gsz hg (bel HB)); clear HB; have HB := n0_; have BK101 := n1_; have GW101 := n2_; have GE101 := n3_; clear n0_ n1_ n2_ n3_; clear hb hbox hg) | ((with_reducible refine gate_dst (N := 4) rfl ?_); refine boxE (N := 4) (cs := #[.slice none 0 0, .slice none 0 0]) (t := 46) ?_; intro gb102 hg w5 hbox hb; have n0_ := Aside0.mk (blk_below (g := gb101) (o := .cells #[.int .i64 a0_0, .int .i64 a0_1, .slice A0_2 l0_2.length c0_2] 30 (0, 0)) blc hb); have n1_ := Aside0.mk (below_step (bel HB) hb); have n2_ := Aside0.mk (hbox); have n3_ := Aside0.mk (gsz hg (bel HB)); have n4_ := Aside0.mk (gsz hg (bel HB)); have n5_ := Aside0.mk ((by rw [hg]; exact Nat.ne_of_lt (blk_lt (g := gb101) (o := .cells #[.int .i64 a0_0, .int .i64 a0_1, .slice A0_2 l0_2.length c0_2] 30 (0, 0)) blc) : gb101 ≠ gb102)); have n6_ := Aside0.mk ((by rw [hg]; exact Nat.ne_of_gt (blk_lt (g := gb101) (o := .cells #[.int .i64 a0_0, .int .i64 a0_1, .slice A0_2 l0_2.length c0_2] 30 (0, 0)) blc) : gb102 ≠ gb101)); clear BK101; clear HB; have BK101 := n0_; have HB := n1_; have BK102 := n2_; have GW102 := n3_; have GE102 := n4_; have NB101_102 := n5_; have NB102_101 := n6_; clear n0_ n1_ n2_ n3_ n4_ n5_ n6_; clear hb hbox hg; have hnb6 := NB101_102.out; have hnc6 := NB102_101.out; have hcz7_0 : w5.cell? ⟨gb101, 0, none⟩ = some (.int .i64 a0_0) := (blk_cell BK101.out 0).trans rfl; have hcz7_1 : w5.cell? ⟨gb101, 1, none⟩ = some (.int .i64 a0_1) := (blk_cell BK101.out 1).trans rfl; have hcz7_2 : w5.cell? ⟨gb101, 2, none⟩ = some (.slice A0_2 l0_2.length c0_2) := (blk_cell BK101.out 2).trans rfl; have hfz7_0 := blk_frozen BK101.out 0; have hfz7_1 := blk_frozen BK101.out 1; have hfz7_2 := blk_frozen BK101.out 2) | ((with_reducible refine gate_callee (f := 36) rfl ?_); refine gcall (some 17) Tryd.func36 #[.agg #[.int .i64 a0_0, .int .i64 a0_1, .slice A0_2 l0_2.length c0_2]] rfl ?_; (with_reducible refine (spec_tyText.calls k a0_0 a0_1 _ _ l0_2 t103 _ ?side1 ?side2 A3.out).mono ?_); (case side1 => repeat (first | exact (Kd.C_below HR0_2.out HB.out) | (with_reducible refine Kd.C_alloc ?_ _) | (with_reducible refine Kd.C_drewN ?_ _) | (with_reducible refine Kd.C_drew ?_))); (case side2 => exact HC0_2.out); rintro e w8 ⟨rfl, hb⟩; refine ⟨_, rfl, ?_⟩; have n0_ := Aside0.mk (blk_below (g := gb101) (o := .cells #[.int .i64 a0_0, .int .i64 a0_1, .slice A0_2 l0_2.length c0_2] 30 (0, 0)) blc hb); have n1_ := Aside0.mk (blk_below (g := gb102) (o := .cells #[.slice none 0 0, .slice none 0 0] 46 (0, 0)) blc hb); have n2_ := Aside0.mk (below_step (bel HB) hb); clear BK101; clear BK102; clear HB; have BK101 := n0_; have BK102 := n1_; have HB := n2_; clear n0_ n1_ n2_; (try clear hb); (try clear hb2); (try clear hk); (try clear hi)) | ((with_reducible refine gate_dst (N := 18) rfl ?_); refine Kd.R_lit Kd.string _ 9 ?hg (N := 18) ?hd (xs := ([t103] : List ByteArray)) (inner := [.string t103]) (ok := fun _ => True) (okp := fun _ => True) ?hr ?hp (fun _ hk => hk) trivial (Below.refl _ _) (Nat.le_refl _) (by simp) ?_; (case hd => rfl); (case hg => rfl); (case hr => first | (go_simp; done) | (go_simp; rfl)); (case hp => exact (Reps.one (show Kd.M Kd.string _ _ _ t103 [.string t103] from rfl) (Reps.none _ _))); intro v105 w9 ho10 hb hg_ hnew_; clear hg_ hnew_; (first | rw [← Ny104.out] at ho10 | (simp only [Int.reduceToNat] at ho10; rw [← Ny104.out] at ho10)); have n0_ := Aside0.mk (Kd.R_lower ho10 (below_size (bel HB))); have n1_ := Aside0.mk (blk_below (g := gb101) (o := .cells #[.int .i64 a0_0, .int .i64 a0_1, .slice A0_2 l0_2.length c0_2] 30 (0, 0)) blc hb); have n2_ := Aside0.mk (blk_below (g := gb102) (o := .cells #[.slice none 0 0, .slice none 0 0] 46 (0, 0)) blc hb); have n3_ := Aside0.mk (below_step (bel HB) hb); clear BK101; clear BK102; clear HB; have HO106 := n0_; have BK101 := n1_; have BK102 := n2_; have HB := n3_; clear n0_ n1_ n2_ n3_; clear hb ho10) | ((with_reducible refine gate_dst (N := 19) rfl ?_); refine Kd.R_lit Kd.string _ 9 ?hg (N := 19) ?hd (xs := ([(⟨#[]⟩ : ByteArray)] : List ByteArray)) (inner := [.string (⟨#[]⟩ : ByteArray)]) (ok := fun _ => True) (okp := fun _ => True) ?hr ?hp (fun _ hk => hk) trivial (Below.refl _ _) (Nat.le_refl _) (by simp) ?_; (case hd => rfl); (case hg => rfl); (case hr => first | (go_simp; done) | (go_simp; rfl)); (case hp => exact (Reps.one (show Kd.M Kd.string _ _ _ (⟨#[]⟩ : ByteArray) [.string (⟨#[]⟩ : ByteArray)] from rfl) (Reps.none _ _))); intro v108 w11 ho12 hb hg_ hnew_; clear hg_ hnew_; (first | rw [← Ny107.out] at ho12 | (simp only [Int.reduceToNat] at ho12; rw [← Ny107.out] at ho12)); have n0_ := Aside0.mk (Kd.R_elder' (rch HO106) (Kd.R_base ho12) hb); have n1_ := Aside0.mk (Kd.R_lower (Kd.R_new' ho12 (Kd.R_lt (rch HO106))) (below_size (bel HB))); have n2_ := Aside0.mk (blk_below (g := gb101) (o := .cells #[.int .i64 a0_0, .int .i64 a0_1, .slice A0_2 l0_2.length c0_2] 30 (0, 0)) blc hb); have n3_ := Aside0.mk (blk_below (g := gb102) (o := .cells #[.slice none 0 0, .slice none 0 0] 46 (0, 0)) blc hb); have n4_ := Aside0.mk (below_step (bel HB) hb); clear HO106; clear BK101; clear BK102; clear HB; have HO106 := n0_; have HO109 := n1_; have BK101 := n2_; have BK102 := n3_; have HB := n4_; clear n0_ n1_ n2_ n3_ n4_; clear hb ho12; obtain ⟨Ao13, co13, eo13⟩ := Kd.R_slice HO109.out; subst eo13; obtain ⟨Ao14, co14, eo14⟩ := Kd.R_slice HO106.out; subst eo14) | ((with_reducible refine gate_dst (N := 5) rfl ?_); refine boxE (N := 5) (cs := #[.slice none 0 0, .slice none 0 0]) (t := 46) ?_; intro gb110 hg w15 hbox hb; have n0_ := Aside0.mk (Kd.R_below (rch HO106) hb); have n1_ := Aside0.mk (Kd.R_below (rch HO109) hb); have n2_ := Aside0.mk (blk_below (g := gb101) (o := .cells #[.int .i64 a0_0, .int .i64 a0_1, .slice A0_2 l0_2.length c0_2] 30 (0, 0)) blc hb); have n3_ := Aside0.mk (blk_below (g := gb102) (o := .cells #[.slice none 0 0, .slice none 0 0] 46 (0, 0)) blc hb); have n4_ := Aside0.mk (below_step (bel HB) hb); have n5_ := Aside0.mk (hbox); have n6_ := Aside0.mk (gsz hg (bel HB)); have n7_ := Aside0.mk (gsz hg (bel HB)); have n8_ := Aside0.mk ((by rw [hg]; exact Nat.ne_of_lt (blk_lt (g := gb101) (o := .cells #[.int .i64 a0_0, .int .i64 a0_1, .slice A0_2 l0_2.length c0_2] 30 (0, 0)) blc) : gb101 ≠ gb110)); have n9_ := Aside0.mk ((by rw [hg]; exact Nat.ne_of_gt (blk_lt (g := gb101) (o := .cells #[.int .i64 a0_0, .int .i64 a0_1, .slice A0_2 l0_2.length c0_2] 30 (0, 0)) blc) : gb110 ≠ gb101)); have n10_ := Aside0.mk ((by rw [hg]; exact Nat.ne_of_lt (blk_lt (g := gb102) (o := .cells #[.slice none 0 0, .slice none 0 0] 46 (0, 0)) blc) : gb102 ≠ gb110)); have n11_ := Aside0.mk ((by rw [hg]; exact Nat.ne_of_gt (blk_lt (g := gb102) (o := .cells #[.slice none 0 0, .slice none 0 0] 46 (0, 0)) blc) : gb110 ≠ gb102)); clear HO106; clear HO109; clear BK101; clear BK102; clear HB; have HO106 := n0_; have HO109 := n1_; have BK101 := n2_; have BK102 := n3_; have HB := n4_; have BK110 := n5_; have GW110 := n6_; have GE110 := n7_; have NB101_110 := n8_; have NB110_101 := n9_; have NB102_110 := n10_; have NB110_102 := n11_; clear n0_ n1_ n2_ n3_ n4_ n5_ n6_ n7_ n8_ n9_ n10_ n11_; clear hb hbox hg; have hnb16 := NB110_101.out; have hnc16 := NB101_110.out; have hnb17 := NB110_102.out; have hnc17 := NB102_110.out; have hcz18_0 : w15.cell? ⟨gb110, 0, none⟩ = some (.slice none 0 0) := (blk_cell BK110.out 0).trans rfl; have hcz18_1 : w15.cell? ⟨gb110, 1, none⟩ = some (.slice none 0 0) := (blk_cell BK110.out 1).trans rfl; have hfz18_0 := blk_frozen BK110.out 0; have hfz18_1 := blk_frozen BK110.out 1))
 go_loopg [6] k (fun kq v6 w' => ∃ (x6_1 : Int) (x111000_1 : List ByteArray) (x111001_1 : List ByteArray) (u111000 : Value) (u111001 : Value), v6 = .int .i64 x6_1 ∧ Aside0 (spec_skSearch.l0 kq a1 x6_1 x111000_1 x111001_1 = some (r1, r2)) ∧ Aside0 (kq ≤ k) ∧ Aside0 (Kd.R Kd.string 9 w' w.heap.size (fun k_ => some k_ ≠ (u111001 : Value).ownBlock) u111000 x111000_1) ∧ Aside0 (Kd.R Kd.string 9 w' w.heap.size (fun k_ => some k_ ≠ (u111000 : Value).ownBlock) u111001 x111001_1) ∧ Aside0 (w'.heap[gb101]? = some (.cells #[.int .i64 a0_0, .int .i64 a0_1, (.slice A0_2 l0_2.length c0_2)] 30 (0, 0))) ∧ Aside0 (w'.heap[gb102]? = some (.cells #[(.slice none 0 0), (.slice none 0 0)] 46 (0, 0))) ∧ Aside0 (w'.heap[gb110]? = some (.cells #[u111000, u111001] 46 (0, 0))) ∧ Aside0 (Below w.heap.size w w'))
 case atStart => exact ⟨(0), (y104), (y107), (.slice Ao14 y104.length co14), (.slice Ao13 y107.length co13), (by first | rfl | (simp; done) | (simp [*]; done)), H', ⟨Nat.le_refl _⟩, ⟨by (with_reducible repeat (first | apply Kd.R_alloc | apply Kd.R_drewN | apply Kd.R_drew)); exact Kd.R_mono (Kd.R_far (p := ⟨gb110, 1, none⟩) (Kd.R_far (p := ⟨gb110, 0, none⟩) (Kd.R_types HO106.out BK110.out (by decide)) (fun _ hk => hk.2) (.slice Ao14 y104.length co14)) (fun _ hk => hk.2) (.slice Ao13 y107.length co13)) (fun _ hk => hk.1.2)⟩, ⟨by (with_reducible repeat (first | apply Kd.R_alloc | apply Kd.R_drewN | apply Kd.R_drew)); exact Kd.R_mono (Kd.R_far (p := ⟨gb110, 1, none⟩) (Kd.R_far (p := ⟨gb110, 0, none⟩) (Kd.R_types HO109.out BK110.out (by decide)) (fun _ hk => hk.2) (.slice Ao14 y104.length co14)) (fun _ hk => hk.2) (.slice Ao13 y107.length co13)) (fun _ hk => hk.1.2)⟩, ⟨by (with_reducible repeat (first | refine blk_drewN ?_ _ | refine blk_drew ?_ | refine blk_alloc ?_ _)); refine blk_far ?_ NB101_110.out _; (with_reducible repeat (first | refine blk_drewN ?_ _ | refine blk_drew ?_ | refine blk_alloc ?_ _)); refine blk_far ?_ NB101_110.out _; exact blc⟩, ⟨by (with_reducible repeat (first | refine blk_drewN ?_ _ | refine blk_drew ?_ | refine blk_alloc ?_ _)); refine blk_far ?_ NB102_110.out _; (with_reducible repeat (first | refine blk_drewN ?_ _ | refine blk_drew ?_ | refine blk_alloc ?_ _)); refine blk_far ?_ NB102_110.out _; exact blc⟩, ⟨by (with_reducible repeat (first | refine blk_drewN ?_ _ | refine blk_drew ?_ | refine blk_alloc ?_ _)); refine blk_put (cs := #[.slice Ao14 y104.length co14, .slice none 0 0]) ?_ 1 _ rfl; (with_reducible repeat (first | refine blk_drewN ?_ _ | refine blk_drew ?_ | refine blk_alloc ?_ _)); refine blk_put (cs := #[.slice none 0 0, .slice none 0 0]) ?_ 0 _ rfl; exact blc⟩, ⟨bel HB⟩⟩
 case round =>
  clear H'
  try clear c1
  try clear c2
  try clear p2
  try clear c3
  try clear c6
  try clear c16
  try clear c17
  try clear hcz18_0
  try clear hcz18_1
  try clear hcz7_0
  try clear hcz7_1
  try clear hcz7_2
  try clear hfz18_0
  try clear hfz18_1
  try clear hfz7_0
  try clear hfz7_1
  try clear hfz7_2
  obtain ⟨x6_1, x111000_1, x111001_1, u111000, u111001, rfl, HA, HK1, HO_111000, HO_111001, BK101, BK102, BK110, HB⟩ := hrel
  cases gk with
  | zero => exact absurd HA.out (by simp [spec_skSearch.l0])
  | succ k1 =>
   have H := HA.out;clear HA
   simp only [spec_skSearch.l0] at H
   by_cases c19 : x6_1 < (x111000_1.length : Int)
   ·rw [if_pos c19] at H
    have c19b0 : decide (x6_1 < (x111000_1.length : Int)) = true := decide_eq_true c19;clear c19
    by_cases c20 : 0 ≤ x6_1
    ·rw [if_pos c20] at H
     have c20b0 : decide (0 ≤ x6_1) = true := decide_eq_true c20;clear c20
     by_cases c21 : x6_1 < (x111001_1.length : Int)
     ·rw [if_pos c21] at H
      have c21b0 : decide (x6_1 < (x111001_1.length : Int)) = true := decide_eq_true c21;clear c21
      by_cases c22 : ((rdOf ByteArray.empty x111001_1 x6_1).size : Int) = a1
      ·rw [if_pos c22] at H
       have c22b0 : (((rdOf ByteArray.empty x111001_1 x6_1).size : Int) == a1) = true := beq_iff_eq.mpr c22;have c22b1 : (((rdOf ByteArray.empty x111001_1 x6_1).size : Int) != a1) = false := bne_eq_false_iff_eq.mpr c22;clear c22
       simp only [Option.some.injEq, Prod.mk.injEq] at H
       obtain ⟨rfl, rfl⟩ := H;have hnb23 := NB110_101.out;have hnc23 := NB101_110.out;have hnb24 := NB110_102.out;have hnc24 := NB102_110.out;have hcz25_0 : wr.cell? ⟨gb110, 0, none⟩ = some (u111000) := (blk_cell BK110.out 0).trans rfl;have hcz25_1 : wr.cell? ⟨gb110, 1, none⟩ = some (u111001) := (blk_cell BK110.out 1).trans rfl;have hfz25_0 := blk_frozen BK110.out 0;have hfz25_1 := blk_frozen BK110.out 1;obtain ⟨Ao26, co26, eo26⟩ := Kd.R_slice HO_111000.out;subst eo26;obtain ⟨Ao27, co27, eo27⟩ := Kd.R_slice HO_111001.out;subst eo27;have p111 : 0 ≤ (x6_1 : Int) := of_decide_eq_true (by first | (with_reducible assumption) | assumption);have q111 : x6_1 < (x111001_1.length : Int) := of_decide_eq_true (by first | (with_reducible assumption) | assumption);obtain ⟨ad111, e111, hx111_0⟩ := Kd.at_string (Kd.R_reads' HO_111001.out).2.2 x6_1 p111 q111
       cases e111
       replace p111 := eq_true p111;replace q111 := eq_true q111;have hnb28 := NB102_101.out;have hnc28 := NB101_102.out;have hcz29_0 : wr.cell? ⟨gb102, 0, none⟩ = some (.slice none 0 0) := (blk_cell BK102.out 0).trans rfl;have hcz29_1 : wr.cell? ⟨gb102, 1, none⟩ = some (.slice none 0 0) := (blk_cell BK102.out 1).trans rfl;have hfz29_0 := blk_frozen BK102.out 0;have hfz29_1 := blk_frozen BK102.out 1
       go_wp2
       refine bodyPost_ret (results_cell_row rfl _ _ gb102 46 #[.slice Ao26 x111000_1.length co26, .slice (some ad111) x111001_1.length co27] (0, 0) _ rfl (by (with_reducible repeat (first | refine blk_drewN ?_ _ | refine blk_drew ?_ | refine blk_alloc ?_ _)); refine blk_put (cs := #[.slice Ao26 x111000_1.length co26, .slice none 0 0]) ?_ 1 _ rfl; (with_reducible repeat (first | refine blk_drewN ?_ _ | refine blk_drew ?_ | refine blk_alloc ?_ _)); refine blk_put (cs := #[.slice none 0 0, .slice none 0 0]) ?_ 0 _ rfl; exact blc) Tryd.underlying46 rfl (by kernel_rfl)) rfl ?_
       exact ⟨_, _, by first | rfl | (simp [errW_none, errW_some] <;> rfl) | (simp [*, errW_none, errW_some] <;> rfl), by (with_reducible repeat (first | apply Kd.R_alloc | apply Kd.R_drewN | apply Kd.R_drew)); exact Kd.R_mono (Kd.R_far (p := ⟨gb102, 1, none⟩) (Kd.R_far (p := ⟨gb102, 0, none⟩) (Kd.R_types HO_111000.out BK102.out (by decide)) (fun _ hk => hk.2) (.slice Ao26 x111000_1.length co26)) (fun _ hk => hk.2) (.slice (some ad111) x111001_1.length co27)) (fun _ hk => hk.1), by (with_reducible repeat (first | apply Kd.R_alloc | apply Kd.R_drewN | apply Kd.R_drew)); exact Kd.R_mono (Kd.R_far (p := ⟨gb102, 1, none⟩) (Kd.R_far (p := ⟨gb102, 0, none⟩) (Kd.R_types HO_111001.out BK102.out (by decide)) (fun _ hk => hk.2) (.slice Ao26 x111000_1.length co26)) (fun _ hk => hk.2) (.slice (some ad111) x111001_1.length co27)) (fun _ hk => hk.1), bel HB⟩
      ·rw [if_neg c22] at H
       have c22b0 : (((rdOf ByteArray.empty x111001_1 x6_1).size : Int) == a1) = false := beq_eq_false_iff_ne.mpr c22;have c22b1 : (((rdOf ByteArray.empty x111001_1 x6_1).size : Int) != a1) = true := bne_iff_ne.mpr c22;replace H := Option.bind_eq_some_iff.mp H;obtain ⟨⟨t113, t114, t115, t118⟩, A300, H⟩ := H;replace H : (spec_skSearch.l1 k1 a1 x6_1 0 x111000_1 x111001_1 t113 t114 t115) = some (r1, r2) := H;have A30 := Aside0.mk A300;clear A300;have H' := Aside0.mk H;clear H;have hnb31 := NB110_101.out;have hnc31 := NB101_110.out;have hnb32 := NB110_102.out;have hnc32 := NB102_110.out;have hcz33_0 : wr.cell? ⟨gb110, 0, none⟩ = some (u111000) := (blk_cell BK110.out 0).trans rfl;have hcz33_1 : wr.cell? ⟨gb110, 1, none⟩ = some (u111001) := (blk_cell BK110.out 1).trans rfl;have hfz33_0 := blk_frozen BK110.out 0;have hfz33_1 := blk_frozen BK110.out 1;obtain ⟨Ao34, co34, eo34⟩ := Kd.R_slice HO_111000.out;subst eo34;obtain ⟨Ao35, co35, eo35⟩ := Kd.R_slice HO_111001.out;subst eo35;have p111 : 0 ≤ (x6_1 : Int) := of_decide_eq_true (by first | (with_reducible assumption) | assumption);have q111 : x6_1 < (x111001_1.length : Int) := of_decide_eq_true (by first | (with_reducible assumption) | assumption);obtain ⟨ad111, e111, hx111_0⟩ := Kd.at_string (Kd.R_reads' HO_111001.out).2.2 x6_1 p111 q111
       cases e111
       replace p111 := eq_true p111;replace q111 := eq_true q111;have p112 : 0 ≤ (x6_1 : Int) := of_decide_eq_true (by first | (with_reducible assumption) | assumption);have q112 : x6_1 < (x111000_1.length : Int) := of_decide_eq_true (by first | (with_reducible assumption) | assumption);obtain ⟨ad112, e112, hx112_0⟩ := Kd.at_string (Kd.R_reads' HO_111000.out).2.2 x6_1 p112 q112
       cases e112
       replace p112 := eq_true p112;replace q112 := eq_true q112
       go_wp2_with (first | ((with_reducible refine gate_callee (f := 9) rfl ?_); refine gcall (some 42) Tryd.func9 #[.string (rdOf ByteArray.empty x111000_1 x6_1)] rfl ?_; (with_reducible refine (spec_tyRead.calls k1 (rdOf ByteArray.empty x111000_1 x6_1) t113 t114 t115 t118 _ A30.out).mono ?_); rintro e w36 ⟨v116, rfl, ho0, hb⟩; refine ⟨_, rfl, ?_⟩; have n0_ := Aside0.mk (Kd.R_below (rch HO_111000) hb); have n1_ := Aside0.mk (Kd.R_below (rch HO_111001) hb); have n2_ := Aside0.mk (Kd.R_lower ho0 (below_size (bel HB))); have n3_ := Aside0.mk (blk_below (g := gb101) (o := .cells #[.int .i64 a0_0, .int .i64 a0_1, .slice A0_2 l0_2.length c0_2] 30 (0, 0)) blc hb); have n4_ := Aside0.mk (blk_below (g := gb102) (o := .cells #[.slice none 0 0, .slice none 0 0] 46 (0, 0)) blc hb); have n5_ := Aside0.mk (blk_below (g := gb110) (o := .cells #[.slice (some ad112) x111000_1.length co34, .slice (some ad111) x111001_1.length co35] 46 (0, 0)) blc hb); have n6_ := Aside0.mk (below_step (bel HB) hb); clear HO_111000; clear HO_111001; clear BK101; clear BK102; clear BK110; clear HB; have HO_111000 := n0_; have HO_111001 := n1_; have HO117 := n2_; have BK101 := n3_; have BK102 := n4_; have BK110 := n5_; have HB := n6_; clear n0_ n1_ n2_ n3_ n4_ n5_ n6_; (try clear hb); (try clear hb2); (try clear hk); (try clear hi); (try clear ho0)) | ((with_reducible refine gate_dst (N := 7) rfl ?_); refine boxE (N := 7) (cs := #[.int .i64 0, .int .i64 0, .slice none 0 0]) (t := 30) ?_; intro gb119 hg w37 hbox hb; have n0_ := Aside0.mk (Kd.R_below (rch HO_111000) hb); have n1_ := Aside0.mk (Kd.R_below (rch HO_111001) hb); have n2_ := Aside0.mk (Kd.R_below (rch HO117) hb); have n3_ := Aside0.mk (blk_below (g := gb101) (o := .cells #[.int .i64 a0_0, .int .i64 a0_1, .slice A0_2 l0_2.length c0_2] 30 (0, 0)) blc hb); have n4_ := Aside0.mk (blk_below (g := gb102) (o := .cells #[.slice none 0 0, .slice none 0 0] 46 (0, 0)) blc hb); have n5_ := Aside0.mk (blk_below (g := gb110) (o := .cells #[.slice (some ad112) x111000_1.length co34, .slice (some ad111) x111001_1.length co35] 46 (0, 0)) blc hb); have n6_ := Aside0.mk (below_step (bel HB) hb); have n7_ := Aside0.mk (hbox); have n8_ := Aside0.mk (gsz hg (bel HB)); have n9_ := Aside0.mk (gsz hg (bel HB)); have n10_ := Aside0.mk ((by rw [hg]; exact Nat.ne_of_lt (blk_lt (g := gb101) (o := .cells #[.int .i64 a0_0, .int .i64 a0_1, .slice A0_2 l0_2.length c0_2] 30 (0, 0)) blc) : gb101 ≠ gb119)); have n11_ := Aside0.mk ((by rw [hg]; exact Nat.ne_of_gt (blk_lt (g := gb101) (o := .cells #[.int .i64 a0_0, .int .i64 a0_1, .slice A0_2 l0_2.length c0_2] 30 (0, 0)) blc) : gb119 ≠ gb101)); have n12_ := Aside0.mk ((by rw [hg]; exact Nat.ne_of_lt (blk_lt (g := gb102) (o := .cells #[.slice none 0 0, .slice none 0 0] 46 (0, 0)) blc) : gb102 ≠ gb119)); have n13_ := Aside0.mk ((by rw [hg]; exact Nat.ne_of_gt (blk_lt (g := gb102) (o := .cells #[.slice none 0 0, .slice none 0 0] 46 (0, 0)) blc) : gb119 ≠ gb102)); have n14_ := Aside0.mk ((by rw [hg]; exact Nat.ne_of_lt (blk_lt (g := gb110) (o := .cells #[.slice (some ad112) x111000_1.length co34, .slice (some ad111) x111001_1.length co35] 46 (0, 0)) blc) : gb110 ≠ gb119)); have n15_ := Aside0.mk ((by rw [hg]; exact Nat.ne_of_gt (blk_lt (g := gb110) (o := .cells #[.slice (some ad112) x111000_1.length co34, .slice (some ad111) x111001_1.length co35] 46 (0, 0)) blc) : gb119 ≠ gb110)); clear HO_111000; clear HO_111001; clear HO117; clear BK101; clear BK102; clear BK110; clear HB; have HO_111000 := n0_; have HO_111001 := n1_; have HO117 := n2_; have BK101 := n3_; have BK102 := n4_; have BK110 := n5_; have HB := n6_; have BK119 := n7_; have GW119 := n8_; have GE119 := n9_; have NB101_119 := n10_; have NB119_101 := n11_; have NB102_119 := n12_; have NB119_102 := n13_; have NB110_119 := n14_; have NB119_110 := n15_; clear n0_ n1_ n2_ n3_ n4_ n5_ n6_ n7_ n8_ n9_ n10_ n11_ n12_ n13_ n14_ n15_; clear hb hbox hg; have hnb38 := NB119_101.out; have hnc38 := NB101_119.out; have hnb39 := NB119_102.out; have hnc39 := NB102_119.out; have hnb40 := NB119_110.out; have hnc40 := NB110_119.out; have hcz41_0 : w37.cell? ⟨gb119, 0, none⟩ = some (.int .i64 0) := (blk_cell BK119.out 0).trans rfl; have hcz41_1 : w37.cell? ⟨gb119, 1, none⟩ = some (.int .i64 0) := (blk_cell BK119.out 1).trans rfl; have hcz41_2 : w37.cell? ⟨gb119, 2, none⟩ = some (.slice none 0 0) := (blk_cell BK119.out 2).trans rfl; have hfz41_0 := blk_frozen BK119.out 0; have hfz41_1 := blk_frozen BK119.out 1; have hfz41_2 := blk_frozen BK119.out 2; obtain ⟨Ao42, co42, eo42⟩ := Kd.R_slice HO117.out; subst eo42))
       go_loopg [9] k1 (fun kq v9 w' => ∃ (x9_2 : Int) (x111000_2 : List ByteArray) (x111001_2 : List ByteArray) (u111000 : Value) (u111001 : Value), v9 = .int .i64 x9_2 ∧ Aside0 (spec_skSearch.l1 kq a1 x6_1 x9_2 x111000_2 x111001_2 t113 t114 t115 = some (r1, r2)) ∧ Aside0 (kq ≤ k1) ∧ Aside0 (Kd.R Kd.string 9 w' w.heap.size (fun k_ => some k_ ≠ (u111001 : Value).ownBlock) u111000 x111000_2) ∧ Aside0 (Kd.R Kd.string 9 w' w.heap.size (fun k_ => some k_ ≠ (u111000 : Value).ownBlock) u111001 x111001_2) ∧ Aside0 (Kd.R (Kd.int .u8) 5 w' w.heap.size (fun _ => True) (.slice Ao42 t115.length co42) t115) ∧ Aside0 (w'.heap[gb101]? = some (.cells #[.int .i64 a0_0, .int .i64 a0_1, (.slice A0_2 l0_2.length c0_2)] 30 (0, 0))) ∧ Aside0 (w'.heap[gb102]? = some (.cells #[(.slice none 0 0), (.slice none 0 0)] 46 (0, 0))) ∧ Aside0 (w'.heap[gb110]? = some (.cells #[u111000, u111001] 46 (0, 0))) ∧ Aside0 (w'.heap[gb119]? = some (.cells #[.int .i64 t113, .int .i64 t114, (.slice Ao42 t115.length co42)] 30 (0, 0))) ∧ Aside0 (Below w.heap.size w w'))
       case atStart => exact ⟨(0), (x111000_1), (x111001_1), (.slice (some ad112) x111000_1.length co34), (.slice (some ad111) x111001_1.length co35), (by first | rfl | (simp; done) | (simp [*]; done)), H', ⟨Nat.le_refl _⟩, ⟨by (with_reducible repeat (first | apply Kd.R_alloc | apply Kd.R_drewN | apply Kd.R_drew)); exact Kd.R_mono (Kd.R_far (p := ⟨gb119, 2, none⟩) (Kd.R_far (p := ⟨gb119, 1, none⟩) (Kd.R_far (p := ⟨gb119, 0, none⟩) (Kd.R_types HO_111000.out BK119.out (by decide)) (fun _ hk => hk.2) (.int .i64 t113)) (fun _ hk => hk.2) (.int .i64 t114)) (fun _ hk => hk.2) (.slice Ao42 t115.length co42)) (fun _ hk => hk.1)⟩, ⟨by (with_reducible repeat (first | apply Kd.R_alloc | apply Kd.R_drewN | apply Kd.R_drew)); exact Kd.R_mono (Kd.R_far (p := ⟨gb119, 2, none⟩) (Kd.R_far (p := ⟨gb119, 1, none⟩) (Kd.R_far (p := ⟨gb119, 0, none⟩) (Kd.R_types HO_111001.out BK119.out (by decide)) (fun _ hk => hk.2) (.int .i64 t113)) (fun _ hk => hk.2) (.int .i64 t114)) (fun _ hk => hk.2) (.slice Ao42 t115.length co42)) (fun _ hk => hk.1)⟩, ⟨by (with_reducible repeat (first | apply Kd.R_alloc | apply Kd.R_drewN | apply Kd.R_drew)); exact Kd.R_mono (Kd.R_far (p := ⟨gb119, 2, none⟩) (Kd.R_far (p := ⟨gb119, 1, none⟩) (Kd.R_far (p := ⟨gb119, 0, none⟩) (Kd.R_types HO117.out BK119.out (by decide)) (fun _ hk => hk.2) (.int .i64 t113)) (fun _ hk => hk.2) (.int .i64 t114)) (fun _ hk => hk.2) (.slice Ao42 t115.length co42)) (fun _ hk => trivial)⟩, ⟨by (with_reducible repeat (first | refine blk_drewN ?_ _ | refine blk_drew ?_ | refine blk_alloc ?_ _)); refine blk_far ?_ NB101_119.out _; (with_reducible repeat (first | refine blk_drewN ?_ _ | refine blk_drew ?_ | refine blk_alloc ?_ _)); refine blk_far ?_ NB101_119.out _; (with_reducible repeat (first | refine blk_drewN ?_ _ | refine blk_drew ?_ | refine blk_alloc ?_ _)); refine blk_far ?_ NB101_119.out _; exact blc⟩, ⟨by (with_reducible repeat (first | refine blk_drewN ?_ _ | refine blk_drew ?_ | refine blk_alloc ?_ _)); refine blk_far ?_ NB102_119.out _; (with_reducible repeat (first | refine blk_drewN ?_ _ | refine blk_drew ?_ | refine blk_alloc ?_ _)); refine blk_far ?_ NB102_119.out _; (with_reducible repeat (first | refine blk_drewN ?_ _ | refine blk_drew ?_ | refine blk_alloc ?_ _)); refine blk_far ?_ NB102_119.out _; exact blc⟩, ⟨by (with_reducible repeat (first | refine blk_drewN ?_ _ | refine blk_drew ?_ | refine blk_alloc ?_ _)); refine blk_far ?_ NB110_119.out _; (with_reducible repeat (first | refine blk_drewN ?_ _ | refine blk_drew ?_ | refine blk_alloc ?_ _)); refine blk_far ?_ NB110_119.out _; (with_reducible repeat (first | refine blk_drewN ?_ _ | refine blk_drew ?_ | refine blk_alloc ?_ _)); refine blk_far ?_ NB110_119.out _; exact blc⟩, ⟨by (with_reducible repeat (first | refine blk_drewN ?_ _ | refine blk_drew ?_ | refine blk_alloc ?_ _)); refine blk_put (cs := #[.int .i64 t113, .int .i64 t114, .slice none 0 0]) ?_ 2 _ rfl; (with_reducible repeat (first | refine blk_drewN ?_ _ | refine blk_drew ?_ | refine blk_alloc ?_ _)); refine blk_put (cs := #[.int .i64 t113, .int .i64 0, .slice none 0 0]) ?_ 1 _ rfl; (with_reducible repeat (first | refine blk_drewN ?_ _ | refine blk_drew ?_ | refine blk_alloc ?_ _)); refine blk_put (cs := #[.int .i64 0, .int .i64 0, .slice none 0 0]) ?_ 0 _ rfl; exact blc⟩, ⟨bel HB⟩⟩
       case round =>
        clear H'
        try clear c1
        try clear p1
        try clear q1
        try clear hx1
        try clear c2
        try clear p2
        try clear c3
        try clear c4
        try clear c6
        try clear c9
        try clear p11
        try clear q11
        try clear hx11
        try clear c16
        try clear c17
        try clear c19
        try clear c19b0
        try clear c19b0y
        try clear c20
        try clear c20b0
        try clear c20b0y
        try clear c21
        try clear c21b0
        try clear c21b0y
        try clear c22
        try clear c22b0
        try clear c22b0y
        try clear c22b1
        try clear c23
        try clear c24
        try clear c28
        try clear c31
        try clear c32
        try clear c36
        try clear c38
        try clear c39
        try clear c40
        try clear hcz18_0
        try clear hcz18_1
        try clear hcz25_0
        try clear hcz25_1
        try clear hcz29_0
        try clear hcz29_1
        try clear hcz33_0
        try clear hcz33_1
        try clear hcz41_0
        try clear hcz41_1
        try clear hcz41_2
        try clear hcz7_0
        try clear hcz7_1
        try clear hcz7_2
        try clear hfz18_0
        try clear hfz18_1
        try clear hfz25_0
        try clear hfz25_1
        try clear hfz29_0
        try clear hfz29_1
        try clear hfz33_0
        try clear hfz33_1
        try clear hfz41_0
        try clear hfz41_1
        try clear hfz41_2
        try clear hfz7_0
        try clear hfz7_1
        try clear hfz7_2
        try clear hx111_0
        try clear hx112_0
        try clear p111
        try clear p112
        try clear p2
        try clear q111
        try clear q112
        obtain ⟨x9_2, x111000_2, x111001_2, u111000, u111001, rfl, HA, HK2, HO_111000, HO_111001, HO_120002, BK101, BK102, BK110, BK119, HB⟩ := hrel
        cases gk with
        | zero => exact absurd HA.out (by simp [spec_skSearch.l1])
        | succ k2 =>
         have H := HA.out;clear HA
         simp only [spec_skSearch.l1] at H
         by_cases c43 : x9_2 < 4
         ·rw [if_pos c43] at H
          have c43b0 : decide (x9_2 < 4) = true := decide_eq_true c43;clear c43;replace H := Option.bind_eq_some_iff.mp H;obtain ⟨⟨t120, t121, t122, t125⟩, A440, H⟩ := H;replace H : ((spec_tyText.f k2 t120 t121 t122).bind fun t129 => (spec_skSearch.l2 k2 a1 x6_1 x9_2 t129 false x111000_2 (x111000_2.length : Int) 0 x111000_2 x111001_2 t113 t114 t115)) = some (r1, r2) := H;have A44 := Aside0.mk A440;clear A440;replace H := Option.bind_eq_some_iff.mp H;obtain ⟨t129, A450, H⟩ := H;replace H : (spec_skSearch.l2 k2 a1 x6_1 x9_2 t129 false x111000_2 (x111000_2.length : Int) 0 x111000_2 x111001_2 t113 t114 t115) = some (r1, r2) := H;have A45 := Aside0.mk A450;clear A450;have H' := Aside0.mk H;clear H;have hnb46 := NB119_101.out;have hnc46 := NB101_119.out;have hnb47 := NB119_102.out;have hnc47 := NB102_119.out;have hnb48 := NB119_110.out;have hnc48 := NB110_119.out;have hcz49_0 : wr.cell? ⟨gb119, 0, none⟩ = some (.int .i64 t113) := (blk_cell BK119.out 0).trans rfl;have hcz49_1 : wr.cell? ⟨gb119, 1, none⟩ = some (.int .i64 t114) := (blk_cell BK119.out 1).trans rfl;have hcz49_2 : wr.cell? ⟨gb119, 2, none⟩ = some (.slice Ao42 t115.length co42) := (blk_cell BK119.out 2).trans rfl;have hfz49_0 := blk_frozen BK119.out 0;have hfz49_1 := blk_frozen BK119.out 1;have hfz49_2 := blk_frozen BK119.out 2
          go_wp2_with (first | ((with_reducible refine gate_callee (f := 27) rfl ?_); refine gcall (some 52) Tryd.func27 #[.agg #[.int .i64 t113, .int .i64 t114, .slice Ao42 t115.length co42], .int .i64 x9_2] rfl ?_; (with_reducible refine (spec_skTilt.calls k2 t113 t114 (fun k_ => some k_ = (.slice Ao42 t115.length co42 : Value).ownBlock) _ _ t115 x9_2 t120 t121 t122 t125 _ ?side1 A44.out).mono ?_); (case side1 => exact Kd.R_V (Kd.R_tight rfl (Kd.R_types (Kd.R_types (Kd.R_types (Kd.R_types (Kd.R_apart' (Kd.R_apart' (HO_120002.out) (Kd.R_typed HO_111000.out) (by decide)) (Kd.R_typed HO_111001.out) (by decide)) BK101.out (by decide)) BK102.out (by decide)) BK110.out (by decide)) BK119.out (by decide)))); rintro e w50 ⟨v123, v126, rfl, ho0, ho1, hb⟩; refine ⟨_, rfl, ?_⟩; have n0_ := Aside0.mk (Kd.R_below (rch HO_111000) hb); have n1_ := Aside0.mk (Kd.R_below (rch HO_111001) hb); have n2_ := Aside0.mk (Kd.R_below (rch HO_120002) hb); have n3_ := Aside0.mk (Kd.V_lower (Kd.V_mono (ok' := fun k_ => some k_ ≠ (v126 : Value).ownBlock ∧ some k_ ≠ (u111000 : Value).ownBlock ∧ some k_ ≠ (u111001 : Value).ownBlock ∧ k_ ≠ gb101 ∧ k_ ≠ gb102 ∧ k_ ≠ gb110 ∧ k_ ≠ gb119) ho0 (fun k_ hk_ => ⟨hk_.2, Or.elim hk_.1 (fun hs_ => ((Kd.R_types (Kd.R_types (Kd.R_types (Kd.R_types (Kd.R_apart' (Kd.R_apart' (HO_120002.out) (Kd.R_typed HO_111000.out) (by decide)) (Kd.R_typed HO_111001.out) (by decide)) BK101.out (by decide)) BK102.out (by decide)) BK110.out (by decide)) BK119.out (by decide)).1 k_ hs_.symm).1.1.1.1.1.2) (fun hn_ => (Kd.fresh' (Kd.R_lt (rch HO_111000)) k_ hn_)), Or.elim hk_.1 (fun hs_ => ((Kd.R_types (Kd.R_types (Kd.R_types (Kd.R_types (Kd.R_apart' (Kd.R_apart' (HO_120002.out) (Kd.R_typed HO_111000.out) (by decide)) (Kd.R_typed HO_111001.out) (by decide)) BK101.out (by decide)) BK102.out (by decide)) BK110.out (by decide)) BK119.out (by decide)).1 k_ hs_.symm).1.1.1.1.2) (fun hn_ => (Kd.fresh' (Kd.R_lt (rch HO_111001)) k_ hn_)), Or.elim hk_.1 (fun hs_ => ((Kd.R_types (Kd.R_types (Kd.R_types (Kd.R_types (Kd.R_apart' (Kd.R_apart' (HO_120002.out) (Kd.R_typed HO_111000.out) (by decide)) (Kd.R_typed HO_111001.out) (by decide)) BK101.out (by decide)) BK102.out (by decide)) BK110.out (by decide)) BK119.out (by decide)).1 k_ hs_.symm).1.1.1.2) (fun hn_ => (Kd.freshB (g := gb101) (o := .cells #[.int .i64 a0_0, .int .i64 a0_1, .slice A0_2 l0_2.length c0_2] 30 (0, 0)) blc k_ hn_)), Or.elim hk_.1 (fun hs_ => ((Kd.R_types (Kd.R_types (Kd.R_types (Kd.R_types (Kd.R_apart' (Kd.R_apart' (HO_120002.out) (Kd.R_typed HO_111000.out) (by decide)) (Kd.R_typed HO_111001.out) (by decide)) BK101.out (by decide)) BK102.out (by decide)) BK110.out (by decide)) BK119.out (by decide)).1 k_ hs_.symm).1.1.2) (fun hn_ => (Kd.freshB (g := gb102) (o := .cells #[.slice none 0 0, .slice none 0 0] 46 (0, 0)) blc k_ hn_)), Or.elim hk_.1 (fun hs_ => ((Kd.R_types (Kd.R_types (Kd.R_types (Kd.R_types (Kd.R_apart' (Kd.R_apart' (HO_120002.out) (Kd.R_typed HO_111000.out) (by decide)) (Kd.R_typed HO_111001.out) (by decide)) BK101.out (by decide)) BK102.out (by decide)) BK110.out (by decide)) BK119.out (by decide)).1 k_ hs_.symm).1.2) (fun hn_ => (Kd.freshB (g := gb110) (o := .cells #[u111000, u111001] 46 (0, 0)) blc k_ hn_)), Or.elim hk_.1 (fun hs_ => ((Kd.R_types (Kd.R_types (Kd.R_types (Kd.R_types (Kd.R_apart' (Kd.R_apart' (HO_120002.out) (Kd.R_typed HO_111000.out) (by decide)) (Kd.R_typed HO_111001.out) (by decide)) BK101.out (by decide)) BK102.out (by decide)) BK110.out (by decide)) BK119.out (by decide)).1 k_ hs_.symm).2) (fun hn_ => (Kd.freshB (g := gb119) (o := .cells #[.int .i64 t113, .int .i64 t114, .slice Ao42 t115.length co42] 30 (0, 0)) blc k_ hn_))⟩)) (below_size (bel HB))); have n4_ := Aside0.mk (Kd.R_lower (Kd.R_mono (ok' := fun k_ => True) ho1 (fun _ hk_ => trivial)) (below_size (bel HB))); have n5_ := Aside0.mk (blk_below (g := gb101) (o := .cells #[.int .i64 a0_0, .int .i64 a0_1, .slice A0_2 l0_2.length c0_2] 30 (0, 0)) blc hb); have n6_ := Aside0.mk (blk_below (g := gb102) (o := .cells #[.slice none 0 0, .slice none 0 0] 46 (0, 0)) blc hb); have n7_ := Aside0.mk (blk_below (g := gb110) (o := .cells #[u111000, u111001] 46 (0, 0)) blc hb); have n8_ := Aside0.mk (blk_below (g := gb119) (o := .cells #[.int .i64 t113, .int .i64 t114, .slice Ao42 t115.length co42] 30 (0, 0)) blc hb); have n9_ := Aside0.mk (below_step (bel HB) hb); clear HO_111000; clear HO_111001; clear HO_120002; clear BK101; clear BK102; clear BK110; clear BK119; clear HB; have HO_111000 := n0_; have HO_111001 := n1_; have HO_120002 := n2_; have HO124 := n3_; have HO127 := n4_; have BK101 := n5_; have BK102 := n6_; have BK110 := n7_; have BK119 := n8_; have HB := n9_; clear n0_ n1_ n2_ n3_ n4_ n5_ n6_ n7_ n8_ n9_; (try clear hb); (try clear hb2); (try clear hk); (try clear hi); (try clear ho0); (try clear ho1)) | ((with_reducible refine gate_dst (N := 10) rfl ?_); refine boxE (N := 10) (cs := #[.int .i64 0, .int .i64 0, .slice none 0 0]) (t := 30) ?_; intro gb128 hg w51 hbox hb; have n0_ := Aside0.mk (Kd.R_below (rch HO_111000) hb); have n1_ := Aside0.mk (Kd.R_below (rch HO_111001) hb); have n2_ := Aside0.mk (Kd.R_below (rch HO_120002) hb); have n3_ := Aside0.mk (Kd.V_below (Kd.V_elderB (by (with_reducible repeat (first | apply Kd.V_alloc | apply Kd.V_drewN | apply Kd.V_drew)); (first | exact HO124.out | exact R_any HO124.out)) gb128 (Nat.le_of_eq hg.symm)) hb); have n4_ := Aside0.mk (Kd.R_below (rch HO127) hb); have n5_ := Aside0.mk (blk_below (g := gb101) (o := .cells #[.int .i64 a0_0, .int .i64 a0_1, .slice A0_2 l0_2.length c0_2] 30 (0, 0)) blc hb); have n6_ := Aside0.mk (blk_below (g := gb102) (o := .cells #[.slice none 0 0, .slice none 0 0] 46 (0, 0)) blc hb); have n7_ := Aside0.mk (blk_below (g := gb110) (o := .cells #[u111000, u111001] 46 (0, 0)) blc hb); have n8_ := Aside0.mk (blk_below (g := gb119) (o := .cells #[.int .i64 t113, .int .i64 t114, .slice Ao42 t115.length co42] 30 (0, 0)) blc hb); have n9_ := Aside0.mk (below_step (bel HB) hb); have n10_ := Aside0.mk (hbox); have n11_ := Aside0.mk (gsz hg (bel HB)); have n12_ := Aside0.mk (gsz hg (bel HB)); have n13_ := Aside0.mk ((by rw [hg]; exact Nat.ne_of_lt (blk_lt (g := gb101) (o := .cells #[.int .i64 a0_0, .int .i64 a0_1, .slice A0_2 l0_2.length c0_2] 30 (0, 0)) blc) : gb101 ≠ gb128)); have n14_ := Aside0.mk ((by rw [hg]; exact Nat.ne_of_gt (blk_lt (g := gb101) (o := .cells #[.int .i64 a0_0, .int .i64 a0_1, .slice A0_2 l0_2.length c0_2] 30 (0, 0)) blc) : gb128 ≠ gb101)); have n15_ := Aside0.mk ((by rw [hg]; exact Nat.ne_of_lt (blk_lt (g := gb102) (o := .cells #[.slice none 0 0, .slice none 0 0] 46 (0, 0)) blc) : gb102 ≠ gb128)); have n16_ := Aside0.mk ((by rw [hg]; exact Nat.ne_of_gt (blk_lt (g := gb102) (o := .cells #[.slice none 0 0, .slice none 0 0] 46 (0, 0)) blc) : gb128 ≠ gb102)); have n17_ := Aside0.mk ((by rw [hg]; exact Nat.ne_of_lt (blk_lt (g := gb110) (o := .cells #[u111000, u111001] 46 (0, 0)) blc) : gb110 ≠ gb128)); have n18_ := Aside0.mk ((by rw [hg]; exact Nat.ne_of_gt (blk_lt (g := gb110) (o := .cells #[u111000, u111001] 46 (0, 0)) blc) : gb128 ≠ gb110)); have n19_ := Aside0.mk ((by rw [hg]; exact Nat.ne_of_lt (blk_lt (g := gb119) (o := .cells #[.int .i64 t113, .int .i64 t114, .slice Ao42 t115.length co42] 30 (0, 0)) blc) : gb119 ≠ gb128)); have n20_ := Aside0.mk ((by rw [hg]; exact Nat.ne_of_gt (blk_lt (g := gb119) (o := .cells #[.int .i64 t113, .int .i64 t114, .slice Ao42 t115.length co42] 30 (0, 0)) blc) : gb128 ≠ gb119)); clear HO_111000; clear HO_111001; clear HO_120002; clear HO124; clear HO127; clear BK101; clear BK102; clear BK110; clear BK119; clear HB; have HO_111000 := n0_; have HO_111001 := n1_; have HO_120002 := n2_; have HO124 := n3_; have HO127 := n4_; have BK101 := n5_; have BK102 := n6_; have BK110 := n7_; have BK119 := n8_; have HB := n9_; have BK128 := n10_; have GW128 := n11_; have GE128 := n12_; have NB101_128 := n13_; have NB128_101 := n14_; have NB102_128 := n15_; have NB128_102 := n16_; have NB110_128 := n17_; have NB128_110 := n18_; have NB119_128 := n19_; have NB128_119 := n20_; clear n0_ n1_ n2_ n3_ n4_ n5_ n6_ n7_ n8_ n9_ n10_ n11_ n12_ n13_ n14_ n15_ n16_ n17_ n18_ n19_ n20_; clear hb hbox hg; have hnb52 := NB128_101.out; have hnc52 := NB101_128.out; have hnb53 := NB128_102.out; have hnc53 := NB102_128.out; have hnb54 := NB128_110.out; have hnc54 := NB110_128.out; have hnb55 := NB128_119.out; have hnc55 := NB119_128.out; have hcz56_0 : w51.cell? ⟨gb128, 0, none⟩ = some (.int .i64 0) := (blk_cell BK128.out 0).trans rfl; have hcz56_1 : w51.cell? ⟨gb128, 1, none⟩ = some (.int .i64 0) := (blk_cell BK128.out 1).trans rfl; have hcz56_2 : w51.cell? ⟨gb128, 2, none⟩ = some (.slice none 0 0) := (blk_cell BK128.out 2).trans rfl; have hfz56_0 := blk_frozen BK128.out 0; have hfz56_1 := blk_frozen BK128.out 1; have hfz56_2 := blk_frozen BK128.out 2; obtain ⟨Ao57, co57, eo57⟩ := Kd.V_slice HO124.out; subst eo57) | ((with_reducible refine gate_callee (f := 36) rfl ?_); refine gcall (some 56) Tryd.func36 #[.agg #[.int .i64 t120, .int .i64 t121, .slice Ao57 t122.length co57]] rfl ?_; (with_reducible refine (spec_tyText.calls k2 t120 t121 _ _ t122 t129 _ ?side1 ?side2 A45.out).mono ?_); (case side1 => refine (Kd.V_reads' (e := 5) (base := w.heap.size) (ok := fun k_ => ((some k_ ≠ (v126 : Value).ownBlock ∧ (some k_ ≠ (u111000 : Value).ownBlock ∧ (some k_ ≠ (u111001 : Value).ownBlock ∧ (k_ ≠ gb101 ∧ (k_ ≠ gb102 ∧ (k_ ≠ gb110 ∧ k_ ≠ gb119)))))) ∧ k_ ≠ gb128)) (n := t122.length) (c := co57) ?_).2.2; exact (by (with_reducible repeat (first | apply Kd.V_alloc | apply Kd.V_drewN | apply Kd.V_drew)); exact (Kd.V_mono (Kd.V_far (p := ⟨gb128, 2, none⟩) (Kd.V_far (p := ⟨gb128, 1, none⟩) (Kd.V_far (p := ⟨gb128, 0, none⟩) (Kd.V_mono HO124.out (fun k_ hk => (⟨hk, hk.2⟩ : _ ∧ k_ ≠ gb128))) (fun _ hk => hk.2) (.int .i64 t120)) (fun _ hk => hk.2) (.int .i64 t121)) (fun _ hk => hk.2) (.slice Ao57 t122.length co57)) (fun _ h_ => h_.1)))); (case side2 => exact (Kd.V_reads' HO124.out).2.1); rintro e w58 ⟨rfl, hb⟩; refine ⟨_, rfl, ?_⟩; have n0_ := Aside0.mk (Kd.R_below (by (with_reducible repeat (first | apply Kd.R_alloc | apply Kd.R_drewN | apply Kd.R_drew)); exact (Kd.R_mono (Kd.R_far (p := ⟨gb128, 2, none⟩) (Kd.R_far (p := ⟨gb128, 1, none⟩) (Kd.R_far (p := ⟨gb128, 0, none⟩) (Kd.R_types HO_111000.out BK128.out (by decide)) (fun _ hk => hk.2) (.int .i64 t120)) (fun _ hk => hk.2) (.int .i64 t121)) (fun _ hk => hk.2) (.slice Ao57 t122.length co57)) (fun _ h_ => h_.1))) hb); have n1_ := Aside0.mk (Kd.R_below (by (with_reducible repeat (first | apply Kd.R_alloc | apply Kd.R_drewN | apply Kd.R_drew)); exact (Kd.R_mono (Kd.R_far (p := ⟨gb128, 2, none⟩) (Kd.R_far (p := ⟨gb128, 1, none⟩) (Kd.R_far (p := ⟨gb128, 0, none⟩) (Kd.R_types HO_111001.out BK128.out (by decide)) (fun _ hk => hk.2) (.int .i64 t120)) (fun _ hk => hk.2) (.int .i64 t121)) (fun _ hk => hk.2) (.slice Ao57 t122.length co57)) (fun _ h_ => h_.1))) hb); have n2_ := Aside0.mk (Kd.R_below (by (with_reducible repeat (first | apply Kd.R_alloc | apply Kd.R_drewN | apply Kd.R_drew)); exact (Kd.R_mono (Kd.R_far (p := ⟨gb128, 2, none⟩) (Kd.R_far (p := ⟨gb128, 1, none⟩) (Kd.R_far (p := ⟨gb128, 0, none⟩) (Kd.R_types HO_120002.out BK128.out (by decide)) (fun _ hk => hk.2) (.int .i64 t120)) (fun _ hk => hk.2) (.int .i64 t121)) (fun _ hk => hk.2) (.slice Ao57 t122.length co57)) (fun _ h_ => h_.1))) hb); have n3_ := Aside0.mk (Kd.V_below (by (with_reducible repeat (first | apply Kd.V_alloc | apply Kd.V_drewN | apply Kd.V_drew)); exact (Kd.V_mono (Kd.V_far (p := ⟨gb128, 2, none⟩) (Kd.V_far (p := ⟨gb128, 1, none⟩) (Kd.V_far (p := ⟨gb128, 0, none⟩) (Kd.V_mono HO124.out (fun k_ hk => (⟨hk, hk.2⟩ : _ ∧ k_ ≠ gb128))) (fun _ hk => hk.2) (.int .i64 t120)) (fun _ hk => hk.2) (.int .i64 t121)) (fun _ hk => hk.2) (.slice Ao57 t122.length co57)) (fun _ h_ => h_.1))) hb); have n4_ := Aside0.mk (Kd.R_below (by (with_reducible repeat (first | apply Kd.R_alloc | apply Kd.R_drewN | apply Kd.R_drew)); exact (Kd.R_mono (Kd.R_far (p := ⟨gb128, 2, none⟩) (Kd.R_far (p := ⟨gb128, 1, none⟩) (Kd.R_far (p := ⟨gb128, 0, none⟩) (Kd.R_types HO127.out BK128.out (by decide)) (fun _ hk => hk.2) (.int .i64 t120)) (fun _ hk => hk.2) (.int .i64 t121)) (fun _ hk => hk.2) (.slice Ao57 t122.length co57)) (fun _ h_ => h_.1))) hb); have n5_ := Aside0.mk (blk_below (g := gb101) (o := .cells #[.int .i64 a0_0, .int .i64 a0_1, .slice A0_2 l0_2.length c0_2] 30 (0, 0)) (by (with_reducible repeat (first | refine blk_drewN ?_ _ | refine blk_drew ?_ | refine blk_alloc ?_ _)); refine blk_far ?_ NB101_128.out _; (with_reducible repeat (first | refine blk_drewN ?_ _ | refine blk_drew ?_ | refine blk_alloc ?_ _)); refine blk_far ?_ NB101_128.out _; (with_reducible repeat (first | refine blk_drewN ?_ _ | refine blk_drew ?_ | refine blk_alloc ?_ _)); refine blk_far ?_ NB101_128.out _; exact blc) hb); have n6_ := Aside0.mk (blk_below (g := gb102) (o := .cells #[.slice none 0 0, .slice none 0 0] 46 (0, 0)) (by (with_reducible repeat (first | refine blk_drewN ?_ _ | refine blk_drew ?_ | refine blk_alloc ?_ _)); refine blk_far ?_ NB102_128.out _; (with_reducible repeat (first | refine blk_drewN ?_ _ | refine blk_drew ?_ | refine blk_alloc ?_ _)); refine blk_far ?_ NB102_128.out _; (with_reducible repeat (first | refine blk_drewN ?_ _ | refine blk_drew ?_ | refine blk_alloc ?_ _)); refine blk_far ?_ NB102_128.out _; exact blc) hb); have n7_ := Aside0.mk (blk_below (g := gb110) (o := .cells #[u111000, u111001] 46 (0, 0)) (by (with_reducible repeat (first | refine blk_drewN ?_ _ | refine blk_drew ?_ | refine blk_alloc ?_ _)); refine blk_far ?_ NB110_128.out _; (with_reducible repeat (first | refine blk_drewN ?_ _ | refine blk_drew ?_ | refine blk_alloc ?_ _)); refine blk_far ?_ NB110_128.out _; (with_reducible repeat (first | refine blk_drewN ?_ _ | refine blk_drew ?_ | refine blk_alloc ?_ _)); refine blk_far ?_ NB110_128.out _; exact blc) hb); have n8_ := Aside0.mk (blk_below (g := gb119) (o := .cells #[.int .i64 t113, .int .i64 t114, .slice Ao42 t115.length co42] 30 (0, 0)) (by (with_reducible repeat (first | refine blk_drewN ?_ _ | refine blk_drew ?_ | refine blk_alloc ?_ _)); refine blk_far ?_ NB119_128.out _; (with_reducible repeat (first | refine blk_drewN ?_ _ | refine blk_drew ?_ | refine blk_alloc ?_ _)); refine blk_far ?_ NB119_128.out _; (with_reducible repeat (first | refine blk_drewN ?_ _ | refine blk_drew ?_ | refine blk_alloc ?_ _)); refine blk_far ?_ NB119_128.out _; exact blc) hb); have n9_ := Aside0.mk (blk_below (g := gb128) (o := .cells #[.int .i64 t120, .int .i64 t121, .slice Ao57 t122.length co57] 30 (0, 0)) (by (with_reducible repeat (first | refine blk_drewN ?_ _ | refine blk_drew ?_ | refine blk_alloc ?_ _)); refine blk_put (cs := #[.int .i64 t120, .int .i64 t121, .slice none 0 0]) ?_ 2 _ rfl; (with_reducible repeat (first | refine blk_drewN ?_ _ | refine blk_drew ?_ | refine blk_alloc ?_ _)); refine blk_put (cs := #[.int .i64 t120, .int .i64 0, .slice none 0 0]) ?_ 1 _ rfl; (with_reducible repeat (first | refine blk_drewN ?_ _ | refine blk_drew ?_ | refine blk_alloc ?_ _)); refine blk_put (cs := #[.int .i64 0, .int .i64 0, .slice none 0 0]) ?_ 0 _ rfl; exact blc) hb); have n10_ := Aside0.mk (below_step (bel HB) hb); clear HO_111000; clear HO_111001; clear HO_120002; clear HO124; clear HO127; clear BK101; clear BK102; clear BK110; clear BK119; clear BK128; clear HB; have HO_111000 := n0_; have HO_111001 := n1_; have HO_120002 := n2_; have HO124 := n3_; have HO127 := n4_; have BK101 := n5_; have BK102 := n6_; have BK110 := n7_; have BK119 := n8_; have BK128 := n9_; have HB := n10_; clear n0_ n1_ n2_ n3_ n4_ n5_ n6_ n7_ n8_ n9_ n10_; (try clear hb); (try clear hb2); (try clear hk); (try clear hi); have hnb59 := NB110_101.out; have hnc59 := NB101_110.out; have hnb60 := NB110_102.out; have hnc60 := NB102_110.out; have hcz61_0 : w58.cell? ⟨gb110, 0, none⟩ = some (u111000) := (blk_cell BK110.out 0).trans rfl; have hcz61_1 : w58.cell? ⟨gb110, 1, none⟩ = some (u111001) := (blk_cell BK110.out 1).trans rfl; have hfz61_0 := blk_frozen BK110.out 0; have hfz61_1 := blk_frozen BK110.out 1; obtain ⟨Ao62, co62, eo62⟩ := Kd.R_slice HO_111000.out; subst eo62))
          go_loopg [13, 60] k2 (fun kq v13 v60 w' => ∃ (x13_3 : Bool) (x60_3 : Int), v13 = .bool x13_3 ∧ v60 = .int .i64 x60_3 ∧ Aside0 (spec_skSearch.l2 kq a1 x6_1 x9_2 t129 x13_3 x111000_2 (x111000_2.length : Int) x60_3 x111000_2 x111001_2 t113 t114 t115 = some (r1, r2)) ∧ Aside0 (kq ≤ k2) ∧ Aside0 (Kd.R Kd.string 9 w' w.heap.size (fun k_ => some k_ ≠ (u111001 : Value).ownBlock) (.slice Ao62 x111000_2.length co62) x111000_2) ∧ Aside0 (Kd.R Kd.string 9 w' w.heap.size (fun k_ => some k_ ≠ (u111001 : Value).ownBlock) (.slice Ao62 x111000_2.length co62) x111000_2) ∧ Aside0 (Kd.R Kd.string 9 w' w.heap.size (fun k_ => some k_ ≠ ((.slice Ao62 x111000_2.length co62) : Value).ownBlock ∧ some k_ ≠ ((.slice Ao62 x111000_2.length co62) : Value).ownBlock) u111001 x111001_2) ∧ Aside0 (Kd.R (Kd.int .u8) 5 w' w.heap.size (fun _ => True) (.slice Ao42 t115.length co42) t115) ∧ Aside0 (Kd.V (Kd.int .u8) 5 w' w.heap.size (fun k_ => some k_ ≠ ((.slice Ao62 x111000_2.length co62) : Value).ownBlock ∧ some k_ ≠ ((.slice Ao62 x111000_2.length co62) : Value).ownBlock ∧ some k_ ≠ (u111001 : Value).ownBlock ∧ k_ ≠ gb101 ∧ k_ ≠ gb102 ∧ k_ ≠ gb110 ∧ k_ ≠ gb119 ∧ k_ ≠ gb128) (.slice Ao57 t122.length co57) t122) ∧ Aside0 (w'.heap[gb101]? = some (.cells #[.int .i64 a0_0, .int .i64 a0_1, (.slice A0_2 l0_2.length c0_2)] 30 (0, 0))) ∧ Aside0 (w'.heap[gb102]? = some (.cells #[(.slice none 0 0), (.slice none 0 0)] 46 (0, 0))) ∧ Aside0 (w'.heap[gb110]? = some (.cells #[(.slice Ao62 x111000_2.length co62), u111001] 46 (0, 0))) ∧ Aside0 (w'.heap[gb119]? = some (.cells #[.int .i64 t113, .int .i64 t114, (.slice Ao42 t115.length co42)] 30 (0, 0))) ∧ Aside0 (w'.heap[gb128]? = some (.cells #[.int .i64 t120, .int .i64 t121, (.slice Ao57 t122.length co57)] 30 (0, 0))) ∧ Aside0 (Below w.heap.size w w'))
          case atStart => exact ⟨(false), (0), (by first | rfl | (simp; done) | (simp [*]; done)), (by first | rfl | (simp; done) | (simp [*]; done)), H', ⟨Nat.le_refl _⟩, ⟨rch HO_111000⟩, ⟨rch HO_111000⟩, ⟨by (with_reducible repeat (first | apply Kd.R_alloc | apply Kd.R_drewN | apply Kd.R_drew)); exact Kd.R_mono HO_111001.out (fun _ hk => ⟨hk, hk⟩)⟩, ⟨rch HO_120002⟩, ⟨by (with_reducible repeat (first | apply Kd.V_alloc | apply Kd.V_drewN | apply Kd.V_drew)); exact Kd.V_mono HO124.out (fun _ hk => ⟨hk.1.2.1, ⟨hk.1.2.1, ⟨hk.1.2.2.1, ⟨hk.1.2.2.2.1, ⟨hk.1.2.2.2.2.1, ⟨hk.1.2.2.2.2.2.1, ⟨hk.1.2.2.2.2.2.2, hk.2⟩⟩⟩⟩⟩⟩⟩)⟩, ⟨blc⟩, ⟨blc⟩, ⟨blc⟩, ⟨blc⟩, ⟨blc⟩, ⟨bel HB⟩⟩
          case round =>
           clear H'
           try clear c1
           try clear p1
           try clear q1
           try clear hx1
           try clear c2
           try clear p2
           try clear c3
           try clear c4
           try clear c5
           try clear c6
           try clear c9
           try clear p11
           try clear q11
           try clear hx11
           try clear c16
           try clear c17
           try clear c19
           try clear c19b0
           try clear c19b0y
           try clear c20
           try clear c20b0
           try clear c20b0y
           try clear c21
           try clear c21b0
           try clear c21b0y
           try clear c22
           try clear c22b0
           try clear c22b0y
           try clear c22b1
           try clear c23
           try clear c24
           try clear c27
           try clear c28
           try clear c31
           try clear c32
           try clear c36
           try clear c38
           try clear c39
           try clear c40
           try clear c43
           try clear c43b0
           try clear c43b0y
           try clear c46
           try clear c47
           try clear c48
           try clear c52
           try clear c53
           try clear c54
           try clear c55
           try clear c59
           try clear c60
           try clear hcz18_0
           try clear hcz18_1
           try clear hcz25_0
           try clear hcz25_1
           try clear hcz29_0
           try clear hcz29_1
           try clear hcz33_0
           try clear hcz33_1
           try clear hcz41_0
           try clear hcz41_1
           try clear hcz41_2
           try clear hcz49_0
           try clear hcz49_1
           try clear hcz49_2
           try clear hcz56_0
           try clear hcz56_1
           try clear hcz56_2
           try clear hcz61_0
           try clear hcz61_1
           try clear hcz7_0
           try clear hcz7_1
           try clear hcz7_2
           try clear hfz18_0
           try clear hfz18_1
           try clear hfz25_0
           try clear hfz25_1
           try clear hfz29_0
           try clear hfz29_1
           try clear hfz33_0
           try clear hfz33_1
           try clear hfz41_0
           try clear hfz41_1
           try clear hfz41_2
           try clear hfz49_0
           try clear hfz49_1
           try clear hfz49_2
           try clear hfz56_0
           try clear hfz56_1
           try clear hfz56_2
           try clear hfz61_0
           try clear hfz61_1
           try clear hfz7_0
           try clear hfz7_1
           try clear hfz7_2
           try clear hx111_0
           try clear hx112_0
           try clear p1
           try clear p11
           try clear p111
           try clear p112
           try clear p2
           try clear q1
           try clear q11
           try clear q111
           try clear q112
           obtain ⟨x13_3, x60_3, rfl, rfl, HA, HK3, HO_58, HO_111000, HO_111001, HO_120002, HO_129002, BK101, BK102, BK110, BK119, BK128, HB⟩ := hrel
           cases gk with
           | zero => exact absurd HA.out (by simp [spec_skSearch.l2])
           | succ k3 =>
            have H := HA.out;clear HA
            simp only [spec_skSearch.l2] at H
            by_cases c63 : x60_3 < (x111000_2.length : Int)
            ·rw [if_pos c63] at H
             have c63b0 : decide (x60_3 < (x111000_2.length : Int)) = true := decide_eq_true c63;clear c63
             by_cases c64 : 0 ≤ x60_3
             ·rw [if_pos c64] at H
              have c64b0 : decide (0 ≤ x60_3) = true := decide_eq_true c64;clear c64
              by_cases c65 : x60_3 < (x111000_2.length : Int)
              ·rw [if_pos c65] at H
               have c65b0 : decide (x60_3 < (x111000_2.length : Int)) = true := decide_eq_true c65;clear c65
               by_cases c66 : x13_3 = true
               ·subst c66
                have H1 : (spec_skSearch.l2 k3 a1 x6_1 x9_2 t129 true x111000_2 (x111000_2.length : Int) (wrap64 (x60_3 + 1)) x111000_2 x111001_2 t113 t114 t115) = some (r1, r2) := by rw [if_pos rfl] at H; exact H
                clear H;have H := H1;clear H1;have H' := Aside0.mk H;clear H;have p130 : 0 ≤ (x60_3 : Int) := of_decide_eq_true (by first | (with_reducible assumption) | assumption);have q130 : x60_3 < (x111000_2.length : Int) := of_decide_eq_true (by first | (with_reducible assumption) | assumption);obtain ⟨ad130, e130, hx130_0⟩ := Kd.at_string (Kd.R_reads' HO_58.out).2.2 x60_3 p130 q130
                cases e130
                replace p130 := eq_true p130;replace q130 := eq_true q130
                go_wp2
                go_roundg k3
                case measure => have := HK1.out; have := HK2.out; have := HK3.out; omega
                case rel => exact ⟨(true), (wrap64 (x60_3 + 1)), (by first | rfl | (simp; done) | (simp [*]; done)), (by first | rfl | (simp; done) | (simp [*]; done)), H', ⟨by have := HK1.out; have := HK2.out; have := HK3.out; omega⟩, ⟨rch HO_58⟩, ⟨rch HO_111000⟩, ⟨rch HO_111001⟩, ⟨rch HO_120002⟩, ⟨by (with_reducible repeat (first | apply Kd.V_alloc | apply Kd.V_drewN | apply Kd.V_drew)); (first | exact HO_129002.out | exact R_any HO_129002.out)⟩, ⟨blc⟩, ⟨blc⟩, ⟨blc⟩, ⟨blc⟩, ⟨blc⟩, ⟨bel HB⟩⟩
               ·replace c66 := Bool.eq_false_iff.mpr c66
                subst c66
                have H1 : (spec_skSearch.l2 k3 a1 x6_1 x9_2 t129 ((rdOf ByteArray.empty x111000_2 x60_3).toList == t129.toList) x111000_2 (x111000_2.length : Int) (wrap64 (x60_3 + 1)) x111000_2 x111001_2 t113 t114 t115) = some (r1, r2) := by rw [if_neg (show ¬ (false = true) by decide)] at H; exact H
                clear H;have H := H1;clear H1;have H' := Aside0.mk H;clear H;have p130 : 0 ≤ (x60_3 : Int) := of_decide_eq_true (by first | (with_reducible assumption) | assumption);have q130 : x60_3 < (x111000_2.length : Int) := of_decide_eq_true (by first | (with_reducible assumption) | assumption);obtain ⟨ad130, e130, hx130_0⟩ := Kd.at_string (Kd.R_reads' HO_58.out).2.2 x60_3 p130 q130
                cases e130
                replace p130 := eq_true p130;replace q130 := eq_true q130
                go_wp2
                go_roundg k3
                case measure => have := HK1.out; have := HK2.out; have := HK3.out; omega
                case rel => exact ⟨(((rdOf ByteArray.empty x111000_2 x60_3).toList == t129.toList)), (wrap64 (x60_3 + 1)), (by first | rfl | (simp; done) | (simp [*]; done)), (by first | rfl | (simp; done) | (simp [*]; done)), H', ⟨by have := HK1.out; have := HK2.out; have := HK3.out; omega⟩, ⟨rch HO_58⟩, ⟨rch HO_111000⟩, ⟨rch HO_111001⟩, ⟨rch HO_120002⟩, ⟨by (with_reducible repeat (first | apply Kd.V_alloc | apply Kd.V_drewN | apply Kd.V_drew)); (first | exact HO_129002.out | exact R_any HO_129002.out)⟩, ⟨blc⟩, ⟨blc⟩, ⟨blc⟩, ⟨blc⟩, ⟨blc⟩, ⟨bel HB⟩⟩
              ·rw [if_neg c65] at H
               exact absurd H (by simp)
             ·rw [if_neg c64] at H
              exact absurd H (by simp)
            ·rw [if_neg c63] at H
             have c63b0 : decide (x60_3 < (x111000_2.length : Int)) = false := decide_eq_false c63;clear c63
             by_cases c67 : x13_3 = true
             ·subst c67
              have H1 : (spec_skSearch.l1 k3 a1 x6_1 (wrap64 (x9_2 + 1)) x111000_2 x111001_2 t113 t114 t115) = some (r1, r2) := by rw [if_pos rfl] at H; exact H
              clear H;have H := H1;clear H1;have H' := Aside0.mk H;clear H
              go_wp2
              go_roundg k3
              case measure => have := HK1.out; have := HK2.out; have := HK3.out; omega
              case rel => exact ⟨(wrap64 (x9_2 + 1)), (x111000_2), (x111001_2), (.slice Ao62 x111000_2.length co62), (u111001), (by first | rfl | (simp; done) | (simp [*]; done)), H', ⟨by have := HK1.out; have := HK2.out; have := HK3.out; omega⟩, ⟨rch HO_111000⟩, ⟨by (with_reducible repeat (first | apply Kd.R_alloc | apply Kd.R_drewN | apply Kd.R_drew)); (first | exact Kd.R_mono HO_111001.out (fun _ hk => hk.2) | exact HO_111001.out | exact R_any HO_111001.out)⟩, ⟨rch HO_120002⟩, ⟨blc⟩, ⟨blc⟩, ⟨blc⟩, ⟨blc⟩, ⟨bel HB⟩⟩
             ·replace c67 := Bool.eq_false_iff.mpr c67
              subst c67
              have H1 : (if x111000_2.length < 8796093022208 then (if 0 ≤ x6_1 then (if x6_1 < (x111001_2.length : Int) then ((spec_tiDirs.f).bind fun t135 => (if 0 ≤ x9_2 then (if x9_2 ≤ (wrap64 (x9_2 + 1)) then (if (wrap64 (x9_2 + 1)) ≤ (t135.size : Int) then (if (rdOf ByteArray.empty x111001_2 x6_1).size + (t135.extract (x9_2 : Int).toNat ((wrap64 (x9_2 + 1)) : Int).toNat).size ≤ 9223372036854775807 then (if x111001_2.length < 8796093022208 then (spec_skSearch.l1 k3 a1 x6_1 (wrap64 (x9_2 + 1)) (x111000_2 ++ [t129]) (x111001_2 ++ [(rdOf ByteArray.empty x111001_2 x6_1) ++ (t135.extract (x9_2 : Int).toNat ((wrap64 (x9_2 + 1)) : Int).toNat)]) t113 t114 t115) else (none)) else (none)) else (none)) else (none)) else (none))) else (none)) else (none)) else (none)) = some (r1, r2) := by rw [if_neg (show ¬ (false = true) by decide)] at H; exact H
              clear H;have H := H1;clear H1
              by_cases c68 : x111000_2.length < 8796093022208
              ·rw [if_pos c68] at H
               have LMc68 := Aside0.mk c68;clear c68;obtain ⟨y131, hy131⟩ : ∃ y_ : List ByteArray, y_ = (x111000_2 ++ [t129]) := ⟨_, rfl⟩;replace H : (if 0 ≤ x6_1 then (if x6_1 < (x111001_2.length : Int) then ((spec_tiDirs.f).bind fun t135 => (if 0 ≤ x9_2 then (if x9_2 ≤ (wrap64 (x9_2 + 1)) then (if (wrap64 (x9_2 + 1)) ≤ (t135.size : Int) then (if (rdOf ByteArray.empty x111001_2 x6_1).size + (t135.extract (x9_2 : Int).toNat ((wrap64 (x9_2 + 1)) : Int).toNat).size ≤ 9223372036854775807 then (if x111001_2.length < 8796093022208 then (spec_skSearch.l1 k3 a1 x6_1 (wrap64 (x9_2 + 1)) y131 (x111001_2 ++ [(rdOf ByteArray.empty x111001_2 x6_1) ++ (t135.extract (x9_2 : Int).toNat ((wrap64 (x9_2 + 1)) : Int).toNat)]) t113 t114 t115) else (none)) else (none)) else (none)) else (none)) else (none))) else (none)) else (none)) = some (r1, r2) := rH hy131 H;have Ny131 := Aside0.mk hy131;clear hy131
               by_cases c69 : 0 ≤ x6_1
               ·rw [if_pos c69] at H
                have c69b0 : decide (0 ≤ x6_1) = true := decide_eq_true c69;clear c69
                by_cases c70 : x6_1 < (x111001_2.length : Int)
                ·rw [if_pos c70] at H
                 have c70b0 : decide (x6_1 < (x111001_2.length : Int)) = true := decide_eq_true c70;clear c70;replace H := Option.bind_eq_some_iff.mp H;obtain ⟨t135, A710, H⟩ := H;replace H : (if 0 ≤ x9_2 then (if x9_2 ≤ (wrap64 (x9_2 + 1)) then (if (wrap64 (x9_2 + 1)) ≤ (t135.size : Int) then (if (rdOf ByteArray.empty x111001_2 x6_1).size + (t135.extract (x9_2 : Int).toNat ((wrap64 (x9_2 + 1)) : Int).toNat).size ≤ 9223372036854775807 then (if x111001_2.length < 8796093022208 then (spec_skSearch.l1 k3 a1 x6_1 (wrap64 (x9_2 + 1)) y131 (x111001_2 ++ [(rdOf ByteArray.empty x111001_2 x6_1) ++ (t135.extract (x9_2 : Int).toNat ((wrap64 (x9_2 + 1)) : Int).toNat)]) t113 t114 t115) else (none)) else (none)) else (none)) else (none)) else (none)) = some (r1, r2) := H;have A71 := Aside0.mk A710;clear A710
                 by_cases c72 : 0 ≤ x9_2
                 ·rw [if_pos c72] at H
                  have c72b0 := eq_true c72;have c72b1 : decide (0 ≤ x9_2) = true := decide_eq_true c72;clear c72
                  by_cases c73 : x9_2 ≤ (wrap64 (x9_2 + 1))
                  ·rw [if_pos c73] at H
                   have c73b0 := eq_true c73;have c73b1 : decide (x9_2 ≤ (wrap64 (x9_2 + 1))) = true := decide_eq_true c73
                   by_cases c74 : (wrap64 (x9_2 + 1)) ≤ (t135.size : Int)
                   ·rw [if_pos c74] at H
                    have c74b0 := eq_true c74;have c74b1 : decide ((wrap64 (x9_2 + 1)) ≤ (t135.size : Int)) = true := decide_eq_true c74
                    by_cases c75 : (rdOf ByteArray.empty x111001_2 x6_1).size + (t135.extract (x9_2 : Int).toNat ((wrap64 (x9_2 + 1)) : Int).toNat).size ≤ 9223372036854775807
                    ·rw [if_pos c75] at H
                     have c75b0 := eq_true c75;have c75b1 : decide ((rdOf ByteArray.empty x111001_2 x6_1).size + (t135.extract (x9_2 : Int).toNat ((wrap64 (x9_2 + 1)) : Int).toNat).size ≤ 9223372036854775807) = true := decide_eq_true c75
                     try have c75b2 : (9223372036854775807 < (rdOf ByteArray.empty x111001_2 x6_1).size + (t135.extract (x9_2 : Int).toNat ((wrap64 (x9_2 + 1)) : Int).toNat).size) = False := eq_false (Nat.not_lt.2 c75)
                     have c75b3 : (9223372036854775807 < (rdOf ByteArray.empty x111001_2 x6_1).size + ((wrap64 (x9_2 + 1)).toNat - x9_2.toNat)) = False := eq_false (Nat.not_lt.2 (by have h_ := of_decide_eq_true c75b1; rw [ByteArray.size_extract, Nat.min_eq_left (by have h2_ := of_decide_eq_true c74b1; omega)] at h_; exact h_))
                     by_cases c76 : x111001_2.length < 8796093022208
                     ·rw [if_pos c76] at H
                      have LMc76 := Aside0.mk c76;clear c76;obtain ⟨y136, hy136⟩ : ∃ y_ : List ByteArray, y_ = (x111001_2 ++ [(rdOf ByteArray.empty x111001_2 x6_1) ++ (t135.extract (x9_2 : Int).toNat ((wrap64 (x9_2 + 1)) : Int).toNat)]) := ⟨_, rfl⟩;replace H : (spec_skSearch.l1 k3 a1 x6_1 (wrap64 (x9_2 + 1)) y131 y136 t113 t114 t115) = some (r1, r2) := rH hy136 H;have Ny136 := Aside0.mk hy136;clear hy136;have H' := Aside0.mk H;clear H;have hnb77 := NB110_101.out;have hnc77 := NB101_110.out;have hnb78 := NB110_102.out;have hnc78 := NB102_110.out;have hnb79 := NB110_119.out;have hnc79 := NB119_110.out;have hnb80 := NB110_128.out;have hnc80 := NB128_110.out;have hcz81_0 : wr.cell? ⟨gb110, 0, none⟩ = some (.slice Ao62 x111000_2.length co62) := (blk_cell BK110.out 0).trans rfl;have hcz81_1 : wr.cell? ⟨gb110, 1, none⟩ = some (u111001) := (blk_cell BK110.out 1).trans rfl;have hfz81_0 := blk_frozen BK110.out 0;have hfz81_1 := blk_frozen BK110.out 1
                      try go_wp2_with (first | ((with_reducible refine gate_builtin (b := .append) (xs := #[.tmp 74, .tmp 76]) rfl ?_); at_builtin; refine Kd.R_append Kd.string (w0 := w) w.heap.size rfl (.tmp 74) (.tmp 76) 44 9 (.string ⟨#[]⟩) 16 rfl Tryd.underlying44 info9 rfl (by decide) (by omega) (.slice Ao62 x111000_2.length co62) x111000_2 t129 [.string t129] (fun k_ => some k_ ≠ (u111001 : Value).ownBlock) (fun _ => False) rfl rfl ?aP (fun _ hk => hk.elim) ?aF ?aO ?aB ?aS ?aL ?_; (case aP => exact rfl); (case aB => exact (bel HB)); (case aF => exact (fun k_ hk => Kd.fresh' (Kd.R_lt (rch HO_111001)) k_ hk)); (case aO => exact (rch HO_111000)); (case aS => exact (below_size (bel HB))); (case aL => have := LMc68.out; omega); intro v132 w82 ho hb hg hat; rw [← Ny131.out] at ho; have n0_ := Aside0.mk (show ∀ k_, ((.slice Ao62 x111000_2.length co62) : Value).ownBlock = some k_ → k_ < w82.heap.size from fun k_ hk_ => Nat.lt_of_lt_of_le (Kd.R_lt (rch HO_58) k_ hk_) hg.size); have n1_ := Aside0.mk (Kd.R_after (ok := (fun k_ => some k_ ≠ (.slice Ao62 x111000_2.length co62 : Value).ownBlock)) (rch HO_111001) hg hat); have n2_ := Aside0.mk (Kd.R_over' (rch HO_120002) (Kd.R_typed (rch HO_111000)) (by decide) hg); have n3_ := Aside0.mk (Kd.V_afterv (ok := (fun k_ => some k_ ≠ (.slice Ao62 x111000_2.length co62 : Value).ownBlock ∧ some k_ ≠ (u111001 : Value).ownBlock ∧ k_ ≠ gb101 ∧ k_ ≠ gb102 ∧ k_ ≠ gb110 ∧ k_ ≠ gb119 ∧ k_ ≠ gb128)) (by (with_reducible repeat (first | apply Kd.V_alloc | apply Kd.V_drewN | apply Kd.V_drew)); exact Kd.V_mono HO_129002.out (fun _ hk => ⟨⟨hk.1, ⟨hk.2.2.1, ⟨hk.2.2.2.1, ⟨hk.2.2.2.2.1, ⟨hk.2.2.2.2.2.1, ⟨hk.2.2.2.2.2.2.1, hk.2.2.2.2.2.2.2⟩⟩⟩⟩⟩⟩, hk.2.1⟩)) hg hat); have n4_ := Aside0.mk (blk_grown (g := gb101) (o := .cells #[.int .i64 a0_0, .int .i64 a0_1, .slice A0_2 l0_2.length c0_2] 30 (0, 0)) blc hg (Kd.R_ne HO_111000.out BK101.out (by decide))); have n5_ := Aside0.mk (blk_grown (g := gb102) (o := .cells #[.slice none 0 0, .slice none 0 0] 46 (0, 0)) blc hg (Kd.R_ne HO_111000.out BK102.out (by decide))); have n6_ := Aside0.mk (blk_grown (g := gb110) (o := .cells #[.slice Ao62 x111000_2.length co62, u111001] 46 (0, 0)) blc hg (Kd.R_ne HO_111000.out BK110.out (by decide))); have n7_ := Aside0.mk (blk_grown (g := gb119) (o := .cells #[.int .i64 t113, .int .i64 t114, .slice Ao42 t115.length co42] 30 (0, 0)) blc hg (Kd.R_ne HO_111000.out BK119.out (by decide))); have n8_ := Aside0.mk (blk_grown (g := gb128) (o := .cells #[.int .i64 t120, .int .i64 t121, .slice Ao57 t122.length co57] 30 (0, 0)) blc hg (Kd.R_ne HO_111000.out BK128.out (by decide))); have n9_ := Aside0.mk (hb); have n10_ := Aside0.mk (ho); clear HO_58; clear HO_111001; clear HO_120002; clear HO_129002; clear BK101; clear BK102; clear BK110; clear BK119; clear BK128; clear HB; clear HO_111000; have HO_58 := n0_; have HO_111001 := n1_; have HO_120002 := n2_; have HO_129002 := n3_; have BK101 := n4_; have BK102 := n5_; have BK110 := n6_; have BK119 := n7_; have BK128 := n8_; have HB := n9_; have HO133 := n10_; clear n0_ n1_ n2_ n3_ n4_ n5_ n6_ n7_ n8_ n9_ n10_; clear ho hb hg hat; obtain ⟨Ao83, co83, eo83⟩ := Kd.R_slice HO133.out; subst eo83; have hcz84_0 : w82.cell? ⟨gb110, 0, none⟩ = some (.slice Ao62 x111000_2.length co62) := (blk_cell BK110.out 0).trans rfl; have hcz84_1 : w82.cell? ⟨gb110, 1, none⟩ = some (u111001) := (blk_cell BK110.out 1).trans rfl; have hfz84_0 := blk_frozen BK110.out 0; have hfz84_1 := blk_frozen BK110.out 1))
                      have n0_ := Aside0.mk (show ∀ k_, ((.slice Ao62 x111000_2.length co62) : Value).ownBlock = some k_ → k_ < (w82.setCell ⟨gb110, 0, none⟩ (.slice Ao83 y131.length co83)).heap.size from fun k_ hk_ => by have h_ := HO_58.out k_ hk_; simpa [World.setCell] using h_);have n1_ : Aside0 (Kd.R Kd.string 9 (w82.setCell ⟨gb110, 0, none⟩ (.slice Ao83 y131.length co83)) w.heap.size (fun k_ => some k_ ≠ (.slice Ao62 x111000_2.length co62 : Value).ownBlock ∧ some k_ ≠ (.slice Ao83 y131.length co83 : Value).ownBlock) u111001 x111001_2) := ⟨by (with_reducible repeat (first | apply Kd.R_alloc | apply Kd.R_drewN | apply Kd.R_drew)); exact Kd.R_mono (Kd.R_far (p := ⟨gb110, 0, none⟩) (Kd.R_types HO_111001.out BK110.out (by decide)) (fun _ hk => hk.2) (.slice Ao83 y131.length co83)) (fun _ hk => ⟨hk.1.1, hk.1.2⟩)⟩;have n2_ : Aside0 (Kd.R (Kd.int .u8) 5 (w82.setCell ⟨gb110, 0, none⟩ (.slice Ao83 y131.length co83)) w.heap.size (fun _ => True) (.slice Ao42 t115.length co42) t115) := ⟨by (with_reducible repeat (first | apply Kd.R_alloc | apply Kd.R_drewN | apply Kd.R_drew)); exact Kd.R_mono (Kd.R_far (p := ⟨gb110, 0, none⟩) (Kd.R_types HO_120002.out BK110.out (by decide)) (fun _ hk => hk.2) (.slice Ao83 y131.length co83)) (fun _ hk => trivial)⟩;have n3_ : Aside0 (Kd.V (Kd.int .u8) 5 (w82.setCell ⟨gb110, 0, none⟩ (.slice Ao83 y131.length co83)) w.heap.size (fun k_ => some k_ ≠ (.slice Ao62 x111000_2.length co62 : Value).ownBlock ∧ some k_ ≠ (u111001 : Value).ownBlock ∧ some k_ ≠ (.slice Ao83 y131.length co83 : Value).ownBlock ∧ k_ ≠ gb101 ∧ k_ ≠ gb102 ∧ k_ ≠ gb110 ∧ k_ ≠ gb119 ∧ k_ ≠ gb128) (.slice Ao57 t122.length co57) t122) := ⟨by (with_reducible repeat (first | apply Kd.V_alloc | apply Kd.V_drewN | apply Kd.V_drew)); exact Kd.V_mono (Kd.V_far (p := ⟨gb110, 0, none⟩) (Kd.V_mono HO_129002.out (fun k_ hk => (⟨hk, hk.1.2.2.2.2.1⟩ : _ ∧ k_ ≠ gb110))) (fun _ hk => hk.2) (.slice Ao83 y131.length co83)) (fun _ hk => ⟨hk.1.1.1, ⟨hk.1.1.2.1, ⟨hk.1.2, ⟨hk.1.1.2.2.1, ⟨hk.1.1.2.2.2.1, ⟨hk.1.1.2.2.2.2.1, ⟨hk.1.1.2.2.2.2.2.1, hk.1.1.2.2.2.2.2.2⟩⟩⟩⟩⟩⟩⟩)⟩;have n4_ : Aside0 (Kd.R Kd.string 9 (w82.setCell ⟨gb110, 0, none⟩ (.slice Ao83 y131.length co83)) w.heap.size (fun k_ => some k_ ≠ (u111001 : Value).ownBlock) (.slice Ao83 y131.length co83) y131) := ⟨by (with_reducible repeat (first | apply Kd.R_alloc | apply Kd.R_drewN | apply Kd.R_drew)); exact Kd.R_mono (Kd.R_far (p := ⟨gb110, 0, none⟩) (Kd.R_types HO133.out BK110.out (by decide)) (fun _ hk => hk.2) (.slice Ao83 y131.length co83)) (fun _ hk => hk.1)⟩;have n5_ : Aside0 ((w82.setCell ⟨gb110, 0, none⟩ (.slice Ao83 y131.length co83)).heap[gb101]? = some (.cells #[.int .i64 a0_0, .int .i64 a0_1, .slice A0_2 l0_2.length c0_2] 30 (0, 0))) := ⟨by (with_reducible repeat (first | refine blk_drewN ?_ _ | refine blk_drew ?_ | refine blk_alloc ?_ _)); refine blk_far ?_ NB101_110.out _; exact blc⟩;have n6_ : Aside0 ((w82.setCell ⟨gb110, 0, none⟩ (.slice Ao83 y131.length co83)).heap[gb102]? = some (.cells #[.slice none 0 0, .slice none 0 0] 46 (0, 0))) := ⟨by (with_reducible repeat (first | refine blk_drewN ?_ _ | refine blk_drew ?_ | refine blk_alloc ?_ _)); refine blk_far ?_ NB102_110.out _; exact blc⟩;have n7_ : Aside0 ((w82.setCell ⟨gb110, 0, none⟩ (.slice Ao83 y131.length co83)).heap[gb110]? = some (.cells #[.slice Ao83 y131.length co83, u111001] 46 (0, 0))) := ⟨by (with_reducible repeat (first | refine blk_drewN ?_ _ | refine blk_drew ?_ | refine blk_alloc ?_ _)); refine blk_put (cs := #[.slice Ao62 x111000_2.length co62, u111001]) ?_ 0 _ rfl; exact blc⟩;have n8_ : Aside0 ((w82.setCell ⟨gb110, 0, none⟩ (.slice Ao83 y131.length co83)).heap[gb119]? = some (.cells #[.int .i64 t113, .int .i64 t114, .slice Ao42 t115.length co42] 30 (0, 0))) := ⟨by (with_reducible repeat (first | refine blk_drewN ?_ _ | refine blk_drew ?_ | refine blk_alloc ?_ _)); refine blk_far ?_ NB119_110.out _; exact blc⟩;have n9_ : Aside0 ((w82.setCell ⟨gb110, 0, none⟩ (.slice Ao83 y131.length co83)).heap[gb128]? = some (.cells #[.int .i64 t120, .int .i64 t121, .slice Ao57 t122.length co57] 30 (0, 0))) := ⟨by (with_reducible repeat (first | refine blk_drewN ?_ _ | refine blk_drew ?_ | refine blk_alloc ?_ _)); refine blk_far ?_ NB128_110.out _; exact blc⟩
                      have n10_ : Aside0 (Below w.heap.size w (w82.setCell ⟨gb110, 0, none⟩ (.slice Ao83 y131.length co83))) := ⟨bel HB⟩
                      (try clear HO_58)
                      (try clear HO_111001)
                      (try clear HO_120002)
                      (try clear HO_129002)
                      (try clear HO133)
                      (try clear BK101)
                      (try clear BK102)
                      (try clear BK110)
                      (try clear BK119)
                      (try clear BK128)
                      (try clear HB)
                      generalize (w82.setCell ⟨gb110, 0, none⟩ (.slice Ao83 y131.length co83)) = w85 at n0_ n1_ n2_ n3_ n4_ n5_ n6_ n7_ n8_ n9_ n10_ ⊢;have HO_58 := n0_;have HO_111001 := n1_;have HO_120002 := n2_;have HO_129002 := n3_;have HO133 := n4_;have BK101 := n5_;have BK102 := n6_;have BK110 := n7_;have BK119 := n8_;have BK128 := n9_;have HB := n10_;clear n0_ n1_ n2_ n3_ n4_ n5_ n6_ n7_ n8_ n9_ n10_;have n0_ := Aside0.mk (show ∀ k_, ((.slice Ao62 x111000_2.length co62) : Value).ownBlock = some k_ → k_ < w85.drew.heap.size from HO_58.out);have n1_ := Aside0.mk (Kd.R_drew HO_111001.out);have n2_ := Aside0.mk (Kd.R_drew HO_120002.out);have n3_ := Aside0.mk (Kd.V_drew HO_129002.out);have n4_ := Aside0.mk (Kd.R_drew HO133.out);have n5_ := Aside0.mk (blk_drew BK101.out);have n6_ := Aside0.mk (blk_drew BK102.out);have n7_ := Aside0.mk (blk_drew BK110.out);have n8_ := Aside0.mk (blk_drew BK119.out);have n9_ := Aside0.mk (blk_drew BK128.out);have n10_ := Aside0.mk (below_drew1 HB.out);clear HO_58;clear HO_111001;clear HO_120002;clear HO_129002;clear HO133;clear BK101;clear BK102;clear BK110;clear BK119;clear BK128;clear HB;have HO_58 := n0_;have HO_111001 := n1_;have HO_120002 := n2_;have HO_129002 := n3_;have HO133 := n4_;have BK101 := n5_;have BK102 := n6_;have BK110 := n7_;have BK119 := n8_;have BK128 := n9_;have HB := n10_;clear n0_ n1_ n2_ n3_ n4_ n5_ n6_ n7_ n8_ n9_ n10_;obtain ⟨Ao87, co87, eo87⟩ := Kd.R_slice HO_111001.out
                      (first | subst eo87 | (injection eo87 with f1_ f2_ f3_; have f4_ := f1_.symm; have f5_ := f3_.symm; clear f1_ f2_ f3_; subst f4_; subst f5_))
                      have p134 : 0 ≤ (x6_1 : Int) := of_decide_eq_true (by first | (with_reducible assumption) | assumption);have q134 : x6_1 < (x111001_2.length : Int) := of_decide_eq_true (by first | (with_reducible assumption) | assumption);obtain ⟨ad134, e134, hx134_0⟩ := Kd.at_string (Kd.R_reads' HO_111001.out).2.2 x6_1 p134 q134
                      cases e134
                      replace p134 := eq_true p134;replace q134 := eq_true q134
                      refine start_ (n := 17) (S := fun w' => w'.cell? ⟨gb110, 0, none⟩ = some (.slice Ao83 y131.length co83) ∧ w'.cell? ⟨gb110, 1, none⟩ = some (.slice (some ad134) x111001_2.length co87) ∧ w'.cell? (ad134.add (x6_1).toNat) = some (.string (rdOf ByteArray.empty x111001_2 x6_1))) (ds := [14, 16]) #[false, false, false, false, false, false, false, false, false, false, false, false, false, false, false, false, false] (by kernel_rfl) rfl rfl ⟨(blk_cell BK110.out 0).trans rfl, (blk_cell BK110.out 1).trans rfl, hx134_0⟩ (fun hHeld => ?_); refine with_tabW spec_skSearch.tab20 spec_skSearch.bits20 (fun HT_ HW_ => ?_)
                      generalize w85.drew = w86 at HO_58 HO_111001 HO_120002 HO_129002 HO133 BK101 BK102 BK110 BK119 BK128 HB hx134_0 hHeld ⊢
                      refine pure_ (i := 0) (N := some 79) (v := ?_) (a' := ?_) #[true, false, false, false, false, false, false, false, false, false, false, false, false, false, false, false, false] rfl rfl (any_of HT_.out (by kernel_rfl)) (fun _ _ _ h => h) (Or.inl ⟨by rfl, ?_⟩) ?_ ?_
                      rotate_left
                      ·intro w'
                       go_simp
                       with_reducible rfl
                      rotate_left
                      ·simp only [Act.put, List.setIfInBounds_toArray, List.set_cons_zero, List.set_cons_succ, i64_w, i32_w]
                       rfl
                      refine pure_ (i := 2) (N := some 81) (v := ?_) (a' := ?_) #[true, false, true, false, false, false, false, false, false, false, false, false, false, false, false, false, false] rfl rfl (any_of HT_.out (by kernel_rfl)) (fun _ _ _ h => h) (Or.inl ⟨by rfl, ?_⟩) ?_ ?_
                      rotate_left
                      ·intro w'
                       go_simp
                       with_reducible rfl
                      rotate_left
                      ·simp only [Act.put, List.setIfInBounds_toArray, List.set_cons_zero, List.set_cons_succ, i64_w, i32_w]
                       rfl
                      refine pure_ (i := 4) (N := some 83) (v := ?_) (a' := ?_) #[true, false, true, false, true, false, false, false, false, false, false, false, false, false, false, false, false] rfl rfl (any_of HT_.out (by kernel_rfl)) (fun _ _ _ h => h) (Or.inl ⟨by rfl, ?_⟩) ?_ ?_
                      rotate_left
                      ·intro w'
                       go_simp
                       with_reducible rfl
                      rotate_left
                      ·simp only [Act.put, List.setIfInBounds_toArray, List.set_cons_zero, List.set_cons_succ, i64_w, i32_w]
                       rfl
                      refine pure_ (i := 8) (N := some 87) (v := ?_) (a' := ?_) #[true, false, true, false, true, false, false, false, true, false, false, false, false, false, false, false, false] rfl rfl (any_of HT_.out (by kernel_rfl)) (fun _ _ _ h => h) (Or.inl ⟨by rfl, ?_⟩) ?_ ?_
                      rotate_left
                      ·intro w'
                       go_simp
                       with_reducible rfl
                      rotate_left
                      ·simp only [Act.put, List.setIfInBounds_toArray, List.set_cons_zero, List.set_cons_succ, i64_w, i32_w]
                       rfl
                      refine pure_ (i := 9) (N := some 88) (v := ?_) (a' := ?_) #[true, false, true, false, true, false, false, false, true, true, false, false, false, false, false, false, false] rfl rfl (any_of HT_.out (by kernel_rfl)) (fun _ _ _ h => h) (Or.inl ⟨by rfl, ?_⟩) ?_ ?_
                      rotate_left
                      ·intro w'
                       go_simp
                       with_reducible rfl
                      rotate_left
                      ·simp only [Act.put, List.setIfInBounds_toArray, List.set_cons_zero, List.set_cons_succ, i64_w, i32_w]
                       rfl
                      refine pure_ (i := 10) (N := some 89) (v := ?_) (a' := ?_) #[true, false, true, false, true, false, false, false, true, true, true, false, false, false, false, false, false] rfl rfl (any_of HT_.out (by kernel_rfl)) (fun _ _ _ h => h) (Or.inl ⟨by rfl, ?_⟩) ?_ ?_
                      rotate_left
                      ·intro w'
                       go_simp
                       with_reducible rfl
                      rotate_left
                      ·simp only [Act.put, List.setIfInBounds_toArray, List.set_cons_zero, List.set_cons_succ, i64_w, i32_w]
                       rfl
                      refine take_ (i := 1) (N := some 80) (v := ?_) (a' := ?_) #[true, true, true, false, true, false, false, false, true, true, true, false, false, false, false, false, false] rfl rfl (take_ofW HT_.out HW_.out (by kernel_rfl)) (fun _ _ _ h => h) (Or.inl ⟨by rfl, ?_⟩) hHeld ?_ ?_
                      rotate_left
                      ·rintro w' ⟨s0, s1, s2⟩
                       go_simp
                       with_reducible rfl
                      rotate_left
                      ·simp only [Act.put, List.setIfInBounds_toArray, List.set_cons_zero, List.set_cons_succ, i64_w, i32_w]
                       rfl
                      refine take_ (i := 3) (N := some 82) (v := ?_) (a' := ?_) #[true, true, true, true, true, false, false, false, true, true, true, false, false, false, false, false, false] rfl rfl (take_ofW HT_.out HW_.out (by kernel_rfl)) (fun _ _ _ h => h) (Or.inl ⟨by rfl, ?_⟩) hHeld ?_ ?_
                      rotate_left
                      ·rintro w' ⟨s0, s1, s2⟩
                       go_simp
                       with_reducible rfl
                      rotate_left
                      ·simp only [Act.put, List.setIfInBounds_toArray, List.set_cons_zero, List.set_cons_succ, i64_w, i32_w]
                       rfl
                      refine pure_ (i := 5) (N := some 84) (v := ?_) (a' := ?_) #[true, true, true, true, true, true, false, false, true, true, true, false, false, false, false, false, false] rfl rfl (any_of HT_.out (by kernel_rfl)) (fun _ _ _ h => h) (Or.inl ⟨by rfl, ?_⟩) ?_ ?_
                      rotate_left
                      ·intro w'
                       go_simp
                       with_reducible rfl
                      rotate_left
                      ·simp only [Act.put, List.setIfInBounds_toArray, List.set_cons_zero, List.set_cons_succ, i64_w, i32_w]
                       rfl
                      refine take_ (i := 6) (N := some 85) (v := ?_) (a' := ?_) #[true, true, true, true, true, true, true, false, true, true, true, false, false, false, false, false, false] rfl rfl (take_ofW HT_.out HW_.out (by kernel_rfl)) (fun _ _ _ h => h) (Or.inl ⟨by rfl, ?_⟩) hHeld ?_ ?_
                      rotate_left
                      ·rintro w' ⟨s0, s1, s2⟩
                       go_simp
                       with_reducible rfl
                      rotate_left
                      ·simp only [Act.put, List.setIfInBounds_toArray, List.set_cons_zero, List.set_cons_succ, i64_w, i32_w]
                       rfl
                      refine one_ (i := 7) (N := some 86) #[true, true, true, true, true, true, true, true, true, true, true, false, false, false, false, false, false] rfl rfl (one_of HT_.out (by kernel_rfl)) (by decide) (fun K hK => ?_)
                      refine goes_ Tryd.func37 (by kernel_rfl) rfl #[] (by rfl) rfl rfl (by (try simp only [List.map_toArray, List.map_cons, List.map_nil]); first | done | rfl | (simp only [List.length_drop, List.length_take]; rfl)) ?_
                      with_reducible refine (spec_tiDirs.calls  t135 _ A71.out).mono ?_
                      rintro e w' ⟨rfl, ⟨nd, rfl⟩⟩
                      refine ⟨_, rfl, ?_⟩
                      refine hK.out _ _ ⟨(blk_cell BK110.out 0).trans rfl, (blk_cell BK110.out 1).trans rfl, hHeld.2.2⟩ (fun hHeld => ?_)
                      clear hK K
                      refine norm_ (a' := ?_) ?_ ?_
                      rotate_left
                      ·show Act.put _ (some 86) _ = _
                       simp only [Act.put, List.setIfInBounds_toArray, List.set_cons_zero, List.set_cons_succ, i64_w, i32_w]
                       rfl
                      refine pure_ (i := 11) (N := some 90) (v := ?_) (a' := ?_) #[true, true, true, true, true, true, true, true, true, true, true, true, false, false, false, false, false] rfl rfl (any_of HT_.out (by kernel_rfl)) (fun _ _ _ h => h) (Or.inl ⟨by rfl, ?_⟩) ?_ ?_
                      rotate_left
                      ·intro w'
                       go_simp
                       with_reducible rfl
                      rotate_left
                      ·simp only [Act.put, List.setIfInBounds_toArray, List.set_cons_zero, List.set_cons_succ, i64_w, i32_w]
                       rfl
                      refine pure_ (i := 12) (N := some 91) (v := ?_) (a' := ?_) #[true, true, true, true, true, true, true, true, true, true, true, true, true, false, false, false, false] rfl rfl (any_of HT_.out (by kernel_rfl)) (fun _ _ _ h => h) (Or.inl ⟨by rfl, ?_⟩) ?_ ?_
                      rotate_left
                      ·intro w'
                       go_simp
                       with_reducible rfl
                      rotate_left
                      ·simp only [Act.put, List.setIfInBounds_toArray, List.set_cons_zero, List.set_cons_succ, i64_w, i32_w]
                       rfl
                      refine one_ (i := 13) (N := some 92) #[true, true, true, true, true, true, true, true, true, true, true, true, true, true, false, false, false] rfl rfl (one_of HT_.out (by kernel_rfl)) (by decide) (fun K hK => ?_)
                      refine value_ (w1 := ?_) (v := ?_) (by rfl) rfl ?_ ?_
                      rotate_left 2
                      ·go_simp
                       constructor
                       ·rfl
                       ·rfl
                      refine hK.out _ _ ⟨(blk_cell (blk_alloc BK110.out _) 0).trans rfl, (blk_cell (blk_alloc BK110.out _) 1).trans rfl, (World.cell?_alloc_lt _ _ _ (World.block_lt_of_cell? _ _ (hHeld.2.2))).trans (hHeld.2.2)⟩ (fun hHeld => ?_)
                      clear hK K
                      refine norm_ (a' := ?_) ?_ ?_
                      rotate_left
                      ·show Act.put _ (some 92) _ = _
                       simp only [Act.put, List.setIfInBounds_toArray, List.set_cons_zero, List.set_cons_succ, i64_w, i32_w]
                       rfl
                      refine last_ (i := 14) (N := some 93) #[true, true, true, true, true, true, true, true, true, true, true, true, true, true, true, false, false] rfl rfl (one_of HT_.out (by kernel_rfl)) (by decide) (fun K hK => ?_)
                      refine Kd.R_append_step Kd.string (w0 := w) w.heap.size (by rfl) (.tmp 80) (.tmp 92) 44 9 (.string ⟨#[]⟩) 16 rfl Tryd.underlying44 info9 rfl (by decide) (by omega) (.slice (some ad134) x111001_2.length co87) x111001_2 ((rdOf ByteArray.empty x111001_2 x6_1) ++ (t135.extract (x9_2 : Int).toNat ((wrap64 (x9_2 + 1)) : Int).toNat)) [.string ((rdOf ByteArray.empty x111001_2 x6_1) ++ (t135.extract (x9_2 : Int).toNat ((wrap64 (x9_2 + 1)) : Int).toNat))] (fun k_ => some k_ ≠ (.slice Ao62 x111000_2.length co62 : Value).ownBlock ∧ some k_ ≠ (.slice Ao83 y131.length co83 : Value).ownBlock) (fun _ => False) rfl rfl ?aP (fun _ hk => hk.elim) ?aF ?aO ?aB ?aS ?aL ?_
                      (case aP => exact rfl)
                      (case aB => exact (bel HB))
                      (case aF => exact (fun k_ hk => ⟨Kd.fresh' HO_58.out k_ hk, Kd.fresh' (Kd.R_lt (rch HO133)) k_ hk⟩))
                      (case aO => exact (rch HO_111001))
                      (case aS => exact (below_size (bel HB)))
                      (case aL => have := LMc76.out; omega)
                      intro v137 w88 ho hb hg hat
                      rw [← Ny136.out] at ho
                      have n0_ := trivial;have n1_ := Aside0.mk (Kd.R_over' (rch HO_120002) (Kd.R_typed (rch HO_111001)) (by decide) hg);have n2_ := Aside0.mk (Kd.V_afterv (ok := (fun k_ => some k_ ≠ (.slice Ao62 x111000_2.length co62 : Value).ownBlock ∧ some k_ ≠ (.slice Ao83 y131.length co83 : Value).ownBlock ∧ k_ ≠ gb101 ∧ k_ ≠ gb102 ∧ k_ ≠ gb110 ∧ k_ ≠ gb119 ∧ k_ ≠ gb128)) (by (with_reducible repeat (first | apply Kd.V_alloc | apply Kd.V_drewN | apply Kd.V_drew)); exact Kd.V_mono HO_129002.out (fun _ hk => ⟨⟨hk.1, ⟨hk.2.2.1, ⟨hk.2.2.2.1, ⟨hk.2.2.2.2.1, ⟨hk.2.2.2.2.2.1, ⟨hk.2.2.2.2.2.2.1, hk.2.2.2.2.2.2.2⟩⟩⟩⟩⟩⟩, hk.2.1⟩)) hg hat);have n3_ := Aside0.mk (blk_grown (g := gb101) (o := .cells #[.int .i64 a0_0, .int .i64 a0_1, .slice A0_2 l0_2.length c0_2] 30 (0, 0)) blc hg (Kd.R_ne HO_111001.out BK101.out (by decide)));have n4_ := Aside0.mk (blk_grown (g := gb102) (o := .cells #[.slice none 0 0, .slice none 0 0] 46 (0, 0)) blc hg (Kd.R_ne HO_111001.out BK102.out (by decide)));have n5_ := Aside0.mk (blk_grown (g := gb110) (o := .cells #[.slice Ao83 y131.length co83, .slice (some ad134) x111001_2.length co87] 46 (0, 0)) blc hg (Kd.R_ne HO_111001.out BK110.out (by decide)));have n6_ := Aside0.mk (blk_grown (g := gb119) (o := .cells #[.int .i64 t113, .int .i64 t114, .slice Ao42 t115.length co42] 30 (0, 0)) blc hg (Kd.R_ne HO_111001.out BK119.out (by decide)));have n7_ := Aside0.mk (blk_grown (g := gb128) (o := .cells #[.int .i64 t120, .int .i64 t121, .slice Ao57 t122.length co57] 30 (0, 0)) blc hg (Kd.R_ne HO_111001.out BK128.out (by decide)));have n8_ := Aside0.mk (Kd.R_after (ok := (fun _ => True)) (by (with_reducible repeat (first | apply Kd.R_alloc | apply Kd.R_drewN | apply Kd.R_drew)); exact Kd.R_mono HO133.out (fun _ hk => ⟨trivial, hk⟩)) hg hat);have n9_ := Aside0.mk (hb);have n10_ := Aside0.mk (ho);clear HO_58;clear HO_120002;clear HO_129002;clear BK101;clear BK102;clear BK110;clear BK119;clear BK128;clear HO133;clear HB;clear HO_111001;have HO_58 := n0_;have HO_120002 := n1_;have HO_129002 := n2_;have BK101 := n3_;have BK102 := n4_;have BK110 := n5_;have BK119 := n6_;have BK128 := n7_;have HO133 := n8_;have HB := n9_;have HO138 := n10_;clear n0_ n1_ n2_ n3_ n4_ n5_ n6_ n7_ n8_ n9_ n10_;clear ho hb hg hat;obtain ⟨Ao89, co89, eo89⟩ := Kd.R_slice HO138.out
                      (first | subst eo89 | (injection eo89 with f1_ f2_ f3_; have f4_ := f1_.symm; have f5_ := f3_.symm; clear f1_ f2_ f3_; subst f4_; subst f5_))
                      refine hK.out _ _ ?_
                      clear hK K
                      refine norm_ (a' := ?_) ?_ ?_
                      rotate_left
                      ·show Act.put _ (some 93) _ = _
                       simp only [Act.put, List.setIfInBounds_toArray, List.set_cons_zero, List.set_cons_succ, i64_w, i32_w]
                       rfl
                      refine pure_ (i := 15) (N := some 94) (v := ?_) (a' := ?_) #[true, true, true, true, true, true, true, true, true, true, true, true, true, true, true, true, false] rfl rfl (any_of HT_.out (by kernel_rfl)) (fun _ _ _ h => h) (Or.inl ⟨by rfl, ?_⟩) ?_ ?_
                      rotate_left
                      ·intro w'
                       go_simp
                       with_reducible rfl
                      rotate_left
                      ·simp only [Act.put, List.setIfInBounds_toArray, List.set_cons_zero, List.set_cons_succ, i64_w, i32_w]
                       rfl
                      refine last_ (i := 16) (N := none) #[true, true, true, true, true, true, true, true, true, true, true, true, true, true, true, true, true] rfl rfl (one_of HT_.out (by kernel_rfl)) (by decide) (fun K hK => ?_)
                      have hs90 : w88.cell? ⟨gb110, 1, none⟩ = some (.slice (some ad134) x111001_2.length co87) := (blk_cell BK110.out 1).trans rfl;have hfs90 := blk_frozen BK110.out 1;have hns90_0 := NB101_110.out;have hns90_1 := NB102_110.out;have hns90_3 := NB119_110.out;have hns90_4 := NB128_110.out;have hms90_0 := NB110_101.out;have hms90_1 := NB110_102.out;have hms90_3 := NB110_119.out;have hms90_4 := NB110_128.out
                      refine skip_ (w1 := ?_) (by rfl) rfl ?_ ?_
                      rotate_left
                      ·go_simp
                       rfl
                      refine hK.out _ _ ?_
                      clear hK K
                      refine done_ (done_of HT_.out (by kernel_rfl)) ?_
                      try go_wp2
                      go_roundg k3
                      case measure => have := HK1.out; have := HK2.out; have := HK3.out; omega
                      case rel => exact ⟨(wrap64 (x9_2 + 1)), (y131), (y136), (.slice Ao83 y131.length co83), (.slice Ao89 y136.length co89), (by first | rfl | (simp; done) | (simp [*]; done)), H', ⟨by have := HK1.out; have := HK2.out; have := HK3.out; omega⟩, ⟨by (with_reducible repeat (first | apply Kd.R_alloc | apply Kd.R_drewN | apply Kd.R_drew)); exact Kd.R_mono (Kd.R_far (p := ⟨gb110, 1, none⟩) (Kd.R_types HO133.out BK110.out (by decide)) (fun _ hk => hk.2) (.slice Ao89 y136.length co89)) (fun _ hk => hk.1.2)⟩, ⟨by (with_reducible repeat (first | apply Kd.R_alloc | apply Kd.R_drewN | apply Kd.R_drew)); exact Kd.R_mono (Kd.R_far (p := ⟨gb110, 1, none⟩) (Kd.R_types HO138.out BK110.out (by decide)) (fun _ hk => hk.2) (.slice Ao89 y136.length co89)) (fun _ hk => hk.1.2)⟩, ⟨by (with_reducible repeat (first | apply Kd.R_alloc | apply Kd.R_drewN | apply Kd.R_drew)); exact Kd.R_mono (Kd.R_far (p := ⟨gb110, 1, none⟩) (Kd.R_types HO_120002.out BK110.out (by decide)) (fun _ hk => hk.2) (.slice Ao89 y136.length co89)) (fun _ hk => trivial)⟩, ⟨by (with_reducible repeat (first | refine blk_drewN ?_ _ | refine blk_drew ?_ | refine blk_alloc ?_ _)); refine blk_far ?_ NB101_110.out _; exact blc⟩, ⟨by (with_reducible repeat (first | refine blk_drewN ?_ _ | refine blk_drew ?_ | refine blk_alloc ?_ _)); refine blk_far ?_ NB102_110.out _; exact blc⟩, ⟨by (with_reducible repeat (first | refine blk_drewN ?_ _ | refine blk_drew ?_ | refine blk_alloc ?_ _)); refine blk_put (cs := #[.slice Ao83 y131.length co83, .slice (some ad134) x111001_2.length co87]) ?_ 1 _ rfl; exact blc⟩, ⟨by (with_reducible repeat (first | refine blk_drewN ?_ _ | refine blk_drew ?_ | refine blk_alloc ?_ _)); refine blk_far ?_ NB119_110.out _; exact blc⟩, ⟨bel HB⟩⟩
                     ·rw [if_neg c76] at H
                      exact absurd H (by simp)
                    ·rw [if_neg c75] at H
                     exact absurd H (by simp)
                   ·rw [if_neg c74] at H
                    exact absurd H (by simp)
                  ·rw [if_neg c73] at H
                   exact absurd H (by simp)
                 ·rw [if_neg c72] at H
                  exact absurd H (by simp)
                ·rw [if_neg c70] at H
                 exact absurd H (by simp)
               ·rw [if_neg c69] at H
                exact absurd H (by simp)
              ·rw [if_neg c68] at H
               exact absurd H (by simp)
         ·rw [if_neg c43] at H
          have c43b0 : decide (x9_2 < 4) = false := decide_eq_false c43;clear c43;have H' := Aside0.mk H;clear H
          go_wp2
          go_roundg k2
          case measure => have := HK1.out; have := HK2.out; omega
          case rel => exact ⟨(wrap64 (x6_1 + 1)), (x111000_2), (x111001_2), (u111000), (u111001), (by first | rfl | (simp; done) | (simp [*]; done)), H', ⟨by have := HK1.out; have := HK2.out; omega⟩, ⟨rch HO_111000⟩, ⟨rch HO_111001⟩, ⟨blc⟩, ⟨blc⟩, ⟨blc⟩, ⟨bel HB⟩⟩
     ·rw [if_neg c21] at H
      exact absurd H (by simp)
    ·rw [if_neg c20] at H
     exact absurd H (by simp)
   ·rw [if_neg c19] at H
    have c19b0 : decide (x6_1 < (x111000_1.length : Int)) = false := decide_eq_false c19;clear c19
    simp only [Option.some.injEq, Prod.mk.injEq] at H
    obtain ⟨rfl, rfl⟩ := H;have hnb91 := NB110_101.out;have hnc91 := NB101_110.out;have hnb92 := NB110_102.out;have hnc92 := NB102_110.out;have hcz93_0 : wr.cell? ⟨gb110, 0, none⟩ = some (u111000) := (blk_cell BK110.out 0).trans rfl;have hcz93_1 : wr.cell? ⟨gb110, 1, none⟩ = some (u111001) := (blk_cell BK110.out 1).trans rfl;have hfz93_0 := blk_frozen BK110.out 0;have hfz93_1 := blk_frozen BK110.out 1;obtain ⟨Ao94, co94, eo94⟩ := Kd.R_slice HO_111000.out;subst eo94;have hnb95 := NB102_101.out;have hnc95 := NB101_102.out;have hcz96_0 : wr.cell? ⟨gb102, 0, none⟩ = some (.slice none 0 0) := (blk_cell BK102.out 0).trans rfl;have hcz96_1 : wr.cell? ⟨gb102, 1, none⟩ = some (.slice none 0 0) := (blk_cell BK102.out 1).trans rfl;have hfz96_0 := blk_frozen BK102.out 0;have hfz96_1 := blk_frozen BK102.out 1;obtain ⟨Ao97, co97, eo97⟩ := Kd.R_slice HO_111001.out;subst eo97
    go_wp2
    refine bodyPost_ret (results_cell_row rfl _ _ gb102 46 #[.slice Ao94 x111000_1.length co94, .slice Ao97 x111001_1.length co97] (0, 0) _ rfl (by (with_reducible repeat (first | refine blk_drewN ?_ _ | refine blk_drew ?_ | refine blk_alloc ?_ _)); refine blk_put (cs := #[.slice Ao94 x111000_1.length co94, .slice none 0 0]) ?_ 1 _ rfl; (with_reducible repeat (first | refine blk_drewN ?_ _ | refine blk_drew ?_ | refine blk_alloc ?_ _)); refine blk_put (cs := #[.slice none 0 0, .slice none 0 0]) ?_ 0 _ rfl; exact blc) Tryd.underlying46 rfl (by kernel_rfl)) rfl ?_
    exact ⟨_, _, by first | rfl | (simp [errW_none, errW_some] <;> rfl) | (simp [*, errW_none, errW_some] <;> rfl), by (with_reducible repeat (first | apply Kd.R_alloc | apply Kd.R_drewN | apply Kd.R_drew)); exact Kd.R_mono (Kd.R_far (p := ⟨gb102, 1, none⟩) (Kd.R_far (p := ⟨gb102, 0, none⟩) (Kd.R_types HO_111000.out BK102.out (by decide)) (fun _ hk => hk.2) (.slice Ao94 x111000_1.length co94)) (fun _ hk => hk.2) (.slice Ao97 x111001_1.length co97)) (fun _ hk => hk.1), by (with_reducible repeat (first | apply Kd.R_alloc | apply Kd.R_drewN | apply Kd.R_drew)); exact Kd.R_mono (Kd.R_far (p := ⟨gb102, 1, none⟩) (Kd.R_far (p := ⟨gb102, 0, none⟩) (Kd.R_types HO_111001.out BK102.out (by decide)) (fun _ hk => hk.2) (.slice Ao94 x111000_1.length co94)) (fun _ hk => hk.2) (.slice Ao97 x111001_1.length co97)) (fun _ hk => hk.1), bel HB⟩
end Go.Proofs.YtkjlfgceodindaaDoor.Q
end
section
namespace Go.Proofs.YtkjlfgceodindaaDoor.Q
open Go.RowKit Go.Proofs.YtkjlfgceodindaaDoorW.PrintWords Go.Proofs.YtkjlfgceodindaaDoorW.PrintLast Go.Proofs.YtkjlfgceodindaaDoorW.PrintMore
attribute [local go_sem] max2_int min2_int max_two min_two max_three min_three max_four min_four
set_option linter.unusedVariables false
set_option linter.unusedSimpArgs false
def bits_Mul64.f (a0 : Int) (a1 : Int) : Option (Int × Int) := some (IntKind.u64.wrap ((IntKind.u64.wrap ((IntKind.u64.wrap ((a0 / 4294967296) * (a1 / 4294967296))) + ((IntKind.u64.wrap ((IntKind.u64.wrap ((a0 / 4294967296) * (Go.bits .and .u64 a1 4294967295))) + ((IntKind.u64.wrap ((Go.bits .and .u64 a0 4294967295) * (Go.bits .and .u64 a1 4294967295))) / 4294967296))) / 4294967296))) + ((IntKind.u64.wrap ((Go.bits .and .u64 (IntKind.u64.wrap ((IntKind.u64.wrap ((a0 / 4294967296) * (Go.bits .and .u64 a1 4294967295))) + ((IntKind.u64.wrap ((Go.bits .and .u64 a0 4294967295) * (Go.bits .and .u64 a1 4294967295))) / 4294967296))) 4294967295) + (IntKind.u64.wrap ((Go.bits .and .u64 a0 4294967295) * (a1 / 4294967296))))) / 4294967296)), IntKind.u64.wrap (a0 * a1))
set_option maxHeartbeats 8000000 in
set_option maxRecDepth 100000 in
theorem bits_Mul64.calls (a0 : Int) (a1 : Int) (r1 : Int) (r2 : Int) (w : World) (h : bits_Mul64.f a0 a1 = some (r1, r2)) :
  Calls Tryd.prog 100 #[.int .u64 a0, .int .u64 a1] w fun e w' => e = .returned (.tuple #[.int .u64 r1, .int .u64 r2]) ∧ Drawn0 w w' := by
 have H : (some (IntKind.u64.wrap ((IntKind.u64.wrap ((IntKind.u64.wrap ((a0 / 4294967296) * (a1 / 4294967296))) + ((IntKind.u64.wrap ((IntKind.u64.wrap ((a0 / 4294967296) * (Go.bits .and .u64 a1 4294967295))) + ((IntKind.u64.wrap ((Go.bits .and .u64 a0 4294967295) * (Go.bits .and .u64 a1 4294967295))) / 4294967296))) / 4294967296))) + ((IntKind.u64.wrap ((Go.bits .and .u64 (IntKind.u64.wrap ((IntKind.u64.wrap ((a0 / 4294967296) * (Go.bits .and .u64 a1 4294967295))) + ((IntKind.u64.wrap ((Go.bits .and .u64 a0 4294967295) * (Go.bits .and .u64 a1 4294967295))) / 4294967296))) 4294967295) + (IntKind.u64.wrap ((Go.bits .and .u64 a0 4294967295) * (a1 / 4294967296))))) / 4294967296)), IntKind.u64.wrap (a0 * a1))) = some (r1, r2) := h;clear h
 simp only [Option.some.injEq, Prod.mk.injEq] at H
 obtain ⟨rfl, rfl⟩ := H
 go_enter Tryd.func100, Tryd.ntmps100
 go_wp2
 go_ret2
 exact ⟨by first | rfl | (simp; done) | (simp [*]; done), by repeat (first | exact Drawn0.refl _ | apply Drawn0.step)⟩
def bits_Mul.f (a0 : Int) (a1 : Int) : Option (Int × Int) := (bits_Mul64.f a0 a1).bind fun bt101 => (some (bt101.1, bt101.2))
set_option maxHeartbeats 8000000 in
set_option maxRecDepth 100000 in
theorem bits_Mul.calls (a0 : Int) (a1 : Int) (r1 : Int) (r2 : Int) (w : World) (h : bits_Mul.f a0 a1 = some (r1, r2)) :
  Calls Tryd.prog 92 #[.int .u64 a0, .int .u64 a1] w fun e w' => e = .returned (.tuple #[.int .u64 r1, .int .u64 r2]) ∧ Drawn0 w w' := by
 have H : ((bits_Mul64.f a0 a1).bind fun bt101 => (some (bt101.1, bt101.2))) = some (r1, r2) := h;clear h;replace H := Option.bind_eq_some_iff.mp H;obtain ⟨⟨t101, t102⟩, A30, H⟩ := H;replace H : (some (t101, t102)) = some (r1, r2) := H;have A3 := Aside0.mk A30;clear A30
 simp only [Option.some.injEq, Prod.mk.injEq] at H
 obtain ⟨rfl, rfl⟩ := H
 go_enter Tryd.func92, Tryd.ntmps92
 go_wp2_with (first | ((with_reducible refine gate_callee (f := 100) rfl ?_); refine gcall (some 25) Tryd.func100 #[.int .u64 a0, .int .u64 a1] rfl ?_; (with_reducible refine (bits_Mul64.calls a0 a1 t101 t102 _ A3.out).mono ?_); rintro e w' ⟨rfl, ⟨nd, rfl⟩⟩; refine ⟨_, rfl, ?_⟩))
 go_ret2
 exact ⟨by first | rfl | (simp; done) | (simp [*]; done), by repeat (first | exact Drawn0.refl _ | apply Drawn0.step)⟩
end Go.Proofs.YtkjlfgceodindaaDoor.Q
end
section
namespace Go.Proofs.YtkjlfgceodindaaDoor.Q
open Go.RowKit Go.Proofs.YtkjlfgceodindaaDoorW.PrintWords Go.Proofs.YtkjlfgceodindaaDoorW.PrintLast Go.Proofs.YtkjlfgceodindaaDoorW.PrintMore
theorem mul_small : ∀ n : Nat, n ≤ 64 → bits_Mul.f 1 (n : Int) = some (0, (n : Int)) := by
 intro n hn
 have h : ∀ m : Fin 65, bits_Mul.f 1 (m.val : Int) = some (0, (m.val : Int)) := by decide
 exact h ⟨n, by omega⟩
def slices_Repeat_int.f (l0 : List Int) (a1 : Int) : Option (List Int) := if l0.length = 1 ∧ 1 ≤ a1 ∧ a1 ≤ 64 then some (List.replicate a1.toNat (l0.getD 0 0)) else none
def fillC (n N : Nat) (x : Int) : List Value := List.replicate n (.int .i64 x) ++ List.replicate (N - n) (.int .i64 0)
theorem fillC_len {n N : Nat} (x : Int) (h : n ≤ N) : (fillC n N x).length = N := by simp [fillC]; omega
theorem fillC_zero (N : Nat) (x : Int) : List.replicate N (.int .i64 0) = fillC 0 N x := by simp [fillC]
theorem fillC_full (N : Nat) (x : Int) : fillC N N x = List.replicate N (.int .i64 x) := by simp [fillC]
theorem fillC_splice {n N : Nat} (x : Int) (k : Nat) (h : n + k ≤ N) : splice (fillC n N x) n (List.replicate k (.int .i64 x)) = fillC (n + k) N x := by
 unfold splice fillC
 rw [List.take_left' (by simp), List.length_replicate, List.drop_append, List.drop_eq_nil_of_le (by simp), List.nil_append, List.length_replicate, List.drop_replicate, ← List.append_assoc, List.replicate_append_replicate]
 congr 2
 omega
theorem fillC_at {n N j : Nat} (x : Int) (h : j < n) : (fillC n N x)[j]? = some (.int .i64 x) := by
 unfold fillC
 rw [List.getElem?_append_left (by simpa using h), List.getElem?_replicate, if_pos h]
theorem wpList_makeInt {P : Program} {w w0 : World} {ops : Array Oper} {rest : List Oper} {o : Oper} {a : Act} {Q : Exit → Act → World → Prop} {B : Nat} (hgd : o.guard = none) (t : TypeId) (x y : Operand)
  (ho : o.op = .makeSlice t x y) (e : TypeId) (n : Nat) (hx : a.eval x = .int .i64 n) (hy : a.eval y = .int .i64 n) (ht : P.underlying t = some (.slice e)) (hinfo : (P.info? e).map (fun i => (i.zero, i.size, i.bytes)) = some (some (.int .i64 0), 1, 8))
  (hn : n ≤ 64) (HB : Below B w0 w) (hB : B ≤ w.heap.size)
  (h : ∀ g w', Aside0 (w'.heap[g]? = some (.cells (fillC 0 n 0).toArray e (0, 0))) → B ≤ g → Aside0 (Below B w0 w') → wpList P ops Q rest (a.put o.dst (.slice (some ⟨g, 0, none⟩) n n)) w') : wpList P ops Q (o :: rest) a w := by
 obtain ⟨i, hi, h2⟩ := Option.map_eq_some_iff.1 hinfo
 simp only [Prod.mk.injEq] at h2
 refine wpList_plain hgd fun K hK => ?_
 have hrun := run_makeSlice (P := P) w t e i (.int .i64 0) ht hi h2.1 .i64 .i64 n n (by omega) (by omega) (by rw [h2.2.1]; simp; omega) (by rw [h2.2.2]; omega) (by omega);unfold Oper.wp
 simp only [Int.toNat_natCast] at hrun
 simp [execOp, ho, hx, hy, hrun, Result.andThen]
 refine hK _ _ (h _ _ ⟨?_⟩ hB ⟨below_then HB hB (below_alloc (Below.refl _ _) _)⟩)
 rw [heap_alloc_new, ← fillC_zero, h2.2.1]
 congr 2
 simp [madeCells]
 apply Array.ext
 ·simp
 ·intro j h1 h2
  simp [Value.cells, Nat.mod_one]
theorem one_cell {w : World} {ad : Addr} {x : Int} (h : w.cell? ad = some (.int .i64 x)) : ∀ (j : Nat) (v : Value), ([.int .i64 x] : List Value)[j]? = some v → w.cell? (ad.add j) = some v := by
 intro j v hv
 match j, hv with
 | 0, hv => simp at hv; subst hv; simpa [Addr.add] using h
theorem one_cell1 (x : Int) : ∀ v ∈ ([.int .i64 x] : List Value), v.oneCell' = true := by simp [Value.oneCell']
theorem cell_old {w w1 : World} {ad : Addr} {v : Value} (h : w.cell? ad = some v) (hb : Below w.heap.size w w1) : w1.cell? ad = some v := (hb.cell (World.block_lt_of_cell? w _ h)).trans h
theorem first_fill {w : World} {g n : Nat} {x : Int} (h : w.heap[g]? = some (.cells (splice (fillC 0 n 0) 0 [.int .i64 x]).toArray 3 (0, 0))) (hn : 1 ≤ n) : w.heap[g]? = some (.cells (fillC 1 n x).toArray 3 (0, 0)) := by
 have e := fillC_splice (n := 0) (N := n) x 1 (by omega)
 have e0 : fillC 0 n 0 = fillC 0 n x := by simp [fillC]
 rw [e0] at h
 simp only [List.replicate_succ, List.replicate_zero, Nat.zero_add] at e
 rw [e] at h
 exact h
theorem fill_cells {w : World} {g n k m : Nat} {x : Int} (h : w.heap[g]? = some (.cells (fillC m n x).toArray 3 (0, 0))) (hk : k ≤ m) : ∀ (j : Nat) (v : Value), (List.replicate k (Value.int .i64 x))[j]? = some v → w.drew.cell? ((⟨g, 0, none⟩ : Addr).add j) = some v := by
 intro j v hv
 rw [List.getElem?_replicate] at hv
 split at hv
 case isFalse => cases hv
 rename_i hj
 injection hv with hv
 subst hv;have h2 := (below_drew (Below.refl w.heap.size w)).block g (blk_lt h);have h3 := blk_cell (h2.trans h) j
 have e : ((⟨g, 0, none⟩ : Addr).add j) = ⟨g, j, none⟩ := by simp [Addr.add]; exact fun h => h.symm
 rw [e, h3, List.getElem?_toArray, fillC_at x (by omega)]
theorem fill_one (k : Nat) (x : Int) : ∀ v ∈ List.replicate k (Value.int .i64 x), v.oneCell' = true := by
 intro v hv
 rw [List.eq_of_mem_replicate hv]
 rfl
theorem next_fill {w : World} {g n m k : Nat} {x : Int} (h : w.heap[g]? = some (.cells (splice (fillC m n x) m (List.replicate k (.int .i64 x))).toArray 3 (0, 0))) (hn : m + k ≤ n) : w.heap[g]? = some (.cells (fillC (m + k) n x).toArray 3 (0, 0)) := by
 rw [fillC_splice x k hn] at h
 exact h
theorem sum_small (m k n : Nat) (hn : n ≤ 64) (h : m + k ≤ n) : Value.int .i64 (IntKind.i64.wrap ((m : Int) + (k : Int))) = .int .i64 ((m + k : Nat) : Int) := by
 have e : IntKind.i64.wrap ((m : Int) + (k : Int)) = ((m + k : Nat) : Int) := by rw [IntKind.wrap_i64]; omega
 rw [e]
theorem R_fill {w : World} {g n base : Nat} {x : Int} (h : w.heap[g]? = some (.cells (fillC n n x).toArray 3 (0, 0))) (hb : base ≤ g) (hn : n ≤ 64) : Kd.R (Kd.int .i64) 3 w base (fun _ => True) (.slice (some ⟨g, 0, none⟩) n n) (List.replicate n x) := by
 rw [fillC_full] at h
 refine ⟨fun _ _ => trivial, List.replicate n (.int .i64 x), ⟨by simp [Kd.int, Kd.scalar], Or.inr ⟨g, n, (List.replicate n (.int .i64 x)).toArray, by simp, hb, h, by simp, by simp [maxLen]; omega, by simp [Kd.int, Kd.scalar], by simp [Kd.int, Kd.scalar]⟩⟩, by simp [Kd.int, Kd.scalar], fun j p hp => ?_⟩
 rw [List.getElem?_replicate] at hp
 split at hp
 case isFalse => cases hp
 injection hp with hp
 subst hp
 show ((List.replicate n (Value.int .i64 x)).drop (j * 1)).take 1 = [Value.int .i64 x]
 rw [List.drop_replicate, List.take_replicate]
 rw [show min 1 (n - j * 1) = 1 by omega]
 rfl
theorem sz3 : (Tryd.prog.info? 3).map (·.size) = some 1 := by kernel_rfl
set_option maxHeartbeats 4000000 in
set_option maxRecDepth 100000 in
theorem slices_Repeat_int.calls (A0 : Option Addr) (c0 : Nat) (l0 : List Int) (a1 : Int) (r : List Int) (w : World) (hr0 : Kd.C (Kd.int .i64) w A0 l0.length l0) (hc0 : l0.length ≤ c0) (h : slices_Repeat_int.f l0 a1 = some r) :
  Calls Tryd.prog 76 #[.slice A0 l0.length c0, .int .i64 a1] w fun e w' => ∃ v0_ : Value, e = .returned (v0_) ∧ Kd.R (Kd.int .i64) 3 w' w.heap.size (fun _ => True) v0_ r ∧ Below w.heap.size w w' := by
 unfold slices_Repeat_int.f at h
 split at h
 case isFalse => cases h
 rename_i hc
 obtain rfl := Option.some.inj h;obtain ⟨hl, h1, h64⟩ := hc;obtain ⟨x, rfl⟩ : ∃ x, l0 = [x] := List.length_eq_one_iff.1 hl;obtain ⟨n, rfl⟩ : ∃ n : Nat, a1 = n := ⟨a1.toNat, by omega⟩;obtain ⟨ad, rfl, hcell⟩ := Kd.at_int hr0 0 (by omega) (by simp)
 have hcx : w.cell? ad = some (.int .i64 x) := by simpa [Addr.add, rd] using hcell
 have t1 : decide ((n : Int) < 0) = false := decide_eq_false (by omega);have A1 := Aside0.mk (mul_small n (by omega))
 have n1 : 1 ≤ n := by omega
 have n64 : n ≤ 64 := by omega
 have t2 : decide ((n : Int) > 9223372036854775807) = false := decide_eq_false (by omega);clear hl h1 h64 h hr0 hcell
 simp only [List.length_singleton] at hc0 ⊢
 have HC := Aside0.mk hcx;clear hcx
 go_enter Tryd.func76, Tryd.ntmps76
 go_wp2_with (first
  | (go_at_call 92; (refine (bits_Mul.calls 1 n 0 n _ A1.out).mono ?_); rintro e w' ⟨rfl, ⟨nd, rfl⟩⟩)
  | ((with_reducible refine gate_dst (N := 30) rfl ?_); apply wpList_makeInt (w0 := w) (B := w.heap.size) (n := n); (case hgd => rfl); (case ho => rfl); (case hx => rfl); (case hy => rfl); (case ht => exact Tryd.underlying33); (case hinfo => exact info3); (case hn => exact n64); (case HB => exact pw_below_drewN (Below.refl _ _) _); (case hB => exact (pw_below_drewN (Below.refl w.heap.size w) _).size); intro g w1 HG1 hBg HB1)
  | ((with_reducible refine gate_dst (N := 33) rfl ?_); apply wpList_copy_splice (w0 := w) (B := w.heap.size) (g := g) (off := 0) (cur := fillC 0 n 0) (cs := [.int .i64 x]) (t := 3) (elem := 3); (case hgd => rfl); (case ho => rfl); (case hu => exact Tryd.underlying33); (case hsz => exact sz3); (case hd => rfl); (case hs => rfl); (case hg => exact HG1.out); (case hn => exact (Nat.min_eq_left n1).symm); (case hpos => exact fun _ => ⟨rfl, ad, rfl, one_cell (cell_old HC.out HB1.out)⟩); (case hfit => simp only [fillC_len 0 (Nat.zero_le n)]; exact n1); (case h1 => exact one_cell1 x); (case hb => exact HB1.out); (case hBg => exact hBg); intro w2 HG2 HB2))
 have HG3 := Aside0.mk (first_fill HG2.out n1);have HB3 := Aside0.mk HB2;clear HG2 HB2
 go_wp2
 go_loopg [8] n (fun kq v8 w' => ∃ m : Nat, v8 = .int .i64 m ∧ Aside0 (1 ≤ m ∧ m ≤ n ∧ n ≤ m + kq) ∧ Aside0 (w'.heap[g]? = some (.cells (fillC m n x).toArray 3 (0, 0))) ∧ Aside0 (Below w.heap.size w w'))
 case atStart => exact ⟨1, rfl, ⟨Nat.le_refl _, n1, by omega⟩, HG3, HB3⟩
 case round =>
  clear HG3 HB3 HG1 HB1;obtain ⟨m, rfl, HM, HG, HB⟩ := hrel;obtain ⟨m1, m2, m3⟩ := HM.out
  by_cases hmn : m < n
  ·cases gk with
   | zero => exact absurd m3 (by omega)
   | succ k1 =>
    have c1 : decide ((m : Int) < (n : Int)) = true := decide_eq_true (by omega);have p1 : (0 ≤ (m : Int)) = True := eq_true (by omega);have p2 : ((m : Int) ≤ (n : Int)) = True := eq_true (by omega);have p3 : (n = m) = False := eq_false (by omega);obtain ⟨k, hk⟩ : ∃ k, Aside0 (k = min (n - m) m) := ⟨_, ⟨rfl⟩⟩;have hk1 := Aside0.mk (show k ≤ n - m ∧ k ≤ m ∧ 1 ≤ k by have := hk.out; omega);have hkl := Aside0.mk (show (List.replicate k (Value.int .i64 x)).length = Nat.min m (n - m) by rw [List.length_replicate, hk.out, Nat.min_comm]);have hkf := Aside0.mk (show m + (List.replicate k (Value.int .i64 x)).length ≤ (fillC m n x).length by rw [List.length_replicate, fillC_len x m2]; have := hk1.out; omega);clear HM
    go_wp2
    go_region_law (first | (apply step_copy_splice (w0 := w) (B := w.heap.size) (g := g) (off := m) (cur := fillC m n x) (cs := List.replicate k (.int .i64 x)) (t := 3) (elem := 3); (case hgd => rfl); (case ho => rfl); (case hu => exact Tryd.underlying33); (case hsz => exact sz3); (case hd => rfl); (case hs => rfl); (case hg => exact HG.out); (case hn => exact hkl.out); (case hpos => exact fun _ => ⟨rfl, _, rfl, fill_cells HG.out hk1.out.2.1⟩); (case hfit => exact hkf.out); (case h1 => exact fill_one k x); (case hb => exact below_drew HB.out); (case hBg => exact hBg); intro w3 HG4 HB4))
    have HG5 := Aside0.mk (next_fill HG4.out (show m + k ≤ n by have := hk1.out; omega));have HB5 := Aside0.mk HB4;clear HG4 HB4
    go_wp2
    go_roundg k1
    case measure => omega
    case rel => exact ⟨m + k, sum_small m k n n64 (by have := hk1.out; omega), ⟨by omega, by have := hk1.out; omega, by have := hk1.out; omega⟩, HG5, HB5⟩
  ·obtain rfl : m = n := by omega
   have c1 : decide ((m : Int) < (m : Int)) = false := decide_eq_false (by omega)
   go_wp2
   go_ret
   exact ⟨_, rfl, by simpa using R_fill HG.out hBg n64, HB.out⟩
end Go.Proofs.YtkjlfgceodindaaDoor.Q
end
