/- Texts of this claim, joined. -/
import Derived.Test.YtcpeldgnabfdmaaDoorJCountTilted01
import Derived.Test.YtcpeldgnabfdmaaDoorJCountTilted03
import Derived.Test.YtcpeldgnabfdmaaDoorJCountTilted02
import Derived.Maps.OwnOps
import Derived.Maps.OwnSet
import Derived.Maps.Views
import Derived.Maps.RangeWalk
import Derived.WalkKit
import Derived.Laws.AppendOwn
import Derived.Shelf.SlicesE.Clone
import Derived.Carry
set_option linter.unusedVariables false
set_option linter.unusedSimpArgs false
set_option linter.unusedSectionVars false
section
namespace Go.Proofs.YtcpeldgnabfdmaaDoor.Q
open Go.RowKit Go.Proofs.YtcpeldgnabfdmaaDoorW.PrintWords Go.Proofs.YtcpeldgnabfdmaaDoorW.PrintLast Go.Proofs.YtcpeldgnabfdmaaDoorW.PrintMore
attribute [local go_sem] max2_int min2_int max_two min_two max_three min_three max_four min_four
set_option linter.unusedVariables false
set_option linter.unusedSimpArgs false
def spec_tiDir.l0 : Nat → ByteArray → Int → Option (Int)
 | 0, _, _ => none
 | k + 1, x0, x3 => if x3 < 4 then ((spec_tiDirs.f).bind fun t101 => (if 0 ≤ x3 then (if x3 ≤ (wrap64 (x3 + 1)) then (if (wrap64 (x3 + 1)) ≤ (t101.size : Int) then (if x0.toList = (t101.extract (x3 : Int).toNat ((wrap64 (x3 + 1)) : Int).toNat).toList then (some x3) else (spec_tiDir.l0 k x0 (wrap64 (x3 + 1)))) else (none)) else (none)) else (none))) else (some (-1))
def spec_tiDir.f (k : Nat) (a0 : ByteArray) : Option (Int) := spec_tiDir.l0 k a0 0
set_option maxHeartbeats 8000000 in
set_option maxRecDepth 100000 in
theorem spec_tiDir.calls (k : Nat) (a0 : ByteArray) (r : Int) (w : World) (h : spec_tiDir.f k a0 = some r) :
  Calls Tryd.prog 30 #[.string a0] w fun e w' => e = .returned (.int .i64 r) ∧ Drawn0 w w' := by
 have H : (spec_tiDir.l0 k a0 0) = some r := h
 clear h
 have H' := Aside0.mk H
 clear H
 go_enter Tryd.func30, Tryd.ntmps30
 go_wp2
 go_loopg [3] k (fun kq v3 w' => ∃ (x3_1 : Int), v3 = .int .i64 x3_1 ∧ Aside0 (spec_tiDir.l0 kq a0 x3_1 = some r) ∧ Aside0 (kq ≤ k) ∧ Drawn0 w w')
 case atStart => exact ⟨(0), (by first | rfl | (simp; done) | (simp [*]; done)), H', ⟨Nat.le_refl _⟩, by repeat (first | exact Drawn0.refl _ | apply Drawn0.step)⟩
 case round =>
  clear H'
  obtain ⟨x3_1, rfl, HA, HK1, ⟨m1, rfl⟩⟩ := hrel
  cases gk with
  | zero => exact absurd HA.out (by simp [spec_tiDir.l0])
  | succ k1 =>
   have H := HA.out
   clear HA
   simp only [spec_tiDir.l0] at H
   by_cases c2 : x3_1 < 4
   ·rw [if_pos c2] at H
    have c2b0 : decide (x3_1 < 4) = true := decide_eq_true c2
    clear c2
    replace H := Option.bind_eq_some_iff.mp H
    obtain ⟨t101, A30, H⟩ := H
    replace H : (if 0 ≤ x3_1 then (if x3_1 ≤ (wrap64 (x3_1 + 1)) then (if (wrap64 (x3_1 + 1)) ≤ (t101.size : Int) then (if a0.toList = (t101.extract (x3_1 : Int).toNat ((wrap64 (x3_1 + 1)) : Int).toNat).toList then (some x3_1) else (spec_tiDir.l0 k1 a0 (wrap64 (x3_1 + 1)))) else (none)) else (none)) else (none)) = some r := H
    have A3 := Aside0.mk A30
    clear A30
    by_cases c4 : 0 ≤ x3_1
    ·rw [if_pos c4] at H
     have c4b0 := eq_true c4
     have c4b1 : decide (0 ≤ x3_1) = true := decide_eq_true c4
     clear c4
     by_cases c5 : x3_1 ≤ (wrap64 (x3_1 + 1))
     ·rw [if_pos c5] at H
      have c5b0 := eq_true c5
      have c5b1 : decide (x3_1 ≤ (wrap64 (x3_1 + 1))) = true := decide_eq_true c5
      by_cases c6 : (wrap64 (x3_1 + 1)) ≤ (t101.size : Int)
      ·rw [if_pos c6] at H
       have c6b0 := eq_true c6
       have c6b1 : decide ((wrap64 (x3_1 + 1)) ≤ (t101.size : Int)) = true := decide_eq_true c6
       by_cases c7 : a0.toList = (t101.extract (x3_1 : Int).toNat ((wrap64 (x3_1 + 1)) : Int).toNat).toList
       ·rw [if_pos c7] at H
        have c7b0 : (a0.toList == (t101.extract (x3_1 : Int).toNat ((wrap64 (x3_1 + 1)) : Int).toNat).toList) = true := beq_iff_eq.mpr c7
        have c7b1 : (a0.toList != (t101.extract (x3_1 : Int).toNat ((wrap64 (x3_1 + 1)) : Int).toNat).toList) = false := bne_eq_false_iff_eq.mpr c7
        clear c7
        obtain rfl := Option.some.inj H
        go_wp2_with (first | ((with_reducible refine gate_callee (f := 39) rfl ?_); refine gcall (some 9) Tryd.func39 #[] rfl ?_; (with_reducible refine (spec_tiDirs.calls  t101 _ A3.out).mono ?_); rintro e w' ⟨rfl, ⟨nd, rfl⟩⟩; refine ⟨_, rfl, ?_⟩))
        go_ret
        exact ⟨by first | rfl | (simp; done) | (simp [*]; done), by repeat (first | exact Drawn0.refl _ | apply Drawn0.step)⟩
       ·rw [if_neg c7] at H
        have c7b0 : (a0.toList == (t101.extract (x3_1 : Int).toNat ((wrap64 (x3_1 + 1)) : Int).toNat).toList) = false := beq_eq_false_iff_ne.mpr c7
        have c7b1 : (a0.toList != (t101.extract (x3_1 : Int).toNat ((wrap64 (x3_1 + 1)) : Int).toNat).toList) = true := bne_iff_ne.mpr c7
        have H' := Aside0.mk H
        clear H
        go_wp2_with (first | ((with_reducible refine gate_callee (f := 39) rfl ?_); refine gcall (some 9) Tryd.func39 #[] rfl ?_; (with_reducible refine (spec_tiDirs.calls  t101 _ A3.out).mono ?_); rintro e w' ⟨rfl, ⟨nd, rfl⟩⟩; refine ⟨_, rfl, ?_⟩))
        go_roundg k1
        case measure => have := HK1.out; omega
        case rel => exact ⟨(wrap64 (x3_1 + 1)), (by first | rfl | (simp; done) | (simp [*]; done)), H', ⟨by have := HK1.out; omega⟩, by repeat (first | exact Drawn0.refl _ | apply Drawn0.step)⟩
      ·rw [if_neg c6] at H
       exact absurd H (by simp)
     ·rw [if_neg c5] at H
      exact absurd H (by simp)
    ·rw [if_neg c4] at H
     exact absurd H (by simp)
   ·rw [if_neg c2] at H
    have c2b0 : decide (x3_1 < 4) = false := decide_eq_false c2
    clear c2
    obtain rfl := Option.some.inj H
    go_wp2
    go_ret
    exact ⟨by first | rfl | (simp; done) | (simp [*]; done), by repeat (first | exact Drawn0.refl _ | apply Drawn0.step)⟩
def impl_isDir.f (a0 : ByteArray) : Option (Bool) := if (a0.size : Int) = 1 then ((strings_Contains.f (⟨#[117, 114, 100, 108]⟩ : ByteArray) a0).bind fun t101 => (some t101)) else (some false)
set_option maxHeartbeats 8000000 in
set_option maxRecDepth 100000 in
theorem impl_isDir.calls (a0 : ByteArray) (r : Bool) (w : World) (h : impl_isDir.f a0 = some r) :
  Calls Tryd.prog 32 #[.string a0] w fun e w' => e = .returned (.bool r) ∧ Drawn0 w w' := by
 have H : (if (a0.size : Int) = 1 then ((strings_Contains.f (⟨#[117, 114, 100, 108]⟩ : ByteArray) a0).bind fun t101 => (some t101)) else (some false)) = some r := h
 clear h
 by_cases c2 : (a0.size : Int) = 1
 ·rw [if_pos c2] at H
  have c2b0 : ((a0.size : Int) == 1) = true := beq_iff_eq.mpr c2
  have c2b1 : ((a0.size : Int) != 1) = false := bne_eq_false_iff_eq.mpr c2
  clear c2
  replace H := Option.bind_eq_some_iff.mp H
  obtain ⟨t101, A30, H⟩ := H
  replace H : (some t101) = some r := H
  have A3 := Aside0.mk A30
  clear A30
  obtain rfl := Option.some.inj H
  go_enter Tryd.func32, Tryd.ntmps32
  go_wp2_with (first | (go_at_call 52; (with_reducible refine (strings_Contains.calls (⟨#[117, 114, 100, 108]⟩ : ByteArray) a0 t101 _ A3.out).mono ?_); rintro e w' ⟨rfl, ⟨nd, rfl⟩⟩))
  go_ret
  exact ⟨by first | rfl | (simp; done) | (simp [*]; done), by repeat (first | exact Drawn0.refl _ | apply Drawn0.step)⟩
 ·rw [if_neg c2] at H
  have c2b0 : ((a0.size : Int) == 1) = false := beq_eq_false_iff_ne.mpr c2
  have c2b1 : ((a0.size : Int) != 1) = true := bne_iff_ne.mpr c2
  obtain rfl := Option.some.inj H
  go_enter Tryd.func32, Tryd.ntmps32
  go_wp2
  go_ret
  exact ⟨by first | rfl | (simp; done) | (simp [*]; done), by repeat (first | exact Drawn0.refl _ | apply Drawn0.step)⟩
end Go.Proofs.YtcpeldgnabfdmaaDoor.Q
end
section
namespace Go.Proofs.YtcpeldgnabfdmaaDoor.Q
open Go.RowKit Go.Proofs.YtcpeldgnabfdmaaDoorW.PrintWords Go.Proofs.YtcpeldgnabfdmaaDoorW.PrintLast Go.Proofs.YtcpeldgnabfdmaaDoorW.PrintMore
attribute [local go_sem] max2_int min2_int max_two min_two max_three min_three max_four min_four
set_option linter.unusedVariables false
set_option linter.unusedSimpArgs false
def spec_cnDir.f (k : Nat) (a0 : ByteArray) (a1 : ByteArray) (a2 : Int) : Option (Int × Int × List Int × Int × Bool) := (spec_cnBare.f k a0).bind fun bt102 => ((spec_tiDir.f k a1).bind fun t110 => (if bt102.2.2.2.2 = true then (if t110 ≥ 0 then ((spec_l1In.f a2 0 bt102.2.2.2.1).bind fun t111 => (some (bt102.1, bt102.2.1, bt102.2.2.1, t110, t111))) else (some (bt102.1, bt102.2.1, bt102.2.2.1, t110, false))) else (some (bt102.1, bt102.2.1, bt102.2.2.1, t110, false))))
def spec_cnDir.T3 : Bool × List (List Nat × List Nat) := (true, [([], []), ([], []), ([], []), ([2], [2]), ([3], [3]), ([4, 3], [3, 4]), ([3, 5], [3, 5]), ([6, 3], [6]), ([7], [7]), ([7], [7]), ([8, 9, 7, 7], [7, 8, 9]), ([7, 10], [7, 10]), ([0, 10, 0], [0]), ([1, 12, 0, 1, 12], [1]), ([11, 13, 0, 1, 2, 3, 4, 5, 6, 7, 8, 9, 10, 11, 12, 13], [11])])
def spec_cnDir.B3 : List Nat := [0, 0, 0, 4, 12, 28, 60, 124, 252, 252, 1020, 2044, 2045, 6143, 16383]
theorem spec_cnDir.tab3 : rtab .any (opsOf Tryd.f33 3) = spec_cnDir.T3 := by kernel_rfl
theorem spec_cnDir.bits3 : waitsOk spec_cnDir.T3.2 spec_cnDir.B3 = true := by kernel_rfl
set_option maxHeartbeats 8000000 in
set_option maxRecDepth 100000 in
theorem spec_cnDir.calls (k : Nat) (a0 : ByteArray) (a1 : ByteArray) (a2 : Int) (r1 : Int) (r2 : Int) (r3 : List Int) (r4 : Int) (r5 : Bool) (w : World) (h : spec_cnDir.f k a0 a1 a2 = some (r1, r2, r3, r4, r5)) :
  Calls Tryd.prog 33 #[.string a0, .string a1, .int .i64 a2] w fun e w' => ∃ v2_ : Value, e = .returned (.tuple #[.agg #[.int .i64 r1, .int .i64 r2, v2_], .int .i64 r4, .bool r5]) ∧ Kd.R (Kd.int .u8) 5 w' w.heap.size (fun _ => True) v2_ r3 ∧ Below w.heap.size w w' := by
 have hu37 := Tryd.underlying37
 have HB := Aside0.mk (Below.refl w.heap.size w)
 have H : ((spec_cnBare.f k a0).bind fun bt102 => ((spec_tiDir.f k a1).bind fun t110 => (if bt102.2.2.2.2 = true then (if t110 ≥ 0 then ((spec_l1In.f a2 0 bt102.2.2.2.1).bind fun t111 => (some (bt102.1, bt102.2.1, bt102.2.2.1, t110, t111))) else (some (bt102.1, bt102.2.1, bt102.2.2.1, t110, false))) else (some (bt102.1, bt102.2.1, bt102.2.2.1, t110, false))))) = some (r1, r2, r3, r4, r5) := h
 clear h
 replace H := Option.bind_eq_some_iff.mp H
 obtain ⟨⟨t102, t103, t104, t107, t108⟩, A40, H⟩ := H
 replace H : ((spec_tiDir.f k a1).bind fun t110 => (if t108 = true then (if t110 ≥ 0 then ((spec_l1In.f a2 0 t107).bind fun t111 => (some (t102, t103, t104, t110, t111))) else (some (t102, t103, t104, t110, false))) else (some (t102, t103, t104, t110, false)))) = some (r1, r2, r3, r4, r5) := H
 have A4 := Aside0.mk A40
 clear A40
 replace H := Option.bind_eq_some_iff.mp H
 obtain ⟨t110, A50, H⟩ := H
 replace H : (if t108 = true then (if t110 ≥ 0 then ((spec_l1In.f a2 0 t107).bind fun t111 => (some (t102, t103, t104, t110, t111))) else (some (t102, t103, t104, t110, false))) else (some (t102, t103, t104, t110, false))) = some (r1, r2, r3, r4, r5) := H
 have A5 := Aside0.mk A50
 clear A50
 by_cases c6 : t108 = true
 ·subst c6
  have H1 : (if t110 ≥ 0 then ((spec_l1In.f a2 0 t107).bind fun t111 => (some (t102, t103, t104, t110, t111))) else (some (t102, t103, t104, t110, false))) = some (r1, r2, r3, r4, r5) := by rw [if_pos rfl] at H; exact H
  clear H
  have H := H1
  clear H1
  by_cases c7 : t110 ≥ 0
  ·rw [if_pos c7] at H
   have c7b0 : decide (0 ≤ t110) = true := decide_eq_true c7
   clear c7
   replace H := Option.bind_eq_some_iff.mp H
   obtain ⟨t111, A80, H⟩ := H
   replace H : (some (t102, t103, t104, t110, t111)) = some (r1, r2, r3, r4, r5) := H
   have A8 := Aside0.mk A80
   clear A80
   simp only [Option.some.injEq, Prod.mk.injEq] at H
   obtain ⟨rfl, rfl, rfl, rfl, rfl⟩ := H
   go_enter Tryd.func33, Tryd.ntmps33
   try go_wp2_with (first | ((with_reducible refine gate_dst (N := 6) rfl ?_); refine boxE (N := 6) (cs := #[.int .i64 0, .int .i64 0, .slice none 0 0]) (t := 37) ?_; intro gb101 hg w9 hbox hb; have n0_ := Aside0.mk (below_step (bel HB) hb); have n1_ := Aside0.mk (hbox); have n2_ := Aside0.mk (gsz hg (bel HB)); have n3_ := Aside0.mk (gsz hg (bel HB)); clear HB; have HB := n0_; have BK101 := n1_; have GW101 := n2_; have GE101 := n3_; clear n0_ n1_ n2_ n3_; clear hb hbox hg) | ((with_reducible refine gate_callee (f := 29) rfl ?_); refine gcall (some 15) Tryd.func29 #[.string a0] rfl ?_; (with_reducible refine (spec_cnBare.calls k a0 t102 t103 t104 t107 true _ A4.out).mono ?_); rintro e w10 ⟨v105, rfl, ho0, hb⟩; refine ⟨_, rfl, ?_⟩; have n0_ := Aside0.mk (Kd.R_lower ho0 (below_size (bel HB))); have n1_ := Aside0.mk (blk_below (g := gb101) (o := .cells #[.int .i64 0, .int .i64 0, .slice none 0 0] 37 (0, 0)) blc hb); have n2_ := Aside0.mk (below_step (bel HB) hb); clear BK101; clear HB; have HO106 := n0_; have BK101 := n1_; have HB := n2_; clear n0_ n1_ n2_; (try clear hb); (try clear hb2); (try clear hk); (try clear hi); (try clear ho0)) | ((with_reducible refine gate_dst (N := 9) rfl ?_); refine boxE (N := 9) (cs := #[.int .i64 0, .int .i64 0, .slice none 0 0]) (t := 37) ?_; intro gb109 hg w11 hbox hb; have n0_ := Aside0.mk (Kd.R_below (rch HO106) hb); have n1_ := Aside0.mk (blk_below (g := gb101) (o := .cells #[.int .i64 0, .int .i64 0, .slice none 0 0] 37 (0, 0)) blc hb); have n2_ := Aside0.mk (below_step (bel HB) hb); have n3_ := Aside0.mk (hbox); have n4_ := Aside0.mk (gsz hg (bel HB)); have n5_ := Aside0.mk (gsz hg (bel HB)); have n6_ := Aside0.mk ((by rw [hg]; exact Nat.ne_of_lt (blk_lt (g := gb101) (o := .cells #[.int .i64 0, .int .i64 0, .slice none 0 0] 37 (0, 0)) blc) : gb101 ≠ gb109)); have n7_ := Aside0.mk ((by rw [hg]; exact Nat.ne_of_gt (blk_lt (g := gb101) (o := .cells #[.int .i64 0, .int .i64 0, .slice none 0 0] 37 (0, 0)) blc) : gb109 ≠ gb101)); clear HO106; clear BK101; clear HB; have HO106 := n0_; have BK101 := n1_; have HB := n2_; have BK109 := n3_; have GW109 := n4_; have GE109 := n5_; have NB101_109 := n6_; have NB109_101 := n7_; clear n0_ n1_ n2_ n3_ n4_ n5_ n6_ n7_; clear hb hbox hg; have hnb12 := NB109_101.out; have hnc12 := NB101_109.out; have hcz13_0 : w11.cell? ⟨gb109, 0, none⟩ = some (.int .i64 0) := (blk_cell BK109.out 0).trans rfl; have hcz13_1 : w11.cell? ⟨gb109, 1, none⟩ = some (.int .i64 0) := (blk_cell BK109.out 1).trans rfl; have hcz13_2 : w11.cell? ⟨gb109, 2, none⟩ = some (.slice none 0 0) := (blk_cell BK109.out 2).trans rfl; have hfz13_0 := blk_frozen BK109.out 0; have hfz13_1 := blk_frozen BK109.out 1; have hfz13_2 := blk_frozen BK109.out 2; obtain ⟨Ao14, co14, eo14⟩ := Kd.R_slice HO106.out; subst eo14) | ((with_reducible refine gate_callee (f := 30) rfl ?_); refine gcall (some 20) Tryd.func30 #[.string a1] rfl ?_; (with_reducible refine (spec_tiDir.calls k a1 t110 _ A5.out).mono ?_); rintro e w' ⟨rfl, ⟨nd, rfl⟩⟩; refine ⟨_, rfl, ?_⟩))
   have n0_ : Aside0 (Kd.R (Kd.int .u8) 5 (((w11.setCell ⟨gb109, 0, none⟩ (.int .i64 t102)).setCell ⟨gb109, 1, none⟩ (.int .i64 t103)).setCell ⟨gb109, 2, none⟩ (.slice Ao14 t104.length co14)) w.heap.size (fun _ => True) (.slice Ao14 t104.length co14) t104) := ⟨by (with_reducible repeat (first | apply Kd.R_alloc | apply Kd.R_drewN | apply Kd.R_drew)); exact Kd.R_mono (Kd.R_far (p := ⟨gb109, 2, none⟩) (Kd.R_far (p := ⟨gb109, 1, none⟩) (Kd.R_far (p := ⟨gb109, 0, none⟩) (Kd.R_types HO106.out BK109.out (by decide)) (fun _ hk => hk.2) (.int .i64 t102)) (fun _ hk => hk.2) (.int .i64 t103)) (fun _ hk => hk.2) (.slice Ao14 t104.length co14)) (fun _ hk => trivial)⟩
   have n1_ : Aside0 ((((w11.setCell ⟨gb109, 0, none⟩ (.int .i64 t102)).setCell ⟨gb109, 1, none⟩ (.int .i64 t103)).setCell ⟨gb109, 2, none⟩ (.slice Ao14 t104.length co14)).heap[gb101]? = some (.cells #[.int .i64 0, .int .i64 0, .slice none 0 0] 37 (0, 0))) := ⟨by (with_reducible repeat (first | refine blk_drewN ?_ _ | refine blk_drew ?_ | refine blk_alloc ?_ _)); refine blk_far ?_ NB101_109.out _; (with_reducible repeat (first | refine blk_drewN ?_ _ | refine blk_drew ?_ | refine blk_alloc ?_ _)); refine blk_far ?_ NB101_109.out _; (with_reducible repeat (first | refine blk_drewN ?_ _ | refine blk_drew ?_ | refine blk_alloc ?_ _)); refine blk_far ?_ NB101_109.out _; exact blc⟩
   have n2_ : Aside0 ((((w11.setCell ⟨gb109, 0, none⟩ (.int .i64 t102)).setCell ⟨gb109, 1, none⟩ (.int .i64 t103)).setCell ⟨gb109, 2, none⟩ (.slice Ao14 t104.length co14)).heap[gb109]? = some (.cells #[.int .i64 t102, .int .i64 t103, .slice Ao14 t104.length co14] 37 (0, 0))) := ⟨by (with_reducible repeat (first | refine blk_drewN ?_ _ | refine blk_drew ?_ | refine blk_alloc ?_ _)); refine blk_put (cs := #[.int .i64 t102, .int .i64 t103, .slice none 0 0]) ?_ 2 _ rfl; (with_reducible repeat (first | refine blk_drewN ?_ _ | refine blk_drew ?_ | refine blk_alloc ?_ _)); refine blk_put (cs := #[.int .i64 t102, .int .i64 0, .slice none 0 0]) ?_ 1 _ rfl; (with_reducible repeat (first | refine blk_drewN ?_ _ | refine blk_drew ?_ | refine blk_alloc ?_ _)); refine blk_put (cs := #[.int .i64 0, .int .i64 0, .slice none 0 0]) ?_ 0 _ rfl; exact blc⟩
   have n3_ : Aside0 (Below w.heap.size w (((w11.setCell ⟨gb109, 0, none⟩ (.int .i64 t102)).setCell ⟨gb109, 1, none⟩ (.int .i64 t103)).setCell ⟨gb109, 2, none⟩ (.slice Ao14 t104.length co14))) := ⟨bel HB⟩
   (try clear HO106)
   (try clear BK101)
   (try clear BK109)
   (try clear HB)
   generalize (((w11.setCell ⟨gb109, 0, none⟩ (.int .i64 t102)).setCell ⟨gb109, 1, none⟩ (.int .i64 t103)).setCell ⟨gb109, 2, none⟩ (.slice Ao14 t104.length co14)) = w15 at n0_ n1_ n2_ n3_ ⊢
   have HO106 := n0_
   have BK101 := n1_
   have BK109 := n2_
   have HB := n3_
   clear n0_ n1_ n2_ n3_
   (try (rw [drewN_self w15]; generalize hq_ : World.drewN w15 _ = w15; have n0_ : Aside0 (Kd.R (Kd.int .u8) 5 w15 w.heap.size (fun _ => True) (.slice Ao14 t104.length co14) t104) := ⟨by rw [← hq_]; exact (rch HO106)⟩; have n1_ : Aside0 (w15.heap[gb101]? = some (.cells #[.int .i64 0, .int .i64 0, .slice none 0 0] 37 (0, 0))) := ⟨by rw [← hq_]; exact blc⟩; have n2_ : Aside0 (w15.heap[gb109]? = some (.cells #[.int .i64 t102, .int .i64 t103, .slice Ao14 t104.length co14] 37 (0, 0))) := ⟨by rw [← hq_]; exact blc⟩; have n3_ : Aside0 (Below w.heap.size w w15) := ⟨by rw [← hq_]; exact (bel HB)⟩; clear HO106 BK101 BK109 HB hq_; have HO106 := n0_; have BK101 := n1_; have BK109 := n2_; have HB := n3_; clear n0_ n1_ n2_ n3_))
   have n0_ := Aside0.mk (Kd.R_drew HO106.out)
   have n1_ := Aside0.mk (blk_drew BK101.out)
   have n2_ := Aside0.mk (blk_drew BK109.out)
   have n3_ := Aside0.mk (below_drew1 HB.out)
   clear HO106
   clear BK101
   clear BK109
   clear HB
   have HO106 := n0_
   have BK101 := n1_
   have BK109 := n2_
   have HB := n3_
   clear n0_ n1_ n2_ n3_
   refine start_ (n := 15) (S := fun w' => w'.cell? ⟨gb109, 0, none⟩ = some (.int .i64 t102) ∧ w'.cell? ⟨gb109, 1, none⟩ = some (.int .i64 t103) ∧ w'.cell? ⟨gb109, 2, none⟩ = some (.slice Ao14 t104.length co14)) (ds := []) #[false, false, false, false, false, false, false, false, false, false, false, false, false, false, false] (by kernel_rfl) rfl rfl ⟨(blk_cell BK109.out 0).trans rfl, (blk_cell BK109.out 1).trans rfl, (blk_cell BK109.out 2).trans rfl⟩ (fun hHeld => ?_); refine with_tabW spec_cnDir.tab3 spec_cnDir.bits3 (fun HT_ HW_ => ?_)
   generalize w15.drew = w16 at HO106 BK101 BK109 HB hHeld ⊢
   refine pure_ (i := 1) (N := some 22) (v := ?_) (a' := ?_) #[false, true, false, false, false, false, false, false, false, false, false, false, false, false, false] rfl rfl (any_of HT_.out (by kernel_rfl)) (fun _ _ _ h => h) (Or.inl ⟨by rfl, ?_⟩) ?_ ?_
   rotate_left
   ·intro w'
    go_simp
    with_reducible rfl
   rotate_left
   ·simp only [Act.put, List.setIfInBounds_toArray, List.set_cons_zero, List.set_cons_succ, i64_w, i32_w]
    rfl
   refine pure_ (i := 2) (N := some 23) (v := ?_) (a' := ?_) #[false, true, true, false, false, false, false, false, false, false, false, false, false, false, false] rfl rfl (any_of HT_.out (by kernel_rfl)) (fun _ _ _ h => h) (Or.inl ⟨by rfl, ?_⟩) ?_ ?_
   rotate_left
   ·intro w'
    go_simp
    with_reducible rfl
   rotate_left
   ·simp only [Act.put, List.setIfInBounds_toArray, List.set_cons_zero, List.set_cons_succ, i64_w, i32_w]
    rfl
   refine pure_ (i := 3) (N := some 24) (v := ?_) (a' := ?_) #[false, true, true, true, false, false, false, false, false, false, false, false, false, false, false] rfl rfl (any_of HT_.out (by kernel_rfl)) (fun _ _ _ h => h) (Or.inl ⟨by rfl, ?_⟩) ?_ ?_
   rotate_left
   ·intro w'
    go_simp
    with_reducible rfl
   rotate_left
   ·simp only [Act.put, List.setIfInBounds_toArray, List.set_cons_zero, List.set_cons_succ, i64_w, i32_w]
    rfl
   refine pure_ (i := 4) (N := some 25) (v := ?_) (a' := ?_) #[false, true, true, true, true, false, false, false, false, false, false, false, false, false, false] rfl rfl (any_of HT_.out (by kernel_rfl)) (fun _ _ _ h => h) (Or.inl ⟨by rfl, ?_⟩) ?_ ?_
   rotate_left
   ·intro w'
    go_simp
    with_reducible rfl
   rotate_left
   ·simp only [Act.put, List.setIfInBounds_toArray, List.set_cons_zero, List.set_cons_succ, i64_w, i32_w]
    rfl
   refine pure_ (i := 5) (N := some 26) (v := ?_) (a' := ?_) #[false, true, true, true, true, true, false, false, false, false, false, false, false, false, false] rfl rfl (any_of HT_.out (by kernel_rfl)) (fun _ _ _ h => h) (Or.inl ⟨by rfl, ?_⟩) ?_ ?_
   rotate_left
   ·intro w'
    go_simp
    with_reducible rfl
   rotate_left
   ·simp only [Act.put, List.setIfInBounds_toArray, List.set_cons_zero, List.set_cons_succ, i64_w, i32_w]
    rfl
   refine pure_ (i := 6) (N := some 27) (v := ?_) (a' := ?_) #[false, true, true, true, true, true, true, false, false, false, false, false, false, false, false] rfl rfl (any_of HT_.out (by kernel_rfl)) (fun _ _ _ h => h) (Or.inl ⟨by rfl, ?_⟩) ?_ ?_
   rotate_left
   ·intro w'
    go_simp
    with_reducible rfl
   rotate_left
   ·simp only [Act.put, List.setIfInBounds_toArray, List.set_cons_zero, List.set_cons_succ, i64_w, i32_w]
    rfl
   refine pure_ (i := 7) (N := some 28) (v := ?_) (a' := ?_) #[false, true, true, true, true, true, true, true, false, false, false, false, false, false, false] rfl rfl (any_of HT_.out (by kernel_rfl)) (fun _ _ _ h => h) (Or.inl ⟨by rfl, ?_⟩) ?_ ?_
   rotate_left
   ·intro w'
    go_simp
    with_reducible rfl
   rotate_left
   ·simp only [Act.put, List.setIfInBounds_toArray, List.set_cons_zero, List.set_cons_succ, i64_w, i32_w]
    rfl
   refine pure_ (i := 8) (N := some 29) (v := ?_) (a' := ?_) #[false, true, true, true, true, true, true, true, true, false, false, false, false, false, false] rfl rfl (any_of HT_.out (by kernel_rfl)) (fun _ _ _ h => h) (Or.inl ⟨by rfl, ?_⟩) ?_ ?_
   rotate_left
   ·intro w'
    go_simp
    with_reducible rfl
   rotate_left
   ·simp only [Act.put, List.setIfInBounds_toArray, List.set_cons_zero, List.set_cons_succ, i64_w, i32_w]
    rfl
   refine pure_ (i := 9) (N := some 30) (v := ?_) (a' := ?_) #[false, true, true, true, true, true, true, true, true, true, false, false, false, false, false] rfl rfl (any_of HT_.out (by kernel_rfl)) (fun _ _ _ h => h) (Or.inl ⟨by rfl, ?_⟩) ?_ ?_
   rotate_left
   ·intro w'
    go_simp
    with_reducible rfl
   rotate_left
   ·simp only [Act.put, List.setIfInBounds_toArray, List.set_cons_zero, List.set_cons_succ, i64_w, i32_w]
    rfl
   refine take_ (i := 0) (N := some 21) (v := ?_) (a' := ?_) #[true, true, true, true, true, true, true, true, true, true, false, false, false, false, false] rfl rfl (take_ofW HT_.out HW_.out (by kernel_rfl)) (fun _ _ _ h => h) (Or.inl ⟨by rfl, ?_⟩) hHeld ?_ ?_
   rotate_left
   ·rintro w' ⟨s0, s1, s2⟩
    go_simp
    with_reducible rfl
   rotate_left
   ·simp only [Act.put, List.setIfInBounds_toArray, List.set_cons_zero, List.set_cons_succ, i64_w, i32_w]
    rfl
   refine one_ (i := 10) (N := some 31) #[true, true, true, true, true, true, true, true, true, true, true, false, false, false, false] rfl rfl (one_of HT_.out (by kernel_rfl)) (by decide) (fun K hK => ?_)
   refine goes_ Tryd.func53 (by kernel_rfl) rfl #[.int .i64 a2, .int .i64 0, .int .i64 t107] (by rfl) rfl rfl (by (try simp only [List.map_toArray, List.map_cons, List.map_nil]); first | done | rfl | (simp only [List.length_drop, List.length_take]; rfl)) ?_
   with_reducible refine (spec_l1In.calls a2 0 t107 t111 _ A8.out).mono ?_
   rintro e w' ⟨rfl, ⟨nd, rfl⟩⟩
   refine ⟨_, rfl, ?_⟩
   refine hK.out _ _ ⟨(blk_cell BK109.out 0).trans rfl, (blk_cell BK109.out 1).trans rfl, (blk_cell BK109.out 2).trans rfl⟩ (fun hHeld => ?_)
   clear hK K
   refine norm_ (a' := ?_) ?_ ?_
   rotate_left
   ·show Act.put _ (some 31) _ = _
    simp only [Act.put, List.setIfInBounds_toArray, List.set_cons_zero, List.set_cons_succ, i64_w, i32_w]
    rfl
   refine pure_ (i := 11) (N := some 32) (v := ?_) (a' := ?_) #[true, true, true, true, true, true, true, true, true, true, true, true, false, false, false] rfl rfl (any_of HT_.out (by kernel_rfl)) (fun _ _ _ h => h) (Or.inl ⟨by rfl, ?_⟩) ?_ ?_
   rotate_left
   ·intro w'
    go_simp
    with_reducible rfl
   rotate_left
   ·simp only [Act.put, List.setIfInBounds_toArray, List.set_cons_zero, List.set_cons_succ, i64_w, i32_w]
    rfl
   refine one_ (i := 12) (N := none) #[true, true, true, true, true, true, true, true, true, true, true, true, true, false, false] rfl rfl (one_of HT_.out (by kernel_rfl)) (by decide) (fun K hK => ?_)
   have hs17 : w16.cell? ⟨gb101, 0, none⟩ = some (.int .i64 0) := (blk_cell BK101.out 0).trans rfl
   have hfs17 := blk_frozen BK101.out 0
   have hns17_1 := NB109_101.out
   have hms17_1 := NB101_109.out
   have hs18 : w16.cell? ⟨gb101, 1, none⟩ = some (.int .i64 0) := (blk_cell BK101.out 1).trans rfl
   have hfs18 := blk_frozen BK101.out 1
   have hns18_1 := NB109_101.out
   have hms18_1 := NB101_109.out
   have hs19 : w16.cell? ⟨gb101, 2, none⟩ = some (.slice none 0 0) := (blk_cell BK101.out 2).trans rfl
   have hfs19 := blk_frozen BK101.out 2
   have hns19_1 := NB109_101.out
   have hms19_1 := NB101_109.out
   refine skip_ (w1 := ?_) (by rfl) rfl ?_ ?_
   rotate_left
   ·go_simp
    rfl
   refine hK.out _ _ ⟨((cell_far (p := ⟨gb101, _, none⟩) NB109_101.out _).trans (((cell_far (p := ⟨gb101, _, none⟩) NB109_101.out _).trans (((cell_far (p := ⟨gb101, _, none⟩) NB109_101.out _).trans (hHeld.1)))))), ((cell_far (p := ⟨gb101, _, none⟩) NB109_101.out _).trans (((cell_far (p := ⟨gb101, _, none⟩) NB109_101.out _).trans (((cell_far (p := ⟨gb101, _, none⟩) NB109_101.out _).trans (hHeld.2.1)))))), ((cell_far (p := ⟨gb101, _, none⟩) NB109_101.out _).trans (((cell_far (p := ⟨gb101, _, none⟩) NB109_101.out _).trans (((cell_far (p := ⟨gb101, _, none⟩) NB109_101.out _).trans (hHeld.2.2))))))⟩ (fun hHeld => ?_)
   clear hK K
   refine pure_ (i := 13) (N := some 7) (v := ?_) (a' := ?_) #[true, true, true, true, true, true, true, true, true, true, true, true, true, true, false] rfl rfl (any_of HT_.out (by kernel_rfl)) (fun _ _ _ h => h) (Or.inl ⟨by rfl, ?_⟩) ?_ ?_
   rotate_left
   ·intro w'
    go_simp
    with_reducible rfl
   rotate_left
   ·simp only [Act.put, List.setIfInBounds_toArray, List.set_cons_zero, List.set_cons_succ, i64_w, i32_w]
    rfl
   refine pure_ (i := 14) (N := some 8) (v := ?_) (a' := ?_) #[true, true, true, true, true, true, true, true, true, true, true, true, true, true, true] rfl rfl (any_of HT_.out (by kernel_rfl)) (fun _ _ _ h => h) (Or.inl ⟨by rfl, ?_⟩) ?_ ?_
   rotate_left
   ·intro w'
    go_simp
    with_reducible rfl
   rotate_left
   ·simp only [Act.put, List.setIfInBounds_toArray, List.set_cons_zero, List.set_cons_succ, i64_w, i32_w]
    rfl
   refine done_ (done_of HT_.out (by kernel_rfl)) ?_
   try go_wp2
   refine bodyPost_ret (results_ctt rfl _ _ gb101 37 #[.int .i64 t102, .int .i64 t103, .slice Ao14 t104.length co14] (0, 0) _ rfl (by (with_reducible repeat (first | refine blk_drewN ?_ _ | refine blk_drew ?_ | refine blk_alloc ?_ _)); refine blk_put (cs := #[.int .i64 t102, .int .i64 t103, .slice none 0 0]) ?_ 2 _ rfl; (with_reducible repeat (first | refine blk_drewN ?_ _ | refine blk_drew ?_ | refine blk_alloc ?_ _)); refine blk_put (cs := #[.int .i64 t102, .int .i64 0, .slice none 0 0]) ?_ 1 _ rfl; (with_reducible repeat (first | refine blk_drewN ?_ _ | refine blk_drew ?_ | refine blk_alloc ?_ _)); refine blk_put (cs := #[.int .i64 0, .int .i64 0, .slice none 0 0]) ?_ 0 _ rfl; exact blc) Tryd.underlying37 rfl (by kernel_rfl)) rfl ?_
   exact ⟨_, by first | rfl | (simp [errW_none, errW_some] <;> rfl) | (simp [*, errW_none, errW_some] <;> rfl), by (with_reducible repeat (first | apply Kd.R_alloc | apply Kd.R_drewN | apply Kd.R_drew)); exact Kd.R_mono (Kd.R_far (p := ⟨gb101, 2, none⟩) (Kd.R_far (p := ⟨gb101, 1, none⟩) (Kd.R_far (p := ⟨gb101, 0, none⟩) (Kd.R_types HO106.out BK101.out (by decide)) (fun _ hk => hk.2) (.int .i64 t102)) (fun _ hk => hk.2) (.int .i64 t103)) (fun _ hk => hk.2) (.slice Ao14 t104.length co14)) (fun _ hk => trivial), bel HB⟩
  ·rw [if_neg c7] at H
   have c7b0 : decide (0 ≤ t110) = false := decide_eq_false c7
   clear c7
   simp only [Option.some.injEq, Prod.mk.injEq] at H
   obtain ⟨rfl, rfl, rfl, rfl, rfl⟩ := H
   go_enter Tryd.func33, Tryd.ntmps33
   try go_wp2_with (first | ((with_reducible refine gate_dst (N := 6) rfl ?_); refine boxE (N := 6) (cs := #[.int .i64 0, .int .i64 0, .slice none 0 0]) (t := 37) ?_; intro gb101 hg w20 hbox hb; have n0_ := Aside0.mk (below_step (bel HB) hb); have n1_ := Aside0.mk (hbox); have n2_ := Aside0.mk (gsz hg (bel HB)); have n3_ := Aside0.mk (gsz hg (bel HB)); clear HB; have HB := n0_; have BK101 := n1_; have GW101 := n2_; have GE101 := n3_; clear n0_ n1_ n2_ n3_; clear hb hbox hg) | ((with_reducible refine gate_callee (f := 29) rfl ?_); refine gcall (some 15) Tryd.func29 #[.string a0] rfl ?_; (with_reducible refine (spec_cnBare.calls k a0 t102 t103 t104 t107 true _ A4.out).mono ?_); rintro e w21 ⟨v105, rfl, ho0, hb⟩; refine ⟨_, rfl, ?_⟩; have n0_ := Aside0.mk (Kd.R_lower ho0 (below_size (bel HB))); have n1_ := Aside0.mk (blk_below (g := gb101) (o := .cells #[.int .i64 0, .int .i64 0, .slice none 0 0] 37 (0, 0)) blc hb); have n2_ := Aside0.mk (below_step (bel HB) hb); clear BK101; clear HB; have HO106 := n0_; have BK101 := n1_; have HB := n2_; clear n0_ n1_ n2_; (try clear hb); (try clear hb2); (try clear hk); (try clear hi); (try clear ho0)) | ((with_reducible refine gate_dst (N := 9) rfl ?_); refine boxE (N := 9) (cs := #[.int .i64 0, .int .i64 0, .slice none 0 0]) (t := 37) ?_; intro gb109 hg w22 hbox hb; have n0_ := Aside0.mk (Kd.R_below (rch HO106) hb); have n1_ := Aside0.mk (blk_below (g := gb101) (o := .cells #[.int .i64 0, .int .i64 0, .slice none 0 0] 37 (0, 0)) blc hb); have n2_ := Aside0.mk (below_step (bel HB) hb); have n3_ := Aside0.mk (hbox); have n4_ := Aside0.mk (gsz hg (bel HB)); have n5_ := Aside0.mk (gsz hg (bel HB)); have n6_ := Aside0.mk ((by rw [hg]; exact Nat.ne_of_lt (blk_lt (g := gb101) (o := .cells #[.int .i64 0, .int .i64 0, .slice none 0 0] 37 (0, 0)) blc) : gb101 ≠ gb109)); have n7_ := Aside0.mk ((by rw [hg]; exact Nat.ne_of_gt (blk_lt (g := gb101) (o := .cells #[.int .i64 0, .int .i64 0, .slice none 0 0] 37 (0, 0)) blc) : gb109 ≠ gb101)); clear HO106; clear BK101; clear HB; have HO106 := n0_; have BK101 := n1_; have HB := n2_; have BK109 := n3_; have GW109 := n4_; have GE109 := n5_; have NB101_109 := n6_; have NB109_101 := n7_; clear n0_ n1_ n2_ n3_ n4_ n5_ n6_ n7_; clear hb hbox hg; have hnb23 := NB109_101.out; have hnc23 := NB101_109.out; have hcz24_0 : w22.cell? ⟨gb109, 0, none⟩ = some (.int .i64 0) := (blk_cell BK109.out 0).trans rfl; have hcz24_1 : w22.cell? ⟨gb109, 1, none⟩ = some (.int .i64 0) := (blk_cell BK109.out 1).trans rfl; have hcz24_2 : w22.cell? ⟨gb109, 2, none⟩ = some (.slice none 0 0) := (blk_cell BK109.out 2).trans rfl; have hfz24_0 := blk_frozen BK109.out 0; have hfz24_1 := blk_frozen BK109.out 1; have hfz24_2 := blk_frozen BK109.out 2; obtain ⟨Ao25, co25, eo25⟩ := Kd.R_slice HO106.out; subst eo25) | ((with_reducible refine gate_callee (f := 30) rfl ?_); refine gcall (some 20) Tryd.func30 #[.string a1] rfl ?_; (with_reducible refine (spec_tiDir.calls k a1 t110 _ A5.out).mono ?_); rintro e w' ⟨rfl, ⟨nd, rfl⟩⟩; refine ⟨_, rfl, ?_⟩))
   have n0_ : Aside0 (Kd.R (Kd.int .u8) 5 (((w22.setCell ⟨gb109, 0, none⟩ (.int .i64 t102)).setCell ⟨gb109, 1, none⟩ (.int .i64 t103)).setCell ⟨gb109, 2, none⟩ (.slice Ao25 t104.length co25)) w.heap.size (fun _ => True) (.slice Ao25 t104.length co25) t104) := ⟨by (with_reducible repeat (first | apply Kd.R_alloc | apply Kd.R_drewN | apply Kd.R_drew)); exact Kd.R_mono (Kd.R_far (p := ⟨gb109, 2, none⟩) (Kd.R_far (p := ⟨gb109, 1, none⟩) (Kd.R_far (p := ⟨gb109, 0, none⟩) (Kd.R_types HO106.out BK109.out (by decide)) (fun _ hk => hk.2) (.int .i64 t102)) (fun _ hk => hk.2) (.int .i64 t103)) (fun _ hk => hk.2) (.slice Ao25 t104.length co25)) (fun _ hk => trivial)⟩
   have n1_ : Aside0 ((((w22.setCell ⟨gb109, 0, none⟩ (.int .i64 t102)).setCell ⟨gb109, 1, none⟩ (.int .i64 t103)).setCell ⟨gb109, 2, none⟩ (.slice Ao25 t104.length co25)).heap[gb101]? = some (.cells #[.int .i64 0, .int .i64 0, .slice none 0 0] 37 (0, 0))) := ⟨by (with_reducible repeat (first | refine blk_drewN ?_ _ | refine blk_drew ?_ | refine blk_alloc ?_ _)); refine blk_far ?_ NB101_109.out _; (with_reducible repeat (first | refine blk_drewN ?_ _ | refine blk_drew ?_ | refine blk_alloc ?_ _)); refine blk_far ?_ NB101_109.out _; (with_reducible repeat (first | refine blk_drewN ?_ _ | refine blk_drew ?_ | refine blk_alloc ?_ _)); refine blk_far ?_ NB101_109.out _; exact blc⟩
   have n2_ : Aside0 ((((w22.setCell ⟨gb109, 0, none⟩ (.int .i64 t102)).setCell ⟨gb109, 1, none⟩ (.int .i64 t103)).setCell ⟨gb109, 2, none⟩ (.slice Ao25 t104.length co25)).heap[gb109]? = some (.cells #[.int .i64 t102, .int .i64 t103, .slice Ao25 t104.length co25] 37 (0, 0))) := ⟨by (with_reducible repeat (first | refine blk_drewN ?_ _ | refine blk_drew ?_ | refine blk_alloc ?_ _)); refine blk_put (cs := #[.int .i64 t102, .int .i64 t103, .slice none 0 0]) ?_ 2 _ rfl; (with_reducible repeat (first | refine blk_drewN ?_ _ | refine blk_drew ?_ | refine blk_alloc ?_ _)); refine blk_put (cs := #[.int .i64 t102, .int .i64 0, .slice none 0 0]) ?_ 1 _ rfl; (with_reducible repeat (first | refine blk_drewN ?_ _ | refine blk_drew ?_ | refine blk_alloc ?_ _)); refine blk_put (cs := #[.int .i64 0, .int .i64 0, .slice none 0 0]) ?_ 0 _ rfl; exact blc⟩
   have n3_ : Aside0 (Below w.heap.size w (((w22.setCell ⟨gb109, 0, none⟩ (.int .i64 t102)).setCell ⟨gb109, 1, none⟩ (.int .i64 t103)).setCell ⟨gb109, 2, none⟩ (.slice Ao25 t104.length co25))) := ⟨bel HB⟩
   (try clear HO106)
   (try clear BK101)
   (try clear BK109)
   (try clear HB)
   generalize (((w22.setCell ⟨gb109, 0, none⟩ (.int .i64 t102)).setCell ⟨gb109, 1, none⟩ (.int .i64 t103)).setCell ⟨gb109, 2, none⟩ (.slice Ao25 t104.length co25)) = w26 at n0_ n1_ n2_ n3_ ⊢
   have HO106 := n0_
   have BK101 := n1_
   have BK109 := n2_
   have HB := n3_
   clear n0_ n1_ n2_ n3_
   (try (rw [drewN_self w26]; generalize hq_ : World.drewN w26 _ = w26; have n0_ : Aside0 (Kd.R (Kd.int .u8) 5 w26 w.heap.size (fun _ => True) (.slice Ao25 t104.length co25) t104) := ⟨by rw [← hq_]; exact (rch HO106)⟩; have n1_ : Aside0 (w26.heap[gb101]? = some (.cells #[.int .i64 0, .int .i64 0, .slice none 0 0] 37 (0, 0))) := ⟨by rw [← hq_]; exact blc⟩; have n2_ : Aside0 (w26.heap[gb109]? = some (.cells #[.int .i64 t102, .int .i64 t103, .slice Ao25 t104.length co25] 37 (0, 0))) := ⟨by rw [← hq_]; exact blc⟩; have n3_ : Aside0 (Below w.heap.size w w26) := ⟨by rw [← hq_]; exact (bel HB)⟩; clear HO106 BK101 BK109 HB hq_; have HO106 := n0_; have BK101 := n1_; have BK109 := n2_; have HB := n3_; clear n0_ n1_ n2_ n3_))
   have n0_ := Aside0.mk (Kd.R_drew HO106.out)
   have n1_ := Aside0.mk (blk_drew BK101.out)
   have n2_ := Aside0.mk (blk_drew BK109.out)
   have n3_ := Aside0.mk (below_drew1 HB.out)
   clear HO106
   clear BK101
   clear BK109
   clear HB
   have HO106 := n0_
   have BK101 := n1_
   have BK109 := n2_
   have HB := n3_
   clear n0_ n1_ n2_ n3_
   refine start_ (n := 15) (S := fun w' => w'.cell? ⟨gb109, 0, none⟩ = some (.int .i64 t102) ∧ w'.cell? ⟨gb109, 1, none⟩ = some (.int .i64 t103) ∧ w'.cell? ⟨gb109, 2, none⟩ = some (.slice Ao25 t104.length co25)) (ds := []) #[false, false, false, false, false, false, false, false, false, false, false, false, false, false, false] (by kernel_rfl) rfl rfl ⟨(blk_cell BK109.out 0).trans rfl, (blk_cell BK109.out 1).trans rfl, (blk_cell BK109.out 2).trans rfl⟩ (fun hHeld => ?_); refine with_tabW spec_cnDir.tab3 spec_cnDir.bits3 (fun HT_ HW_ => ?_)
   generalize w26.drew = w27 at HO106 BK101 BK109 HB hHeld ⊢
   refine pure_ (i := 1) (N := some 22) (v := ?_) (a' := ?_) #[false, true, false, false, false, false, false, false, false, false, false, false, false, false, false] rfl rfl (any_of HT_.out (by kernel_rfl)) (fun _ _ _ h => h) (Or.inl ⟨by rfl, ?_⟩) ?_ ?_
   rotate_left
   ·intro w'
    go_simp
    with_reducible rfl
   rotate_left
   ·simp only [Act.put, List.setIfInBounds_toArray, List.set_cons_zero, List.set_cons_succ, i64_w, i32_w]
    rfl
   refine pure_ (i := 2) (N := some 23) (v := ?_) (a' := ?_) #[false, true, true, false, false, false, false, false, false, false, false, false, false, false, false] rfl rfl (any_of HT_.out (by kernel_rfl)) (fun _ _ _ h => h) (Or.inl ⟨by rfl, ?_⟩) ?_ ?_
   rotate_left
   ·intro w'
    go_simp
    with_reducible rfl
   rotate_left
   ·simp only [Act.put, List.setIfInBounds_toArray, List.set_cons_zero, List.set_cons_succ, i64_w, i32_w]
    rfl
   refine pure_ (i := 3) (N := some 24) (v := ?_) (a' := ?_) #[false, true, true, true, false, false, false, false, false, false, false, false, false, false, false] rfl rfl (any_of HT_.out (by kernel_rfl)) (fun _ _ _ h => h) (Or.inl ⟨by rfl, ?_⟩) ?_ ?_
   rotate_left
   ·intro w'
    go_simp
    with_reducible rfl
   rotate_left
   ·simp only [Act.put, List.setIfInBounds_toArray, List.set_cons_zero, List.set_cons_succ, i64_w, i32_w]
    rfl
   refine pure_ (i := 4) (N := some 25) (v := ?_) (a' := ?_) #[false, true, true, true, true, false, false, false, false, false, false, false, false, false, false] rfl rfl (any_of HT_.out (by kernel_rfl)) (fun _ _ _ h => h) (Or.inl ⟨by rfl, ?_⟩) ?_ ?_
   rotate_left
   ·intro w'
    go_simp
    with_reducible rfl
   rotate_left
   ·simp only [Act.put, List.setIfInBounds_toArray, List.set_cons_zero, List.set_cons_succ, i64_w, i32_w]
    rfl
   refine pure_ (i := 5) (N := some 26) (v := ?_) (a' := ?_) #[false, true, true, true, true, true, false, false, false, false, false, false, false, false, false] rfl rfl (any_of HT_.out (by kernel_rfl)) (fun _ _ _ h => h) (Or.inl ⟨by rfl, ?_⟩) ?_ ?_
   rotate_left
   ·intro w'
    go_simp
    with_reducible rfl
   rotate_left
   ·simp only [Act.put, List.setIfInBounds_toArray, List.set_cons_zero, List.set_cons_succ, i64_w, i32_w]
    rfl
   refine pure_ (i := 6) (N := some 27) (v := ?_) (a' := ?_) #[false, true, true, true, true, true, true, false, false, false, false, false, false, false, false] rfl rfl (any_of HT_.out (by kernel_rfl)) (fun _ _ _ h => h) (Or.inl ⟨by rfl, ?_⟩) ?_ ?_
   rotate_left
   ·intro w'
    go_simp
    with_reducible rfl
   rotate_left
   ·simp only [Act.put, List.setIfInBounds_toArray, List.set_cons_zero, List.set_cons_succ, i64_w, i32_w]
    rfl
   refine pure_ (i := 7) (N := some 28) (v := ?_) (a' := ?_) #[false, true, true, true, true, true, true, true, false, false, false, false, false, false, false] rfl rfl (any_of HT_.out (by kernel_rfl)) (fun _ _ _ h => h) (Or.inl ⟨by rfl, ?_⟩) ?_ ?_
   rotate_left
   ·intro w'
    go_simp
    with_reducible rfl
   rotate_left
   ·simp only [Act.put, List.setIfInBounds_toArray, List.set_cons_zero, List.set_cons_succ, i64_w, i32_w]
    rfl
   refine pure_ (i := 8) (N := some 29) (v := undef) (a' := ?_) #[false, true, true, true, true, true, true, true, true, false, false, false, false, false, false] rfl rfl (any_of HT_.out (by kernel_rfl)) (fun _ _ _ h => h) (Or.inr ⟨by rfl, rfl⟩) ?_ ?_
   rotate_left
   ·simp only [Act.put, List.setIfInBounds_toArray, List.set_cons_zero, List.set_cons_succ, i64_w, i32_w]
    rfl
   refine pure_ (i := 9) (N := some 30) (v := undef) (a' := ?_) #[false, true, true, true, true, true, true, true, true, true, false, false, false, false, false] rfl rfl (any_of HT_.out (by kernel_rfl)) (fun _ _ _ h => h) (Or.inr ⟨by rfl, rfl⟩) ?_ ?_
   rotate_left
   ·simp only [Act.put, List.setIfInBounds_toArray, List.set_cons_zero, List.set_cons_succ, i64_w, i32_w]
    rfl
   refine pure_ (i := 10) (N := some 31) (v := undef) (a' := ?_) #[false, true, true, true, true, true, true, true, true, true, true, false, false, false, false] rfl rfl (any_of HT_.out (by kernel_rfl)) (fun _ _ _ h => h) (Or.inr ⟨by rfl, rfl⟩) ?_ ?_
   rotate_left
   ·simp only [Act.put, List.setIfInBounds_toArray, List.set_cons_zero, List.set_cons_succ, i64_w, i32_w]
    rfl
   refine pure_ (i := 11) (N := some 32) (v := ?_) (a' := ?_) #[false, true, true, true, true, true, true, true, true, true, true, true, false, false, false] rfl rfl (any_of HT_.out (by kernel_rfl)) (fun _ _ _ h => h) (Or.inl ⟨by rfl, ?_⟩) ?_ ?_
   rotate_left
   ·intro w'
    go_simp
    with_reducible rfl
   rotate_left
   ·simp only [Act.put, List.setIfInBounds_toArray, List.set_cons_zero, List.set_cons_succ, i64_w, i32_w]
    rfl
   refine take_ (i := 0) (N := some 21) (v := ?_) (a' := ?_) #[true, true, true, true, true, true, true, true, true, true, true, true, false, false, false] rfl rfl (take_ofW HT_.out HW_.out (by kernel_rfl)) (fun _ _ _ h => h) (Or.inl ⟨by rfl, ?_⟩) hHeld ?_ ?_
   rotate_left
   ·rintro w' ⟨s0, s1, s2⟩
    go_simp
    with_reducible rfl
   rotate_left
   ·simp only [Act.put, List.setIfInBounds_toArray, List.set_cons_zero, List.set_cons_succ, i64_w, i32_w]
    rfl
   refine one_ (i := 12) (N := none) #[true, true, true, true, true, true, true, true, true, true, true, true, true, false, false] rfl rfl (one_of HT_.out (by kernel_rfl)) (by decide) (fun K hK => ?_)
   have hs28 : w27.cell? ⟨gb101, 0, none⟩ = some (.int .i64 0) := (blk_cell BK101.out 0).trans rfl
   have hfs28 := blk_frozen BK101.out 0
   have hns28_1 := NB109_101.out
   have hms28_1 := NB101_109.out
   have hs29 : w27.cell? ⟨gb101, 1, none⟩ = some (.int .i64 0) := (blk_cell BK101.out 1).trans rfl
   have hfs29 := blk_frozen BK101.out 1
   have hns29_1 := NB109_101.out
   have hms29_1 := NB101_109.out
   have hs30 : w27.cell? ⟨gb101, 2, none⟩ = some (.slice none 0 0) := (blk_cell BK101.out 2).trans rfl
   have hfs30 := blk_frozen BK101.out 2
   have hns30_1 := NB109_101.out
   have hms30_1 := NB101_109.out
   refine skip_ (w1 := ?_) (by rfl) rfl ?_ ?_
   rotate_left
   ·go_simp
    rfl
   refine hK.out _ _ ⟨((cell_far (p := ⟨gb101, _, none⟩) NB109_101.out _).trans (((cell_far (p := ⟨gb101, _, none⟩) NB109_101.out _).trans (((cell_far (p := ⟨gb101, _, none⟩) NB109_101.out _).trans (hHeld.1)))))), ((cell_far (p := ⟨gb101, _, none⟩) NB109_101.out _).trans (((cell_far (p := ⟨gb101, _, none⟩) NB109_101.out _).trans (((cell_far (p := ⟨gb101, _, none⟩) NB109_101.out _).trans (hHeld.2.1)))))), ((cell_far (p := ⟨gb101, _, none⟩) NB109_101.out _).trans (((cell_far (p := ⟨gb101, _, none⟩) NB109_101.out _).trans (((cell_far (p := ⟨gb101, _, none⟩) NB109_101.out _).trans (hHeld.2.2))))))⟩ (fun hHeld => ?_)
   clear hK K
   refine pure_ (i := 13) (N := some 7) (v := ?_) (a' := ?_) #[true, true, true, true, true, true, true, true, true, true, true, true, true, true, false] rfl rfl (any_of HT_.out (by kernel_rfl)) (fun _ _ _ h => h) (Or.inl ⟨by rfl, ?_⟩) ?_ ?_
   rotate_left
   ·intro w'
    go_simp
    with_reducible rfl
   rotate_left
   ·simp only [Act.put, List.setIfInBounds_toArray, List.set_cons_zero, List.set_cons_succ, i64_w, i32_w]
    rfl
   refine pure_ (i := 14) (N := some 8) (v := ?_) (a' := ?_) #[true, true, true, true, true, true, true, true, true, true, true, true, true, true, true] rfl rfl (any_of HT_.out (by kernel_rfl)) (fun _ _ _ h => h) (Or.inl ⟨by rfl, ?_⟩) ?_ ?_
   rotate_left
   ·intro w'
    go_simp
    with_reducible rfl
   rotate_left
   ·simp only [Act.put, List.setIfInBounds_toArray, List.set_cons_zero, List.set_cons_succ, i64_w, i32_w]
    rfl
   refine done_ (done_of HT_.out (by kernel_rfl)) ?_
   try go_wp2
   refine bodyPost_ret (results_ctt rfl _ _ gb101 37 #[.int .i64 t102, .int .i64 t103, .slice Ao25 t104.length co25] (0, 0) _ rfl (by (with_reducible repeat (first | refine blk_drewN ?_ _ | refine blk_drew ?_ | refine blk_alloc ?_ _)); refine blk_put (cs := #[.int .i64 t102, .int .i64 t103, .slice none 0 0]) ?_ 2 _ rfl; (with_reducible repeat (first | refine blk_drewN ?_ _ | refine blk_drew ?_ | refine blk_alloc ?_ _)); refine blk_put (cs := #[.int .i64 t102, .int .i64 0, .slice none 0 0]) ?_ 1 _ rfl; (with_reducible repeat (first | refine blk_drewN ?_ _ | refine blk_drew ?_ | refine blk_alloc ?_ _)); refine blk_put (cs := #[.int .i64 0, .int .i64 0, .slice none 0 0]) ?_ 0 _ rfl; exact blc) Tryd.underlying37 rfl (by kernel_rfl)) rfl ?_
   exact ⟨_, by first | rfl | (simp [errW_none, errW_some] <;> rfl) | (simp [*, errW_none, errW_some] <;> rfl), by (with_reducible repeat (first | apply Kd.R_alloc | apply Kd.R_drewN | apply Kd.R_drew)); exact Kd.R_mono (Kd.R_far (p := ⟨gb101, 2, none⟩) (Kd.R_far (p := ⟨gb101, 1, none⟩) (Kd.R_far (p := ⟨gb101, 0, none⟩) (Kd.R_types HO106.out BK101.out (by decide)) (fun _ hk => hk.2) (.int .i64 t102)) (fun _ hk => hk.2) (.int .i64 t103)) (fun _ hk => hk.2) (.slice Ao25 t104.length co25)) (fun _ hk => trivial), bel HB⟩
 ·replace c6 := Bool.eq_false_iff.mpr c6
  subst c6
  have H1 : (some (t102, t103, t104, t110, false)) = some (r1, r2, r3, r4, r5) := by rw [if_neg (show ¬ (false = true) by decide)] at H; exact H
  clear H
  have H := H1
  clear H1
  simp only [Option.some.injEq, Prod.mk.injEq] at H
  obtain ⟨rfl, rfl, rfl, rfl, rfl⟩ := H
  go_enter Tryd.func33, Tryd.ntmps33
  try go_wp2_with (first | ((with_reducible refine gate_dst (N := 6) rfl ?_); refine boxE (N := 6) (cs := #[.int .i64 0, .int .i64 0, .slice none 0 0]) (t := 37) ?_; intro gb101 hg w31 hbox hb; have n0_ := Aside0.mk (below_step (bel HB) hb); have n1_ := Aside0.mk (hbox); have n2_ := Aside0.mk (gsz hg (bel HB)); have n3_ := Aside0.mk (gsz hg (bel HB)); clear HB; have HB := n0_; have BK101 := n1_; have GW101 := n2_; have GE101 := n3_; clear n0_ n1_ n2_ n3_; clear hb hbox hg) | ((with_reducible refine gate_callee (f := 29) rfl ?_); refine gcall (some 15) Tryd.func29 #[.string a0] rfl ?_; (with_reducible refine (spec_cnBare.calls k a0 t102 t103 t104 t107 false _ A4.out).mono ?_); rintro e w32 ⟨v105, rfl, ho0, hb⟩; refine ⟨_, rfl, ?_⟩; have n0_ := Aside0.mk (Kd.R_lower ho0 (below_size (bel HB))); have n1_ := Aside0.mk (blk_below (g := gb101) (o := .cells #[.int .i64 0, .int .i64 0, .slice none 0 0] 37 (0, 0)) blc hb); have n2_ := Aside0.mk (below_step (bel HB) hb); clear BK101; clear HB; have HO106 := n0_; have BK101 := n1_; have HB := n2_; clear n0_ n1_ n2_; (try clear hb); (try clear hb2); (try clear hk); (try clear hi); (try clear ho0)) | ((with_reducible refine gate_dst (N := 9) rfl ?_); refine boxE (N := 9) (cs := #[.int .i64 0, .int .i64 0, .slice none 0 0]) (t := 37) ?_; intro gb109 hg w33 hbox hb; have n0_ := Aside0.mk (Kd.R_below (rch HO106) hb); have n1_ := Aside0.mk (blk_below (g := gb101) (o := .cells #[.int .i64 0, .int .i64 0, .slice none 0 0] 37 (0, 0)) blc hb); have n2_ := Aside0.mk (below_step (bel HB) hb); have n3_ := Aside0.mk (hbox); have n4_ := Aside0.mk (gsz hg (bel HB)); have n5_ := Aside0.mk (gsz hg (bel HB)); have n6_ := Aside0.mk ((by rw [hg]; exact Nat.ne_of_lt (blk_lt (g := gb101) (o := .cells #[.int .i64 0, .int .i64 0, .slice none 0 0] 37 (0, 0)) blc) : gb101 ≠ gb109)); have n7_ := Aside0.mk ((by rw [hg]; exact Nat.ne_of_gt (blk_lt (g := gb101) (o := .cells #[.int .i64 0, .int .i64 0, .slice none 0 0] 37 (0, 0)) blc) : gb109 ≠ gb101)); clear HO106; clear BK101; clear HB; have HO106 := n0_; have BK101 := n1_; have HB := n2_; have BK109 := n3_; have GW109 := n4_; have GE109 := n5_; have NB101_109 := n6_; have NB109_101 := n7_; clear n0_ n1_ n2_ n3_ n4_ n5_ n6_ n7_; clear hb hbox hg; have hnb34 := NB109_101.out; have hnc34 := NB101_109.out; have hcz35_0 : w33.cell? ⟨gb109, 0, none⟩ = some (.int .i64 0) := (blk_cell BK109.out 0).trans rfl; have hcz35_1 : w33.cell? ⟨gb109, 1, none⟩ = some (.int .i64 0) := (blk_cell BK109.out 1).trans rfl; have hcz35_2 : w33.cell? ⟨gb109, 2, none⟩ = some (.slice none 0 0) := (blk_cell BK109.out 2).trans rfl; have hfz35_0 := blk_frozen BK109.out 0; have hfz35_1 := blk_frozen BK109.out 1; have hfz35_2 := blk_frozen BK109.out 2; obtain ⟨Ao36, co36, eo36⟩ := Kd.R_slice HO106.out; subst eo36) | ((with_reducible refine gate_callee (f := 30) rfl ?_); refine gcall (some 20) Tryd.func30 #[.string a1] rfl ?_; (with_reducible refine (spec_tiDir.calls k a1 t110 _ A5.out).mono ?_); rintro e w' ⟨rfl, ⟨nd, rfl⟩⟩; refine ⟨_, rfl, ?_⟩))
  have n0_ : Aside0 (Kd.R (Kd.int .u8) 5 (((w33.setCell ⟨gb109, 0, none⟩ (.int .i64 t102)).setCell ⟨gb109, 1, none⟩ (.int .i64 t103)).setCell ⟨gb109, 2, none⟩ (.slice Ao36 t104.length co36)) w.heap.size (fun _ => True) (.slice Ao36 t104.length co36) t104) := ⟨by (with_reducible repeat (first | apply Kd.R_alloc | apply Kd.R_drewN | apply Kd.R_drew)); exact Kd.R_mono (Kd.R_far (p := ⟨gb109, 2, none⟩) (Kd.R_far (p := ⟨gb109, 1, none⟩) (Kd.R_far (p := ⟨gb109, 0, none⟩) (Kd.R_types HO106.out BK109.out (by decide)) (fun _ hk => hk.2) (.int .i64 t102)) (fun _ hk => hk.2) (.int .i64 t103)) (fun _ hk => hk.2) (.slice Ao36 t104.length co36)) (fun _ hk => trivial)⟩
  have n1_ : Aside0 ((((w33.setCell ⟨gb109, 0, none⟩ (.int .i64 t102)).setCell ⟨gb109, 1, none⟩ (.int .i64 t103)).setCell ⟨gb109, 2, none⟩ (.slice Ao36 t104.length co36)).heap[gb101]? = some (.cells #[.int .i64 0, .int .i64 0, .slice none 0 0] 37 (0, 0))) := ⟨by (with_reducible repeat (first | refine blk_drewN ?_ _ | refine blk_drew ?_ | refine blk_alloc ?_ _)); refine blk_far ?_ NB101_109.out _; (with_reducible repeat (first | refine blk_drewN ?_ _ | refine blk_drew ?_ | refine blk_alloc ?_ _)); refine blk_far ?_ NB101_109.out _; (with_reducible repeat (first | refine blk_drewN ?_ _ | refine blk_drew ?_ | refine blk_alloc ?_ _)); refine blk_far ?_ NB101_109.out _; exact blc⟩
  have n2_ : Aside0 ((((w33.setCell ⟨gb109, 0, none⟩ (.int .i64 t102)).setCell ⟨gb109, 1, none⟩ (.int .i64 t103)).setCell ⟨gb109, 2, none⟩ (.slice Ao36 t104.length co36)).heap[gb109]? = some (.cells #[.int .i64 t102, .int .i64 t103, .slice Ao36 t104.length co36] 37 (0, 0))) := ⟨by (with_reducible repeat (first | refine blk_drewN ?_ _ | refine blk_drew ?_ | refine blk_alloc ?_ _)); refine blk_put (cs := #[.int .i64 t102, .int .i64 t103, .slice none 0 0]) ?_ 2 _ rfl; (with_reducible repeat (first | refine blk_drewN ?_ _ | refine blk_drew ?_ | refine blk_alloc ?_ _)); refine blk_put (cs := #[.int .i64 t102, .int .i64 0, .slice none 0 0]) ?_ 1 _ rfl; (with_reducible repeat (first | refine blk_drewN ?_ _ | refine blk_drew ?_ | refine blk_alloc ?_ _)); refine blk_put (cs := #[.int .i64 0, .int .i64 0, .slice none 0 0]) ?_ 0 _ rfl; exact blc⟩
  have n3_ : Aside0 (Below w.heap.size w (((w33.setCell ⟨gb109, 0, none⟩ (.int .i64 t102)).setCell ⟨gb109, 1, none⟩ (.int .i64 t103)).setCell ⟨gb109, 2, none⟩ (.slice Ao36 t104.length co36))) := ⟨bel HB⟩
  (try clear HO106)
  (try clear BK101)
  (try clear BK109)
  (try clear HB)
  generalize (((w33.setCell ⟨gb109, 0, none⟩ (.int .i64 t102)).setCell ⟨gb109, 1, none⟩ (.int .i64 t103)).setCell ⟨gb109, 2, none⟩ (.slice Ao36 t104.length co36)) = w37 at n0_ n1_ n2_ n3_ ⊢
  have HO106 := n0_
  have BK101 := n1_
  have BK109 := n2_
  have HB := n3_
  clear n0_ n1_ n2_ n3_
  (try (rw [drewN_self w37]; generalize hq_ : World.drewN w37 _ = w37; have n0_ : Aside0 (Kd.R (Kd.int .u8) 5 w37 w.heap.size (fun _ => True) (.slice Ao36 t104.length co36) t104) := ⟨by rw [← hq_]; exact (rch HO106)⟩; have n1_ : Aside0 (w37.heap[gb101]? = some (.cells #[.int .i64 0, .int .i64 0, .slice none 0 0] 37 (0, 0))) := ⟨by rw [← hq_]; exact blc⟩; have n2_ : Aside0 (w37.heap[gb109]? = some (.cells #[.int .i64 t102, .int .i64 t103, .slice Ao36 t104.length co36] 37 (0, 0))) := ⟨by rw [← hq_]; exact blc⟩; have n3_ : Aside0 (Below w.heap.size w w37) := ⟨by rw [← hq_]; exact (bel HB)⟩; clear HO106 BK101 BK109 HB hq_; have HO106 := n0_; have BK101 := n1_; have BK109 := n2_; have HB := n3_; clear n0_ n1_ n2_ n3_))
  have n0_ := Aside0.mk (Kd.R_drew HO106.out)
  have n1_ := Aside0.mk (blk_drew BK101.out)
  have n2_ := Aside0.mk (blk_drew BK109.out)
  have n3_ := Aside0.mk (below_drew1 HB.out)
  clear HO106
  clear BK101
  clear BK109
  clear HB
  have HO106 := n0_
  have BK101 := n1_
  have BK109 := n2_
  have HB := n3_
  clear n0_ n1_ n2_ n3_
  refine start_ (n := 15) (S := fun w' => w'.cell? ⟨gb109, 0, none⟩ = some (.int .i64 t102) ∧ w'.cell? ⟨gb109, 1, none⟩ = some (.int .i64 t103) ∧ w'.cell? ⟨gb109, 2, none⟩ = some (.slice Ao36 t104.length co36)) (ds := []) #[false, false, false, false, false, false, false, false, false, false, false, false, false, false, false] (by kernel_rfl) rfl rfl ⟨(blk_cell BK109.out 0).trans rfl, (blk_cell BK109.out 1).trans rfl, (blk_cell BK109.out 2).trans rfl⟩ (fun hHeld => ?_); refine with_tabW spec_cnDir.tab3 spec_cnDir.bits3 (fun HT_ HW_ => ?_)
  generalize w37.drew = w38 at HO106 BK101 BK109 HB hHeld ⊢
  refine pure_ (i := 1) (N := some 22) (v := ?_) (a' := ?_) #[false, true, false, false, false, false, false, false, false, false, false, false, false, false, false] rfl rfl (any_of HT_.out (by kernel_rfl)) (fun _ _ _ h => h) (Or.inl ⟨by rfl, ?_⟩) ?_ ?_
  rotate_left
  ·intro w'
   go_simp
   with_reducible rfl
  rotate_left
  ·simp only [Act.put, List.setIfInBounds_toArray, List.set_cons_zero, List.set_cons_succ, i64_w, i32_w]
   rfl
  refine pure_ (i := 2) (N := some 23) (v := ?_) (a' := ?_) #[false, true, true, false, false, false, false, false, false, false, false, false, false, false, false] rfl rfl (any_of HT_.out (by kernel_rfl)) (fun _ _ _ h => h) (Or.inl ⟨by rfl, ?_⟩) ?_ ?_
  rotate_left
  ·intro w'
   go_simp
   with_reducible rfl
  rotate_left
  ·simp only [Act.put, List.setIfInBounds_toArray, List.set_cons_zero, List.set_cons_succ, i64_w, i32_w]
   rfl
  refine pure_ (i := 3) (N := some 24) (v := ?_) (a' := ?_) #[false, true, true, true, false, false, false, false, false, false, false, false, false, false, false] rfl rfl (any_of HT_.out (by kernel_rfl)) (fun _ _ _ h => h) (Or.inl ⟨by rfl, ?_⟩) ?_ ?_
  rotate_left
  ·intro w'
   go_simp
   with_reducible rfl
  rotate_left
  ·simp only [Act.put, List.setIfInBounds_toArray, List.set_cons_zero, List.set_cons_succ, i64_w, i32_w]
   rfl
  refine pure_ (i := 4) (N := some 25) (v := undef) (a' := ?_) #[false, true, true, true, true, false, false, false, false, false, false, false, false, false, false] rfl rfl (any_of HT_.out (by kernel_rfl)) (fun _ _ _ h => h) (Or.inr ⟨by rfl, rfl⟩) ?_ ?_
  rotate_left
  ·simp only [Act.put, List.setIfInBounds_toArray, List.set_cons_zero, List.set_cons_succ, i64_w, i32_w]
   rfl
  refine pure_ (i := 5) (N := some 26) (v := undef) (a' := ?_) #[false, true, true, true, true, true, false, false, false, false, false, false, false, false, false] rfl rfl (any_of HT_.out (by kernel_rfl)) (fun _ _ _ h => h) (Or.inr ⟨by rfl, rfl⟩) ?_ ?_
  rotate_left
  ·simp only [Act.put, List.setIfInBounds_toArray, List.set_cons_zero, List.set_cons_succ, i64_w, i32_w]
   rfl
  refine pure_ (i := 6) (N := some 27) (v := ?_) (a' := ?_) #[false, true, true, true, true, true, true, false, false, false, false, false, false, false, false] rfl rfl (any_of HT_.out (by kernel_rfl)) (fun _ _ _ h => h) (Or.inl ⟨by rfl, ?_⟩) ?_ ?_
  rotate_left
  ·intro w'
   go_simp
   with_reducible rfl
  rotate_left
  ·simp only [Act.put, List.setIfInBounds_toArray, List.set_cons_zero, List.set_cons_succ, i64_w, i32_w]
   rfl
  refine pure_ (i := 7) (N := some 28) (v := ?_) (a' := ?_) #[false, true, true, true, true, true, true, true, false, false, false, false, false, false, false] rfl rfl (any_of HT_.out (by kernel_rfl)) (fun _ _ _ h => h) (Or.inl ⟨by rfl, ?_⟩) ?_ ?_
  rotate_left
  ·intro w'
   go_simp
   with_reducible rfl
  rotate_left
  ·simp only [Act.put, List.setIfInBounds_toArray, List.set_cons_zero, List.set_cons_succ, i64_w, i32_w]
   rfl
  refine pure_ (i := 8) (N := some 29) (v := undef) (a' := ?_) #[false, true, true, true, true, true, true, true, true, false, false, false, false, false, false] rfl rfl (any_of HT_.out (by kernel_rfl)) (fun _ _ _ h => h) (Or.inr ⟨by rfl, rfl⟩) ?_ ?_
  rotate_left
  ·simp only [Act.put, List.setIfInBounds_toArray, List.set_cons_zero, List.set_cons_succ, i64_w, i32_w]
   rfl
  refine pure_ (i := 9) (N := some 30) (v := undef) (a' := ?_) #[false, true, true, true, true, true, true, true, true, true, false, false, false, false, false] rfl rfl (any_of HT_.out (by kernel_rfl)) (fun _ _ _ h => h) (Or.inr ⟨by rfl, rfl⟩) ?_ ?_
  rotate_left
  ·simp only [Act.put, List.setIfInBounds_toArray, List.set_cons_zero, List.set_cons_succ, i64_w, i32_w]
   rfl
  refine pure_ (i := 10) (N := some 31) (v := undef) (a' := ?_) #[false, true, true, true, true, true, true, true, true, true, true, false, false, false, false] rfl rfl (any_of HT_.out (by kernel_rfl)) (fun _ _ _ h => h) (Or.inr ⟨by rfl, rfl⟩) ?_ ?_
  rotate_left
  ·simp only [Act.put, List.setIfInBounds_toArray, List.set_cons_zero, List.set_cons_succ, i64_w, i32_w]
   rfl
  refine pure_ (i := 11) (N := some 32) (v := ?_) (a' := ?_) #[false, true, true, true, true, true, true, true, true, true, true, true, false, false, false] rfl rfl (any_of HT_.out (by kernel_rfl)) (fun _ _ _ h => h) (Or.inl ⟨by rfl, ?_⟩) ?_ ?_
  rotate_left
  ·intro w'
   go_simp
   with_reducible rfl
  rotate_left
  ·simp only [Act.put, List.setIfInBounds_toArray, List.set_cons_zero, List.set_cons_succ, i64_w, i32_w]
   rfl
  refine take_ (i := 0) (N := some 21) (v := ?_) (a' := ?_) #[true, true, true, true, true, true, true, true, true, true, true, true, false, false, false] rfl rfl (take_ofW HT_.out HW_.out (by kernel_rfl)) (fun _ _ _ h => h) (Or.inl ⟨by rfl, ?_⟩) hHeld ?_ ?_
  rotate_left
  ·rintro w' ⟨s0, s1, s2⟩
   go_simp
   with_reducible rfl
  rotate_left
  ·simp only [Act.put, List.setIfInBounds_toArray, List.set_cons_zero, List.set_cons_succ, i64_w, i32_w]
   rfl
  refine one_ (i := 12) (N := none) #[true, true, true, true, true, true, true, true, true, true, true, true, true, false, false] rfl rfl (one_of HT_.out (by kernel_rfl)) (by decide) (fun K hK => ?_)
  have hs39 : w38.cell? ⟨gb101, 0, none⟩ = some (.int .i64 0) := (blk_cell BK101.out 0).trans rfl
  have hfs39 := blk_frozen BK101.out 0
  have hns39_1 := NB109_101.out
  have hms39_1 := NB101_109.out
  have hs40 : w38.cell? ⟨gb101, 1, none⟩ = some (.int .i64 0) := (blk_cell BK101.out 1).trans rfl
  have hfs40 := blk_frozen BK101.out 1
  have hns40_1 := NB109_101.out
  have hms40_1 := NB101_109.out
  have hs41 : w38.cell? ⟨gb101, 2, none⟩ = some (.slice none 0 0) := (blk_cell BK101.out 2).trans rfl
  have hfs41 := blk_frozen BK101.out 2
  have hns41_1 := NB109_101.out
  have hms41_1 := NB101_109.out
  refine skip_ (w1 := ?_) (by rfl) rfl ?_ ?_
  rotate_left
  ·go_simp
   rfl
  refine hK.out _ _ ⟨((cell_far (p := ⟨gb101, _, none⟩) NB109_101.out _).trans (((cell_far (p := ⟨gb101, _, none⟩) NB109_101.out _).trans (((cell_far (p := ⟨gb101, _, none⟩) NB109_101.out _).trans (hHeld.1)))))), ((cell_far (p := ⟨gb101, _, none⟩) NB109_101.out _).trans (((cell_far (p := ⟨gb101, _, none⟩) NB109_101.out _).trans (((cell_far (p := ⟨gb101, _, none⟩) NB109_101.out _).trans (hHeld.2.1)))))), ((cell_far (p := ⟨gb101, _, none⟩) NB109_101.out _).trans (((cell_far (p := ⟨gb101, _, none⟩) NB109_101.out _).trans (((cell_far (p := ⟨gb101, _, none⟩) NB109_101.out _).trans (hHeld.2.2))))))⟩ (fun hHeld => ?_)
  clear hK K
  refine pure_ (i := 13) (N := some 7) (v := ?_) (a' := ?_) #[true, true, true, true, true, true, true, true, true, true, true, true, true, true, false] rfl rfl (any_of HT_.out (by kernel_rfl)) (fun _ _ _ h => h) (Or.inl ⟨by rfl, ?_⟩) ?_ ?_
  rotate_left
  ·intro w'
   go_simp
   with_reducible rfl
  rotate_left
  ·simp only [Act.put, List.setIfInBounds_toArray, List.set_cons_zero, List.set_cons_succ, i64_w, i32_w]
   rfl
  refine pure_ (i := 14) (N := some 8) (v := ?_) (a' := ?_) #[true, true, true, true, true, true, true, true, true, true, true, true, true, true, true] rfl rfl (any_of HT_.out (by kernel_rfl)) (fun _ _ _ h => h) (Or.inl ⟨by rfl, ?_⟩) ?_ ?_
  rotate_left
  ·intro w'
   go_simp
   with_reducible rfl
  rotate_left
  ·simp only [Act.put, List.setIfInBounds_toArray, List.set_cons_zero, List.set_cons_succ, i64_w, i32_w]
   rfl
  refine done_ (done_of HT_.out (by kernel_rfl)) ?_
  try go_wp2
  refine bodyPost_ret (results_ctt rfl _ _ gb101 37 #[.int .i64 t102, .int .i64 t103, .slice Ao36 t104.length co36] (0, 0) _ rfl (by (with_reducible repeat (first | refine blk_drewN ?_ _ | refine blk_drew ?_ | refine blk_alloc ?_ _)); refine blk_put (cs := #[.int .i64 t102, .int .i64 t103, .slice none 0 0]) ?_ 2 _ rfl; (with_reducible repeat (first | refine blk_drewN ?_ _ | refine blk_drew ?_ | refine blk_alloc ?_ _)); refine blk_put (cs := #[.int .i64 t102, .int .i64 0, .slice none 0 0]) ?_ 1 _ rfl; (with_reducible repeat (first | refine blk_drewN ?_ _ | refine blk_drew ?_ | refine blk_alloc ?_ _)); refine blk_put (cs := #[.int .i64 0, .int .i64 0, .slice none 0 0]) ?_ 0 _ rfl; exact blc) Tryd.underlying37 rfl (by kernel_rfl)) rfl ?_
  exact ⟨_, by first | rfl | (simp [errW_none, errW_some] <;> rfl) | (simp [*, errW_none, errW_some] <;> rfl), by (with_reducible repeat (first | apply Kd.R_alloc | apply Kd.R_drewN | apply Kd.R_drew)); exact Kd.R_mono (Kd.R_far (p := ⟨gb101, 2, none⟩) (Kd.R_far (p := ⟨gb101, 1, none⟩) (Kd.R_far (p := ⟨gb101, 0, none⟩) (Kd.R_types HO106.out BK101.out (by decide)) (fun _ hk => hk.2) (.int .i64 t102)) (fun _ hk => hk.2) (.int .i64 t103)) (fun _ hk => hk.2) (.slice Ao36 t104.length co36)) (fun _ hk => trivial), bel HB⟩
end Go.Proofs.YtcpeldgnabfdmaaDoor.Q
end
section
namespace Go.Proofs.YtcpeldgnabfdmaaDoor.Q
open Go.RowKit Go.Proofs.YtcpeldgnabfdmaaDoorW.PrintWords Go.Proofs.YtcpeldgnabfdmaaDoorW.PrintLast Go.Proofs.YtcpeldgnabfdmaaDoorW.PrintMore
attribute [local go_sem] max2_int min2_int max_two min_two max_three min_three max_four min_four
set_option linter.unusedVariables false
set_option linter.unusedSimpArgs false
def impl_isEmptied.f (k : Nat) (a0 : ByteArray) : Option (Bool) := (impl_IsTray.f k a0).bind fun t101 => (if t101 = true then ((strings_Trim.f a0 (⟨#[35, 46, 47]⟩ : ByteArray)).bind fun t102 => (some (t102.toList == ([] : List UInt8)))) else (some false))
set_option maxHeartbeats 8000000 in
set_option maxRecDepth 100000 in
theorem impl_isEmptied.calls (k : Nat) (a0 : ByteArray) (r : Bool) (w : World) (hG : GoodW w) (h : impl_isEmptied.f k a0 = some r) :
  Calls Tryd.prog 31 #[.string a0] w fun e w' => e = .returned (.bool r) ∧ Below w.heap.size w w' := by
 have HG := Aside0.mk hG
 clear hG
 have HB := Aside0.mk (Below.refl w.heap.size w)
 have H : ((impl_IsTray.f k a0).bind fun t101 => (if t101 = true then ((strings_Trim.f a0 (⟨#[35, 46, 47]⟩ : ByteArray)).bind fun t102 => (some (t102.toList == ([] : List UInt8)))) else (some false))) = some r := h
 clear h
 replace H := Option.bind_eq_some_iff.mp H
 obtain ⟨t101, A20, H⟩ := H
 replace H : (if t101 = true then ((strings_Trim.f a0 (⟨#[35, 46, 47]⟩ : ByteArray)).bind fun t102 => (some (t102.toList == ([] : List UInt8)))) else (some false)) = some r := H
 have A2 := Aside0.mk A20
 clear A20
 by_cases c3 : t101 = true
 ·subst c3
  have H1 : ((strings_Trim.f a0 (⟨#[35, 46, 47]⟩ : ByteArray)).bind fun t102 => (some (t102.toList == ([] : List UInt8)))) = some r := by rw [if_pos rfl] at H; exact H
  clear H
  have H := H1
  clear H1
  replace H := Option.bind_eq_some_iff.mp H
  obtain ⟨t102, A40, H⟩ := H
  replace H : (some (t102.toList == ([] : List UInt8))) = some r := H
  have A4 := Aside0.mk A40
  clear A40
  obtain rfl := Option.some.inj H
  go_enter Tryd.func31, Tryd.ntmps31
  go_wp2_with (first | ((with_reducible refine gate_callee (f := 40) rfl ?_); refine gcall (some 4) Tryd.func40 #[.string a0] rfl ?_; (with_reducible refine (impl_IsTray.calls k a0 true _ ?side1 A2.out).mono ?_); (case side1 => (refine GoodW.below HG.out ?_); exact bel HB); rintro e w5 ⟨rfl, hb⟩; refine ⟨_, rfl, ?_⟩; have n0_ := Aside0.mk (below_step (bel HB) hb); clear HB; have HB := n0_; clear n0_; (try clear hb); (try clear hb2); (try clear hk); (try clear hi)) | (go_at_call 51; (with_reducible refine (strings_Trim.calls a0 (⟨#[35, 46, 47]⟩ : ByteArray) t102 _ A4.out).mono ?_); rintro e w6 ⟨rfl, hb⟩; have n0_ := Aside0.mk (below_step (bel HB) hb); clear HB; have HB := n0_; clear n0_; (try clear hb); (try clear hb2); (try clear hk); (try clear hi)))
  go_ret
  exact ⟨by first | rfl | (simp [errW_none, errW_some] <;> rfl) | (simp [*, errW_none, errW_some] <;> rfl), bel HB⟩
 ·replace c3 := Bool.eq_false_iff.mpr c3
  subst c3
  have H1 : (some false) = some r := by rw [if_neg (show ¬ (false = true) by decide)] at H; exact H
  clear H
  have H := H1
  clear H1
  obtain rfl := Option.some.inj H
  go_enter Tryd.func31, Tryd.ntmps31
  go_wp2_with (first | ((with_reducible refine gate_callee (f := 40) rfl ?_); refine gcall (some 4) Tryd.func40 #[.string a0] rfl ?_; (with_reducible refine (impl_IsTray.calls k a0 false _ ?side1 A2.out).mono ?_); (case side1 => (refine GoodW.below HG.out ?_); exact bel HB); rintro e w7 ⟨rfl, hb⟩; refine ⟨_, rfl, ?_⟩; have n0_ := Aside0.mk (below_step (bel HB) hb); clear HB; have HB := n0_; clear n0_; (try clear hb); (try clear hb2); (try clear hk); (try clear hi)))
  go_ret
  exact ⟨by first | rfl | (simp [errW_none, errW_some] <;> rfl) | (simp [*, errW_none, errW_some] <;> rfl), bel HB⟩
def impl_isOpen.f (a0 : Int) : Option (Bool) := some (a0 != 35)
set_option maxHeartbeats 8000000 in
set_option maxRecDepth 100000 in
theorem impl_isOpen.calls (a0 : Int) (r : Bool) (w : World) (h : impl_isOpen.f a0 = some r) :
  Calls Tryd.prog 56 #[.int .u8 a0] w fun e w' => e = .returned (.bool r) ∧ Drawn0 w w' := by
 have H : (some (a0 != 35)) = some r := h
 clear h
 obtain rfl := Option.some.inj H
 go_enter Tryd.func56, Tryd.ntmps56
 go_wp2
 go_ret
 exact ⟨by first | rfl | (simp; done) | (simp [*]; done), by repeat (first | exact Drawn0.refl _ | apply Drawn0.step)⟩
def impl_tray_indices_isOpen.l0 : Nat → List Int → List Int → Int → Int → Option (List Int)
 | 0, _, _, _, _ => none
 | k + 1, x5, x10, x11, x12 => if x12 < x11 then (if 0 ≤ x12 then (if x12 < (x10.length : Int) then ((impl_isOpen.f (rd x10 x12)).bind fun t106 => (if t106 = true then (if x5.length < 17592186044416 then (impl_tray_indices_isOpen.l0 k (x5 ++ [x12]) x10 x11 (wrap64 (x12 + 1))) else (none)) else (impl_tray_indices_isOpen.l0 k x5 x10 x11 (wrap64 (x12 + 1))))) else (none)) else (none)) else (some x5)
def impl_tray_indices_isOpen.f (k : Nat) (a0_0 : Int) (a0_1 : Int) (l0_2 : List Int) (a1 : Unit) : Option (List Int) := impl_tray_indices_isOpen.l0 k (([] : List Int)) l0_2 (l0_2.length : Int) 0
set_option maxHeartbeats 8000000 in
set_option maxRecDepth 100000 in
theorem impl_tray_indices_isOpen.calls (k : Nat) (a0_0 : Int) (a0_1 : Int) (A0_2 : Option Addr) (c0_2 : Nat) (l0_2 : List Int) (a1 : Unit) (r : List Int) (w : World) (hr0_2 : Kd.C (Kd.int .u8) w A0_2 l0_2.length l0_2) (hc0_2 : l0_2.length ≤ c0_2) (h : impl_tray_indices_isOpen.f k a0_0 a0_1 l0_2 a1 = some r) :
  Calls Tryd.prog 55 #[.agg #[.int .i64 a0_0, .int .i64 a0_1, .slice A0_2 l0_2.length c0_2], .func (.func 56) #[] #[]] w fun e w' => ∃ v0_ : Value, e = .returned (v0_) ∧ Kd.R (Kd.int .i64) 3 w' w.heap.size (fun _ => True) v0_ r ∧ Below w.heap.size w w' := by
 have hu42 := Tryd.underlying42
 have HR0_2 := Aside0.mk hr0_2
 have HC0_2 := Aside0.mk hc0_2
 clear hr0_2 hc0_2
 have HB := Aside0.mk (Below.refl w.heap.size w)
 have H : (impl_tray_indices_isOpen.l0 k (([] : List Int)) l0_2 (l0_2.length : Int) 0) = some r := h
 clear h
 obtain ⟨y102, hy102⟩ : ∃ y_ : List Int, y_ = (([] : List Int)) := ⟨_, rfl⟩
 replace H : (impl_tray_indices_isOpen.l0 k y102 l0_2 (l0_2.length : Int) 0) = some r := rH hy102 H
 have Ny102 := Aside0.mk hy102
 clear hy102
 have H' := Aside0.mk H
 clear H
 go_enter Tryd.func55, Tryd.ntmps55
 go_wp2_with (first | ((with_reducible refine gate_dst (N := 2) rfl ?_); refine boxE (N := 2) (cs := #[.int .i64 a0_0, .int .i64 a0_1, .slice A0_2 l0_2.length c0_2]) (t := 42) ?_; intro gb101 hg w3 hbox hb; have n0_ := Aside0.mk (below_step (bel HB) hb); have n1_ := Aside0.mk (hbox); have n2_ := Aside0.mk (gsz hg (bel HB)); have n3_ := Aside0.mk (gsz hg (bel HB)); clear HB; have HB := n0_; have BK101 := n1_; have GW101 := n2_; have GE101 := n3_; clear n0_ n1_ n2_ n3_; clear hb hbox hg) | ((with_reducible refine gate_dst (N := 8) rfl ?_); refine R_litG (Kd.int .i64) _ 3 ?hg (N := 8) ?hd (xs := ([] : List Int)) (inner := []) (ok := fun _ => True) (okp := fun _ => True) ?hr ?hp (fun _ hk => hk) trivial (Below.refl _ _) (Nat.le_refl _) (by simp) ?_; (case hd => rfl); (case hg => first | rfl | decide | (simp [Region.wanted, yielded]; done) | (go_simp; done)); (case hr => first | (go_simp; done) | (go_simp; rfl)); (case hp => exact (Reps.none _ _)); intro v103 w4 ho5 hb hg_ hnew_; clear hg_ hnew_; (first | rw [← Ny102.out] at ho5 | (simp only [Int.reduceToNat] at ho5; rw [← Ny102.out] at ho5)); have n0_ := Aside0.mk (Kd.R_lower ho5 (below_size (bel HB))); have n1_ := Aside0.mk (blk_below (g := gb101) (o := .cells #[.int .i64 a0_0, .int .i64 a0_1, .slice A0_2 l0_2.length c0_2] 42 (0, 0)) blc hb); have n2_ := Aside0.mk (below_step (bel HB) hb); clear BK101; clear HB; have HO104 := n0_; have BK101 := n1_; have HB := n2_; clear n0_ n1_ n2_; clear hb ho5; have hcz6_0 : w4.cell? ⟨gb101, 0, none⟩ = some (.int .i64 a0_0) := (blk_cell BK101.out 0).trans rfl; have hcz6_1 : w4.cell? ⟨gb101, 1, none⟩ = some (.int .i64 a0_1) := (blk_cell BK101.out 1).trans rfl; have hcz6_2 : w4.cell? ⟨gb101, 2, none⟩ = some (.slice A0_2 l0_2.length c0_2) := (blk_cell BK101.out 2).trans rfl; have hfz6_0 := blk_frozen BK101.out 0; have hfz6_1 := blk_frozen BK101.out 1; have hfz6_2 := blk_frozen BK101.out 2))
 go_loopg [5, 12] k (fun kq v5 v12 w' => ∃ (x5_1 : List Int) (x12_1 : Int), v12 = .int .i64 x12_1 ∧ Aside0 (impl_tray_indices_isOpen.l0 kq x5_1 l0_2 (l0_2.length : Int) x12_1 = some r) ∧ Aside0 (kq ≤ k) ∧ Aside0 (Kd.R (Kd.int .i64) 3 w' w.heap.size (fun _ => True) v5 x5_1) ∧ Aside0 (w'.heap[gb101]? = some (.cells #[.int .i64 a0_0, .int .i64 a0_1, (.slice A0_2 l0_2.length c0_2)] 42 (0, 0))) ∧ Aside0 (Below w.heap.size w w'))
 case atStart => exact ⟨(y102), (0), (by first | rfl | (simp; done) | (simp [*]; done)), H', ⟨Nat.le_refl _⟩, ⟨rch HO104⟩, ⟨blc⟩, ⟨bel HB⟩⟩
 case round =>
  clear H'
  try clear p2
  try clear c5
  try clear hcz6_0
  try clear hcz6_1
  try clear hcz6_2
  try clear hfz6_0
  try clear hfz6_1
  try clear hfz6_2
  obtain ⟨x5_1, x12_1, rfl, HA, HK1, HO_5, BK101, HB⟩ := hrel
  cases gk with
  | zero => exact absurd HA.out (by simp [impl_tray_indices_isOpen.l0])
  | succ k1 =>
   have H := HA.out
   clear HA
   simp only [impl_tray_indices_isOpen.l0] at H
   by_cases c7 : x12_1 < (l0_2.length : Int)
   ·rw [if_pos c7] at H
    have c7b0 : decide (x12_1 < (l0_2.length : Int)) = true := decide_eq_true c7
    clear c7
    by_cases c8 : 0 ≤ x12_1
    ·rw [if_pos c8] at H
     have c8b0 : decide (0 ≤ x12_1) = true := decide_eq_true c8
     clear c8
     by_cases c9 : x12_1 < (l0_2.length : Int)
     ·rw [if_pos c9] at H
      have c9b0 : decide (x12_1 < (l0_2.length : Int)) = true := decide_eq_true c9
      clear c9
      replace H := Option.bind_eq_some_iff.mp H
      obtain ⟨t106, A100, H⟩ := H
      replace H : (if t106 = true then (if x5_1.length < 17592186044416 then (impl_tray_indices_isOpen.l0 k1 (x5_1 ++ [x12_1]) l0_2 (l0_2.length : Int) (wrap64 (x12_1 + 1))) else (none)) else (impl_tray_indices_isOpen.l0 k1 x5_1 l0_2 (l0_2.length : Int) (wrap64 (x12_1 + 1)))) = some r := H
      have A10 := Aside0.mk A100
      clear A100
      by_cases c11 : t106 = true
      ·subst c11
       have H1 : (if x5_1.length < 17592186044416 then (impl_tray_indices_isOpen.l0 k1 (x5_1 ++ [x12_1]) l0_2 (l0_2.length : Int) (wrap64 (x12_1 + 1))) else (none)) = some r := by rw [if_pos rfl] at H; exact H
       clear H
       have H := H1
       clear H1
       by_cases c12 : x5_1.length < 17592186044416
       ·rw [if_pos c12] at H
        have LMc12 := Aside0.mk c12
        clear c12
        obtain ⟨y107, hy107⟩ : ∃ y_ : List Int, y_ = (x5_1 ++ [x12_1]) := ⟨_, rfl⟩
        replace H : (impl_tray_indices_isOpen.l0 k1 y107 l0_2 (l0_2.length : Int) (wrap64 (x12_1 + 1))) = some r := rH hy107 H
        have Ny107 := Aside0.mk hy107
        clear hy107
        have H' := Aside0.mk H
        clear H
        have p105 : 0 ≤ (x12_1 : Int) := of_decide_eq_true (by first | (with_reducible assumption) | assumption)
        have q105 : x12_1 < (l0_2.length : Int) := of_decide_eq_true (by first | (with_reducible assumption) | assumption)
        obtain ⟨ad105, e105, hx105_0⟩ := Kd.at_int HR0_2.out x12_1 p105 q105
        cases e105
        (try replace hx105_0 := (HB.out.cell (World.block_lt_of_cell? w _ hx105_0)).trans hx105_0)
        replace p105 := eq_true p105
        replace q105 := eq_true q105
        go_wp2_with (first | ((first | (with_reducible refine gate_callee (f := 56) rfl ?_) | (with_reducible refine gate_dst (N := 19) rfl ?_)); (first | refine gcall (some 19) Tryd.func56 #[.int .u8 (rd l0_2 x12_1)] rfl ?_ | refine goesV_ (some 19) rfl rfl Tryd.func56 (by kernel_rfl) rfl #[.int .u8 (rd l0_2 x12_1)] rfl (by (try simp only [List.map_toArray, List.map_cons, List.map_nil]); first | done | rfl | (simp only [List.length_drop, List.length_take]; rfl)) ?_); (with_reducible refine (impl_isOpen.calls (rd l0_2 x12_1) true _ A10.out).mono ?_); rintro e w' ⟨rfl, ⟨nd, rfl⟩⟩; refine ⟨_, rfl, ?_⟩) | ((with_reducible refine gate_builtin (b := .append) (xs := #[.tmp 20, .tmp 22]) rfl ?_); at_builtin; refine Kd.R_append (Kd.int .i64) (w0 := w) w.heap.size rfl (.tmp 20) (.tmp 22) 46 3 (.int .i64 0) 8 rfl Tryd.underlying46 info3 rfl (by decide) (by omega) u5 x5_1 x12_1 [.int .i64 x12_1] (fun _ => True) (fun _ => False) rfl rfl ?aP (fun _ hk => hk.elim) ?aF ?aO ?aB ?aS ?aL ?_; (case aP => exact rfl); (case aB => exact (bel HB)); (case aF => exact (fun _ _ => trivial)); (case aO => exact (rch HO_5)); (case aS => exact (below_size (bel HB))); (case aL => have := LMc12.out; omega); intro v108 w13 ho hb hg hat; rw [← Ny107.out] at ho; have n0_ := Aside0.mk (blk_grown (g := gb101) (o := .cells #[.int .i64 a0_0, .int .i64 a0_1, .slice (some ad105) l0_2.length c0_2] 42 (0, 0)) blc hg (Kd.R_ne HO_5.out BK101.out (by decide))); have n1_ := Aside0.mk (hb); have n2_ := Aside0.mk (ho); clear BK101; clear HB; clear HO_5; have BK101 := n0_; have HB := n1_; have HO109 := n2_; clear n0_ n1_ n2_; clear ho hb hg hat))
        go_roundg k1
        case measure => have := HK1.out; omega
        case rel => exact ⟨(y107), (wrap64 (x12_1 + 1)), (by first | rfl | (simp; done) | (simp [*]; done)), H', ⟨by have := HK1.out; omega⟩, ⟨rch HO109⟩, ⟨blc⟩, ⟨bel HB⟩⟩
       ·rw [if_neg c12] at H
        exact absurd H (by simp)
      ·replace c11 := Bool.eq_false_iff.mpr c11
       subst c11
       have H1 : (impl_tray_indices_isOpen.l0 k1 x5_1 l0_2 (l0_2.length : Int) (wrap64 (x12_1 + 1))) = some r := by rw [if_neg (show ¬ (false = true) by decide)] at H; exact H
       clear H
       have H := H1
       clear H1
       have H' := Aside0.mk H
       clear H
       have p105 : 0 ≤ (x12_1 : Int) := of_decide_eq_true (by first | (with_reducible assumption) | assumption)
       have q105 : x12_1 < (l0_2.length : Int) := of_decide_eq_true (by first | (with_reducible assumption) | assumption)
       obtain ⟨ad105, e105, hx105_0⟩ := Kd.at_int HR0_2.out x12_1 p105 q105
       cases e105
       (try replace hx105_0 := (HB.out.cell (World.block_lt_of_cell? w _ hx105_0)).trans hx105_0)
       replace p105 := eq_true p105
       replace q105 := eq_true q105
       go_wp2_with (first | ((first | (with_reducible refine gate_callee (f := 56) rfl ?_) | (with_reducible refine gate_dst (N := 19) rfl ?_)); (first | refine gcall (some 19) Tryd.func56 #[.int .u8 (rd l0_2 x12_1)] rfl ?_ | refine goesV_ (some 19) rfl rfl Tryd.func56 (by kernel_rfl) rfl #[.int .u8 (rd l0_2 x12_1)] rfl (by (try simp only [List.map_toArray, List.map_cons, List.map_nil]); first | done | rfl | (simp only [List.length_drop, List.length_take]; rfl)) ?_); (with_reducible refine (impl_isOpen.calls (rd l0_2 x12_1) false _ A10.out).mono ?_); rintro e w' ⟨rfl, ⟨nd, rfl⟩⟩; refine ⟨_, rfl, ?_⟩))
       go_roundg k1
       case measure => have := HK1.out; omega
       case rel => exact ⟨(x5_1), (wrap64 (x12_1 + 1)), (by first | rfl | (simp; done) | (simp [*]; done)), H', ⟨by have := HK1.out; omega⟩, ⟨rch HO_5⟩, ⟨blc⟩, ⟨bel HB⟩⟩
     ·rw [if_neg c9] at H
      exact absurd H (by simp)
    ·rw [if_neg c8] at H
     exact absurd H (by simp)
   ·rw [if_neg c7] at H
    have c7b0 : decide (x12_1 < (l0_2.length : Int)) = false := decide_eq_false c7
    clear c7
    obtain rfl := Option.some.inj H
    go_wp2
    go_ret
    exact ⟨_, by first | rfl | (simp [errW_none, errW_some] <;> rfl) | (simp [*, errW_none, errW_some] <;> rfl), rch HO_5, bel HB⟩
def impl_isStocked.f (k : Nat) (a0 : ByteArray) (a1 : Int) : Option (Bool) := (impl_isEmptied.f k a0).bind fun t101 => (if t101 = true then ((impl_read.f a0).bind fun bt102 => ((impl_tray_indices_isOpen.f k bt102.1 bt102.2.1 bt102.2.2 ()).bind fun t107 => ((impl_within.f a1 0 (t107.length : Int)).bind fun t110 => (some t110)))) else (some false))
set_option maxHeartbeats 8000000 in
set_option maxRecDepth 100000 in
theorem impl_isStocked.calls (k : Nat) (a0 : ByteArray) (a1 : Int) (r : Bool) (w : World) (hG : GoodW w) (h : impl_isStocked.f k a0 a1 = some r) :
  Calls Tryd.prog 35 #[.string a0, .int .i64 a1] w fun e w' => e = .returned (.bool r) ∧ Below w.heap.size w w' := by
 have HG := Aside0.mk hG
 clear hG
 have HB := Aside0.mk (Below.refl w.heap.size w)
 have H : ((impl_isEmptied.f k a0).bind fun t101 => (if t101 = true then ((impl_read.f a0).bind fun bt102 => ((impl_tray_indices_isOpen.f k bt102.1 bt102.2.1 bt102.2.2 ()).bind fun t107 => ((impl_within.f a1 0 (t107.length : Int)).bind fun t110 => (some t110)))) else (some false))) = some r := h
 clear h
 replace H := Option.bind_eq_some_iff.mp H
 obtain ⟨t101, A30, H⟩ := H
 replace H : (if t101 = true then ((impl_read.f a0).bind fun bt102 => ((impl_tray_indices_isOpen.f k bt102.1 bt102.2.1 bt102.2.2 ()).bind fun t107 => ((impl_within.f a1 0 (t107.length : Int)).bind fun t110 => (some t110)))) else (some false)) = some r := H
 have A3 := Aside0.mk A30
 clear A30
 by_cases c4 : t101 = true
 ·subst c4
  have H1 : ((impl_read.f a0).bind fun bt102 => ((impl_tray_indices_isOpen.f k bt102.1 bt102.2.1 bt102.2.2 ()).bind fun t107 => ((impl_within.f a1 0 (t107.length : Int)).bind fun t110 => (some t110)))) = some r := by rw [if_pos rfl] at H; exact H
  clear H
  have H := H1
  clear H1
  replace H := Option.bind_eq_some_iff.mp H
  obtain ⟨⟨t102, t103, t104⟩, A50, H⟩ := H
  replace H : ((impl_tray_indices_isOpen.f k t102 t103 t104 ()).bind fun t107 => ((impl_within.f a1 0 (t107.length : Int)).bind fun t110 => (some t110))) = some r := H
  have A5 := Aside0.mk A50
  clear A50
  replace H := Option.bind_eq_some_iff.mp H
  obtain ⟨t107, A60, H⟩ := H
  replace H : ((impl_within.f a1 0 (t107.length : Int)).bind fun t110 => (some t110)) = some r := H
  have A6 := Aside0.mk A60
  clear A60
  replace H := Option.bind_eq_some_iff.mp H
  obtain ⟨t110, A70, H⟩ := H
  replace H : (some t110) = some r := H
  have A7 := Aside0.mk A70
  clear A70
  obtain rfl := Option.some.inj H
  go_enter Tryd.func35, Tryd.ntmps35
  go_wp2_with (first | ((with_reducible refine gate_callee (f := 31) rfl ?_); refine gcall (some 6) Tryd.func31 #[.string a0] rfl ?_; (with_reducible refine (impl_isEmptied.calls k a0 true _ ?side1 A3.out).mono ?_); (case side1 => (refine GoodW.below HG.out ?_); exact bel HB); rintro e w8 ⟨rfl, hb⟩; refine ⟨_, rfl, ?_⟩; have n0_ := Aside0.mk (below_step (bel HB) hb); clear HB; have HB := n0_; clear n0_; (try clear hb); (try clear hb2); (try clear hk); (try clear hi)) | (go_at_call 24; (with_reducible refine (impl_read.calls a0 t102 t103 t104 _ ?side1 A5.out).mono ?_); (case side1 => (refine GoodW.below HG.out ?_); exact bel HB); rintro e w9 ⟨v105, rfl, ho0, hb⟩; have n0_ := Aside0.mk (Kd.V_lower (Kd.V_mono (ok' := fun k_ => True) ho0 (fun k_ hk_ => trivial)) (below_size (bel HB))); have n1_ := Aside0.mk (below_step (bel HB) hb); clear HB; have HO106 := n0_; have HB := n1_; clear n0_ n1_; (try clear hb); (try clear hb2); (try clear hk); (try clear hi); (try clear ho0); obtain ⟨Ao10, co10, eo10⟩ := Kd.V_slice HO106.out; subst eo10) | (go_at_call 55; (with_reducible refine (impl_tray_indices_isOpen.calls k t102 t103 _ _ t104 () t107 _ ?side1 ?side2 A6.out).mono ?_); (case side1 => repeat (first | exact (Kd.V_reads' HO106.out).2.2 | (with_reducible refine Kd.C_alloc ?_ _) | (with_reducible refine Kd.C_drewN ?_ _) | (with_reducible refine Kd.C_drew ?_))); (case side2 => exact (Kd.V_reads' HO106.out).2.1); rintro e w11 ⟨v108, rfl, ho0, hb⟩; have n0_ := Aside0.mk (Kd.V_elder' (by (with_reducible repeat (first | apply Kd.V_alloc | apply Kd.V_drewN | apply Kd.V_drew)); (first | exact HO106.out | exact R_any HO106.out)) (Kd.R_base ho0) hb); have n1_ := Aside0.mk (Kd.R_lower ho0 (below_size (bel HB))); have n2_ := Aside0.mk (below_step (bel HB) hb); clear HO106; clear HB; have HO106 := n0_; have HO109 := n1_; have HB := n2_; clear n0_ n1_ n2_; (try clear hb); (try clear hb2); (try clear hk); (try clear hi); (try clear ho0); obtain ⟨Ao12, co12, eo12⟩ := Kd.R_slice HO109.out; subst eo12) | (go_at_call 54; (with_reducible refine (impl_within.calls a1 0 (t107.length : Int) t110 _ A7.out).mono ?_); rintro e w' ⟨rfl, ⟨nd, rfl⟩⟩))
  go_ret
  exact ⟨by first | rfl | (simp [errW_none, errW_some] <;> rfl) | (simp [*, errW_none, errW_some] <;> rfl), bel HB⟩
 ·replace c4 := Bool.eq_false_iff.mpr c4
  subst c4
  have H1 : (some false) = some r := by rw [if_neg (show ¬ (false = true) by decide)] at H; exact H
  clear H
  have H := H1
  clear H1
  obtain rfl := Option.some.inj H
  go_enter Tryd.func35, Tryd.ntmps35
  go_wp2_with (first | ((with_reducible refine gate_callee (f := 31) rfl ?_); refine gcall (some 6) Tryd.func31 #[.string a0] rfl ?_; (with_reducible refine (impl_isEmptied.calls k a0 false _ ?side1 A3.out).mono ?_); (case side1 => (refine GoodW.below HG.out ?_); exact bel HB); rintro e w13 ⟨rfl, hb⟩; refine ⟨_, rfl, ?_⟩; have n0_ := Aside0.mk (below_step (bel HB) hb); clear HB; have HB := n0_; clear n0_; (try clear hb); (try clear hb2); (try clear hk); (try clear hi)))
  go_ret
  exact ⟨by first | rfl | (simp [errW_none, errW_some] <;> rfl) | (simp [*, errW_none, errW_some] <;> rfl), bel HB⟩
end Go.Proofs.YtcpeldgnabfdmaaDoor.Q
end
section
namespace Go.Proofs.YtcpeldgnabfdmaaDoor.Q
open Go.RowKit Go.Proofs.YtcpeldgnabfdmaaDoorW.PrintWords Go.Proofs.YtcpeldgnabfdmaaDoorW.PrintLast Go.Proofs.YtcpeldgnabfdmaaDoorW.PrintMore
attribute [local go_sem] max2_int min2_int max_two min_two max_three min_three max_four min_four
set_option linter.unusedVariables false
set_option linter.unusedSimpArgs false
def spec_CountStillWith.f (k : Nat) (a0 : ByteArray) (a1 : ByteArray) (a2 : Int) : Option (Int × Bool) := (spec_cnDir.f k a0 a1 a2).bind fun bt101 => (if bt101.2.2.2.2 = true then ((spec_cnStillWith.f k bt101.1 bt101.2.1 bt101.2.2.1 bt101.2.2.2.1 a2).bind fun t109 => (some (t109, true))) else (some (0, false)))
mutual
def impl_CountStillWith.j0 : Nat → ByteArray → ByteArray → Int → Bool → Option (Int × Bool)
 | 0, _, _, _, _ => none
 | k + 1, x0, x1, x2, x23 => if x23 = true then (some (0, false)) else ((impl_read.f x0).bind fun bt106 => (if 0 < (x1.size : Int) then ((impl_tray_stretches.f k bt106.1 bt106.2.1 bt106.2.2 (bt x1 0)).bind fun t111 => (impl_CountStillWith.l0 k x2 (([1] : List Int)) t111 (t111.length : Int) 0)) else (none)))
def impl_CountStillWith.l0 : Nat → Int → List Int → List (List Int) → Int → Int → Option (Int × Bool)
 | 0, _, _, _, _, _ => none
 | k + 1, x2, x8, x29, x30, x31 => if x31 < x30 then (if 0 ≤ x31 then (if x31 < (x29.length : Int) then (if 0 ≤ (wrap64 ((x8.length : Int) + ((rd_Lii x29 x31).length : Int))) then (if (wrap64 ((x8.length : Int) + ((rd_Lii x29 x31).length : Int)) : Int).toNat ≤ 35184372088832 then (impl_CountStillWith.l1 k x2 (rd_Lii x29 x31) (List.replicate (wrap64 ((x8.length : Int) + ((rd_Lii x29 x31).length : Int)) : Int).toNat 0) x29 x30 x31 x8 (x8.length : Int) 0) else (none)) else (none)) else (none)) else (none)) else (if 0 ≤ x2 then (if x2 < (x8.length : Int) then (some (rd x8 x2, true)) else (none)) else (none))
def impl_CountStillWith.l1 : Nat → Int → List Int → List Int → List (List Int) → Int → Int → List Int → Int → Int → Option (Int × Bool)
 | 0, _, _, _, _, _, _, _, _, _ => none
 | k + 1, x2, x10, x11, x29, x30, x31, x41, x42, x43 => if x43 < x42 then (if 0 ≤ x43 then (if x43 < (x41.length : Int) then (impl_CountStillWith.l2 k x2 x10 x11 x43 (rd x41 x43) x29 x30 x31 x41 x42 x43 (wrap64 ((x10.length : Int) + 1)) 0) else (none)) else (none)) else (impl_CountStillWith.l0 k x2 x11 x29 x30 (wrap64 (x31 + 1)))
def impl_CountStillWith.l2 : Nat → Int → List Int → List Int → Int → Int → List (List Int) → Int → Int → List Int → Int → Int → Int → Int → Option (Int × Bool)
 | 0, _, _, _, _, _, _, _, _, _, _, _, _, _ => none
 | k + 1, x2, x10, x11, x12, x13, x29, x30, x31, x41, x42, x43, x50, x51 => if x51 < x50 then (if 0 ≤ (wrap64 (x12 + x51)) then (if (wrap64 (x12 + x51)) < (x11.length : Int) then (impl_CountStillWith.l2 k x2 x10 (x11.set ((wrap64 (x12 + x51)) : Int).toNat (wrap64 ((rd x11 (wrap64 (x12 + x51))) + x13))) x12 x13 x29 x30 x31 x41 x42 x43 x50 (wrap64 (x51 + 1))) else (none)) else (none)) else (impl_CountStillWith.l1 k x2 x10 x11 x29 x30 x31 x41 x42 (wrap64 (x43 + 1)))
end
def impl_CountStillWith.f (k : Nat) (a0 : ByteArray) (a1 : ByteArray) (a2 : Int) : Option (Int × Bool) := (impl_isStocked.f k a0 a2).bind fun t101 => (if t101 = true then ((impl_isDir.f a1).bind fun t102 => (impl_CountStillWith.j0 k a0 a1 a2 (!t102))) else (impl_CountStillWith.j0 k a0 a1 a2 true))
set_option maxHeartbeats 8000000 in
set_option maxRecDepth 100000 in
theorem impl_CountStillWith.calls (k : Nat) (a0 : ByteArray) (a1 : ByteArray) (a2 : Int) (r1 : Int) (r2 : Bool) (w : World) (hG : GoodW w) (h : impl_CountStillWith.f k a0 a1 a2 = some (r1, r2)) :
  Calls Tryd.prog 16 #[.string a0, .string a1, .int .i64 a2] w fun e w' => e = .returned (.tuple #[.int .i64 r1, .bool r2]) ∧ Below w.heap.size w w' := by
 have HG := Aside0.mk hG
 clear hG
 have HB := Aside0.mk (Below.refl w.heap.size w)
 have H : ((impl_isStocked.f k a0 a2).bind fun t101 => (if t101 = true then ((impl_isDir.f a1).bind fun t102 => (impl_CountStillWith.j0 k a0 a1 a2 (!t102))) else (impl_CountStillWith.j0 k a0 a1 a2 true))) = some (r1, r2) := h
 clear h
 have HC4 := Aside0.mk H
 clear H
 go_enter Tryd.func16, Tryd.ntmps16
 go_upto_region 1 with (fail)
 go_cut [23] (fun v23 wc => ∃ (kq : Nat) (x23_3 : Bool), v23 = .bool x23_3 ∧ Aside0 (impl_CountStillWith.j0 kq a0 a1 a2 x23_3 = some (r1, r2)) ∧ Aside0 (kq ≤ k) ∧ Aside0 (Below w.heap.size w wc))
 case first =>
  have H := HC4.out
  clear HC4
  replace H := Option.bind_eq_some_iff.mp H
  obtain ⟨t101, A50, H⟩ := H
  replace H : (if t101 = true then ((impl_isDir.f a1).bind fun t102 => (impl_CountStillWith.j0 k a0 a1 a2 (!t102))) else (impl_CountStillWith.j0 k a0 a1 a2 true)) = some (r1, r2) := H
  have A5 := Aside0.mk A50
  clear A50
  by_cases c6 : t101 = true
  ·subst c6
   have H1 : ((impl_isDir.f a1).bind fun t102 => (impl_CountStillWith.j0 k a0 a1 a2 (!t102))) = some (r1, r2) := by rw [if_pos rfl] at H; exact H
   clear H
   have H := H1
   clear H1
   replace H := Option.bind_eq_some_iff.mp H
   obtain ⟨t102, A70, H⟩ := H
   replace H : (impl_CountStillWith.j0 k a0 a1 a2 (!t102)) = some (r1, r2) := H
   have A7 := Aside0.mk A70
   clear A70
   have H' := Aside0.mk H
   clear H
   go_wp2_with (first | ((with_reducible refine gate_callee (f := 35) rfl ?_); refine gcall (some 17) Tryd.func35 #[.string a0, .int .i64 a2] rfl ?_; (with_reducible refine (impl_isStocked.calls k a0 a2 true _ ?side1 A5.out).mono ?_); (case side1 => (refine GoodW.below HG.out ?_); exact bel HB); rintro e w8 ⟨rfl, hb⟩; refine ⟨_, rfl, ?_⟩; have n0_ := Aside0.mk (below_step (bel HB) hb); clear HB; have HB := n0_; clear n0_; (try clear hb); (try clear hb2); (try clear hk); (try clear hi)) | (go_at_call 32; (with_reducible refine (impl_isDir.calls a1 t102 _ A7.out).mono ?_); rintro e w' ⟨rfl, ⟨nd, rfl⟩⟩))
   go_meet
   case rel => exact ⟨_, (!t102), (by first | rfl | (simp; done) | (simp [*]; done)), H', ⟨by first | omega | exact Nat.le_refl _⟩, ⟨bel HB⟩⟩
  ·replace c6 := Bool.eq_false_iff.mpr c6
   subst c6
   have H1 : (impl_CountStillWith.j0 k a0 a1 a2 true) = some (r1, r2) := by rw [if_neg (show ¬ (false = true) by decide)] at H; exact H
   clear H
   have H := H1
   clear H1
   have H' := Aside0.mk H
   clear H
   go_wp2_with (first | ((with_reducible refine gate_callee (f := 35) rfl ?_); refine gcall (some 17) Tryd.func35 #[.string a0, .int .i64 a2] rfl ?_; (with_reducible refine (impl_isStocked.calls k a0 a2 false _ ?side1 A5.out).mono ?_); (case side1 => (refine GoodW.below HG.out ?_); exact bel HB); rintro e w9 ⟨rfl, hb⟩; refine ⟨_, rfl, ?_⟩; have n0_ := Aside0.mk (below_step (bel HB) hb); clear HB; have HB := n0_; clear n0_; (try clear hb); (try clear hb2); (try clear hk); (try clear hi)))
   go_meet
   case rel => exact ⟨_, (true), (by first | rfl | (simp; done) | (simp [*]; done)), H', ⟨by first | omega | exact Nat.le_refl _⟩, ⟨bel HB⟩⟩
 case rest =>
  clear HC4
  try clear c1
  try clear p2
  try clear c3
  try clear c6
  obtain ⟨kq, x23_3, rfl, HA, HJ3, HB⟩ := hcut
  cases kq with
  | zero => exact absurd HA.out (by simp [impl_CountStillWith.j0])
  | succ kj3 =>
   have H := HA.out
   clear HA
   simp only [impl_CountStillWith.j0] at H
   by_cases c10 : x23_3 = true
   ·subst c10
    have H1 : (some (0, false)) = some (r1, r2) := by rw [if_pos rfl] at H; exact H
    clear H
    have H := H1
    clear H1
    simp only [Option.some.injEq, Prod.mk.injEq] at H
    obtain ⟨rfl, rfl⟩ := H
    go_wp2
    go_ret2
    exact ⟨by first | rfl | (simp [errW_none, errW_some] <;> rfl) | (simp [*, errW_none, errW_some] <;> rfl), bel HB⟩
   ·replace c10 := Bool.eq_false_iff.mpr c10
    subst c10
    have H1 : ((impl_read.f a0).bind fun bt106 => (if 0 < (a1.size : Int) then ((impl_tray_stretches.f kj3 bt106.1 bt106.2.1 bt106.2.2 (bt a1 0)).bind fun t111 => (impl_CountStillWith.l0 kj3 a2 (([1] : List Int)) t111 (t111.length : Int) 0)) else (none))) = some (r1, r2) := by rw [if_neg (show ¬ (false = true) by decide)] at H; exact H
    clear H
    have H := H1
    clear H1
    obtain ⟨y103, hy103⟩ : ∃ y_ : List Int, y_ = (([1] : List Int)) := ⟨_, rfl⟩
    replace H : ((impl_read.f a0).bind fun bt106 => (if 0 < (a1.size : Int) then ((impl_tray_stretches.f kj3 bt106.1 bt106.2.1 bt106.2.2 (bt a1 0)).bind fun t111 => (impl_CountStillWith.l0 kj3 a2 y103 t111 (t111.length : Int) 0)) else (none))) = some (r1, r2) := rH hy103 H
    have Ny103 := Aside0.mk hy103
    clear hy103
    replace H := Option.bind_eq_some_iff.mp H
    obtain ⟨⟨t106, t107, t108⟩, A110, H⟩ := H
    replace H : (if 0 < (a1.size : Int) then ((impl_tray_stretches.f kj3 t106 t107 t108 (bt a1 0)).bind fun t111 => (impl_CountStillWith.l0 kj3 a2 y103 t111 (t111.length : Int) 0)) else (none)) = some (r1, r2) := H
    have A11 := Aside0.mk A110
    clear A110
    by_cases c12 : 0 < (a1.size : Int)
    ·rw [if_pos c12] at H
     have c12b0 : decide (0 < (a1.size : Int)) = true := decide_eq_true c12
     have c12b1 : decide (0 < a1.size) = true := decide_eq_true (by omega)
     clear c12
     replace H := Option.bind_eq_some_iff.mp H
     obtain ⟨t111, A140, H⟩ := H
     replace H : (impl_CountStillWith.l0 kj3 a2 y103 t111 (t111.length : Int) 0) = some (r1, r2) := H
     have A14 := Aside0.mk A140
     clear A140
     have H' := Aside0.mk H
     clear H
     try go_wp2_with (first | ((with_reducible refine gate_dst (N := 24) rfl ?_); refine R_litG (Kd.int .i64) _ 3 ?hg (N := 24) ?hd (xs := ([1] : List Int)) (inner := [.int .i64 1]) (ok := fun _ => True) (okp := fun _ => True) ?hr ?hp (fun _ hk => hk) trivial (Below.refl _ _) (Nat.le_refl _) (by simp) ?_; (case hd => rfl); (case hg => first | rfl | decide | (simp [Region.wanted, yielded]; done) | (go_simp; done)); (case hr => first | (go_simp; done) | (go_simp; rfl)); (case hp => exact (Reps.one (show Kd.M (Kd.int .i64) _ _ _ 1 [.int .i64 1] from rfl) (Reps.none _ _))); intro v104 w15 ho16 hb hg_ hnew_; clear hg_ hnew_; (first | rw [← Ny103.out] at ho16 | (simp only [Int.reduceToNat] at ho16; rw [← Ny103.out] at ho16)); have n0_ := Aside0.mk (Kd.R_lower ho16 (below_size (bel HB))); have n1_ := Aside0.mk (below_step (bel HB) hb); clear HB; have HO105 := n0_; have HB := n1_; clear n0_ n1_; clear hb ho16))
     have n0_ := Aside0.mk (Kd.R_drew HO105.out)
     have n1_ := Aside0.mk (below_drew1 HB.out)
     clear HO105
     clear HB
     have HO105 := n0_
     have HB := n1_
     clear n0_ n1_
     have p13 : 0 ≤ (0 : Int) := (by omega)
     have q13 : 0 < a1.size := (by have : (0 : Int) < (a1.size : Int) := of_decide_eq_true (by first | (with_reducible assumption) | assumption); omega)
     have hx13 : ∀ h : 0 < a1.size, ((a1[0]'h).toNat : Int) = bt a1 0 := bt_at a1 0
     clear p13
     have qi13 : (0 < (a1.size : Int)) = True := eq_true (of_decide_eq_true (by first | (with_reducible assumption) | assumption))
     replace q13 := eq_true q13
     refine start_ (n := 7) (S := fun w' => True) (ds := []) #[false, false, false, false, false, false, false] (by kernel_rfl) rfl rfl trivial (fun hHeld => ?_)
     generalize w15.drew = w17 at HO105 HB hHeld ⊢
     refine pure_ (i := 0) (N := some 25) (v := ?_) (a' := ?_) #[true, false, false, false, false, false, false] rfl rfl (by kernel_rfl) (fun _ _ _ h => h) (Or.inl ⟨by rfl, ?_⟩) ?_ ?_
     rotate_left
     ·intro w'
      go_simp
      with_reducible rfl
     rotate_left
     ·simp only [Act.put, List.setIfInBounds_toArray, List.set_cons_zero, List.set_cons_succ, i64_w, i32_w]
      rfl
     refine pure_ (i := 2) (N := some 27) (v := ?_) (a' := ?_) #[true, false, true, false, false, false, false] rfl rfl (by kernel_rfl) (fun _ _ _ h => h) (Or.inl ⟨by rfl, ?_⟩) ?_ ?_
     rotate_left
     ·intro w'
      go_simp
      with_reducible rfl
     rotate_left
     ·simp only [Act.put, List.setIfInBounds_toArray, List.set_cons_zero, List.set_cons_succ, i64_w, i32_w]
      rfl
     refine pure_ (i := 6) (N := some 31) (v := ?_) (a' := ?_) #[true, false, true, false, false, false, true] rfl rfl (by kernel_rfl) (fun _ _ _ h => h) (Or.inl ⟨by rfl, ?_⟩) ?_ ?_
     rotate_left
     ·intro w'
      go_simp
      with_reducible rfl
     rotate_left
     ·simp only [Act.put, List.setIfInBounds_toArray, List.set_cons_zero, List.set_cons_succ, i64_w, i32_w]
      rfl
     refine take_ (i := 3) (N := some 28) (v := ?_) (a' := ?_) #[true, false, true, true, false, false, true] rfl rfl (by kernel_rfl) (fun _ _ _ h => h) (Or.inl ⟨by rfl, ?_⟩) hHeld ?_ ?_
     rotate_left
     ·intro w' _
      go_simp
      with_reducible rfl
     rotate_left
     ·simp only [Act.put, List.setIfInBounds_toArray, List.set_cons_zero, List.set_cons_succ, i64_w, i32_w]
      rfl
     refine one_ (i := 1) (N := some 26) #[true, true, true, true, false, false, true] rfl rfl (by kernel_rfl) (by decide) (fun K hK => ?_)
     refine goes_ Tryd.func24 (by kernel_rfl) rfl #[.string a0] (by rfl) rfl rfl (by (try simp only [List.map_toArray, List.map_cons, List.map_nil]); first | done | rfl | (simp only [List.length_drop, List.length_take]; rfl)) ?_
     with_reducible refine (impl_read.calls a0 t106 t107 t108 _ ?side1 A11.out).mono ?_
     (case side1 => (refine GoodW.below HG.out ?_); exact bel HB)
     rintro e w18 ⟨v109, rfl, ho0, hb⟩
     refine ⟨_, rfl, ?_⟩
     have n0_ := Aside0.mk (Kd.R_below (rch HO105) hb)
     have n1_ := Aside0.mk (Kd.V_lower (Kd.V_mono (ok' := fun k_ => some k_ ≠ (v104 : Value).ownBlock) ho0 (fun k_ hk_ => (Kd.fresh' (Kd.R_lt (rch HO105)) k_ hk_))) (below_size (bel HB)))
     have n2_ := Aside0.mk (below_step (bel HB) hb)
     clear HO105
     clear HB
     have HO105 := n0_
     have HO110 := n1_
     have HB := n2_
     clear n0_ n1_ n2_
     (try clear hb)
     (try clear hb2)
     (try clear hk)
     (try clear hi)
     (try clear ho0)
     obtain ⟨Ao19, co19, eo19⟩ := Kd.V_slice HO110.out
     (first | subst eo19 | (injection eo19 with f1_ f2_ f3_; have f4_ := f1_.symm; have f5_ := f3_.symm; clear f1_ f2_ f3_; subst f4_; subst f5_))
     refine hK.out _ _ trivial (fun hHeld => ?_)
     clear hK K
     refine norm_ (a' := ?_) ?_ ?_
     rotate_left
     ·show Act.put _ (some 26) _ = _
      simp only [Act.put, List.setIfInBounds_toArray, List.set_cons_zero, List.set_cons_succ, i64_w, i32_w]
      rfl
     refine one_ (i := 4) (N := some 29) #[true, true, true, true, true, false, true] rfl rfl (by kernel_rfl) (by decide) (fun K hK => ?_)
     refine goes_ Tryd.func25 (by kernel_rfl) rfl #[.agg #[.int .i64 t106, .int .i64 t107, .slice Ao19 t108.length co19], .int .u8 (bt a1 0)] (by rfl) rfl rfl (by (try simp only [List.map_toArray, List.map_cons, List.map_nil]); first | done | rfl | (simp only [List.length_drop, List.length_take]; rfl)) ?_
     with_reducible refine (impl_tray_stretches.calls kj3 t106 t107 _ _ t108 (bt a1 0) t111 _ ?side1 ?side2 A14.out).mono ?_
     (case side1 => repeat (first | exact (Kd.V_reads' HO110.out).2.2 | (with_reducible refine Kd.C_alloc ?_ _) | (with_reducible refine Kd.C_drewN ?_ _) | (with_reducible refine Kd.C_drew ?_)))
     (case side2 => exact (Kd.V_reads' HO110.out).2.1)
     rintro e w20 ⟨v112, rfl, ho0, hb⟩
     refine ⟨_, rfl, ?_⟩
     have n0_ := Aside0.mk (Kd.R_below (rch HO105) hb)
     have n1_ := Aside0.mk (Kd.V_elder' (by (with_reducible repeat (first | apply Kd.V_alloc | apply Kd.V_drewN | apply Kd.V_drew)); (first | exact HO110.out | exact R_any HO110.out)) (Kd.S_base ho0) hb)
     have n2_ := Aside0.mk (Kd.S_lower (Kd.S_new' ho0 (Kd.R_lt (rch HO105))) (below_size (bel HB)))
     have n3_ := Aside0.mk (below_step (bel HB) hb)
     clear HO105
     clear HO110
     clear HB
     have HO105 := n0_
     have HO110 := n1_
     have HO113 := n2_
     have HB := n3_
     clear n0_ n1_ n2_ n3_
     (try clear hb)
     (try clear hb2)
     (try clear hk)
     (try clear hi)
     (try clear ho0)
     obtain ⟨Ao21, co21, eo21⟩ := Kd.S_slice HO113.out
     (first | subst eo21 | (injection eo21 with f1_ f2_ f3_; have f4_ := f1_.symm; have f5_ := f3_.symm; clear f1_ f2_ f3_; subst f4_; subst f5_))
     refine hK.out _ _ trivial (fun hHeld => ?_)
     clear hK K
     refine norm_ (a' := ?_) ?_ ?_
     rotate_left
     ·show Act.put _ (some 29) _ = _
      simp only [Act.put, List.setIfInBounds_toArray, List.set_cons_zero, List.set_cons_succ, i64_w, i32_w]
      rfl
     refine pure_ (i := 5) (N := some 30) (v := ?_) (a' := ?_) #[true, true, true, true, true, true, true] rfl rfl (by kernel_rfl) (fun _ _ _ h => h) (Or.inl ⟨by rfl, ?_⟩) ?_ ?_
     rotate_left
     ·intro w'
      go_simp
      with_reducible rfl
     rotate_left
     ·simp only [Act.put, List.setIfInBounds_toArray, List.set_cons_zero, List.set_cons_succ, i64_w, i32_w]
      rfl
     refine done_ (by kernel_rfl) ?_
     try go_wp2
     go_loopg [8, 31] kj3 (fun kq v8 v31 w' => ∃ (x8_2 : List Int) (x31_2 : Int), v31 = .int .i64 x31_2 ∧ Aside0 (impl_CountStillWith.l0 kq a2 x8_2 t111 (t111.length : Int) x31_2 = some (r1, r2)) ∧ Aside0 (kq ≤ kj3) ∧ Aside0 (Kd.R (Kd.int .i64) 3 w' w.heap.size (fun _ => True) v8 x8_2) ∧ Aside0 (Kd.S (Kd.slice 3 (Kd.int .i64)) 46 w' w.heap.size (fun k_ => some k_ ≠ (v8 : Value).ownBlock) (.slice Ao21 t111.length co21) t111) ∧ Aside0 (Below w.heap.size w w'))
     case atStart => exact ⟨(y103), (0), (by first | rfl | (simp; done) | (simp [*]; done)), H', ⟨Nat.le_refl _⟩, ⟨rch HO105⟩, ⟨by (with_reducible repeat (first | apply Kd.S_alloc | apply Kd.S_drewN | apply Kd.S_drew)); exact Kd.S_mono HO113.out (fun _ hk => hk.2)⟩, ⟨bel HB⟩⟩
     case round =>
      clear H'
      try clear c1
      try clear p1
      try clear q1
      try clear hx1
      try clear qi1
      try clear c2
      try clear p2
      try clear c3
      try clear c6
      try clear c10
      try clear c12
      try clear c12b0
      try clear c12b0y
      try clear c12b1
      try clear p13
      try clear q13
      try clear hx13
      try clear qi13
      try clear c16
      try clear p13
      try clear p2
      try clear q13
      obtain ⟨x8_2, x31_2, rfl, HA, HK2, HO_8, HO_29, HB⟩ := hrel
      cases gk with
      | zero => exact absurd HA.out (by simp [impl_CountStillWith.l0])
      | succ k2 =>
       have H := HA.out
       clear HA
       simp only [impl_CountStillWith.l0] at H
       by_cases c22 : x31_2 < (t111.length : Int)
       ·rw [if_pos c22] at H
        have c22b0 : decide (x31_2 < (t111.length : Int)) = true := decide_eq_true c22
        clear c22
        by_cases c23 : 0 ≤ x31_2
        ·rw [if_pos c23] at H
         have c23b0 : decide (0 ≤ x31_2) = true := decide_eq_true c23
         clear c23
         by_cases c24 : x31_2 < (t111.length : Int)
         ·rw [if_pos c24] at H
          have c24b0 : decide (x31_2 < (t111.length : Int)) = true := decide_eq_true c24
          clear c24
          obtain ⟨ji25, hji25⟩ : ∃ j_ : Int, (wrap64 ((x8_2.length : Int) + ((rd_Lii t111 x31_2).length : Int))) = j_ := ⟨_, rfl⟩
          replace H : (if 0 ≤ (ji25) then (if (ji25 : Int).toNat ≤ 35184372088832 then (impl_CountStillWith.l1 k2 a2 (rd_Lii t111 x31_2) (List.replicate (ji25 : Int).toNat 0) t111 (t111.length : Int) x31_2 x8_2 (x8_2.length : Int) 0) else (none)) else (none)) = some (r1, r2) := by first | (rw [hji25] at H; exact H) | (simp only [hji25] at H ⊢; exact H)
          have hji25w : (IntKind.i64.wrap ((x8_2.length : Int) + ((rd_Lii t111 x31_2).length : Int))) = ji25 := (i64_w _).trans hji25
          by_cases c26 : 0 ≤ (ji25)
          ·rw [if_pos c26] at H
           have c26b0 := eq_true c26
           have c26b1 : decide (0 ≤ (ji25)) = true := decide_eq_true c26
           clear c26
           by_cases c27 : (ji25 : Int).toNat ≤ 35184372088832
           ·rw [if_pos c27] at H
            have c27b0 := eq_true c27
            have c27b1 : decide ((ji25 : Int).toNat ≤ 35184372088832) = true := decide_eq_true c27
            clear c27
            obtain ⟨y116, hy116⟩ : ∃ y_ : List Int, y_ = (List.replicate (ji25 : Int).toNat 0) := ⟨_, rfl⟩
            replace H : (impl_CountStillWith.l1 k2 a2 (rd_Lii t111 x31_2) y116 t111 (t111.length : Int) x31_2 x8_2 (x8_2.length : Int) 0) = some (r1, r2) := rH hy116 H
            have Ny116 := Aside0.mk hy116
            clear hy116
            have H' := Aside0.mk H
            clear H
            have p115 : 0 ≤ (x31_2 : Int) := of_decide_eq_true (by first | (with_reducible assumption) | assumption)
            have q115 : x31_2 < (t111.length : Int) := of_decide_eq_true (by first | (with_reducible assumption) | assumption)
            obtain ⟨ad115, A115_0, c115_0, e115, hx115_0, hl115_0, hi115_0⟩ := at_Lii (Kd.S_reads' HO_29.out).2.2 x31_2 p115 q115
            cases e115
            obtain ⟨ce115, hce115, hMe115, hcc115⟩ := Kd.S_get HO_29.out [] x31_2 p115 (by first | exact q115 | exact of_decide_eq_true (by first | (with_reducible assumption) | assumption) | (have e_ := (Kd.S_reads' HO_29.out).1; omega))
            obtain ⟨ve115_0, rfl, ge115_0⟩ := hMe115
            have hv115_0 := hcc115 0 _ rfl
            rw [Nat.add_zero, show ((Kd.slice 3 (Kd.int .i64))).sz = 1 from rfl, Nat.mul_one] at hv115_0
            replace hv115_0 := Option.some.inj (hv115_0.symm.trans hx115_0)
            rw [hv115_0] at ge115_0
            have HL115_0 := Aside0.mk (show Kd.R (Kd.int .i64) 3 _ _ _ _ (rd_Lii t111 x31_2) from ge115_0)
            clear hv115_0 ge115_0
            clear hcc115 hce115
            have HR115_0 := Aside0.mk hi115_0
            have HC115_0 := Aside0.mk hl115_0
            clear hi115_0 hl115_0
            replace p115 := eq_true p115
            replace q115 := eq_true q115
            obtain ⟨Ao28, co28, eo28⟩ := Kd.R_slice HO_8.out
            subst eo28
            go_wp2_with (first | ((with_reducible refine gate_dst (N := 40) rfl ?_); refine Kd.R_make (Kd.int .i64) _ 3 rfl (N := 40) rfl 46 _ _ rfl ji25 rfl rfl Tryd.underlying46 (.int .i64 0) 8 info3 rfl (by decide) (by omega) 0 (ok := fun _ => True) (okp := fun _ => True) rfl (fun _ hk => hk) trivial (of_decide_eq_true (by first | (with_reducible assumption) | assumption)) (Nat.le_trans (Nat.mul_le_mul_right _ (of_decide_eq_true (by first | (with_reducible assumption) | assumption) : ji25.toNat ≤ 35184372088832)) (by omega)) (Below.refl _ _) (Nat.le_refl _) ?_; intro v117 w29 ho30 hb hg_ hnew_; clear hg_ hnew_; (first | rw [← Ny116.out] at ho30 | (simp only [Int.reduceToNat] at ho30; rw [← Ny116.out] at ho30)); have n0_ := Aside0.mk (Kd.R_elder' (rch HO_8) (Kd.R_base ho30) hb); have n1_ := Aside0.mk (Kd.S_elder' (by (with_reducible repeat (first | apply Kd.S_alloc | apply Kd.S_drewN | apply Kd.S_drew)); (first | exact HO_29.out | exact R_any HO_29.out)) (Kd.R_base ho30) hb); have n2_ := Aside0.mk (Kd.R_elder' (by (with_reducible repeat (first | apply Kd.R_alloc | apply Kd.R_drewN | apply Kd.R_drew)); exact HL115_0.out) (Kd.R_base ho30) hb); have n3_ := Aside0.mk (Kd.R_lower (Kd.R_new' (Kd.R_new' ho30 (Kd.R_lt (rch HO_8))) (Kd.R_lt (by (with_reducible repeat (first | apply Kd.R_alloc | apply Kd.R_drewN | apply Kd.R_drew)); exact HL115_0.out))) (below_size (bel HB))); have n4_ := Aside0.mk (Kd.C_below (by repeat (first | (with_reducible exact HR115_0.out) | (with_reducible refine Kd.C_alloc ?_ _) | (with_reducible refine Kd.C_drewN ?_ _) | (with_reducible refine Kd.C_drew ?_) | exact HR115_0.out)) hb); have n5_ := Aside0.mk (below_step (bel HB) hb); clear HO_8; clear HO_29; clear HL115_0; clear HR115_0; clear HB; have HO_8 := n0_; have HO_29 := n1_; have HL115_0 := n2_; have HO118 := n3_; have HR115_0 := n4_; have HB := n5_; clear n0_ n1_ n2_ n3_ n4_ n5_; clear hb ho30))
            go_loopg [43] k2 (fun kq v43 w' => ∃ (x11_3 : List Int) (x43_3 : Int), v43 = .int .i64 x43_3 ∧ Aside0 (impl_CountStillWith.l1 kq a2 (rd_Lii t111 x31_2) x11_3 t111 (t111.length : Int) x31_2 x8_2 (x8_2.length : Int) x43_3 = some (r1, r2)) ∧ Aside0 (kq ≤ k2) ∧ Aside0 (Kd.R (Kd.int .i64) 3 w' w.heap.size (fun k_ => some k_ ≠ ((.slice Ao28 x8_2.length co28) : Value).ownBlock) v117 x11_3) ∧ Aside0 (Kd.S (Kd.slice 3 (Kd.int .i64)) 46 w' w.heap.size (fun k_ => some k_ ≠ (v117 : Value).ownBlock ∧ some k_ ≠ ((.slice Ao28 x8_2.length co28) : Value).ownBlock) (.slice (some ad115) t111.length co21) t111) ∧ Aside0 (Kd.R (Kd.int .i64) 3 w' w.heap.size (fun k_ => some k_ ≠ (v117 : Value).ownBlock) (.slice Ao28 x8_2.length co28) x8_2) ∧ Aside0 (Kd.R (Kd.int .i64) 3 w' w.heap.size (fun k_ => some k_ ≠ (v117 : Value).ownBlock ∧ some k_ ≠ ((.slice Ao28 x8_2.length co28) : Value).ownBlock) (.slice A115_0 (rd_Lii t111 x31_2).length c115_0) (rd_Lii t111 x31_2)) ∧ Aside0 (Below w.heap.size w w'))
            case atStart => exact ⟨(y116), (0), (by first | rfl | (simp; done) | (simp [*]; done)), H', ⟨Nat.le_refl _⟩, ⟨by (with_reducible repeat (first | apply Kd.R_alloc | apply Kd.R_drewN | apply Kd.R_drew)); exact Kd.R_mono HO118.out (fun _ hk => hk.1.2)⟩, ⟨by (with_reducible repeat (first | apply Kd.S_alloc | apply Kd.S_drewN | apply Kd.S_drew)); exact Kd.S_mono HO_29.out (fun _ hk => ⟨hk.2, hk.1⟩)⟩, ⟨by (with_reducible repeat (first | apply Kd.R_alloc | apply Kd.R_drewN | apply Kd.R_drew)); (first | exact Kd.R_mono HO_8.out (fun _ hk => hk.2) | exact HO_8.out | exact R_any HO_8.out)⟩, ⟨by (with_reducible repeat (first | apply Kd.R_alloc | apply Kd.R_drewN | apply Kd.R_drew)); exact Kd.R_mono HL115_0.out (fun _ hk => ⟨hk.2, hk.1.1⟩)⟩, ⟨bel HB⟩⟩
            case round =>
             clear H'
             try clear c1
             try clear p1
             try clear q1
             try clear hx1
             try clear qi1
             try clear c2
             try clear p2
             try clear c3
             try clear c6
             try clear p6
             try clear c10
             try clear c11
             try clear p11
             try clear q11
             try clear hx11
             try clear c12
             try clear c12b0
             try clear c12b0y
             try clear c12b1
             try clear p13
             try clear q13
             try clear hx13
             try clear qi13
             try clear c16
             try clear c22
             try clear c22b0
             try clear c22b0y
             try clear c23
             try clear c23b0
             try clear c23b0y
             try clear c24
             try clear c24b0
             try clear c24b0y
             try clear c25
             try clear c26
             try clear c26b0
             try clear c26b0y
             try clear c26b1
             try clear c27
             try clear c27b0
             try clear c27b0y
             try clear c27b1
             try clear hx115_0
             try clear p1
             try clear p115
             try clear p13
             try clear p2
             try clear q1
             try clear q115
             try clear q13
             obtain ⟨x11_3, x43_3, rfl, HA, HK3, HO_11, HO_29, HO_41, HL115_0, HB⟩ := hrel
             have HR115_0 := Aside0.mk (Kd.R_reads' HL115_0.out).2.2
             cases gk with
             | zero => exact absurd HA.out (by simp [impl_CountStillWith.l1])
             | succ k3 =>
              have H := HA.out
              clear HA
              simp only [impl_CountStillWith.l1] at H
              by_cases c31 : x43_3 < (x8_2.length : Int)
              ·rw [if_pos c31] at H
               have c31b0 : decide (x43_3 < (x8_2.length : Int)) = true := decide_eq_true c31
               clear c31
               by_cases c32 : 0 ≤ x43_3
               ·rw [if_pos c32] at H
                have c32b0 : decide (0 ≤ x43_3) = true := decide_eq_true c32
                clear c32
                by_cases c33 : x43_3 < (x8_2.length : Int)
                ·rw [if_pos c33] at H
                 have c33b0 : decide (x43_3 < (x8_2.length : Int)) = true := decide_eq_true c33
                 clear c33
                 have H' := Aside0.mk H
                 clear H
                 have p119 : 0 ≤ (x43_3 : Int) := of_decide_eq_true (by first | (with_reducible assumption) | assumption)
                 have q119 : x43_3 < (x8_2.length : Int) := of_decide_eq_true (by first | (with_reducible assumption) | assumption)
                 obtain ⟨ad119, e119, hx119_0⟩ := Kd.at_int (Kd.R_reads' HO_41.out).2.2 x43_3 p119 q119
                 cases e119
                 replace p119 := eq_true p119
                 replace q119 := eq_true q119
                 go_wp2
                 go_loopg [51] k3 (fun kq v51 w' => ∃ (x11_4 : List Int) (x51_4 : Int), v51 = .int .i64 x51_4 ∧ Aside0 (impl_CountStillWith.l2 kq a2 (rd_Lii t111 x31_2) x11_4 x43_3 (rd x8_2 x43_3) t111 (t111.length : Int) x31_2 x8_2 (x8_2.length : Int) x43_3 (wrap64 (((rd_Lii t111 x31_2).length : Int) + 1)) x51_4 = some (r1, r2)) ∧ Aside0 (kq ≤ k3) ∧ Aside0 (Kd.R (Kd.int .i64) 3 w' w.heap.size (fun k_ => some k_ ≠ ((.slice (some ad119) x8_2.length co28) : Value).ownBlock) v117 x11_4) ∧ Aside0 (Kd.S (Kd.slice 3 (Kd.int .i64)) 46 w' w.heap.size (fun k_ => some k_ ≠ (v117 : Value).ownBlock ∧ some k_ ≠ ((.slice (some ad119) x8_2.length co28) : Value).ownBlock) (.slice (some ad115) t111.length co21) t111) ∧ Aside0 (Kd.R (Kd.int .i64) 3 w' w.heap.size (fun k_ => some k_ ≠ (v117 : Value).ownBlock) (.slice (some ad119) x8_2.length co28) x8_2) ∧ Aside0 (Kd.R (Kd.int .i64) 3 w' w.heap.size (fun k_ => some k_ ≠ (v117 : Value).ownBlock ∧ some k_ ≠ ((.slice (some ad119) x8_2.length co28) : Value).ownBlock) (.slice A115_0 (rd_Lii t111 x31_2).length c115_0) (rd_Lii t111 x31_2)) ∧ Aside0 (Below w.heap.size w w'))
                 case atStart => exact ⟨(x11_3), (0), (by first | rfl | (simp; done) | (simp [*]; done)), H', ⟨Nat.le_refl _⟩, ⟨rch HO_11⟩, ⟨by (with_reducible repeat (first | apply Kd.S_alloc | apply Kd.S_drewN | apply Kd.S_drew)); (first | exact HO_29.out | exact R_any HO_29.out)⟩, ⟨rch HO_41⟩, ⟨by (with_reducible repeat (first | apply Kd.R_alloc | apply Kd.R_drewN | apply Kd.R_drew)); exact HL115_0.out⟩, ⟨bel HB⟩⟩
                 case round =>
                  clear H'
                  try clear c1
                  try clear p1
                  try clear q1
                  try clear hx1
                  try clear qi1
                  try clear c2
                  try clear p2
                  try clear c3
                  try clear c6
                  try clear p6
                  try clear c10
                  try clear c11
                  try clear p11
                  try clear q11
                  try clear hx11
                  try clear c12
                  try clear c12b0
                  try clear c12b0y
                  try clear c12b1
                  try clear p13
                  try clear q13
                  try clear hx13
                  try clear qi13
                  try clear c16
                  try clear c22
                  try clear c22b0
                  try clear c22b0y
                  try clear c23
                  try clear c23b0
                  try clear c23b0y
                  try clear c24
                  try clear c24b0
                  try clear c24b0y
                  try clear c25
                  try clear c26
                  try clear c26b0
                  try clear c26b0y
                  try clear c26b1
                  try clear c27
                  try clear c27b0
                  try clear c27b0y
                  try clear c27b1
                  try clear c31
                  try clear c31b0
                  try clear c31b0y
                  try clear c32
                  try clear c32b0
                  try clear c32b0y
                  try clear c33
                  try clear c33b0
                  try clear c33b0y
                  try clear hx115_0
                  try clear hx119_0
                  try clear p1
                  try clear p11
                  try clear p115
                  try clear p119
                  try clear p13
                  try clear p2
                  try clear p6
                  try clear q1
                  try clear q11
                  try clear q115
                  try clear q119
                  try clear q13
                  obtain ⟨x11_4, x51_4, rfl, HA, HK4, HO_11, HO_29, HO_41, HL115_0, HB⟩ := hrel
                  have HR115_0 := Aside0.mk (Kd.R_reads' HL115_0.out).2.2
                  cases gk with
                  | zero => exact absurd HA.out (by simp [impl_CountStillWith.l2])
                  | succ k4 =>
                   have H := HA.out
                   clear HA
                   simp only [impl_CountStillWith.l2] at H
                   by_cases c34 : x51_4 < (wrap64 (((rd_Lii t111 x31_2).length : Int) + 1))
                   ·rw [if_pos c34] at H
                    have c34b0 : decide (x51_4 < (wrap64 (((rd_Lii t111 x31_2).length : Int) + 1))) = true := decide_eq_true c34
                    clear c34
                    obtain ⟨ji35, hji35⟩ : ∃ j_ : Int, (wrap64 (x43_3 + x51_4)) = j_ := ⟨_, rfl⟩
                    replace H : (if 0 ≤ (ji35) then (if (ji35) < (x11_4.length : Int) then (impl_CountStillWith.l2 k4 a2 (rd_Lii t111 x31_2) (x11_4.set ((ji35) : Int).toNat (wrap64 ((rd x11_4 (ji35)) + (rd x8_2 x43_3)))) x43_3 (rd x8_2 x43_3) t111 (t111.length : Int) x31_2 x8_2 (x8_2.length : Int) x43_3 (wrap64 (((rd_Lii t111 x31_2).length : Int) + 1)) (wrap64 (x51_4 + 1))) else (none)) else (none)) = some (r1, r2) := by first | (rw [hji35] at H; exact H) | (simp only [hji35] at H ⊢; exact H)
                    have hji35w : (IntKind.i64.wrap (x43_3 + x51_4)) = ji35 := (i64_w _).trans hji35
                    by_cases c36 : 0 ≤ (ji35)
                    ·rw [if_pos c36] at H
                     have c36b0 : decide (0 ≤ (ji35)) = true := decide_eq_true c36
                     clear c36
                     by_cases c37 : (ji35) < (x11_4.length : Int)
                     ·rw [if_pos c37] at H
                      have c37b0 : decide ((ji35) < (x11_4.length : Int)) = true := decide_eq_true c37
                      clear c37
                      obtain ⟨y121, hy121⟩ : ∃ y_ : List Int, y_ = (x11_4.set ((ji35) : Int).toNat (wrap64 ((rd x11_4 (ji35)) + (rd x8_2 x43_3)))) := ⟨_, rfl⟩
                      replace H : (impl_CountStillWith.l2 k4 a2 (rd_Lii t111 x31_2) y121 x43_3 (rd x8_2 x43_3) t111 (t111.length : Int) x31_2 x8_2 (x8_2.length : Int) x43_3 (wrap64 (((rd_Lii t111 x31_2).length : Int) + 1)) (wrap64 (x51_4 + 1))) = some (r1, r2) := rH hy121 H
                      have Ny121 := Aside0.mk hy121
                      clear hy121
                      have H' := Aside0.mk H
                      clear H
                      obtain ⟨Ao39, co39, eo39⟩ := Kd.R_slice HO_11.out
                      subst eo39
                      have p120 : 0 ≤ ((ji35) : Int) := of_decide_eq_true (by first | (with_reducible assumption) | assumption)
                      have q120 : (ji35) < (x11_4.length : Int) := of_decide_eq_true (by first | (with_reducible assumption) | assumption)
                      obtain ⟨ad120, e120, hx120_0⟩ := Kd.at_int (Kd.R_reads' HO_11.out).2.2 (ji35) p120 q120
                      cases e120
                      replace p120 := eq_true p120
                      replace q120 := eq_true q120
                      have p38 : 0 ≤ ((ji35) : Int) := of_decide_eq_true (by first | (with_reducible assumption) | assumption)
                      have q38 : ((ji35) : Int) < ((x11_4.length : Int) : Int) := of_decide_eq_true (by first | (with_reducible assumption) | assumption)
                      obtain ⟨go38, co38, eo38, gb38, gl38, cl38, HG38⟩ := Kd.R_form HO_11.out (by omega)
                      (first | cases eo38 | (injection eo38 with ea_ en_ ec_; (first | subst ea_ | (injection ea_ with ea_; subst ea_)); subst ec_; clear en_))
                      have GB38 := Aside0.mk gb38
                      have GG38 := Aside0.mk HG38
                      clear gb38 gl38 HG38
                      (first | simp only [add_plain] at hx120_0 | skip)
                      obtain ⟨hx38_0, hf38_0⟩ := Kd.R_celln 0 HO_11.out ((ji35) : Int) p38 q38
                      replace p38 := eq_true p38
                      replace q38 := eq_true q38
                      have HP40 := Kd.R_putg HO_11.out ((ji35) : Int) (wrap64 ((rd x11_4 (ji35)) + (rd x8_2 x43_3)))
                      go_wp2_with (first | ((with_reducible refine gate_store (t := 3) (p := 62) rfl ?_); refine store_event (t := 3) (p := 62) (v := ?vo_w41) (w1 := (wr.setCell ⟨go38, ((ji35) : Int).toNat, none⟩ (.int .i64 (wrap64 ((rd x11_4 (ji35)) + (rd x8_2 x43_3)))))) ?hg ?ho ?hn ?hr ?_; (case ho => rfl); (case hg => rfl); (case hn => rfl); (case hr => first | (go_simp; done) | (go_simp; rfl)); intro w41 hw; have hg : wr.grownBy w41 (some go38) := (by rw [hw]; exact HP40.2); have hp_ : Kd.R (Kd.int .i64) 3 w41 w.heap.size (fun k_ => some k_ ≠ (.slice (some ad119) x8_2.length co28 : Value).ownBlock) (.slice (some ⟨go38, 0, none⟩) x11_4.length co39) y121 := (by rw [hw, Ny121.out]; (first | exact HP40.1 | exact R_any HP40.1)); clear HP40; have n0_ := Aside0.mk (hp_); have n1_ := Aside0.mk (Kd.S_after (v := (.slice (some ⟨go38, 0, none⟩) x11_4.length co39)) (v1 := (.slice (some ⟨go38, 0, none⟩) x11_4.length co39)) (ok := (fun k_ => some k_ ≠ (.slice (some ad119) x8_2.length co28 : Value).ownBlock)) (by (with_reducible repeat (first | apply Kd.S_alloc | apply Kd.S_drewN | apply Kd.S_drew)); exact Kd.S_mono HO_29.out (fun _ hk => ⟨hk.2, hk.1⟩)) hg (.inl rfl)); have n2_ := Aside0.mk (Kd.R_after (v := (.slice (some ⟨go38, 0, none⟩) x11_4.length co39)) (v1 := (.slice (some ⟨go38, 0, none⟩) x11_4.length co39)) (ok := (fun _ => True)) (by (with_reducible repeat (first | apply Kd.R_alloc | apply Kd.R_drewN | apply Kd.R_drew)); exact Kd.R_mono HO_41.out (fun _ hk => ⟨trivial, hk⟩)) hg (.inl rfl)); have n3_ := Aside0.mk (Kd.R_after (v := (.slice (some ⟨go38, 0, none⟩) x11_4.length co39)) (v1 := (.slice (some ⟨go38, 0, none⟩) x11_4.length co39)) (ok := (fun k_ => some k_ ≠ (.slice (some ad119) x8_2.length co28 : Value).ownBlock)) (by (with_reducible repeat (first | apply Kd.R_alloc | apply Kd.R_drewN | apply Kd.R_drew)); exact Kd.R_mono HL115_0.out (fun _ hk => ⟨hk.2, hk.1⟩)) hg (.inl rfl)); have n4_ := Aside0.mk ((by rw [hw]; exact below_set (HB.out) GB38.out : Below w.heap.size w w41)); clear HO_11; clear HO_29; clear HO_41; clear HL115_0; clear HB; have HO_11 := n0_; have HO_29 := n1_; have HO_41 := n2_; have HL115_0 := n3_; have HB := n4_; clear n0_ n1_ n2_ n3_ n4_; clear hg hw hp_))
                      go_roundg k4
                      case measure => have := HJ3.out; have := HK2.out; have := HK3.out; have := HK4.out; omega
                      case rel => exact ⟨(y121), (wrap64 (x51_4 + 1)), (by first | rfl | (simp; done) | (simp [*]; done)), H', ⟨by have := HJ3.out; have := HK2.out; have := HK3.out; have := HK4.out; omega⟩, ⟨rch HO_11⟩, ⟨by (with_reducible repeat (first | apply Kd.S_alloc | apply Kd.S_drewN | apply Kd.S_drew)); exact Kd.S_mono HO_29.out (fun _ hk => ⟨hk.2, hk.1⟩)⟩, ⟨by (with_reducible repeat (first | apply Kd.R_alloc | apply Kd.R_drewN | apply Kd.R_drew)); (first | exact Kd.R_mono HO_41.out (fun _ hk => hk.2) | exact HO_41.out | exact R_any HO_41.out)⟩, ⟨by (with_reducible repeat (first | apply Kd.R_alloc | apply Kd.R_drewN | apply Kd.R_drew)); exact Kd.R_mono HL115_0.out (fun _ hk => ⟨hk.2, hk.1⟩)⟩, ⟨bel HB⟩⟩
                     ·rw [if_neg c37] at H
                      exact absurd H (by simp)
                    ·rw [if_neg c36] at H
                     exact absurd H (by simp)
                   ·rw [if_neg c34] at H
                    have c34b0 : decide (x51_4 < (wrap64 (((rd_Lii t111 x31_2).length : Int) + 1))) = false := decide_eq_false c34
                    clear c34
                    have H' := Aside0.mk H
                    clear H
                    go_wp2
                    go_roundg k4
                    case measure => have := HJ3.out; have := HK2.out; have := HK3.out; have := HK4.out; omega
                    case rel => exact ⟨(x11_4), (wrap64 (x43_3 + 1)), (by first | rfl | (simp; done) | (simp [*]; done)), H', ⟨by have := HJ3.out; have := HK2.out; have := HK3.out; have := HK4.out; omega⟩, ⟨rch HO_11⟩, ⟨by (with_reducible repeat (first | apply Kd.S_alloc | apply Kd.S_drewN | apply Kd.S_drew)); (first | exact HO_29.out | exact R_any HO_29.out)⟩, ⟨rch HO_41⟩, ⟨by (with_reducible repeat (first | apply Kd.R_alloc | apply Kd.R_drewN | apply Kd.R_drew)); exact HL115_0.out⟩, ⟨bel HB⟩⟩
                ·rw [if_neg c33] at H
                 exact absurd H (by simp)
               ·rw [if_neg c32] at H
                exact absurd H (by simp)
              ·rw [if_neg c31] at H
               have c31b0 : decide (x43_3 < (x8_2.length : Int)) = false := decide_eq_false c31
               clear c31
               have H' := Aside0.mk H
               clear H
               go_wp2
               go_roundg k3
               case measure => have := HJ3.out; have := HK2.out; have := HK3.out; omega
               case rel => exact ⟨(x11_3), (wrap64 (x31_2 + 1)), (by first | rfl | (simp; done) | (simp [*]; done)), H', ⟨by have := HJ3.out; have := HK2.out; have := HK3.out; omega⟩, ⟨by (with_reducible repeat (first | apply Kd.R_alloc | apply Kd.R_drewN | apply Kd.R_drew)); exact Kd.R_mono HO_11.out (fun _ hk => trivial)⟩, ⟨by (with_reducible repeat (first | apply Kd.S_alloc | apply Kd.S_drewN | apply Kd.S_drew)); exact Kd.S_mono HO_29.out (fun _ hk => hk.1)⟩, ⟨bel HB⟩⟩
           ·rw [if_neg c27] at H
            exact absurd H (by simp)
          ·rw [if_neg c26] at H
           exact absurd H (by simp)
         ·rw [if_neg c24] at H
          exact absurd H (by simp)
        ·rw [if_neg c23] at H
         exact absurd H (by simp)
       ·rw [if_neg c22] at H
        have c22b0 : decide (x31_2 < (t111.length : Int)) = false := decide_eq_false c22
        clear c22
        by_cases c42 : 0 ≤ a2
        ·rw [if_pos c42] at H
         have c42b0 : decide (0 ≤ a2) = true := decide_eq_true c42
         clear c42
         by_cases c43 : a2 < (x8_2.length : Int)
         ·rw [if_pos c43] at H
          have c43b0 : decide (a2 < (x8_2.length : Int)) = true := decide_eq_true c43
          clear c43
          simp only [Option.some.injEq, Prod.mk.injEq] at H
          obtain ⟨rfl, rfl⟩ := H
          obtain ⟨Ao44, co44, eo44⟩ := Kd.R_slice HO_8.out
          subst eo44
          have p114 : 0 ≤ (a2 : Int) := of_decide_eq_true (by first | (with_reducible assumption) | assumption)
          have q114 : a2 < (x8_2.length : Int) := of_decide_eq_true (by first | (with_reducible assumption) | assumption)
          obtain ⟨ad114, e114, hx114_0⟩ := Kd.at_int (Kd.R_reads' HO_8.out).2.2 a2 p114 q114
          cases e114
          replace p114 := eq_true p114
          replace q114 := eq_true q114
          go_wp2
          go_ret2
          exact ⟨by first | rfl | (simp [errW_none, errW_some] <;> rfl) | (simp [*, errW_none, errW_some] <;> rfl), bel HB⟩
         ·rw [if_neg c43] at H
          exact absurd H (by simp)
        ·rw [if_neg c42] at H
         exact absurd H (by simp)
    ·rw [if_neg c12] at H
     exact absurd H (by simp)
end Go.Proofs.YtcpeldgnabfdmaaDoor.Q
end
section
namespace Go.Proofs.YtcpeldgnabfdmaaDoor.Q
open Go.RowKit Go.Shelf Go.Proofs.YtcpeldgnabfdmaaDoorW.PrintWords Go.Proofs.YtcpeldgnabfdmaaDoorW.PrintLast Go.Proofs.YtcpeldgnabfdmaaDoorW.PrintMore
set_option linter.unusedSectionVars false
theorem addN (n m : Nat) (h : n + m ≤ 100000) : wrap64 ((n : Int) + (m : Int)) = ((n + m : Nat) : Int) := by unfold wrap64; omega
theorem addV_stop (x : Int) (n u : Nat) (v : List Int) (h : v.length ≤ n + u) : ∀ m, addV x n (u + m) v = addV x n u v
 | 0 => rfl
 | m + 1 => by
  rw [show u + (m + 1) = (u + m) + 1 by omega, show addV x n ((u + m) + 1) v = if n + (u + m) < (addV x n (u + m) v).length then (addV x n (u + m) v).set (n + (u + m)) (wrap64 (rd (addV x n (u + m) v) ((n + (u + m) : Nat) : Int) + x)) else addV x n (u + m) v from rfl, addV_len, if_neg (by omega)]
  exact addV_stop x n u v h m
theorem addV_one (x : Int) (n u : Nat) (v : List Int) (h : n + u < v.length) : addV x n (u + 1) v = (addV x n u v).set (n + u) (wrap64 (rd (addV x n u v) ((n + u : Nat) : Int) + x)) := by
 show (if n + u < (addV x n u v).length then _ else _) = _
 rw [addV_len, if_pos h]
theorem wI_l2 (b x N i : Int) (S V v0 : List Int) (P : List (List Int)) (n : Nat) (VL : Int) (r : Int × Bool) (hv : n + S.length < v0.length) (hb : v0.length ≤ 1000)
  (hE : Ev (fun k => impl_CountStillWith.l1 k b S (addV x n (S.length + 1) v0) P N i V VL (wrap64 ((n : Int) + 1))) r) :
  ∀ (m u : Nat), u + m = S.length + 1 → Ev (fun k => impl_CountStillWith.l2 k b S (addV x n u v0) (n : Int) x P N i V VL (n : Int) ((S.length + 1 : Nat) : Int) (u : Int)) r
 | 0, u, hu => by
  obtain rfl : u = S.length + 1 := by omega
  refine Ev.step hE fun k => ?_
  rw [impl_CountStillWith.l2, if_neg (by omega)]
 | m + 1, u, hu => by
  have ih := wI_l2 b x N i S V v0 P n VL r hv hb hE m (u + 1) (by omega)
  rw [addV_one x n u v0 (by omega)] at ih
  refine Ev.step ih fun k => ?_
  rw [impl_CountStillWith.l2, if_pos (by omega), addN n u (by omega), if_pos (by omega), addV_len, if_pos (by omega), Int.toNat_natCast, wr1 u (by omega)]
theorem wS_l2 (B : Nat) (x N i VL : Int) (S V v0 : List Int) (P : List (List Int)) (n : Nat) (r : Int) (hv : v0.length = B + 1) (hb : B ≤ 1000) (hn : n ≤ 1000) (hs : S.length ≤ 1000)
  (hE : Ev (fun k => spec_cnStillWith.l1 k (B : Int) S (addV x n (S.length + 1) v0) P N i V VL (wrap64 ((n : Int) + 1))) r) :
  ∀ (m u : Nat), u + m = S.length + 1 → Ev (fun k => spec_cnStillWith.l2 k (B : Int) S (addV x n u v0) (n : Int) x (u : Int) P N i V VL (n : Int)) r
 | 0, u, hu => by
  obtain rfl : u = S.length + 1 := by omega
  refine Ev.step hE fun k => ?_
  rw [spec_cnStillWith.l2, if_neg (by omega)]
 | m + 1, u, hu => by
  by_cases h : n + u ≤ B
  ·have ih := wS_l2 B x N i VL S V v0 P n r hv hb hn hs hE m (u + 1) (by omega)
   rw [addV_one x n u v0 (by omega)] at ih
   refine Ev.step ih fun k => ?_
   rw [spec_cnStillWith.l2, if_pos (by omega), addN n u (by omega), if_pos (by omega), if_pos (by omega), addV_len, if_pos (by omega), Int.toNat_natCast, wr1 u (by omega)]
  ·have hst := addV_stop x n u v0 (by omega) (m + 1)
   rw [hu] at hst
   rw [hst] at hE
   refine Ev.step hE fun k => ?_
   rw [spec_cnStillWith.l2, if_pos (by omega), addN n u (by omega), if_neg (by omega)]
theorem wI_l1 (b N : Int) (i : Nat) (S V : List Int) (P : List (List Int)) (r : Int × Bool) (hs : V.length + S.length ≤ 1000)
  (hE : Ev (fun k => impl_CountStillWith.l0 k b (addTo S.length V (List.replicate (V.length + S.length) 0) V.length) P N (wrap64 ((i : Int) + 1))) r) :
  ∀ (m n : Nat), n + m = V.length → Ev (fun k => impl_CountStillWith.l1 k b S (addTo S.length V (List.replicate (V.length + S.length) 0) n) P N (i : Int) V (V.length : Int) (n : Int)) r
 | 0, n, hn => by
  obtain rfl : n = V.length := by omega
  refine Ev.step hE fun k => ?_
  rw [impl_CountStillWith.l1, if_neg (by omega)]
 | m + 1, n, hn => by
  have ih := wI_l1 b N i S V P r hs hE m (n + 1) (by omega)
  rw [← wr1 n (by omega)] at ih
  have h2 := wI_l2 b (rd V (n : Int)) N i S V (addTo S.length V (List.replicate (V.length + S.length) 0) n) P n (V.length : Int) r (by rw [addTo_len, List.length_replicate]; omega) (by rw [addTo_len, List.length_replicate]; omega) ih (S.length + 1) 0 (by omega)
  refine Ev.step h2 fun k => ?_
  rw [impl_CountStillWith.l1, if_pos (by omega), if_pos (by omega), if_pos (by omega), wr1 S.length (by omega)]
  rfl
theorem wS_l1 (B : Nat) (N : Int) (i : Nat) (S V : List Int) (P : List (List Int)) (r : Int) (hb : B ≤ 1000) (hs : S.length ≤ 1000) (hV : V.length ≤ 1001)
  (hE : Ev (fun k => spec_cnStillWith.l0 k (B : Int) (addTo S.length V (List.replicate (B + 1) 0) V.length) P N (wrap64 ((i : Int) + 1))) r) :
  ∀ (m n : Nat), n + m = V.length → Ev (fun k => spec_cnStillWith.l1 k (B : Int) S (addTo S.length V (List.replicate (B + 1) 0) n) P N (i : Int) V (V.length : Int) (n : Int)) r
 | 0, n, hn => by
  obtain rfl : n = V.length := by omega
  refine Ev.step hE fun k => ?_
  rw [spec_cnStillWith.l1, if_neg (by omega)]
 | m + 1, n, hn => by
  have ih := wS_l1 B N i S V P r hb hs hV hE m (n + 1) (by omega)
  rw [← wr1 n (by omega)] at ih
  have h2 := wS_l2 B (rd V (n : Int)) N i (V.length : Int) S V (addTo S.length V (List.replicate (B + 1) 0) n) P n r (by rw [addTo_len, List.length_replicate]) hb (by omega) hs ih (S.length + 1) 0 (by omega)
  refine Ev.step h2 fun k => ?_
  rw [spec_cnStillWith.l1, if_pos (by omega), if_pos (by omega), if_pos (by omega)]
  rfl
def waysI : List (List Int) → List Int → List Int
 | [], V => V
 | S :: L, V => waysI L (addTo S.length V (List.replicate (V.length + S.length) 0) V.length)
def waysS (B : Nat) : List (List Int) → List Int → List Int
 | [], U => U
 | S :: L, U => waysS B L (addTo S.length U (List.replicate (B + 1) 0) U.length)
theorem ways_cut (B : Nat) : ∀ (L : List (List Int)) (V U : List Int), cutOf V U B → cutOf (waysI L V) (waysS B L U) B
 | [], _, _, h => h
 | S :: L, V, U, h => ways_cut B L _ _ (cut_next S.length V U B h)
theorem waysI_len : ∀ (L : List (List Int)) (V : List Int), (waysI L V).length = V.length + L.flatten.length
 | [], V => by simp [waysI]
 | S :: L, V => by
  show (waysI L _).length = _
  rw [waysI_len L, addTo_len, List.length_replicate, List.flatten_cons, List.length_append, Nat.add_assoc]
theorem wI_l0 (b : Nat) (P : List (List Int)) : ∀ (Ls : List (List Int)) (i : Nat) (V : List Int), P.drop i = Ls → i ≤ P.length → i + Ls.length ≤ 100 → V.length + Ls.flatten.length ≤ 900 → b < (waysI Ls V).length → Ev (fun k => impl_CountStillWith.l0 k (b : Int) V P (P.length : Int) (i : Int)) (rd (waysI Ls V) (b : Int), true)
 | [], i, V, hd, hi, _, _, hb => by
  have hL : i = P.length := by
   have := congrArg List.length hd
   simp at this
   omega
  subst hL
  have hb : b < V.length := hb
  refine Ev.step (Ev.const rfl) fun k => ?_
  rw [impl_CountStillWith.l0, if_neg (by omega), if_pos (by omega), if_pos (by omega)]
  rfl
 | S :: Ls, i, V, hd, _, hq, hl, hb => by
  obtain ⟨h1, h2, h3⟩ := rdS_drop hd
  simp only [List.length_cons] at hq
  rw [List.flatten_cons, List.length_append] at hl
  have ih := wI_l0 b P Ls (i + 1) (addTo S.length V (List.replicate (V.length + S.length) 0) V.length) h3 h1 (by omega) (by rw [addTo_len, List.length_replicate]; omega) hb
  rw [← wr1 i (by omega)] at ih
  refine Ev.step (wI_l1 b P.length i S V P _ (by omega) ih V.length 0 (by omega)) fun k => ?_
  have hbig : V.length + S.length ≤ 35184372088832 := Nat.le_trans (show V.length + S.length ≤ 900 by omega) (by decide)
  rw [impl_CountStillWith.l0, if_pos (by omega), if_pos (by omega), if_pos (by omega), show rd_Lii P (i : Int) = S from h2, addN V.length S.length (by omega), if_pos (by omega), Int.toNat_natCast, if_pos hbig]
  rfl
theorem wS_l0 (B : Nat) (hB : B ≤ 900) (P : List (List Int)) : ∀ (Ls : List (List Int)) (i : Nat) (U : List Int), P.drop i = Ls → i ≤ P.length → i + Ls.length ≤ 100 → (∀ S ∈ Ls, S.length ≤ 1000) → U.length = B + 1 → Ev (fun k => spec_cnStillWith.l0 k (B : Int) U P (P.length : Int) (i : Int)) (rd (waysS B Ls U) (B : Int))
 | [], i, U, hd, hi, _, _, hU => by
  have hL : i = P.length := by
   have := congrArg List.length hd
   simp at this
   omega
  subst hL
  refine Ev.step (Ev.const rfl) fun k => ?_
  rw [spec_cnStillWith.l0, if_neg (by omega), if_pos (by omega), if_pos (by omega)]
  rfl
 | S :: Ls, i, U, hd, _, hq, hs, hU => by
  obtain ⟨h1, h2, h3⟩ := rdS_drop hd
  simp only [List.length_cons] at hq
  have ih := wS_l0 B hB P Ls (i + 1) (addTo S.length U (List.replicate (B + 1) 0) U.length) h3 h1 (by omega) (fun T hT => hs T (List.mem_cons_of_mem _ hT)) (by rw [addTo_len, List.length_replicate])
  rw [← wr1 i (by omega)] at ih
  refine Ev.step (wS_l1 B P.length i S U P _ (by omega) (hs S List.mem_cons_self) (by omega) ih U.length 0 (by omega)) fun k => ?_
  have hbig : B + 1 ≤ 35184372088832 := Nat.le_trans (show B + 1 ≤ 901 by omega) (by decide)
  rw [spec_cnStillWith.l0, if_pos (by omega), if_pos (by omega), if_pos (by omega), show rd_Lii P (i : Int) = S from h2, wr1 B (by omega), if_pos (by omega), Int.toNat_natCast, if_pos hbig]
  rfl
theorem sub_len : ∀ (l m : List Int), l.Nodup → (∀ x ∈ l, x ∈ m) → l.length ≤ m.length
 | [], _, _, _ => Nat.zero_le _
 | a :: l, m, hn, hs => by
  obtain ⟨h1, h2⟩ := List.nodup_cons.1 hn
  have ha := hs a List.mem_cons_self
  have ih := sub_len l (m.erase a) h2 fun x hx => (List.mem_erase_of_ne (fun e => h1 (by rw [← e]; exact hx))).2 (hs x (List.mem_cons_of_mem _ hx))
  rw [List.length_erase_of_mem ha] at ih
  have := List.length_pos_iff.2 (List.ne_nil_of_mem ha)
  rw [List.length_cons]
  omega
end Go.Proofs.YtcpeldgnabfdmaaDoor.Q
end
section
namespace Go.Proofs.YtcpeldgnabfdmaaDoor.Q
open Go.RowKit Go.Proofs.YtcpeldgnabfdmaaDoorW.PrintWords Go.Proofs.YtcpeldgnabfdmaaDoorW.PrintLast Go.Proofs.YtcpeldgnabfdmaaDoorW.PrintMore
set_option linter.unusedSectionVars false
def ballsTo (cs : List Int) (t : Nat) : List Int := ((List.range t).filter (fun j : Nat => bI cs (j : Int))).map (fun j : Nat => (j : Int))
def ballsOf (cs : List Int) : List Int := ballsTo cs cs.length
theorem ballsTo_succ (cs : List Int) (t : Nat) : ballsTo cs (t + 1) = ballsTo cs t ++ if bI cs (t : Int) = true then [(t : Int)] else [] := by
 unfold ballsTo
 rw [List.range_succ, List.filter_append, List.map_append]
 congr 1
 by_cases hm : bI cs (t : Int) = true
 ·rw [if_pos hm]; simp [hm]
 ·rw [if_neg hm]; simp [hm]
theorem ballsTo_len (cs : List Int) (t : Nat) : (ballsTo cs t).length ≤ t := by
 unfold ballsTo
 rw [List.length_map]
 have := List.length_filter_le (fun j : Nat => bI cs (j : Int)) (List.range t)
 rw [List.length_range] at this
 exact this
theorem tyBalls_l0 (cs : List Int) (hc : cs.length ≤ 36) : ∀ (m t : Nat), t + m = cs.length → Ev (fun k => spec_tyBalls.l0 k (ballsTo cs t) cs cs.length t) (ballsOf cs)
 | 0, t, ht => by
  obtain rfl : t = cs.length := by omega
  refine Ev.step (Ev.const (o := some (ballsOf cs)) rfl) fun k => ?_
  rw [spec_tyBalls.l0, if_neg (by omega)]
  rfl
 | m + 1, t, ht => by
  have ih := tyBalls_l0 cs hc m (t + 1) (by omega)
  have hwt : wrap64 ((t : Int) + 1) = ((t + 1 : Nat) : Int) := by rw [w64 (by omega) (by omega)]; omega
  have c1 : (t : Int) < (cs.length : Int) := by omega
  have c0 : (0 : Int) ≤ (t : Int) := by omega
  have c6 : (ballsTo cs t).length < 17592186044416 := Nat.lt_of_le_of_lt (Nat.le_trans (ballsTo_len cs t) (show t ≤ 36 by omega)) (by decide)
  rw [ballsTo_succ] at ih
  refine Ev.step ih fun k => ?_
  rw [spec_tyBalls.l0, if_pos c1, if_pos c0, if_pos c1, tyBall_eq, Option.bind_some, hwt]
  show (if bI cs t = true then _ else _) = _
  by_cases h1 : bI cs t = true
  ·rw [if_pos h1, if_pos c6, if_pos h1]
  ·rw [if_neg h1, if_neg h1, List.append_nil]
theorem tyBalls_ev (cs : List Int) (hc : cs.length ≤ 36) (w h : Int) : Ev (fun k => spec_tyBalls.f k w h cs) (ballsOf cs) := tyBalls_l0 cs hc cs.length 0 (by omega)
theorem rows_mem (c b : UInt8) : ∀ l, b ∈ (rows c l).flatten ↔ b ∈ l ∧ b ≠ c
 | [] => by simp [rows]
 | a :: l => by
  have ih := rows_mem c b l
  unfold rows
  split
  ·rename_i e
   subst e
   rw [List.flatten_cons, List.nil_append, ih, List.mem_cons]
   constructor
   ·rintro ⟨h1, h2⟩; exact ⟨Or.inr h1, h2⟩
   ·rintro ⟨h1, h2⟩; exact ⟨h1.resolve_left h2, h2⟩
  ·rename_i hne
   split
   ·rename_i e; exact absurd e (rows_ne c l)
   ·rename_i r rs e
    rw [e, List.flatten_cons] at ih
    rw [List.flatten_cons, List.cons_append, List.mem_cons, ih, List.mem_cons]
    constructor
    ·rintro (h1 | ⟨h1, h2⟩)
     ·exact ⟨Or.inl h1, by rw [h1]; exact hne⟩
     ·exact ⟨Or.inr h1, h2⟩
    ·rintro ⟨h1 | h1, h2⟩
     ·exact Or.inl h1
     ·exact Or.inr ⟨h1, h2⟩
end Go.Proofs.YtcpeldgnabfdmaaDoor.Q
end
section
namespace Go.Proofs.YtcpeldgnabfdmaaDoor.Q
open Go.RowKit Go.Proofs.YtcpeldgnabfdmaaDoorW.PrintWords Go.Proofs.YtcpeldgnabfdmaaDoorW.PrintLast Go.Proofs.YtcpeldgnabfdmaaDoorW.PrintMore
theorem dw_nil {α : Type} (p : α → Bool) : ∀ l : List α, l.dropWhile p = [] ↔ ∀ b ∈ l, p b = true
 | [] => by simp
 | b :: l => by
  rw [List.dropWhile_cons]
  by_cases h : p b = true
  ·rw [if_pos h, dw_nil p l]
   simp [h]
  ·rw [if_neg h]
   simp [h]
theorem dw_all {α : Type} (p : α → Bool) : ∀ l : List α, (∀ b ∈ l.dropWhile p, p b = true) → ∀ b ∈ l, p b = true
 | [], _ => by simp
 | b :: l, h => by
  rw [List.dropWhile_cons] at h
  by_cases hb : p b = true
  ·rw [if_pos hb] at h
   have ih := dw_all p l h
   simpa [hb] using ih
  ·rw [if_neg hb] at h
   exact h
theorem trimS_nil (l cs : List UInt8) : Lib.trimS l cs = [] ↔ ∀ b ∈ l, cs.contains b = true := by
 unfold Lib.trimS Lib.trimLeftS Lib.trimRightS
 rw [dw_nil]
 constructor
 ·intro h
  have h2 := dw_all (cs.contains ·) l.reverse (fun b hb => h b (by simpa using hb))
  exact fun b hb => h2 b (by simpa using hb)
 ·intro h b hb
  rw [List.mem_reverse] at hb
  exact h b (by simpa using (List.dropWhile_sublist _).subset hb)
theorem trim_tell (s cut : ByteArray) (hs : s.size ≤ 1048576) (hc : cut.size < 100) (ha : asciiB cut.data.toList = true) :
  ∃ t, strings_Trim.f s cut = some t ∧ (t.toList = [] ↔ ∀ b ∈ s.data.toList, cut.data.toList.contains b = true) := by
 refine ⟨_, if_pos ⟨by omega, by omega, ha⟩, ?_⟩
 rw [← trimS_nil]
 generalize Lib.trimS s.data.toList cut.data.toList = l
 have e : (⟨l.toArray⟩ : ByteArray).toList = l := ByteArray.toList_mk l
 rw [e]
theorem encode_name : ∀ n : Fin 6, Utf8.encode (97 + (n.val : Int)) = ⟨#[UInt8.ofNat (97 + n.val)]⟩ := by decide +kernel
theorem count_name (s : ByteArray) (n : Nat) (h1 : 97 ≤ n) (h2 : n ≤ 102) : (runeS.f (n : Int)).bind (fun t => strings_Count.f s t) = some ((s.data.toList.count (UInt8.ofNat n) : Nat) : Int) := by
 have h := encode_name ⟨n - 97, by omega⟩
 simp only [show (97 + ((n - 97 : Nat) : Int)) = (n : Int) by omega, show 97 + (n - 97) = n by omega] at h
 unfold runeS.f
 rw [Option.bind_some, h]
 rfl
theorem it_l1 (s : ByteArray) : ∀ (m n : Nat), 97 ≤ n → n + m = 103 → ∀ R : Bool, (R = true ↔ ∀ c : Nat, n ≤ c → c ≤ 102 → s.data.toList.count (UInt8.ofNat c) ≤ 1) → Ev (fun k => impl_IsTray.l1 k s n) R
 | 0, n, h1, h2, R, hR => by
  obtain rfl : R = true := hR.2 fun c h3 h4 => by omega
  refine Ev.step (Ev.const (o := some true) rfl) fun k => ?_
  rw [impl_IsTray.l1, if_neg (by omega)]
 | m + 1, n, h1, h2, R, hR => by
  have hc := count_name s n h1 (by omega)
  obtain ⟨t, e1, e2⟩ := Option.bind_eq_some_iff.1 hc
  have hw : wrap32 ((n : Int) + 1) = ((n + 1 : Nat) : Int) := by unfold wrap32; omega
  by_cases hn : s.data.toList.count (UInt8.ofNat n) ≤ 1
  ·have ih := it_l1 s m (n + 1) (by omega) (by omega) R (hR.trans ⟨fun h c h3 h4 => h c (by omega) h4, fun h c h3 h4 => by
    by_cases h5 : n = c
    ·rw [← h5]; exact hn
    ·exact h c (by omega) h4⟩)
   refine Ev.step ih fun k => ?_
   rw [impl_IsTray.l1, if_pos (by omega), e1, Option.bind_some, e2, Option.bind_some, if_neg (by omega), hw]
  ·obtain rfl : R = false := Bool.eq_false_iff.2 fun h => hn (hR.1 h n (Nat.le_refl _) (by omega))
   refine Ev.step (Ev.const (o := some false) rfl) fun k => ?_
   rw [impl_IsTray.l1, if_pos (by omega), e1, Option.bind_some, e2, Option.bind_some, if_pos (by omega)]
theorem named_count (s : ByteArray) : namedOK (ints (rows 47 s.data.toList).flatten) ↔ ∀ c : Nat, 97 ≤ c → c ≤ 102 → s.data.toList.count (UInt8.ofNat c) ≤ 1 := by
 have h : ∀ c : Nat, 97 ≤ c → c ≤ 102 → (ints (rows 47 s.data.toList).flatten).count (c : Int) = s.data.toList.count (UInt8.ofNat c) := by
  intro c h1 h2
  have e : ((UInt8.ofNat c).toNat : Int) = c := by
   rw [UInt8.toNat_ofNat']
   omega
  rw [← e, ints_count, rows_count 47 (UInt8.ofNat c)]
  intro e2
  have := congrArg UInt8.toNat e2
  rw [UInt8.toNat_ofNat'] at this
  have h47 : (47 : UInt8).toNat = 47 := rfl
  omega
 constructor
 ·intro h1 c h2 h3
  rw [← h c h2 h3]
  exact h1 c (by omega) (by omega)
 ·intro h1 c h2 h3
  have h4 := h c.toNat (by omega) (by omega)
  rw [show ((c.toNat : Nat) : Int) = c by omega] at h4
  rw [h4]
  exact h1 _ (by omega) (by omega)
theorem within_eq (a lo hi : Int) : impl_within.f a lo hi = some (decide (lo ≤ a ∧ a ≤ hi)) := by
 unfold impl_within.f
 by_cases h : lo ≤ a
 ·rw [if_pos h]
  simp [h]
 ·rw [if_neg h]
  simp [h]
theorem isSize_eq (w h : Nat) (hw : w ≤ 1048576) (hh : h ≤ 1048577) : impl_isSize.f w h = some (decide (1 ≤ w ∧ w ≤ 7 ∧ 1 ≤ h ∧ h ≤ 7 ∧ w * h ≤ 36)) := by
 unfold impl_isSize.f
 rw [within_eq, Option.bind_some]
 by_cases h1 : 1 ≤ w ∧ w ≤ 7
 ·rw [decide_eq_true (by omega), if_pos rfl, within_eq, Option.bind_some]
  by_cases h2 : 1 ≤ h ∧ h ≤ 7
  ·rw [decide_eq_true (by omega), if_pos rfl]
   have h3 : w * h ≤ 7 * 7 := Nat.mul_le_mul h1.2 h2.2
   have e : wrap64 ((w : Int) * h) = ((w * h : Nat) : Int) := by
    rw [← Int.natCast_mul]
    exact w64 (by omega) (by omega)
   rw [e]
   congr 1
   exact decide_eq_decide.2 ⟨fun h => ⟨h1.1, h1.2, h2.1, h2.2, by omega⟩, fun h => by omega⟩
  ·rw [decide_eq_false (by omega), if_neg (by decide), decide_eq_false (by omega)]
 ·rw [decide_eq_false (by omega), if_neg (by decide), decide_eq_false (by omega)]
theorem rowsL_len (s : ByteArray) : (rowsL s).length = (rows 47 s.data.toList).length := by rw [← rowsL_map, List.length_map]
theorem rowsL_drop (s : ByteArray) (i : Nat) (h : i < (rowsL s).length) : (rows 47 s.data.toList).drop i = (rdOf ByteArray.empty (rowsL s) (i : Int)).data.toList :: (rows 47 s.data.toList).drop (i + 1) := by
 rw [← rowsL_map]
 have h2 : i < ((rowsL s).map (·.data.toList)).length := by rw [List.length_map]; exact h
 rw [List.drop_eq_getElem_cons h2]
 congr 1
 unfold rdOf
 rw [List.getElem_map, Int.toNat_natCast, List.getD_eq_getElem?_getD, List.getElem?_eq_getElem h]
 rfl
theorem rowsL_tw (s : ByteArray) (h : 0 < (rowsL s).length) : (rdOf ByteArray.empty (rowsL s) 0).size = tw (rows 47 s.data.toList) := by
 have e := rowsL_drop s 0 h
 rw [List.drop_zero] at e
 unfold tw
 rw [e, List.headD_cons, data_length]
 rfl
theorem rows_le (c : UInt8) (l r : List UInt8) (h : r ∈ rows c l) : r.length ≤ l.length := by
 have h1 := rows_flat c l
 have h2 : r.length ≤ (rows c l).flatten.length := (List.sublist_flatten_of_mem h).length_le
 omega
def cutAll : ByteArray := ⟨#[35, 46, 111, 97, 98, 99, 100, 101, 102]⟩
theorem it_l0 (s : ByteArray) (hs : s.size ≤ 1048576) (w : Nat) (hw : (rdOf ByteArray.empty (rowsL s) 0).size = w) (K : Bool) (hK : Ev (fun k => impl_IsTray.l1 k s 97) K) :
  ∀ (m i : Nat), i + m = (rowsL s).length → Ev (fun k => impl_IsTray.l0 k s (rowsL s) (rowsL s) (rowsL s).length i) (if evenRows w ((rows 47 s.data.toList).drop i) then K else false)
 | 0, i, hi => by
  have e : (rows 47 s.data.toList).drop i = [] := List.drop_eq_nil_of_le (by rw [← rowsL_len]; omega)
  rw [e, if_pos (show evenRows w [] from fun r hr => by simp at hr)]
  refine Ev.step hK fun k => ?_
  rw [impl_IsTray.l0, if_neg (by omega)]
 | m + 1, i, hi => by
  have ih := it_l0 s hs w hw K hK m (i + 1) (by omega)
  have hlt : i < (rowsL s).length := by omega
  have hlen : (rowsL s).length ≤ 1048577 := by
   have h1 := rows_size 47 s.data.toList
   have h2 := data_length s
   rw [rowsL_len]
   omega
  have hd := rowsL_drop s i hlt
  have hrow : (rdOf ByteArray.empty (rowsL s) (i : Int)).data.toList ∈ rows 47 s.data.toList := (List.drop_sublist i _).subset (by rw [hd]; exact List.mem_cons_self)
  have hsz : (rdOf ByteArray.empty (rowsL s) (i : Int)).size ≤ 1048576 := by
   have h1 := rows_le 47 _ _ hrow
   rw [data_length, data_length] at h1
   omega
  have hwr : wrap64 ((i : Int) + 1) = ((i + 1 : Nat) : Int) := by rw [w64 (by omega) (by omega)]; omega
  rw [hd]
  generalize hrw : rdOf ByteArray.empty (rowsL s) (i : Int) = row at hsz hd ⊢
  obtain ⟨t, et, ht⟩ := trim_tell row cutAll hsz (by decide) (by decide)
  have hcell : (∀ b ∈ row.data.toList, cutAll.data.toList.contains b = true) ↔ row.data.toList.all isCellB = true := by
   rw [List.all_eq_true]
   rfl
  rw [ite_iff ((evenRows_cons w row.data.toList ((rows 47 s.data.toList).drop (i + 1))).trans (show _ ↔ (row.size = w ∧ t.toList = []) ∧ evenRows w ((rows 47 s.data.toList).drop (i + 1)) by rw [← hcell, ← ht, data_length]))]
  by_cases h1 : row.size = w
  ·by_cases h2 : t.toList = []
   ·rw [ite_iff (show ((row.size = w ∧ t.toList = []) ∧ evenRows w ((rows 47 s.data.toList).drop (i + 1))) ↔ evenRows w ((rows 47 s.data.toList).drop (i + 1)) from ⟨fun h => h.2, fun h => ⟨⟨h1, h2⟩, h⟩⟩)]
    refine Ev.step ih fun k => ?_
    rw [impl_IsTray.l0, if_pos (by omega), if_pos (by omega), if_pos (by omega), if_pos (by omega), hrw, hw, if_pos (by omega)]
    show (strings_Trim.f row cutAll).bind _ = _
    rw [et, Option.bind_some, if_pos h2, hwr]
   ·rw [if_neg fun h => h2 h.1.2]
    refine Ev.step (Ev.const (o := some false) rfl) fun k => ?_
    rw [impl_IsTray.l0, if_pos (by omega), if_pos (by omega), if_pos (by omega), if_pos (by omega), hrw, hw, if_pos (by omega)]
    show (strings_Trim.f row cutAll).bind _ = _
    rw [et, Option.bind_some, if_neg h2]
  ·rw [if_neg fun h => h1 h.1.1]
   refine Ev.step (Ev.const (o := some false) rfl) fun k => ?_
   rw [impl_IsTray.l0, if_pos (by omega), if_pos (by omega), if_pos (by omega), if_pos (by omega), hrw, hw, if_neg (by omega)]
theorem isTray_ev (s : ByteArray) (hs : s.size ≤ 1048576) : Ev (fun k => impl_IsTray.f k s) (trayOf s).isSome := by
 have h1 := rows_size 47 s.data.toList
 have h2 := data_length s
 have h3 := rowsL_len s
 have hne : 0 < (rowsL s).length := by
  rw [h3]
  exact List.length_pos_iff.2 (rows_ne 47 _)
 have hw := rowsL_tw s hne
 have hwle : tw (rows 47 s.data.toList) ≤ 1048576 := by
  have e := rowsL_drop s 0 hne
  rw [List.drop_zero] at e
  have := rows_le 47 s.data.toList _ (by rw [e]; exact List.mem_cons_self)
  rw [data_length, data_length] at this
  have h4 : (rdOf ByteArray.empty (rowsL s) ((0 : Nat) : Int)).size = (rdOf ByteArray.empty (rowsL s) 0).size := rfl
  omega
 have hsp : strings_Split.f s ⟨#[47]⟩ = some (rowsL s) := if_pos ⟨by omega, by decide⟩
 have hss := isSize_eq (tw (rows 47 s.data.toList)) (rowsL s).length hwle (by omega)
 have hf : ∀ k, impl_IsTray.f k s = if decide (1 ≤ tw (rows 47 s.data.toList) ∧ tw (rows 47 s.data.toList) ≤ 7 ∧ 1 ≤ (rowsL s).length ∧ (rowsL s).length ≤ 7 ∧ tw (rows 47 s.data.toList) * (rowsL s).length ≤ 36) = true then impl_IsTray.l0 k s (rowsL s) (rowsL s) (rowsL s).length 0 else some false := by
  intro k
  unfold impl_IsTray.f
  rw [hsp, Option.bind_some, if_pos (by omega), hw, hss, Option.bind_some]
 refine Ev.congr ?_ hf
 unfold trayOf trayRows
 by_cases hc : 1 ≤ tw (rows 47 s.data.toList) ∧ tw (rows 47 s.data.toList) ≤ 7 ∧ 1 ≤ (rowsL s).length ∧ (rowsL s).length ≤ 7 ∧ tw (rows 47 s.data.toList) * (rowsL s).length ≤ 36
 ·rw [decide_eq_true hc]
  refine Ev.congr ?_ (fun k => if_pos rfl)
  have h5 := it_l0 s hs _ hw (decide (namedOK (ints (rows 47 s.data.toList).flatten))) (it_l1 s 6 97 (by omega) (by omega) _ (by rw [decide_eq_true_iff]; exact named_count s)) (rowsL s).length 0 (by omega)
  rw [List.drop_zero] at h5
  have e : (if okRows (rows 47 s.data.toList) then some ((tw (rows 47 s.data.toList) : Int), ((rows 47 s.data.toList).length : Int), ints (rows 47 s.data.toList).flatten) else none).isSome =
    if evenRows (tw (rows 47 s.data.toList)) (rows 47 s.data.toList) then decide (namedOK (ints (rows 47 s.data.toList).flatten)) else false := by
   by_cases h6 : evenRows (tw (rows 47 s.data.toList)) (rows 47 s.data.toList)
   ·by_cases h7 : namedOK (ints (rows 47 s.data.toList).flatten)
    ·rw [if_pos h6, if_pos (show okRows _ from ⟨by rw [h3] at hc; omega, h6, h7⟩), decide_eq_true h7]
     rfl
    ·rw [if_pos h6, if_neg fun h => h7 h.2.2, decide_eq_false h7]
     rfl
   ·rw [if_neg h6, if_neg fun h => h6 h.2.1]
    rfl
  rw [e]
  exact h5
 ·rw [if_neg fun h => hc (by have h4 := h.1; rw [h3]; omega), decide_eq_false hc]
  exact Ev.congr (Ev.const (o := some false) rfl) (fun k => if_neg (by decide))
theorem joined_ints (s : ByteArray) : bytesOf (joinedB s) = ints (rows 47 s.data.toList).flatten := by
 unfold bytesOf ints
 rw [joinedB_list]
theorem trayOf_row (s : ByteArray) : trayOf s = none ∨ (s.size ≤ 42 ∧ impl_read.f s = trayOf s) := by
 rcases h : trayOf s with _ | t
 ·exact Or.inl rfl
 ·have hs := trayOf_small s (by rw [h]; exact fun e => nomatch e)
  refine Or.inr ⟨hs, ?_⟩
  rw [← h]
  have hne : 0 < (rowsL s).length := by
   rw [rowsL_len]
   exact List.length_pos_iff.2 (rows_ne 47 _)
  have hw := rowsL_tw s hne
  unfold trayOf trayRows at h ⊢
  split at h
  ·rename_i hk
   rw [if_pos hk]
   unfold impl_read.f
   rw [if_pos (by omega), joined_ints, rowsL_len, ← hw]
   rfl
  ·cases h
theorem trayOf_some {s : ByteArray} {t : Int × Int × List Int} (ht : trayOf s = some t) : ∃ w h : Nat, t = ((w : Int), (h : Int), ints (rows 47 s.data.toList).flatten) ∧ 1 ≤ w ∧ w ≤ 7 ∧ 1 ≤ h ∧ h ≤ 7 ∧ w * h ≤ 36 ∧ (ints (rows 47 s.data.toList).flatten).length = w * h := by
 unfold trayOf trayRows at ht
 split at ht
 ·rename_i hk
  have h1 := evenRows_flat _ _ hk.2.1
  have h2 := List.length_pos_iff.2 (rows_ne 47 s.data.toList)
  have h3 := hk.1
  refine ⟨_, _, (Option.some.inj ht).symm, h3.1, h3.2.1, by omega, h3.2.2.1, h3.2.2.2, ?_⟩
  rw [ints_length, h1]
 ·cases ht
theorem form_len {s : ByteArray} {t : Int × Int × List Int} (ht : trayOf s = some t) : t.2.2.length ≤ 36 := by
 obtain ⟨w, h, rfl, h1, h2, h3, h4, h5, h6⟩ := trayOf_some ht
 show (ints _).length ≤ 36
 omega
theorem tray_parts {s : ByteArray} {t : Int × Int × List Int} (ht : trayOf s = some t) : ∃ (w h : Nat) (cs : List Int), t = ((w : Int), (h : Int), cs) ∧ 1 ≤ w ∧ w ≤ 7 ∧ 1 ≤ h ∧ h ≤ 7 ∧ w * h ≤ 36 ∧ cs.length = w * h := by
 obtain ⟨w, h, e, h1, h2, h3, h4, h5, h6⟩ := trayOf_some ht
 exact ⟨w, h, _, e, h1, h2, h3, h4, h5, h6⟩
theorem tray_read {s : ByteArray} {t : Int × Int × List Int} (ht : trayOf s = some t) : impl_read.f s = some t := by
 rw [← ht]
 exact ((trayOf_row s).resolve_left (by rw [ht]; exact fun e => nomatch e)).2
end Go.Proofs.YtcpeldgnabfdmaaDoor.Q
end
section
namespace Go.Proofs.YtcpeldgnabfdmaaDoor.Q
set_option linter.unusedSectionVars false
open Go.RowKit Go.Proofs.YtcpeldgnabfdmaaDoorW.PrintWords Go.Proofs.YtcpeldgnabfdmaaDoorW.PrintLast Go.Proofs.YtcpeldgnabfdmaaDoorW.PrintMore
def dirB (d : Nat) : UInt8 := ([117, 114, 100, 108] : List UInt8).getD d 0
theorem toList_data (s : ByteArray) : s.toList = s.data.toList := by
 obtain ⟨⟨l⟩⟩ := s
 exact ByteArray.toList_mk l
theorem has_byte : ∀ (l : List UInt8) (c : UInt8), decide (0 ≤ Lib.indexByte l c) = decide (c ∈ l)
 | [], c => by simp [Lib.indexByte]
 | b :: l, c => by
  have ih := has_byte l c
  have hge := Lib.indexByte_ge l c
  unfold Lib.indexByte
  by_cases hb : b = c
  ·subst hb
   simp
  ·have h1 : (b == c) = false := by simpa using hb
   have h2 : (c ∈ b :: l) ↔ c ∈ l := by simp [Ne.symm hb]
   rw [h1, decide_eq_decide.2 h2, ← ih]
   rw [decide_eq_decide]
   rw [if_neg Bool.false_ne_true]
   by_cases h3 : Lib.indexByte l c = -1
   ·rw [h3]
    decide
   ·rw [show (Lib.indexByte l c == -1) = false by simpa using h3, if_neg Bool.false_ne_true]
    omega
def dirFrom (l : List UInt8) : Nat → Nat → Int
 | 0, _ => -1
 | m + 1, t => if l = [dirB t] then t else dirFrom l m (t + 1)
def dirI (s : ByteArray) : Int := dirFrom s.data.toList 4 0
theorem cut_toList : ∀ d : Fin 4, ((⟨#[117, 114, 100, 108]⟩ : ByteArray).extract ((d.val : Int)).toNat (((d.val + 1 : Nat) : Int)).toNat).toList = [dirB d.val] := by
 intro d
 rw [toList_data]
 revert d
 decide
theorem tiDir_l0 (s : ByteArray) : ∀ (m t : Nat), t + m = 4 → Ev (fun k => spec_tiDir.l0 k s t) (dirFrom s.data.toList m t)
 | 0, t, ht => by
  obtain rfl : t = 4 := by omega
  refine Ev.step (Ev.const (o := some (-1)) rfl) fun k => ?_
  rw [spec_tiDir.l0, if_neg (by decide)]
 | m + 1, t, ht => by
  have ih := tiDir_l0 s m (t + 1) (by omega)
  have ht4 : t < 4 := by omega
  have hwt : wrap64 ((t : Int) + 1) = ((t + 1 : Nat) : Int) := by rw [w64 (by omega) (by omega)]; omega
  have hcut := cut_toList ⟨t, ht4⟩
  simp only at hcut
  have hsz : ((⟨#[117, 114, 100, 108]⟩ : ByteArray).size : Int) = 4 := rfl
  unfold dirFrom
  have hgo : ∀ k, spec_tiDir.l0 (k + 1) s t = if s.data.toList = [dirB t] then some (t : Int) else spec_tiDir.l0 k s ((t + 1 : Nat) : Int) := by
   intro k
   rw [spec_tiDir.l0, if_pos (by omega), hwt]
   show (Option.some (⟨#[117, 114, 100, 108]⟩ : ByteArray)).bind _ = _
   rw [Option.bind_some, if_pos (by omega), if_pos (by omega), if_pos (by rw [hsz]; omega), hcut, toList_data]
  by_cases he : s.data.toList = [dirB t]
  ·rw [if_pos he]
   exact Ev.step (Ev.const (o := some (t : Int)) rfl) fun k => by rw [hgo, if_pos he]
  ·rw [if_neg he]
   exact Ev.step ih fun k => by rw [hgo, if_neg he]
theorem tiDir_ev (s : ByteArray) : Ev (fun k => spec_tiDir.f k s) (dirI s) := tiDir_l0 s 4 0 (by omega)
theorem dirI_cases (s : ByteArray) : (dirI s = -1 ∧ ∀ d : Nat, d < 4 → s.data.toList ≠ [dirB d]) ∨ ∃ d : Nat, d < 4 ∧ dirI s = d ∧ s.data.toList = [dirB d] := by
 unfold dirI dirFrom
 by_cases h0 : s.data.toList = [dirB 0]
 ·exact Or.inr ⟨0, by omega, by rw [if_pos h0], h0⟩
 rw [if_neg h0]
 unfold dirFrom
 by_cases h1 : s.data.toList = [dirB (0 + 1)]
 ·exact Or.inr ⟨1, by omega, by rw [if_pos h1], h1⟩
 rw [if_neg h1]
 unfold dirFrom
 by_cases h2 : s.data.toList = [dirB (0 + 1 + 1)]
 ·exact Or.inr ⟨2, by omega, by rw [if_pos h2], h2⟩
 rw [if_neg h2]
 unfold dirFrom
 by_cases h3 : s.data.toList = [dirB (0 + 1 + 1 + 1)]
 ·exact Or.inr ⟨3, by omega, by rw [if_pos h3], h3⟩
 rw [if_neg h3]
 refine Or.inl ⟨rfl, fun d hd => ?_⟩
 obtain h | h | h | h : d = 0 ∨ d = 1 ∨ d = 2 ∨ d = 3 := by omega
 ·subst h; exact h0
 ·subst h; exact h1
 ·subst h; exact h2
 ·subst h; exact h3
theorem one_byte_of {s : ByteArray} {b : UInt8} (h : s.data.toList = [b]) : s = ⟨#[b]⟩ := by
 obtain ⟨⟨l⟩⟩ := s
 simp at h
 subst h
 rfl
theorem dirB_mem : ∀ c : UInt8, c ∈ ([117, 114, 100, 108] : List UInt8) → ∃ d : Nat, d < 4 ∧ c = dirB d := by
 intro c hc
 simp only [List.mem_cons, List.not_mem_nil, or_false] at hc
 rcases hc with h | h | h | h
 ·exact ⟨0, by omega, h⟩
 ·exact ⟨1, by omega, h⟩
 ·exact ⟨2, by omega, h⟩
 ·exact ⟨3, by omega, h⟩
theorem isDir_eq (s : ByteArray) : impl_isDir.f s = some (decide (0 ≤ dirI s)) := by
 unfold impl_isDir.f
 rcases dirI_cases s with ⟨h1, h2⟩ | ⟨d, hd, h1, h2⟩
 ·rw [h1]
  by_cases hs : (s.size : Int) = 1
  ·rw [if_pos hs]
   have hs2 : s.size = 1 := by omega
   obtain ⟨c, rfl⟩ := Lib.one_byte s hs2
   unfold strings_Contains.f
   rw [if_pos (show (⟨#[c]⟩ : ByteArray).size = 1 from rfl), has_byte, Option.bind_some]
   congr 1
   show decide (c ∈ ([117, 114, 100, 108] : List UInt8)) = _
   rw [decide_eq_decide]
   constructor
   ·intro hc
    obtain ⟨d, hd, rfl⟩ := dirB_mem c hc
    exact absurd rfl (h2 d hd)
   ·intro h
    omega
  ·rw [if_neg hs]
   rfl
 ·obtain rfl := one_byte_of h2
  rw [h1, if_pos (show ((⟨#[dirB d]⟩ : ByteArray).size : Int) = 1 from rfl)]
  unfold strings_Contains.f
  rw [if_pos (show (⟨#[dirB d]⟩ : ByteArray).size = 1 from rfl), has_byte, Option.bind_some]
  congr 1
  rw [decide_eq_decide]
  constructor
  ·intro _
   omega
  ·intro _
   show dirB d ∈ ([117, 114, 100, 108] : List UInt8)
   obtain h | h | h | h : d = 0 ∨ d = 1 ∨ d = 2 ∨ d = 3 := by omega
   ·subst h; decide
   ·subst h; decide
   ·subst h; decide
   ·subst h; decide
end Go.Proofs.YtcpeldgnabfdmaaDoor.Q
end
section
namespace Go.Proofs.YtcpeldgnabfdmaaDoor.Q
open Go.RowKit Go.Shelf Go.Proofs.YtcpeldgnabfdmaaDoorW.PrintWords Go.Proofs.YtcpeldgnabfdmaaDoorW.PrintLast Go.Proofs.YtcpeldgnabfdmaaDoorW.PrintMore
set_option linter.unusedSectionVars false
def noB (cs : List Int) : Bool := cs.all fun c => !isB c
theorem noB_balls (cs : List Int) : noB cs = decide ((ballsOf cs).length = 0) := by
 unfold noB ballsOf ballsTo
 rw [List.length_map, ← List.countP_eq_length_filter, Bool.eq_iff_iff, decide_eq_true_iff, List.countP_eq_zero, List.all_eq_true]
 constructor
 ·intro h j hj
  have hj := List.mem_range.1 hj
  have := h _ (List.getElem_mem hj)
  unfold bI
  rw [rd_nat cs j hj]
  simpa using this
 ·intro h c hc
  obtain ⟨j, hj, rfl⟩ := List.getElem_of_mem hc
  have := h j (List.mem_range.2 hj)
  unfold bI at this
  rw [rd_nat cs j hj] at this
  simpa using this
theorem bare_l0 (cs : List Int) (hc : cs.length ≤ 36) (w h : Int) : ∀ (m t : Nat), t + m = cs.length → Ev (fun k => spec_cnBare.l0 k (((cs.take t).count 46 : Nat) : Int) cs (cs.length : Int) (t : Int) w h cs) (w, h, cs, ((cs.count 46 : Nat) : Int), true)
 | 0, t, ht => by
  obtain rfl : t = cs.length := by omega
  refine Ev.step (Ev.const rfl) fun k => ?_
  rw [spec_cnBare.l0, if_neg (by omega), List.take_length]
 | m + 1, t, ht => by
  have ih := bare_l0 cs hc w h m (t + 1) (by omega)
  have hwt : wrap64 ((t : Int) + 1) = ((t + 1 : Nat) : Int) := by rw [w64 (by omega) (by omega)]; omega
  have hlt : t < cs.length := by omega
  have hcnt : (cs.take t).count 46 ≤ t := Nat.le_trans List.count_le_length (by rw [List.length_take]; omega)
  rw [List.take_succ_eq_append_getElem hlt, List.count_append, List.count_singleton] at ih
  refine Ev.step ih fun k => ?_
  rw [spec_cnBare.l0, if_pos (by omega), if_pos (by omega), if_pos (by omega), hwt, rd_nat cs t hlt]
  by_cases h4 : cs[t] = 46
  ·rw [if_pos h4, h4, w64 (by omega) (by omega)]
   rfl
  ·rw [if_neg h4]
   simp [h4]
theorem cnBare_ev (t : ByteArray) : Ev (fun k => spec_cnBare.f k t) (match trayOf t with | none => (0, 0, [], 0, false) | some (w, h, cs) => if noB cs = true then (w, h, cs, ((cs.count 46 : Nat) : Int), true) else (w, h, cs, 0, false)) := by
 refine Ev.bind (f := fun k (bt102 : Int × Int × List Int × Bool) => (if bt102.2.2.2 = true then ((spec_tyBalls.f k bt102.1 bt102.2.1 bt102.2.2.1).bind fun t109 => (spec_cnBare.j0 k (decide ((t109.length : Int) > 0)) bt102.1 bt102.2.1 bt102.2.2.1)) else (spec_cnBare.j0 k true bt102.1 bt102.2.1 bt102.2.2.1))) (tyRead_ev t) ?_
 rcases ht : trayOf t with _ | ⟨w, h, cs⟩
 ·refine Ev.congr (g' := fun k => spec_cnBare.j0 k true 0 0 []) (Ev.step (Ev.const rfl) fun k => ?_) fun k => if_neg (by decide)
  rw [spec_cnBare.j0, if_pos rfl]
 ·have hl : cs.length ≤ 36 := form_len ht
  refine Ev.congr (Ev.bind (f := fun k t109 => spec_cnBare.j0 k (decide ((t109.length : Int) > 0)) w h cs) (tyBalls_ev cs hl w h) ?_) fun k => if_pos rfl
  show Ev _ (if noB cs = true then _ else _)
  by_cases hb : noB cs = true
  ·rw [if_pos hb]
   rw [noB_balls, decide_eq_true_iff] at hb
   have h0 := bare_l0 cs hl w h cs.length 0 (by omega)
   rw [List.take_zero, List.count_nil] at h0
   refine Ev.step h0 fun k => ?_
   rw [spec_cnBare.j0, hb, if_neg (by decide)]
   rfl
  ·rw [if_neg hb]
   rw [noB_balls, decide_eq_true_iff] at hb
   refine Ev.step (Ev.const rfl) fun k => ?_
   rw [spec_cnBare.j0, if_pos (decide_eq_true (by omega))]
theorem bare_set : ∀ n : Fin 256, (isCellB (UInt8.ofNat n.val) = true) → (([35, 46, 47] : List UInt8).contains (UInt8.ofNat n.val) = !isB (n.val : Int)) := by decide +kernel
theorem bare_byte (b : UInt8) (h : isCellB b = true) : ([35, 46, 47] : List UInt8).contains b = !isB (b.toNat : Int) := by
 have h2 := bare_set ⟨b.toNat, b.toNat_lt⟩
 simpa using h2 (by simpa using h)
theorem isEmptied_ev (t : ByteArray) (hs : t.size ≤ 1048576) : Ev (fun k => impl_isEmptied.f k t) (match trayOf t with | none => false | some (_, _, cs) => noB cs) := by
 refine Ev.bind (f := fun _ (t101 : Bool) => (if t101 = true then ((strings_Trim.f t (⟨#[35, 46, 47]⟩ : ByteArray)).bind fun t102 => (some (t102.toList == ([] : List UInt8)))) else (some false))) (isTray_ev t hs) ?_
 rcases ht : trayOf t with _ | ⟨w, h, cs⟩
 ·exact Ev.congr (Ev.const rfl) fun k => if_neg (by simp)
 ·obtain ⟨r, hr, hr2⟩ := trim_tell t ⟨#[35, 46, 47]⟩ hs (by decide) (by decide)
  refine Ev.congr (Ev.const (o := some (r.toList == ([] : List UInt8))) ?_) fun k => by rw [if_pos (show (some (w, h, cs)).isSome = true from rfl), hr]; rfl
  congr 1
  show _ = noB cs
  have hk : okRows (rows 47 t.data.toList) ∧ cs = ints (rows 47 t.data.toList).flatten := by
   unfold trayOf trayRows at ht
   split at ht
   ·rename_i hk
    have h1 := Option.some.inj ht
    exact ⟨hk, (congrArg (fun z => z.2.2) h1).symm⟩
   ·cases ht
  obtain ⟨hk, rfl⟩ := hk
  have hcell : ∀ b ∈ (rows 47 t.data.toList).flatten, isCellB b = true := fun b hb => by
   obtain ⟨row, h1, h2⟩ := List.mem_flatten.1 hb
   exact List.all_eq_true.1 (hk.2.1 row h1).2 b h2
  rw [Bool.eq_iff_iff, beq_iff_eq, hr2]
  unfold noB ints
  rw [List.all_map, List.all_eq_true]
  constructor
  ·intro h1 b hb
   have h2 := h1 b ((rows_mem 47 b _).1 hb).1
   have h3 := bare_byte b (hcell b hb)
   show (!isB (b.toNat : Int)) = true
   rw [← h3]
   exact h2
  ·intro h1 b hb
   by_cases h47 : b = 47
   ·subst h47
    decide
   ·have h4 := (rows_mem 47 b t.data.toList).2 ⟨hb, h47⟩
    have h3 := bare_byte b (hcell b h4)
    show ([35, 46, 47] : List UInt8).contains b = true
    rw [h3]
    exact h1 b h4
end Go.Proofs.YtcpeldgnabfdmaaDoor.Q
end
section
namespace Go.Proofs.YtcpeldgnabfdmaaDoor.Q
set_option linter.unusedSectionVars false
open Go.RowKit Go.Proofs.YtcpeldgnabfdmaaDoorW.PrintWords Go.Proofs.YtcpeldgnabfdmaaDoorW.PrintLast Go.Proofs.YtcpeldgnabfdmaaDoorW.PrintMore
theorem dirI_nat {s : ByteArray} (h : 0 ≤ dirI s) : ∃ d : Nat, d < 4 ∧ dirI s = d ∧ s = ⟨#[dirB d]⟩ := by
 rcases dirI_cases s with ⟨e, _⟩ | ⟨d, hd4, e, e2⟩
 ·omega
 ·exact ⟨d, hd4, e, one_byte_of e2⟩
theorem bt_dir : ∀ d : Fin 4, (0 : Int) < ((⟨#[dirB d.val]⟩ : ByteArray).size : Int) ∧ bt (⟨#[dirB d.val]⟩ : ByteArray) 0 = dirC d.val := by decide
end Go.Proofs.YtcpeldgnabfdmaaDoor.Q
end
section
namespace Go.Proofs.YtcpeldgnabfdmaaDoor.Q
set_option linter.unusedSectionVars false
open Go.RowKit Go.Proofs.YtcpeldgnabfdmaaDoorW.PrintWords Go.Proofs.YtcpeldgnabfdmaaDoorW.PrintLast Go.Proofs.YtcpeldgnabfdmaaDoorW.PrintMore
def jn : List (List UInt8) → List UInt8
 | [] => []
 | [r] => r
 | r :: s :: rs => r ++ 47 :: jn (s :: rs)
def rowL (l : List Int) (c k : Nat) : List UInt8 := ((l.drop (k * c)).take c).map fun n => UInt8.ofNat n.toNat
def txL (l : List Int) (c n : Nat) : List UInt8 := jn ((List.range n).map (rowL l c))
def tx (l : List Int) (c n : Nat) : ByteArray := ⟨(txL l c n).toArray⟩
theorem tx_list (l : List Int) (c n : Nat) : (tx l c n).data.toList = txL l c n := rfl
theorem ba_ext {a b : ByteArray} (h : a.data.toList = b.data.toList) : a = b := by
 obtain ⟨⟨a⟩⟩ := a
 obtain ⟨⟨b⟩⟩ := b
 simp at h
 rw [h]
def cellsOK (cs : List Int) : Prop := ∀ c ∈ cs, ∃ b : UInt8, c = (b.toNat : Int) ∧ isCellB b = true
theorem jn_rows : ∀ l : List UInt8, jn (rows 47 l) = l
 | [] => rfl
 | b :: l => by
  have ih := jn_rows l
  unfold rows
  split
  ·rename_i e
   subst e
   cases hr : rows 47 l with
   | nil => exact absurd hr (rows_ne 47 l)
   | cons r rs =>
    rw [hr] at ih
    show [] ++ 47 :: jn (r :: rs) = _
    rw [ih]
    rfl
  ·split
   ·rename_i e
    exact absurd e (rows_ne 47 l)
   ·rename_i r rs e
    rw [e] at ih
    cases rs with
    | nil =>
     show b :: r = _
     rw [show r = l from ih]
    | cons s rs =>
     show (b :: r) ++ 47 :: jn (s :: rs) = _
     rw [List.cons_append]
     congr 1
theorem row_back : ∀ (rs : List (List UInt8)) (c : Nat), (∀ r ∈ rs, r.length = c) → (List.range rs.length).map (rowL (ints rs.flatten) c) = rs
 | [], _, _ => rfl
 | r :: rs, c, h => by
  have hr := h r List.mem_cons_self
  have hb : ∀ l : List UInt8, (ints l).map (fun n => UInt8.ofNat n.toNat) = l := by
   intro l
   unfold ints
   rw [List.map_map]
   exact (List.map_congr_left fun b _ => by simp).trans (List.map_id _)
  rw [List.length_cons, List.range_succ_eq_map, List.map_cons, List.map_map]
  have h0 : rowL (ints (r :: rs).flatten) c 0 = r := by
   unfold rowL
   rw [Nat.zero_mul, List.drop_zero, List.flatten_cons, ints_append, List.take_left' (by rw [ints_length]; exact hr), hb]
  rw [h0]
  congr 1
  refine Eq.trans (List.map_congr_left fun k _ => ?_) (row_back rs c fun x hx => h x (List.mem_cons_of_mem _ hx))
  show rowL (ints (r :: rs).flatten) c (k + 1) = _
  unfold rowL
  rw [List.flatten_cons, ints_append, Nat.succ_mul, Nat.add_comm, ← List.drop_drop, List.drop_left' (by rw [ints_length]; exact hr)]
theorem tray_own {t : ByteArray} {w h : Nat} {cs : List Int} (ht : trayOf t = some ((w : Int), (h : Int), cs)) : cellsOK cs ∧ tx cs w h = t ∧ cs = ints (rows 47 t.data.toList).flatten := by
 unfold trayOf trayRows at ht
 split at ht
 case isFalse => cases ht
 rename_i hk
 have h1 := Option.some.inj ht
 have hw : tw (rows 47 t.data.toList) = w := by have := congrArg (fun z => z.1) h1; simp only at this; omega
 have hh : (rows 47 t.data.toList).length = h := by have := congrArg (fun z => z.2.1) h1; simp only at this; omega
 have hc : ints (rows 47 t.data.toList).flatten = cs := congrArg (fun z => z.2.2) h1
 refine ⟨fun c hm => ?_, ?_, hc.symm⟩
 ·rw [← hc] at hm
  unfold ints at hm
  obtain ⟨b, hb, rfl⟩ := List.mem_map.1 hm
  obtain ⟨row, r1, r2⟩ := List.mem_flatten.1 hb
  exact ⟨b, rfl, List.all_eq_true.1 (hk.2.1 row r1).2 b r2⟩
 ·refine ba_ext ?_
  rw [tx_list]
  unfold txL
  rw [← hc, ← hh, row_back (rows 47 t.data.toList) w fun r hr => by rw [← hw]; exact (hk.2.1 r hr).1, jn_rows]
end Go.Proofs.YtcpeldgnabfdmaaDoor.Q
end
section
namespace Go.Proofs.YtcpeldgnabfdmaaDoor.Q
open Go.RowKit Go.Shelf Go.Proofs.YtcpeldgnabfdmaaDoorW.PrintWords Go.Proofs.YtcpeldgnabfdmaaDoorW.PrintLast Go.Proofs.YtcpeldgnabfdmaaDoorW.PrintMore
set_option linter.unusedSectionVars false
def opensTo (cs : List Int) (t : Nat) : List Int := ((List.range t).filter fun j : Nat => rd cs (j : Int) != 35).map fun j : Nat => (j : Int)
theorem opensTo_succ (cs : List Int) (t : Nat) : opensTo cs (t + 1) = opensTo cs t ++ if (rd cs (t : Int) != 35) = true then [(t : Int)] else [] := by
 unfold opensTo
 rw [List.range_succ, List.filter_append, List.map_append]
 congr 1
 by_cases hm : (rd cs (t : Int) != 35) = true
 ·rw [if_pos hm]; simp [hm]
 ·rw [if_neg hm]; simp [hm]
theorem opensTo_len (cs : List Int) (t : Nat) : (opensTo cs t).length ≤ t := by
 unfold opensTo
 rw [List.length_map]
 have := List.length_filter_le (fun j : Nat => rd cs (j : Int) != 35) (List.range t)
 rw [List.length_range] at this
 exact this
theorem opens_l0 (cs : List Int) (hc : cs.length ≤ 36) : ∀ (m t : Nat), t + m = cs.length → Ev (fun k => impl_tray_indices_isOpen.l0 k (opensTo cs t) cs cs.length t) (opensTo cs cs.length)
 | 0, t, ht => by
  obtain rfl : t = cs.length := by omega
  refine Ev.step (Ev.const rfl) fun k => ?_
  rw [impl_tray_indices_isOpen.l0, if_neg (by omega)]
 | m + 1, t, ht => by
  have ih := opens_l0 cs hc m (t + 1) (by omega)
  have c6 : (opensTo cs t).length < 17592186044416 := Nat.lt_of_le_of_lt (Nat.le_trans (opensTo_len cs t) (show t ≤ 36 by omega)) (by decide)
  rw [opensTo_succ] at ih
  refine Ev.step ih fun k => ?_
  rw [impl_tray_indices_isOpen.l0, if_pos (by omega), if_pos (by omega), if_pos (by omega), wr1 t (by omega)]
  show (if (rd cs (t : Int) != 35) = true then _ else _) = _
  by_cases h1 : (rd cs (t : Int) != 35) = true
  ·rw [if_pos h1, if_pos c6, if_pos h1]
  ·rw [if_neg h1, if_neg h1, List.append_nil]
theorem opens_count (cs : List Int) (h : ∀ c ∈ cs, c = 35 ∨ c = 46) : ∀ t, t ≤ cs.length → (opensTo cs t).length = (cs.take t).count 46
 | 0, _ => by simp [opensTo]
 | t + 1, ht => by
  have hlt : t < cs.length := ht
  rw [opensTo_succ, List.length_append, opens_count cs h t (by omega), List.take_succ_eq_append_getElem hlt, List.count_append, List.count_singleton, rd_nat cs t hlt]
  rcases h _ (List.getElem_mem hlt) with e | e <;> rw [e] <;> simp
theorem bare_cell : ∀ n : Fin 256, isCellB (UInt8.ofNat n.val) = true → isB (n.val : Int) = false → (n.val : Int) = 35 ∨ (n.val : Int) = 46 := by decide +kernel
theorem bare_two {cs : List Int} (hc : cellsOK cs) (hb : noB cs = true) : ∀ c ∈ cs, c = 35 ∨ c = 46 := by
 intro c hm
 obtain ⟨b, rfl, h2⟩ := hc c hm
 have h3 := List.all_eq_true.1 hb _ hm
 exact bare_cell ⟨b.toNat, b.toNat_lt⟩ (by simpa using h2) (by simpa using h3)
theorem isStocked_ev (t : ByteArray) (hs : t.size ≤ 1048576) (a : Int) : Ev (fun k => impl_isStocked.f k t a) (match trayOf t with | none => false | some (_, _, cs) => noB cs && decide (0 ≤ a ∧ a ≤ ((cs.count 46 : Nat) : Int))) := by
 refine Ev.bind (f := fun k (t101 : Bool) => (if t101 = true then ((impl_read.f t).bind fun bt102 => ((impl_tray_indices_isOpen.f k bt102.1 bt102.2.1 bt102.2.2 ()).bind fun t107 => ((impl_within.f a 0 (t107.length : Int)).bind fun t110 => (some t110)))) else (some false))) (isEmptied_ev t hs) ?_
 rcases ht : trayOf t with _ | ⟨w, h, cs⟩
 ·exact Ev.congr (Ev.const rfl) fun k => if_neg Bool.false_ne_true
 ·have hread := tray_read ht
  obtain ⟨w, h, cs, e, hw1, hw, hh1, hh, hs, hn⟩ := tray_parts ht
  injection e with e1 e2
  injection e2 with e2 e3
  subst e1 e2 e3
  show Ev _ (noB cs && _)
  by_cases hb : noB cs = true
  ·have h0 : Ev (fun k => impl_tray_indices_isOpen.f k w h cs ()) (opensTo cs cs.length) := opens_l0 cs (by omega) cs.length 0 (by omega)
   have hlen := opens_count cs (bare_two (tray_own ht).1 hb) cs.length (Nat.le_refl _)
   rw [List.take_length] at hlen
   refine Ev.congr (Ev.bind (f := fun _ t107 => ((impl_within.f a 0 (t107.length : Int)).bind fun t110 => (some t110))) h0 (Ev.const ?_)) fun k => ?_
   ·rw [within_eq, Option.bind_some, hlen, hb, Bool.true_and]
   ·simp only [hb, if_true, hread, Option.bind_some]
  ·have hb : noB cs = false := by simpa using hb
   refine Ev.congr (Ev.const (o := some false) (by rw [hb]; rfl)) fun k => ?_
   simp [hb]
end Go.Proofs.YtcpeldgnabfdmaaDoor.Q
end
section
namespace Go.Proofs.YtcpeldgnabfdmaaDoor.Q
set_option linter.unusedSectionVars false
open Go.RowKit Go.Proofs.YtcpeldgnabfdmaaDoorW.PrintWords Go.Proofs.YtcpeldgnabfdmaaDoorW.PrintLast Go.Proofs.YtcpeldgnabfdmaaDoorW.PrintMore
def lk (x : Int) : Lit := .int .i64 x
structure Holds (D : DataW Unit) (f : Int → Option Int) : Prop where
 map : Maps.IsMap D
 at' : ∀ (x : Int) (z : DataW Unit), D.atKey (lk x) z = match f x with | some c => .lit (lk c) | none => z
 has' : ∀ x : Int, Maps.has D (lk x) = (f x).isSome
end Go.Proofs.YtcpeldgnabfdmaaDoor.Q
end
section
namespace Go.Proofs.YtcpeldgnabfdmaaDoor.Q
open Go.RowKit Go.Shelf Go.Proofs.YtcpeldgnabfdmaaDoorW.PrintWords Go.Proofs.YtcpeldgnabfdmaaDoorW.PrintLast Go.Proofs.YtcpeldgnabfdmaaDoorW.PrintMore
set_option linter.unusedSectionVars false
section
variable {w h : Nat} {cs : List Int} (hw : w ≤ 7) (hh : h ≤ 7) (hs : w * h ≤ 36) {d : Nat} (hd : d < 4)
include hw hh hs hd
theorem str_flat : (strL w h cs d).flatten.Nodup := (List.mergeSort_perm (cutsL w h cs d) leM).flatten.nodup_iff.2 (cuts_nodup hw hh hs hd)
theorem str_in (hn : cs.length = w * h) : ∀ s ∈ strL w h cs d, s.length ≤ 1000 ∧ ∀ x ∈ s, 0 ≤ x ∧ x < (cs.length : Int) := fun s hm => by
 obtain ⟨h1, h2⟩ := cuts_in hw hh hs hd hn s ((List.mergeSort_perm (cutsL w h cs d) leM).subset hm)
 exact ⟨h1, fun x hx => by rw [hn]; exact h2 x hx⟩
theorem str_total (hn : cs.length = w * h) : (strL w h cs d).flatten.length ≤ w * h := nodup_len (w * h) _ (str_flat hw hh hs hd) fun x hx => by
 obtain ⟨s, h1, h2⟩ := List.mem_flatten.1 hx
 rw [← hn]
 exact (str_in hw hh hs hd hn s h1).2 x h2
omit hw hh hs hd in
omit hw hh hs hd in
end
end Go.Proofs.YtcpeldgnabfdmaaDoor.Q
end
section
namespace Go.Proofs.YtcpeldgnabfdmaaDoor.Q
set_option linter.unusedSectionVars false
open Go.RowKit Go.Proofs.YtcpeldgnabfdmaaDoorW.PrintWords Go.Proofs.YtcpeldgnabfdmaaDoorW.PrintLast Go.Proofs.YtcpeldgnabfdmaaDoorW.PrintMore
open Classical
theorem l1In_val (a lo hi : Int) : spec_l1In.f a lo hi = some (decide (lo ≤ a ∧ a ≤ hi)) := by
 unfold spec_l1In.f
 by_cases h : a ≥ lo
 ·rw [if_pos h]
  congr 1
  exact decide_eq_decide.2 (by omega)
 ·rw [if_neg h, decide_eq_false (by omega)]
section
variable {w h : Nat} {cs : List Int} (hw : w ≤ 7) (hh : h ≤ 7) (hs : w * h ≤ 36) {d : Nat} (hd : d < 4)
include hw hh hs hd
theorem opens_str (hn : cs.length = w * h) : (opensTo cs cs.length).length ≤ (strL w h cs d).flatten.length := by
 refine sub_len _ _ ?_ fun x hx => ?_
 ·unfold opensTo
  refine List.pairwise_map.2 (List.Pairwise.imp (fun {a b} hab e => hab (by omega)) (List.nodup_range.filter _))
 ·unfold opensTo at hx
  obtain ⟨j, hj, rfl⟩ := List.mem_map.1 hx
  obtain ⟨h1, h2⟩ := List.mem_filter.1 hj
  refine ((List.mergeSort_perm (cutsL w h cs d) leM).flatten.mem_iff).2 ?_
  rw [cuts_flat]
  exact List.mem_filter.2 ⟨(lines_ok hw hh hs hd).2.1 j (by have := List.mem_range.1 h1; omega), by simpa using h2⟩
end
def CountStillWithR (t s : ByteArray) (a : Int) : Int × Bool := match trayOf t with
 | none => (0, false)
 | some (w, h, cs) => if (noB cs = true ∧ 0 ≤ dirI s) ∧ 0 ≤ a ∧ a ≤ ((cs.count 46 : Nat) : Int) then (rd (waysI (strL w.toNat h.toNat cs (dirI s).toNat) [1]) a, true) else (0, false)
theorem cnDir_ev (t s : ByteArray) (a : Int) : Ev (fun k => spec_cnDir.f k t s a) (match trayOf t with | none => (0, 0, [], dirI s, false) | some (w, h, cs) => (w, h, cs, dirI s, decide ((noB cs = true ∧ 0 ≤ dirI s) ∧ 0 ≤ a ∧ a ≤ ((cs.count 46 : Nat) : Int)))) := by
 refine Ev.bind (f := fun k (bt102 : Int × Int × List Int × Int × Bool) => ((spec_tiDir.f k s).bind fun t110 => (if bt102.2.2.2.2 = true then (if t110 ≥ 0 then ((spec_l1In.f a 0 bt102.2.2.2.1).bind fun t111 => (some (bt102.1, bt102.2.1, bt102.2.2.1, t110, t111))) else (some (bt102.1, bt102.2.1, bt102.2.2.1, t110, false))) else (some (bt102.1, bt102.2.1, bt102.2.2.1, t110, false))))) (cnBare_ev t) ?_
 refine Ev.bind (f := fun k t110 => _) (tiDir_ev s) (Ev.const ?_)
 rcases ht : trayOf t with _ | ⟨w, h, cs⟩
 ·exact if_neg Bool.false_ne_true
 ·by_cases hb : noB cs = true
  ·simp only [hb, if_true, true_and]
   by_cases hd : 0 ≤ dirI s
   ·rw [if_pos hd, l1In_val, Option.bind_some]
    simp [hd]
   ·rw [if_neg hd]
    simp [hd]
  ·have hb : noB cs = false := by simpa using hb
   simp [hb]
theorem specCountStillWith_ev (t s : ByteArray) (a : Int) : Ev (fun k => spec_CountStillWith.f k t s a) (CountStillWithR t s a) := by
 refine Ev.bind (f := fun k (bt101 : Int × Int × List Int × Int × Bool) => (if bt101.2.2.2.2 = true then ((spec_cnStillWith.f k bt101.1 bt101.2.1 bt101.2.2.1 bt101.2.2.2.1 a).bind fun t109 => (some (t109, true))) else (some (0, false)))) (cnDir_ev t s a) ?_
 unfold CountStillWithR
 rcases ht : trayOf t with _ | ⟨w, h, cs⟩
 ·exact Ev.congr (Ev.const rfl) fun k => if_neg Bool.false_ne_true
 ·obtain ⟨w, h, cs, e, hw1, hw, hh1, hh, hs, hn⟩ := tray_parts ht
  injection e with e1 e2
  injection e2 with e2 e3
  subst e1 e2 e3
  have hz : 0 < w * h := Nat.mul_pos hw1 hh1
  show Ev _ (if (noB cs = true ∧ 0 ≤ dirI s) ∧ 0 ≤ a ∧ a ≤ ((cs.count 46 : Nat) : Int) then _ else _)
  by_cases hc : (noB cs = true ∧ 0 ≤ dirI s) ∧ 0 ≤ a ∧ a ≤ ((cs.count 46 : Nat) : Int)
  ·rw [if_pos hc]
   obtain ⟨d, hd4, e, _⟩ := dirI_nat hc.1.2
   rw [e]
   simp only [Int.toNat_natCast]
   obtain ⟨B, rfl⟩ := Int.eq_ofNat_of_zero_le hc.2.1
   have hcnt : cs.count 46 ≤ cs.length := List.count_le_length
   have hm := cuts_many hw hh hs hd4 (cs := cs)
   have hm2 : (strL w h cs d).length = (cutsL w h cs d).length := by unfold strL; exact List.length_mergeSort _
   have hB := hc.2.2
   have hcut : cutOf [1] ((List.replicate (B + 1) 0).set 0 1) B := by
    refine ⟨by simp, fun t ht => ?_⟩
    rw [rd_setN _ _ _ _ (by simp), rd_zeros]
    by_cases e : t = 0
    ·rw [if_pos e, if_pos (by simp [e]), e]
     rfl
    ·rw [if_neg e, if_neg (by simp; omega)]
   have hop := opens_str hw hh hs hd4 hn
   have hct := opens_count cs (bare_two (tray_own ht).1 hc.1.1) cs.length (Nat.le_refl _)
   rw [List.take_length] at hct
   have hwl := waysI_len (strL w h cs d) [1]
   rw [List.length_singleton] at hwl
   have hval := (ways_cut B (strL w h cs d) _ _ hcut).2 B (Nat.le_refl _)
   rw [if_pos (by omega)] at hval
   rw [← hval]
   have h0 := wS_l0 B (by omega) (strL w h cs d) (strL w h cs d) 0 ((List.replicate (B + 1) 0).set 0 1) rfl (Nat.zero_le _) (by omega) (fun S hS => (str_in hw hh hs hd4 hn S hS).1) (by simp)
   have hbig : B + 1 ≤ 35184372088832 := Nat.le_trans (show B + 1 ≤ 37 by omega) (by decide)
   refine Ev.congr (Ev.bind (f := fun _ t109 => some (t109, true)) (g := fun k => spec_cnStillWith.f k w h cs d B) (Ev.congr (Ev.bind (f := fun k t106 => spec_cnStillWith.l0 k (B : Int) ((List.replicate (B + 1) 0).set 0 1) t106 (t106.length : Int) 0) (tiStretches_ev hw hh hs hd4 hn) h0) fun k => ?_) (Ev.const rfl)) fun k => ?_
   ·unfold spec_cnStillWith.f
    rw [wr1 B (by omega), if_pos (by omega), Int.toNat_natCast, if_pos hbig, Option.bind_some, if_pos (by first | (simp; done) | (simp; omega))]
    rfl
   ·rw [e] at hc
    exact if_pos (decide_eq_true hc)
  ·rw [if_neg hc]
   exact Ev.congr (Ev.const rfl) fun k => if_neg (by simp only [decide_eq_true_eq]; exact hc)
theorem implCountStillWith_ev (t s : ByteArray) (a : Int) (ht0 : t.size ≤ 1048576) (_hs0 : s.size ≤ 1048576) : Ev (fun k => impl_CountStillWith.f k t s a) (CountStillWithR t s a) := by
 refine Ev.bind (f := fun k (t101 : Bool) => (if t101 = true then ((impl_isDir.f s).bind fun t102 => (impl_CountStillWith.j0 k t s a (!t102))) else (impl_CountStillWith.j0 k t s a true))) (isStocked_ev t ht0 a) ?_
 have hno : Ev (fun k => impl_CountStillWith.j0 k t s a true) (0, false) := by
  refine Ev.step (Ev.const (o := some (0, false)) rfl) fun k => ?_
  rw [impl_CountStillWith.j0, if_pos rfl]
 unfold CountStillWithR
 rcases ht : trayOf t with _ | ⟨w, h, cs⟩
 ·exact Ev.congr hno fun k => if_neg Bool.false_ne_true
 ·have hread := tray_read ht
  obtain ⟨w, h, cs, e, hw1, hw, hh1, hh, hs, hn⟩ := tray_parts ht
  injection e with e1 e2
  injection e2 with e2 e3
  subst e1 e2 e3
  have hz : 0 < w * h := Nat.mul_pos hw1 hh1
  show Ev _ (if (noB cs = true ∧ 0 ≤ dirI s) ∧ 0 ≤ a ∧ a ≤ ((cs.count 46 : Nat) : Int) then _ else _)
  by_cases hc : (noB cs = true ∧ 0 ≤ dirI s) ∧ 0 ≤ a ∧ a ≤ ((cs.count 46 : Nat) : Int)
  ·rw [if_pos hc]
   obtain ⟨⟨c1, c2⟩, c3⟩ := hc
   obtain ⟨d, hd4, e, rfl⟩ := dirI_nat c2
   have hdec : decide (0 ≤ dirI ⟨#[dirB d]⟩) = true := decide_eq_true c2
   rw [e]
   simp only [Int.toNat_natCast]
   obtain ⟨b1, b2⟩ := bt_dir ⟨d, hd4⟩
   simp only at b1 b2
   obtain ⟨B, rfl⟩ := Int.eq_ofNat_of_zero_le c3.1
   have hcnt : cs.count 46 ≤ cs.length := List.count_le_length
   have hm := cuts_many hw hh hs hd4 (cs := cs)
   have hm2 : (strL w h cs d).length = (cutsL w h cs d).length := by unfold strL; exact List.length_mergeSort _
   have hB := c3.2
   have hop := opens_str hw hh hs hd4 hn
   have htot := str_total hw hh hs hd4 hn
   have hct := opens_count cs (bare_two (tray_own ht).1 c1) cs.length (Nat.le_refl _)
   rw [List.take_length] at hct
   have hwl := waysI_len (strL w h cs d) [1]
   rw [List.length_singleton] at hwl
   have h0 := wI_l0 B (strL w h cs d) (strL w h cs d) 0 [1] rfl (Nat.zero_le _) (by omega) (by rw [List.length_singleton]; omega) (by omega)
   refine Ev.congr (Ev.step (g := fun k => impl_CountStillWith.j0 k t ⟨#[dirB d]⟩ B false) (Ev.bind (f := fun k t111 => impl_CountStillWith.l0 k B ([1] : List Int) t111 (t111.length : Int) 0) (stretches_ev hw hh hs hd4 hw1 hh1 hn) h0) fun k => ?_) fun k => ?_
   ·rw [impl_CountStillWith.j0, if_neg (by decide), hread, Option.bind_some, if_pos b1, b2]
   ·rw [if_pos (show (noB cs && decide (0 ≤ (B : Int) ∧ (B : Int) ≤ ((cs.count 46 : Nat) : Int))) = true by rw [c1, Bool.true_and, decide_eq_true_iff]; exact c3), isDir_eq, Option.bind_some, hdec]
    rfl
  ·rw [if_neg hc]
   by_cases h1 : (noB cs && decide (0 ≤ a ∧ a ≤ ((cs.count 46 : Nat) : Int))) = true
   ·have hd : ¬ 0 ≤ dirI s := fun h2 => by
     simp only [Bool.and_eq_true, decide_eq_true_eq] at h1
     exact hc ⟨⟨h1.1, h2⟩, h1.2⟩
    refine Ev.congr hno fun k => ?_
    rw [if_pos h1, isDir_eq, Option.bind_some, decide_eq_false hd]
    rfl
   ·exact Ev.congr hno fun k => if_neg h1
end Go.Proofs.YtcpeldgnabfdmaaDoor.Q
end
