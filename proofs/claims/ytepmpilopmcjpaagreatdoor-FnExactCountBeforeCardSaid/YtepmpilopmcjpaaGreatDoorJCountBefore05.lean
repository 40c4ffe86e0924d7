/- Texts of this claim, joined. -/
import Derived.Test.YtepmpilopmcjpaaGreatDoorJCountBefore01
import Derived.Test.YtepmpilopmcjpaaGreatDoorJCountBefore04
import Derived.Test.YtepmpilopmcjpaaGreatDoorJCountBefore03
import Derived.Test.YtepmpilopmcjpaaGreatDoorJCountBefore02
set_option linter.unusedVariables false
set_option linter.unusedSimpArgs false
set_option linter.unusedSectionVars false
section
namespace Go.Proofs.YtepmpilopmcjpaaGreatDoor.Q
open Go.RowKit Go.Proofs.YtepmpilopmcjpaaGreatDoorW.PrintWords Go.Proofs.YtepmpilopmcjpaaGreatDoorW.PrintLast Go.Proofs.YtepmpilopmcjpaaGreatDoorW.PrintMore
attribute [local go_sem] max2_int min2_int max_two min_two max_three min_three max_four min_four
set_option linter.unusedVariables false
set_option linter.unusedSimpArgs false
def spec_tiChoose.l0 : Nat → Int → Int → Int → Int → Option (Int)
 | 0, _, _, _, _ => none
 | k + 1, x0, x1, x5, x6 => if x6 < x1 then (if (wrap64 (x6 + 1)) = 0 then (none) else (spec_tiChoose.l0 k x0 x1 (wrap64 (Int.tdiv (wrap64 (x5 * (wrap64 (x0 - x6)))) (wrap64 (x6 + 1)))) (wrap64 (x6 + 1)))) else (some x5)
def spec_tiChoose.f (k : Nat) (a0 : Int) (a1 : Int) : Option (Int) := spec_tiChoose.l0 k a0 a1 1 0
set_option maxHeartbeats 8000000 in
set_option maxRecDepth 100000 in
theorem spec_tiChoose.calls (k : Nat) (a0 : Int) (a1 : Int) (r : Int) (w : World) (h : spec_tiChoose.f k a0 a1 = some r) :
  Calls Tryz.prog 31 #[.int .i64 a0, .int .i64 a1] w fun e w' => e = .returned (.int .i64 r) ∧ Drawn0 w w' := by
 have H : (spec_tiChoose.l0 k a0 a1 1 0) = some r := h
 clear h
 have H' := Aside0.mk H
 clear H
 go_enter Tryz.func31, Tryz.ntmps31
 go_wp2
 go_loopg [5, 6] k (fun kq v5 v6 w' => ∃ (x5_1 : Int) (x6_1 : Int), v5 = .int .i64 x5_1 ∧ v6 = .int .i64 x6_1 ∧ Aside0 (spec_tiChoose.l0 kq a0 a1 x5_1 x6_1 = some r) ∧ Aside0 (kq ≤ k) ∧ Drawn0 w w')
 case atStart => exact ⟨(1), (0), (by first | rfl | (simp; done) | (simp [*]; done)), (by first | rfl | (simp; done) | (simp [*]; done)), H', ⟨Nat.le_refl _⟩, by repeat (first | exact Drawn0.refl _ | apply Drawn0.step)⟩
 case round =>
  clear H'
  try clear p2
  obtain ⟨x5_1, x6_1, rfl, rfl, HA, HK1, ⟨m1, rfl⟩⟩ := hrel
  cases gk with
  | zero => exact absurd HA.out (by simp [spec_tiChoose.l0])
  | succ k1 =>
   have H := HA.out
   clear HA
   simp only [spec_tiChoose.l0] at H
   by_cases c3 : x6_1 < a1
   ·rw [if_pos c3] at H
    have c3b0 : decide (x6_1 < a1) = true := decide_eq_true c3
    clear c3
    by_cases c4 : (wrap64 (x6_1 + 1)) = 0
    ·rw [if_pos c4] at H
     exact absurd H (by simp)
    ·rw [if_neg c4] at H
     have c4b0 : ((wrap64 (x6_1 + 1)) == 0) = false := beq_eq_false_iff_ne.mpr c4
     have c4b1 : ((wrap64 (x6_1 + 1)) != 0) = true := bne_iff_ne.mpr c4
     have H' := Aside0.mk H
     clear H
     go_wp2
     go_roundg k1
     case measure => have := HK1.out; omega
     case rel => exact ⟨(wrap64 (Int.tdiv (wrap64 (x5_1 * (wrap64 (a0 - x6_1)))) (wrap64 (x6_1 + 1)))), (wrap64 (x6_1 + 1)), (by first | rfl | (simp; done) | (simp [*]; done)), (by first | rfl | (simp; done) | (simp [*]; done)), H', ⟨by have := HK1.out; omega⟩, by repeat (first | exact Drawn0.refl _ | apply Drawn0.step)⟩
   ·rw [if_neg c3] at H
    have c3b0 : decide (x6_1 < a1) = false := decide_eq_false c3
    clear c3
    obtain rfl := Option.some.inj H
    go_wp2
    go_ret
    exact ⟨by first | rfl | (simp; done) | (simp [*]; done), by repeat (first | exact Drawn0.refl _ | apply Drawn0.step)⟩
def impl_binomial.l0 : Nat → Int → Int → Int → Int → Option (Int)
 | 0, _, _, _, _ => none
 | k + 1, x0, x5, x11, x12 => if x12 < x11 then (if (wrap64 (x12 + 1)) = 0 then (none) else (impl_binomial.l0 k x0 (wrap64 (Int.tdiv (wrap64 (x5 * (wrap64 (x0 - x12)))) (wrap64 (x12 + 1)))) x11 (wrap64 (x12 + 1)))) else (some x5)
def impl_binomial.f (k : Nat) (a0 : Int) (a1 : Int) : Option (Int) := (impl_within.f a1 0 a0).bind fun t101 => (if t101 = true then (impl_binomial.l0 k a0 1 a1 0) else (some 0))
set_option maxHeartbeats 8000000 in
set_option maxRecDepth 100000 in
theorem impl_binomial.calls (k : Nat) (a0 : Int) (a1 : Int) (r : Int) (w : World) (h : impl_binomial.f k a0 a1 = some r) :
  Calls Tryz.prog 38 #[.int .i64 a0, .int .i64 a1] w fun e w' => e = .returned (.int .i64 r) ∧ Drawn0 w w' := by
 have H : ((impl_within.f a1 0 a0).bind fun t101 => (if t101 = true then (impl_binomial.l0 k a0 1 a1 0) else (some 0))) = some r := h
 clear h
 replace H := Option.bind_eq_some_iff.mp H
 obtain ⟨t101, A30, H⟩ := H
 replace H : (if t101 = true then (impl_binomial.l0 k a0 1 a1 0) else (some 0)) = some r := H
 have A3 := Aside0.mk A30
 clear A30
 by_cases c4 : t101 = true
 ·subst c4
  have H1 : (impl_binomial.l0 k a0 1 a1 0) = some r := by rw [if_pos rfl] at H; exact H
  clear H
  have H := H1
  clear H1
  have H' := Aside0.mk H
  clear H
  go_enter Tryz.func38, Tryz.ntmps38
  go_wp2_with (first | ((with_reducible refine gate_callee (f := 69) rfl ?_); refine gcall (some 9) Tryz.func69 #[.int .i64 a1, .int .i64 0, .int .i64 a0] rfl ?_; (with_reducible refine (impl_within.calls a1 0 a0 true _ A3.out).mono ?_); rintro e w' ⟨rfl, ⟨nd, rfl⟩⟩; refine ⟨_, rfl, ?_⟩))
  go_loopg [5, 12] k (fun kq v5 v12 w' => ∃ (x5_1 : Int) (x12_1 : Int), v5 = .int .i64 x5_1 ∧ v12 = .int .i64 x12_1 ∧ Aside0 (impl_binomial.l0 kq a0 x5_1 a1 x12_1 = some r) ∧ Aside0 (kq ≤ k) ∧ Drawn0 w w')
  case atStart => exact ⟨(1), (0), (by first | rfl | (simp; done) | (simp [*]; done)), (by first | rfl | (simp; done) | (simp [*]; done)), H', ⟨Nat.le_refl _⟩, by repeat (first | exact Drawn0.refl _ | apply Drawn0.step)⟩
  case round =>
   clear H'
   try clear p2
   try clear c3
   try clear c4
   obtain ⟨x5_1, x12_1, rfl, rfl, HA, HK1, ⟨m1, rfl⟩⟩ := hrel
   cases gk with
   | zero => exact absurd HA.out (by simp [impl_binomial.l0])
   | succ k1 =>
    have H := HA.out
    clear HA
    simp only [impl_binomial.l0] at H
    by_cases c5 : x12_1 < a1
    ·rw [if_pos c5] at H
     have c5b0 : decide (x12_1 < a1) = true := decide_eq_true c5
     clear c5
     by_cases c6 : (wrap64 (x12_1 + 1)) = 0
     ·rw [if_pos c6] at H
      exact absurd H (by simp)
     ·rw [if_neg c6] at H
      have c6b0 : ((wrap64 (x12_1 + 1)) == 0) = false := beq_eq_false_iff_ne.mpr c6
      have c6b1 : ((wrap64 (x12_1 + 1)) != 0) = true := bne_iff_ne.mpr c6
      have H' := Aside0.mk H
      clear H
      go_wp2
      go_roundg k1
      case measure => have := HK1.out; omega
      case rel => exact ⟨(wrap64 (Int.tdiv (wrap64 (x5_1 * (wrap64 (a0 - x12_1)))) (wrap64 (x12_1 + 1)))), (wrap64 (x12_1 + 1)), (by first | rfl | (simp; done) | (simp [*]; done)), (by first | rfl | (simp; done) | (simp [*]; done)), H', ⟨by have := HK1.out; omega⟩, by repeat (first | exact Drawn0.refl _ | apply Drawn0.step)⟩
    ·rw [if_neg c5] at H
     have c5b0 : decide (x12_1 < a1) = false := decide_eq_false c5
     clear c5
     obtain rfl := Option.some.inj H
     go_wp2
     go_ret
     exact ⟨by first | rfl | (simp; done) | (simp [*]; done), by repeat (first | exact Drawn0.refl _ | apply Drawn0.step)⟩
 ·replace c4 := Bool.eq_false_iff.mpr c4
  subst c4
  have H1 : (some 0) = some r := by rw [if_neg (show ¬ (false = true) by decide)] at H; exact H
  clear H
  have H := H1
  clear H1
  obtain rfl := Option.some.inj H
  go_enter Tryz.func38, Tryz.ntmps38
  go_wp2_with (first | ((with_reducible refine gate_callee (f := 69) rfl ?_); refine gcall (some 9) Tryz.func69 #[.int .i64 a1, .int .i64 0, .int .i64 a0] rfl ?_; (with_reducible refine (impl_within.calls a1 0 a0 false _ A3.out).mono ?_); rintro e w' ⟨rfl, ⟨nd, rfl⟩⟩; refine ⟨_, rfl, ?_⟩))
  go_ret
  exact ⟨by first | rfl | (simp; done) | (simp [*]; done), by repeat (first | exact Drawn0.refl _ | apply Drawn0.step)⟩
end Go.Proofs.YtepmpilopmcjpaaGreatDoor.Q
end
section
namespace Go.Proofs.YtepmpilopmcjpaaGreatDoor.Q
open Go.RowKit Go.Proofs.YtepmpilopmcjpaaGreatDoorW.PrintWords Go.Proofs.YtepmpilopmcjpaaGreatDoorW.PrintLast Go.Proofs.YtepmpilopmcjpaaGreatDoorW.PrintMore
attribute [local go_sem] max2_int min2_int max_two min_two max_three min_three max_four min_four
set_option linter.unusedVariables false
set_option linter.unusedSimpArgs false
def impl_bit.f (a0 : Bool) : Option (Int) := if a0 = true then (some 1) else (some 0)
set_option maxHeartbeats 8000000 in
set_option maxRecDepth 100000 in
theorem impl_bit.calls (a0 : Bool) (r : Int) (w : World) (h : impl_bit.f a0 = some r) :
  Calls Tryz.prog 36 #[.bool a0] w fun e w' => e = .returned (.int .i64 r) ∧ Drawn0 w w' := by
 have H : (if a0 = true then (some 1) else (some 0)) = some r := h
 clear h
 by_cases c2 : a0 = true
 ·subst c2
  have H1 : (some 1) = some r := by rw [if_pos rfl] at H; exact H
  clear H
  have H := H1
  clear H1
  obtain rfl := Option.some.inj H
  go_enter Tryz.func36, Tryz.ntmps36
  go_wp2
  go_ret
  exact ⟨by first | rfl | (simp; done) | (simp [*]; done), by repeat (first | exact Drawn0.refl _ | apply Drawn0.step)⟩
 ·replace c2 := Bool.eq_false_iff.mpr c2
  subst c2
  have H1 : (some 0) = some r := by rw [if_neg (show ¬ (false = true) by decide)] at H; exact H
  clear H
  have H := H1
  clear H1
  obtain rfl := Option.some.inj H
  go_enter Tryz.func36, Tryz.ntmps36
  go_wp2
  go_ret
  exact ⟨by first | rfl | (simp; done) | (simp [*]; done), by repeat (first | exact Drawn0.refl _ | apply Drawn0.step)⟩
end Go.Proofs.YtepmpilopmcjpaaGreatDoor.Q
end
section
namespace Go.Proofs.YtepmpilopmcjpaaGreatDoor.Q
open Go.RowKit Go.Proofs.YtepmpilopmcjpaaGreatDoorW.PrintWords Go.Proofs.YtepmpilopmcjpaaGreatDoorW.PrintLast Go.Proofs.YtepmpilopmcjpaaGreatDoorW.PrintMore
attribute [local go_sem] max2_int min2_int max_two min_two max_three min_three max_four min_four
set_option linter.unusedVariables false
set_option linter.unusedSimpArgs false
mutual
def spec_CountBefore.l0 : Nat → Int → List (List Int) → Int → Int → Int → Int → List Int → Option (Int × Bool)
 | 0, _, _, _, _, _, _, _ => none
 | k + 1, x9, x32, x33, x34, x109000, x109001, x109002 => if x34 < x33 then (if 0 ≤ x34 then (if x34 < (x32.length : Int) then (spec_CountBefore.l1 k x9 (rd_Lii x32 x34) 0 x32 x33 x34 (rd_Lii x32 x34) ((rd_Lii x32 x34).length : Int) 0 x109000 x109001 x109002) else (none)) else (none)) else (some (x9, true))
def spec_CountBefore.l1 : Nat → Int → List Int → Int → List (List Int) → Int → Int → List Int → Int → Int → Int → Int → List Int → Option (Int × Bool)
 | 0, _, _, _, _, _, _, _, _, _, _, _, _ => none
 | k + 1, x9, x11, x12, x32, x33, x34, x38, x39, x40, x109000, x109001, x109002 => if x40 < x39 then (if 0 ≤ x40 then (if x40 < (x38.length : Int) then (if 0 ≤ (rd x38 x40) then (if (rd x38 x40) < (x109002.length : Int) then ((spec_tyBall.f (rd x109002 (rd x38 x40))).bind fun t121 => (if t121 = true then (spec_CountBefore.l1 k x9 x11 (wrap64 (x12 + 1)) x32 x33 x34 x38 x39 (wrap64 (x40 + 1)) x109000 x109001 x109002) else (spec_CountBefore.l1 k x9 x11 x12 x32 x33 x34 x38 x39 (wrap64 (x40 + 1)) x109000 x109001 x109002))) else (none)) else (none)) else (none)) else (none)) else ((spec_tiChoose.f k (x11.length : Int) x12).bind fun t122 => (spec_CountBefore.l0 k (wrap64 (x9 * t122)) x32 x33 (wrap64 (x34 + 1)) x109000 x109001 x109002))
end
def spec_CountBefore.f (k : Nat) (a0 : ByteArray) (a1 : ByteArray) : Option (Int × Bool) := (spec_tiRead.f k a0 a1).bind fun bt101 => (if bt101.2.2.2.2 = true then ((spec_tiTilt.f k bt101.1 bt101.2.1 bt101.2.2.1 bt101.2.2.2.1).bind fun bt109 => ((spec_tyText.f k bt109.1 bt109.2.1 bt109.2.2).bind fun t114 => (if t114.toList = a0.toList then ((spec_tiStretches.f k bt101.1 bt101.2.1 bt101.2.2.1 bt101.2.2.2.1).bind fun t115 => (spec_CountBefore.l0 k 1 t115 (t115.length : Int) 0 bt101.1 bt101.2.1 bt101.2.2.1)) else (some (0, true))))) else (some (0, false)))
set_option maxHeartbeats 8000000 in
set_option maxRecDepth 100000 in
theorem spec_CountBefore.calls (k : Nat) (a0 : ByteArray) (a1 : ByteArray) (r1 : Int) (r2 : Bool) (w : World) (h : spec_CountBefore.f k a0 a1 = some (r1, r2)) :
  Calls Tryz.prog 9 #[.string a0, .string a1] w fun e w' => e = .returned (.tuple #[.int .i64 r1, .bool r2]) ∧ Below w.heap.size w w' := by
 have hu45 := Tryz.underlying45
 have HB := Aside0.mk (Below.refl w.heap.size w)
 have H : ((spec_tiRead.f k a0 a1).bind fun bt101 => (if bt101.2.2.2.2 = true then ((spec_tiTilt.f k bt101.1 bt101.2.1 bt101.2.2.1 bt101.2.2.2.1).bind fun bt109 => ((spec_tyText.f k bt109.1 bt109.2.1 bt109.2.2).bind fun t114 => (if t114.toList = a0.toList then ((spec_tiStretches.f k bt101.1 bt101.2.1 bt101.2.2.1 bt101.2.2.2.1).bind fun t115 => (spec_CountBefore.l0 k 1 t115 (t115.length : Int) 0 bt101.1 bt101.2.1 bt101.2.2.1)) else (some (0, true))))) else (some (0, false)))) = some (r1, r2) := h
 clear h
 replace H := Option.bind_eq_some_iff.mp H
 obtain ⟨⟨t101, t102, t103, t106, t107⟩, A30, H⟩ := H
 replace H : (if t107 = true then ((spec_tiTilt.f k t101 t102 t103 t106).bind fun bt109 => ((spec_tyText.f k bt109.1 bt109.2.1 bt109.2.2).bind fun t114 => (if t114.toList = a0.toList then ((spec_tiStretches.f k t101 t102 t103 t106).bind fun t115 => (spec_CountBefore.l0 k 1 t115 (t115.length : Int) 0 t101 t102 t103)) else (some (0, true))))) else (some (0, false))) = some (r1, r2) := H
 have A3 := Aside0.mk A30
 clear A30
 by_cases c4 : t107 = true
 ·subst c4
  have H1 : ((spec_tiTilt.f k t101 t102 t103 t106).bind fun bt109 => ((spec_tyText.f k bt109.1 bt109.2.1 bt109.2.2).bind fun t114 => (if t114.toList = a0.toList then ((spec_tiStretches.f k t101 t102 t103 t106).bind fun t115 => (spec_CountBefore.l0 k 1 t115 (t115.length : Int) 0 t101 t102 t103)) else (some (0, true))))) = some (r1, r2) := by rw [if_pos rfl] at H; exact H
  clear H
  have H := H1
  clear H1
  replace H := Option.bind_eq_some_iff.mp H
  obtain ⟨⟨t109, t110, t111⟩, A50, H⟩ := H
  replace H : ((spec_tyText.f k t109 t110 t111).bind fun t114 => (if t114.toList = a0.toList then ((spec_tiStretches.f k t101 t102 t103 t106).bind fun t115 => (spec_CountBefore.l0 k 1 t115 (t115.length : Int) 0 t101 t102 t103)) else (some (0, true)))) = some (r1, r2) := H
  have A5 := Aside0.mk A50
  clear A50
  replace H := Option.bind_eq_some_iff.mp H
  obtain ⟨t114, A60, H⟩ := H
  replace H : (if t114.toList = a0.toList then ((spec_tiStretches.f k t101 t102 t103 t106).bind fun t115 => (spec_CountBefore.l0 k 1 t115 (t115.length : Int) 0 t101 t102 t103)) else (some (0, true))) = some (r1, r2) := H
  have A6 := Aside0.mk A60
  clear A60
  by_cases c7 : t114.toList = a0.toList
  ·rw [if_pos c7] at H
   have c7b0 : (t114.toList == a0.toList) = true := beq_iff_eq.mpr c7
   have c7b1 : (t114.toList != a0.toList) = false := bne_eq_false_iff_eq.mpr c7
   clear c7
   replace H := Option.bind_eq_some_iff.mp H
   obtain ⟨t115, A80, H⟩ := H
   replace H : (spec_CountBefore.l0 k 1 t115 (t115.length : Int) 0 t101 t102 t103) = some (r1, r2) := H
   have A8 := Aside0.mk A80
   clear A80
   have H' := Aside0.mk H
   clear H
   go_enter Tryz.func9, Tryz.ntmps9
   go_wp2_with (first | ((with_reducible refine gate_callee (f := 26) rfl ?_); refine gcall (some 18) Tryz.func26 #[.string a0, .string a1] rfl ?_; (with_reducible refine (spec_tiRead.calls k a0 a1 t101 t102 t103 t106 true _ A3.out).mono ?_); rintro e w9 ⟨v104, rfl, ho0, hb⟩; refine ⟨_, rfl, ?_⟩; have n0_ := Aside0.mk (Kd.R_lower ho0 (below_size (bel HB))); have n1_ := Aside0.mk (below_step (bel HB) hb); clear HB; have HO105 := n0_; have HB := n1_; clear n0_ n1_; (try clear hb); (try clear hb2); (try clear hk); (try clear hi); (try clear ho0)) | ((with_reducible refine gate_dst (N := 6) rfl ?_); refine boxE (N := 6) (cs := #[.int .i64 0, .int .i64 0, .slice none 0 0]) (t := 45) ?_; intro gb108 hg w10 hbox hb; have n0_ := Aside0.mk (Kd.R_below (rch HO105) hb); have n1_ := Aside0.mk (below_step (bel HB) hb); have n2_ := Aside0.mk (hbox); have n3_ := Aside0.mk (gsz hg (bel HB)); have n4_ := Aside0.mk (gsz hg (bel HB)); clear HO105; clear HB; have HO105 := n0_; have HB := n1_; have BK108 := n2_; have GW108 := n3_; have GE108 := n4_; clear n0_ n1_ n2_ n3_ n4_; clear hb hbox hg; have hcz11_0 : w10.cell? ⟨gb108, 0, none⟩ = some (.int .i64 0) := (blk_cell BK108.out 0).trans rfl; have hcz11_1 : w10.cell? ⟨gb108, 1, none⟩ = some (.int .i64 0) := (blk_cell BK108.out 1).trans rfl; have hcz11_2 : w10.cell? ⟨gb108, 2, none⟩ = some (.slice none 0 0) := (blk_cell BK108.out 2).trans rfl; have hfz11_0 := blk_frozen BK108.out 0; have hfz11_1 := blk_frozen BK108.out 1; have hfz11_2 := blk_frozen BK108.out 2; obtain ⟨Ao12, co12, eo12⟩ := Kd.R_slice HO105.out; subst eo12) | ((with_reducible refine gate_callee (f := 28) rfl ?_); refine gcall (some 26) Tryz.func28 #[.agg #[.int .i64 t101, .int .i64 t102, .slice Ao12 t103.length co12], .int .i64 t106] rfl ?_; (with_reducible refine (spec_tiTilt.calls k t101 t102 _ _ t103 t106 t109 t110 t111 _ ?side1 ?side2 A5.out).mono ?_); (case side1 => refine (Kd.R_reads' (e := 5) (base := w.heap.size) (ok := fun k_ => True) (n := t103.length) (c := co12) ?_).2.2; exact (by (with_reducible repeat (first | apply Kd.R_alloc | apply Kd.R_drewN | apply Kd.R_drew)); exact (Kd.R_mono (Kd.R_far (p := ⟨gb108, 2, none⟩) (Kd.R_far (p := ⟨gb108, 1, none⟩) (Kd.R_far (p := ⟨gb108, 0, none⟩) (Kd.R_types HO105.out BK108.out (by decide)) (fun _ hk => hk.2) (.int .i64 t101)) (fun _ hk => hk.2) (.int .i64 t102)) (fun _ hk => hk.2) (.slice Ao12 t103.length co12)) (fun _ h_ => h_.1)))); (case side2 => exact (Kd.R_reads' HO105.out).2.1); rintro e w13 ⟨v112, rfl, ho0, hb⟩; refine ⟨_, rfl, ?_⟩; have n0_ := Aside0.mk (Kd.R_elder' (by (with_reducible repeat (first | apply Kd.R_alloc | apply Kd.R_drewN | apply Kd.R_drew)); exact (Kd.R_mono (Kd.R_far (p := ⟨gb108, 2, none⟩) (Kd.R_far (p := ⟨gb108, 1, none⟩) (Kd.R_far (p := ⟨gb108, 0, none⟩) (Kd.R_types HO105.out BK108.out (by decide)) (fun _ hk => hk.2) (.int .i64 t101)) (fun _ hk => hk.2) (.int .i64 t102)) (fun _ hk => hk.2) (.slice Ao12 t103.length co12)) (fun _ h_ => h_.1))) (Kd.R_base ho0) hb); have n1_ := Aside0.mk (Kd.R_lower (Kd.R_new' ho0 (Kd.R_lt (by (with_reducible repeat (first | apply Kd.R_alloc | apply Kd.R_drewN | apply Kd.R_drew)); exact (Kd.R_mono (Kd.R_far (p := ⟨gb108, 2, none⟩) (Kd.R_far (p := ⟨gb108, 1, none⟩) (Kd.R_far (p := ⟨gb108, 0, none⟩) (Kd.R_types HO105.out BK108.out (by decide)) (fun _ hk => hk.2) (.int .i64 t101)) (fun _ hk => hk.2) (.int .i64 t102)) (fun _ hk => hk.2) (.slice Ao12 t103.length co12)) (fun _ h_ => h_.1))))) (below_size (bel HB))); have n2_ := Aside0.mk (blk_below (g := gb108) (o := .cells #[.int .i64 t101, .int .i64 t102, .slice Ao12 t103.length co12] 45 (0, 0)) (by (with_reducible repeat (first | refine blk_drewN ?_ _ | refine blk_drew ?_ | refine blk_alloc ?_ _)); refine blk_put (cs := #[.int .i64 t101, .int .i64 t102, .slice none 0 0]) ?_ 2 _ rfl; (with_reducible repeat (first | refine blk_drewN ?_ _ | refine blk_drew ?_ | refine blk_alloc ?_ _)); refine blk_put (cs := #[.int .i64 t101, .int .i64 0, .slice none 0 0]) ?_ 1 _ rfl; (with_reducible repeat (first | refine blk_drewN ?_ _ | refine blk_drew ?_ | refine blk_alloc ?_ _)); refine blk_put (cs := #[.int .i64 0, .int .i64 0, .slice none 0 0]) ?_ 0 _ rfl; exact blc) hb); have n3_ := Aside0.mk (below_step (bel HB) hb); clear HO105; clear BK108; clear HB; have HO105 := n0_; have HO113 := n1_; have BK108 := n2_; have HB := n3_; clear n0_ n1_ n2_ n3_; (try clear hb); (try clear hb2); (try clear hk); (try clear hi); (try clear ho0); obtain ⟨Ao14, co14, eo14⟩ := Kd.R_slice HO113.out; subst eo14) | ((with_reducible refine gate_callee (f := 27) rfl ?_); refine gcall (some 27) Tryz.func27 #[.agg #[.int .i64 t109, .int .i64 t110, .slice Ao14 t111.length co14]] rfl ?_; (with_reducible refine (spec_tyText.calls k t109 t110 _ _ t111 t114 _ ?side1 ?side2 A6.out).mono ?_); (case side1 => repeat (first | exact (Kd.R_reads' HO113.out).2.2 | (with_reducible refine Kd.C_alloc ?_ _) | (with_reducible refine Kd.C_drewN ?_ _) | (with_reducible refine Kd.C_drew ?_))); (case side2 => exact (Kd.R_reads' HO113.out).2.1); rintro e w15 ⟨rfl, hb⟩; refine ⟨_, rfl, ?_⟩; have n0_ := Aside0.mk (Kd.R_below (rch HO105) hb); have n1_ := Aside0.mk (Kd.R_below (rch HO113) hb); have n2_ := Aside0.mk (blk_below (g := gb108) (o := .cells #[.int .i64 t101, .int .i64 t102, .slice Ao12 t103.length co12] 45 (0, 0)) blc hb); have n3_ := Aside0.mk (below_step (bel HB) hb); clear HO105; clear HO113; clear BK108; clear HB; have HO105 := n0_; have HO113 := n1_; have BK108 := n2_; have HB := n3_; clear n0_ n1_ n2_ n3_; (try clear hb); (try clear hb2); (try clear hk); (try clear hi); have hcz16_0 : w15.cell? ⟨gb108, 0, none⟩ = some (.int .i64 t101) := (blk_cell BK108.out 0).trans rfl; have hcz16_1 : w15.cell? ⟨gb108, 1, none⟩ = some (.int .i64 t102) := (blk_cell BK108.out 1).trans rfl; have hcz16_2 : w15.cell? ⟨gb108, 2, none⟩ = some (.slice Ao12 t103.length co12) := (blk_cell BK108.out 2).trans rfl; have hfz16_0 := blk_frozen BK108.out 0; have hfz16_1 := blk_frozen BK108.out 1; have hfz16_2 := blk_frozen BK108.out 2) | ((with_reducible refine gate_callee (f := 29) rfl ?_); refine gcall (some 32) Tryz.func29 #[.agg #[.int .i64 t101, .int .i64 t102, .slice Ao12 t103.length co12], .int .i64 t106] rfl ?_; (with_reducible refine (spec_tiStretches.calls k t101 t102 _ _ t103 t106 t115 _ ?side1 ?side2 A8.out).mono ?_); (case side1 => repeat (first | exact (Kd.R_reads' HO105.out).2.2 | (with_reducible refine Kd.C_alloc ?_ _) | (with_reducible refine Kd.C_drewN ?_ _) | (with_reducible refine Kd.C_drew ?_))); (case side2 => exact (Kd.R_reads' HO105.out).2.1); rintro e w17 ⟨v116, rfl, ho0, hb⟩; refine ⟨_, rfl, ?_⟩; have n0_ := Aside0.mk (Kd.R_below (rch HO105) hb); have n1_ := Aside0.mk (Kd.R_below (rch HO113) hb); have n2_ := Aside0.mk (Kd.N_lower (Kd.N_mono (ok' := fun k_ => some k_ ≠ (.slice Ao12 t103.length co12 : Value).ownBlock ∧ some k_ ≠ (.slice Ao14 t111.length co14 : Value).ownBlock ∧ k_ ≠ gb108) ho0 (fun k_ hk_ => ⟨(Kd.fresh' (Kd.R_lt (rch HO105)) k_ hk_), (Kd.fresh' (Kd.R_lt (rch HO113)) k_ hk_), (Kd.freshB (g := gb108) (o := .cells #[.int .i64 t101, .int .i64 t102, .slice Ao12 t103.length co12] 45 (0, 0)) blc k_ hk_)⟩)) (below_size (bel HB))); have n3_ := Aside0.mk (blk_below (g := gb108) (o := .cells #[.int .i64 t101, .int .i64 t102, .slice Ao12 t103.length co12] 45 (0, 0)) blc hb); have n4_ := Aside0.mk (below_step (bel HB) hb); clear HO105; clear HO113; clear BK108; clear HB; have HO105 := n0_; have HO113 := n1_; have HO117 := n2_; have BK108 := n3_; have HB := n4_; clear n0_ n1_ n2_ n3_ n4_; (try clear hb); (try clear hb2); (try clear hk); (try clear hi); (try clear ho0); obtain ⟨Ao18, co18, eo18⟩ := Kd.N_slice HO117.out; subst eo18))
   go_loopg [9, 34] k (fun kq v9 v34 w' => ∃ (x9_1 : Int) (x34_1 : Int), v9 = .int .i64 x9_1 ∧ v34 = .int .i64 x34_1 ∧ Aside0 (spec_CountBefore.l0 kq x9_1 t115 (t115.length : Int) x34_1 t101 t102 t103 = some (r1, r2)) ∧ Aside0 (kq ≤ k) ∧ Aside0 (Kd.N (Kd.slice 3 (Kd.int .i64)) 25 w' w.heap.size (fun k_ => some k_ ≠ ((.slice Ao12 t103.length co12) : Value).ownBlock ∧ k_ ≠ gb108) (.slice Ao18 t115.length co18) t115) ∧ Aside0 (Kd.R (Kd.int .u8) 5 w' w.heap.size (fun _ => True) (.slice Ao12 t103.length co12) t103) ∧ Aside0 (w'.heap[gb108]? = some (.cells #[.int .i64 t101, .int .i64 t102, (.slice Ao12 t103.length co12)] 45 (0, 0))) ∧ Aside0 (Below w.heap.size w w'))
   case atStart => exact ⟨(1), (0), (by first | rfl | (simp; done) | (simp [*]; done)), (by first | rfl | (simp; done) | (simp [*]; done)), H', ⟨Nat.le_refl _⟩, ⟨by (with_reducible repeat (first | apply Kd.N_alloc | apply Kd.N_drewN | apply Kd.N_drew)); exact Kd.N_mono HO117.out (fun _ hk => ⟨hk.1, hk.2.2⟩)⟩, ⟨by (with_reducible repeat (first | apply Kd.R_alloc | apply Kd.R_drewN | apply Kd.R_drew)); exact Kd.R_mono HO105.out (fun _ hk => trivial)⟩, ⟨blc⟩, ⟨bel HB⟩⟩
   case round =>
    clear H'
    try clear c2
    try clear p2
    try clear c4
    try clear c7
    try clear c7b0
    try clear c7b0y
    try clear c7b1
    try clear c9
    try clear hcz11_0
    try clear hcz11_1
    try clear hcz11_2
    try clear hcz16_0
    try clear hcz16_1
    try clear hcz16_2
    try clear hfz11_0
    try clear hfz11_1
    try clear hfz11_2
    try clear hfz16_0
    try clear hfz16_1
    try clear hfz16_2
    obtain ⟨x9_1, x34_1, rfl, rfl, HA, HK1, HO_32, HO_109002, BK108, HB⟩ := hrel
    cases gk with
    | zero => exact absurd HA.out (by simp [spec_CountBefore.l0])
    | succ k1 =>
     have H := HA.out
     clear HA
     simp only [spec_CountBefore.l0] at H
     by_cases c19 : x34_1 < (t115.length : Int)
     ·rw [if_pos c19] at H
      have c19b0 : decide (x34_1 < (t115.length : Int)) = true := decide_eq_true c19
      clear c19
      by_cases c20 : 0 ≤ x34_1
      ·rw [if_pos c20] at H
       have c20b0 : decide (0 ≤ x34_1) = true := decide_eq_true c20
       clear c20
       by_cases c21 : x34_1 < (t115.length : Int)
       ·rw [if_pos c21] at H
        have c21b0 : decide (x34_1 < (t115.length : Int)) = true := decide_eq_true c21
        clear c21
        have H' := Aside0.mk H
        clear H
        have p118 : 0 ≤ (x34_1 : Int) := of_decide_eq_true (by first | (with_reducible assumption) | assumption)
        have q118 : x34_1 < (t115.length : Int) := of_decide_eq_true (by first | (with_reducible assumption) | assumption)
        obtain ⟨ad118, A118_0, c118_0, e118, hx118_0, hl118_0, hi118_0⟩ := at_Lii (Kd.N_reads' HO_32.out).2.2 x34_1 p118 q118
        cases e118
        obtain ⟨ce118, hce118, hMe118, hcc118⟩ := Kd.N_get HO_32.out [] x34_1 p118 (by first | exact q118 | exact of_decide_eq_true (by first | (with_reducible assumption) | assumption) | (have e_ := (Kd.N_reads' HO_32.out).1; omega))
        obtain ⟨ua118_0, uc118_0, rfl, ul118_0, ge118_0⟩ := Kd.FK_slice_open hMe118
        have hv118_0 := hcc118 0 _ rfl
        rw [Nat.add_zero, show ((Kd.slice 3 (Kd.int .i64))).sz = 1 from rfl, Nat.mul_one] at hv118_0
        replace hv118_0 := Option.some.inj (hv118_0.symm.trans hx118_0)
        injection hv118_0 with hva_ hvn_ hvc_
        rw [hva_] at ge118_0
        rw [hvc_] at ul118_0
        have HL118_0 := Aside0.mk (show Kd.V (Kd.int .i64) 3 _ w.heap.size _ _ (rd_Lii t115 x34_1) from Kd.V_mk ul118_0 ge118_0)
        clear hva_ hvn_ hvc_ ge118_0 ul118_0
        clear hcc118 hce118
        have HR118_0 := Aside0.mk hi118_0
        have HC118_0 := Aside0.mk hl118_0
        clear hi118_0 hl118_0
        replace p118 := eq_true p118
        replace q118 := eq_true q118
        go_wp2
        go_loopg [12, 40] k1 (fun kq v12 v40 w' => ∃ (x12_2 : Int) (x40_2 : Int), v12 = .int .i64 x12_2 ∧ v40 = .int .i64 x40_2 ∧ Aside0 (spec_CountBefore.l1 kq x9_1 (rd_Lii t115 x34_1) x12_2 t115 (t115.length : Int) x34_1 (rd_Lii t115 x34_1) ((rd_Lii t115 x34_1).length : Int) x40_2 t101 t102 t103 = some (r1, r2)) ∧ Aside0 (kq ≤ k1) ∧ Aside0 (Kd.N (Kd.slice 3 (Kd.int .i64)) 25 w' w.heap.size (fun k_ => some k_ ≠ ((.slice Ao12 t103.length co12) : Value).ownBlock ∧ k_ ≠ gb108) (.slice (some ad118) t115.length co18) t115) ∧ Aside0 (Kd.R (Kd.int .u8) 5 w' w.heap.size (fun _ => True) (.slice Ao12 t103.length co12) t103) ∧ Aside0 (w'.heap[gb108]? = some (.cells #[.int .i64 t101, .int .i64 t102, (.slice Ao12 t103.length co12)] 45 (0, 0))) ∧ Aside0 (Kd.C (Kd.int .i64) w' A118_0 (rd_Lii t115 x34_1).length (rd_Lii t115 x34_1)) ∧ Aside0 (Below w.heap.size w w'))
        case atStart => exact ⟨(0), (0), (by first | rfl | (simp; done) | (simp [*]; done)), (by first | rfl | (simp; done) | (simp [*]; done)), H', ⟨Nat.le_refl _⟩, ⟨by (with_reducible repeat (first | apply Kd.N_alloc | apply Kd.N_drewN | apply Kd.N_drew)); (first | exact HO_32.out | exact R_any HO_32.out)⟩, ⟨rch HO_109002⟩, ⟨blc⟩, ⟨by repeat (first | (with_reducible exact HR118_0.out) | (with_reducible refine Kd.C_alloc ?_ _) | (with_reducible refine Kd.C_drewN ?_ _) | (with_reducible refine Kd.C_drew ?_) | exact HR118_0.out)⟩, ⟨bel HB⟩⟩
        case round =>
         clear H'
         try clear c1
         try clear p1
         try clear q1
         try clear hx1
         try clear c2
         try clear p2
         try clear c4
         try clear c7
         try clear c7b0
         try clear c7b0y
         try clear c7b1
         try clear c9
         try clear c11
         try clear p11
         try clear q11
         try clear hx11
         try clear c19
         try clear c19b0
         try clear c19b0y
         try clear c20
         try clear c20b0
         try clear c20b0y
         try clear c21
         try clear c21b0
         try clear c21b0y
         try clear hcz11_0
         try clear hcz11_1
         try clear hcz11_2
         try clear hcz16_0
         try clear hcz16_1
         try clear hcz16_2
         try clear hfz11_0
         try clear hfz11_1
         try clear hfz11_2
         try clear hfz16_0
         try clear hfz16_1
         try clear hfz16_2
         try clear hx118_0
         try clear p118
         try clear p2
         try clear q118
         obtain ⟨x12_2, x40_2, rfl, rfl, HA, HK2, HO_32, HO_109002, BK108, HR118_0, HB⟩ := hrel
         cases gk with
         | zero => exact absurd HA.out (by simp [spec_CountBefore.l1])
         | succ k2 =>
          have H := HA.out
          clear HA
          simp only [spec_CountBefore.l1] at H
          by_cases c22 : x40_2 < ((rd_Lii t115 x34_1).length : Int)
          ·rw [if_pos c22] at H
           have c22b0 : decide (x40_2 < ((rd_Lii t115 x34_1).length : Int)) = true := decide_eq_true c22
           clear c22
           by_cases c23 : 0 ≤ x40_2
           ·rw [if_pos c23] at H
            have c23b0 : decide (0 ≤ x40_2) = true := decide_eq_true c23
            clear c23
            by_cases c24 : x40_2 < ((rd_Lii t115 x34_1).length : Int)
            ·rw [if_pos c24] at H
             have c24b0 : decide (x40_2 < ((rd_Lii t115 x34_1).length : Int)) = true := decide_eq_true c24
             clear c24
             by_cases c25 : 0 ≤ (rd (rd_Lii t115 x34_1) x40_2)
             ·rw [if_pos c25] at H
              have c25b0 : decide (0 ≤ (rd (rd_Lii t115 x34_1) x40_2)) = true := decide_eq_true c25
              clear c25
              by_cases c26 : (rd (rd_Lii t115 x34_1) x40_2) < (t103.length : Int)
              ·rw [if_pos c26] at H
               have c26b0 : decide ((rd (rd_Lii t115 x34_1) x40_2) < (t103.length : Int)) = true := decide_eq_true c26
               clear c26
               replace H := Option.bind_eq_some_iff.mp H
               obtain ⟨t121, A270, H⟩ := H
               replace H : (if t121 = true then (spec_CountBefore.l1 k2 x9_1 (rd_Lii t115 x34_1) (wrap64 (x12_2 + 1)) t115 (t115.length : Int) x34_1 (rd_Lii t115 x34_1) ((rd_Lii t115 x34_1).length : Int) (wrap64 (x40_2 + 1)) t101 t102 t103) else (spec_CountBefore.l1 k2 x9_1 (rd_Lii t115 x34_1) x12_2 t115 (t115.length : Int) x34_1 (rd_Lii t115 x34_1) ((rd_Lii t115 x34_1).length : Int) (wrap64 (x40_2 + 1)) t101 t102 t103)) = some (r1, r2) := H
               have A27 := Aside0.mk A270
               clear A270
               by_cases c28 : t121 = true
               ·subst c28
                have H1 : (spec_CountBefore.l1 k2 x9_1 (rd_Lii t115 x34_1) (wrap64 (x12_2 + 1)) t115 (t115.length : Int) x34_1 (rd_Lii t115 x34_1) ((rd_Lii t115 x34_1).length : Int) (wrap64 (x40_2 + 1)) t101 t102 t103) = some (r1, r2) := by rw [if_pos rfl] at H; exact H
                clear H
                have H := H1
                clear H1
                have H' := Aside0.mk H
                clear H
                have p119 : 0 ≤ (x40_2 : Int) := of_decide_eq_true (by first | (with_reducible assumption) | assumption)
                have q119 : x40_2 < ((rd_Lii t115 x34_1).length : Int) := of_decide_eq_true (by first | (with_reducible assumption) | assumption)
                obtain ⟨ad119, e119, hx119_0⟩ := Kd.at_int HR118_0.out x40_2 p119 q119
                cases e119
                (try replace hx119_0 := (HB.out.cell (World.block_lt_of_cell? w _ hx119_0)).trans hx119_0)
                replace p119 := eq_true p119
                replace q119 := eq_true q119
                have hcz29_0 : wr.cell? ⟨gb108, 0, none⟩ = some (.int .i64 t101) := (blk_cell BK108.out 0).trans rfl
                have hcz29_1 : wr.cell? ⟨gb108, 1, none⟩ = some (.int .i64 t102) := (blk_cell BK108.out 1).trans rfl
                have hcz29_2 : wr.cell? ⟨gb108, 2, none⟩ = some (.slice Ao12 t103.length co12) := (blk_cell BK108.out 2).trans rfl
                have hfz29_0 := blk_frozen BK108.out 0
                have hfz29_1 := blk_frozen BK108.out 1
                have hfz29_2 := blk_frozen BK108.out 2
                have p120 : 0 ≤ ((rd (rd_Lii t115 x34_1) x40_2) : Int) := of_decide_eq_true (by first | (with_reducible assumption) | assumption)
                have q120 : (rd (rd_Lii t115 x34_1) x40_2) < (t103.length : Int) := of_decide_eq_true (by first | (with_reducible assumption) | assumption)
                obtain ⟨ad120, e120, hx120_0⟩ := Kd.at_int (Kd.R_reads' HO_109002.out).2.2 (rd (rd_Lii t115 x34_1) x40_2) p120 q120
                cases e120
                replace p120 := eq_true p120
                replace q120 := eq_true q120
                go_wp2_with (first | ((with_reducible refine gate_callee (f := 30) rfl ?_); refine gcall (some 49) Tryz.func30 #[.int .u8 (rd t103 (rd (rd_Lii t115 x34_1) x40_2))] rfl ?_; (with_reducible refine (spec_tyBall.calls (rd t103 (rd (rd_Lii t115 x34_1) x40_2)) true _ A27.out).mono ?_); rintro e w' ⟨rfl, ⟨nd, rfl⟩⟩; refine ⟨_, rfl, ?_⟩))
                go_roundg k2
                case measure => have := HK1.out; have := HK2.out; omega
                case rel => exact ⟨(wrap64 (x12_2 + 1)), (wrap64 (x40_2 + 1)), (by first | rfl | (simp; done) | (simp [*]; done)), (by first | rfl | (simp; done) | (simp [*]; done)), H', ⟨by have := HK1.out; have := HK2.out; omega⟩, ⟨by (with_reducible repeat (first | apply Kd.N_alloc | apply Kd.N_drewN | apply Kd.N_drew)); (first | exact HO_32.out | exact R_any HO_32.out)⟩, ⟨rch HO_109002⟩, ⟨blc⟩, ⟨by repeat (first | (with_reducible exact HR118_0.out) | (with_reducible refine Kd.C_alloc ?_ _) | (with_reducible refine Kd.C_drewN ?_ _) | (with_reducible refine Kd.C_drew ?_) | exact HR118_0.out)⟩, ⟨bel HB⟩⟩
               ·replace c28 := Bool.eq_false_iff.mpr c28
                subst c28
                have H1 : (spec_CountBefore.l1 k2 x9_1 (rd_Lii t115 x34_1) x12_2 t115 (t115.length : Int) x34_1 (rd_Lii t115 x34_1) ((rd_Lii t115 x34_1).length : Int) (wrap64 (x40_2 + 1)) t101 t102 t103) = some (r1, r2) := by rw [if_neg (show ¬ (false = true) by decide)] at H; exact H
                clear H
                have H := H1
                clear H1
                have H' := Aside0.mk H
                clear H
                have p119 : 0 ≤ (x40_2 : Int) := of_decide_eq_true (by first | (with_reducible assumption) | assumption)
                have q119 : x40_2 < ((rd_Lii t115 x34_1).length : Int) := of_decide_eq_true (by first | (with_reducible assumption) | assumption)
                obtain ⟨ad119, e119, hx119_0⟩ := Kd.at_int HR118_0.out x40_2 p119 q119
                cases e119
                (try replace hx119_0 := (HB.out.cell (World.block_lt_of_cell? w _ hx119_0)).trans hx119_0)
                replace p119 := eq_true p119
                replace q119 := eq_true q119
                have hcz30_0 : wr.cell? ⟨gb108, 0, none⟩ = some (.int .i64 t101) := (blk_cell BK108.out 0).trans rfl
                have hcz30_1 : wr.cell? ⟨gb108, 1, none⟩ = some (.int .i64 t102) := (blk_cell BK108.out 1).trans rfl
                have hcz30_2 : wr.cell? ⟨gb108, 2, none⟩ = some (.slice Ao12 t103.length co12) := (blk_cell BK108.out 2).trans rfl
                have hfz30_0 := blk_frozen BK108.out 0
                have hfz30_1 := blk_frozen BK108.out 1
                have hfz30_2 := blk_frozen BK108.out 2
                have p120 : 0 ≤ ((rd (rd_Lii t115 x34_1) x40_2) : Int) := of_decide_eq_true (by first | (with_reducible assumption) | assumption)
                have q120 : (rd (rd_Lii t115 x34_1) x40_2) < (t103.length : Int) := of_decide_eq_true (by first | (with_reducible assumption) | assumption)
                obtain ⟨ad120, e120, hx120_0⟩ := Kd.at_int (Kd.R_reads' HO_109002.out).2.2 (rd (rd_Lii t115 x34_1) x40_2) p120 q120
                cases e120
                replace p120 := eq_true p120
                replace q120 := eq_true q120
                go_wp2_with (first | ((with_reducible refine gate_callee (f := 30) rfl ?_); refine gcall (some 49) Tryz.func30 #[.int .u8 (rd t103 (rd (rd_Lii t115 x34_1) x40_2))] rfl ?_; (with_reducible refine (spec_tyBall.calls (rd t103 (rd (rd_Lii t115 x34_1) x40_2)) false _ A27.out).mono ?_); rintro e w' ⟨rfl, ⟨nd, rfl⟩⟩; refine ⟨_, rfl, ?_⟩))
                go_roundg k2
                case measure => have := HK1.out; have := HK2.out; omega
                case rel => exact ⟨(x12_2), (wrap64 (x40_2 + 1)), (by first | rfl | (simp; done) | (simp [*]; done)), (by first | rfl | (simp; done) | (simp [*]; done)), H', ⟨by have := HK1.out; have := HK2.out; omega⟩, ⟨by (with_reducible repeat (first | apply Kd.N_alloc | apply Kd.N_drewN | apply Kd.N_drew)); (first | exact HO_32.out | exact R_any HO_32.out)⟩, ⟨rch HO_109002⟩, ⟨blc⟩, ⟨by repeat (first | (with_reducible exact HR118_0.out) | (with_reducible refine Kd.C_alloc ?_ _) | (with_reducible refine Kd.C_drewN ?_ _) | (with_reducible refine Kd.C_drew ?_) | exact HR118_0.out)⟩, ⟨bel HB⟩⟩
              ·rw [if_neg c26] at H
               exact absurd H (by simp)
             ·rw [if_neg c25] at H
              exact absurd H (by simp)
            ·rw [if_neg c24] at H
             exact absurd H (by simp)
           ·rw [if_neg c23] at H
            exact absurd H (by simp)
          ·rw [if_neg c22] at H
           have c22b0 : decide (x40_2 < ((rd_Lii t115 x34_1).length : Int)) = false := decide_eq_false c22
           clear c22
           replace H := Option.bind_eq_some_iff.mp H
           obtain ⟨t122, A310, H⟩ := H
           replace H : (spec_CountBefore.l0 k2 (wrap64 (x9_1 * t122)) t115 (t115.length : Int) (wrap64 (x34_1 + 1)) t101 t102 t103) = some (r1, r2) := H
           have A31 := Aside0.mk A310
           clear A310
           have H' := Aside0.mk H
           clear H
           go_wp2_with (first | ((with_reducible refine gate_callee (f := 31) rfl ?_); refine gcall (some 57) Tryz.func31 #[.int .i64 ((rd_Lii t115 x34_1).length : Int), .int .i64 x12_2] rfl ?_; (with_reducible refine (spec_tiChoose.calls k2 ((rd_Lii t115 x34_1).length : Int) x12_2 t122 _ A31.out).mono ?_); rintro e w' ⟨rfl, ⟨nd, rfl⟩⟩; refine ⟨_, rfl, ?_⟩))
           go_roundg k2
           case measure => have := HK1.out; have := HK2.out; omega
           case rel => exact ⟨(wrap64 (x9_1 * t122)), (wrap64 (x34_1 + 1)), (by first | rfl | (simp; done) | (simp [*]; done)), (by first | rfl | (simp; done) | (simp [*]; done)), H', ⟨by have := HK1.out; have := HK2.out; omega⟩, ⟨by (with_reducible repeat (first | apply Kd.N_alloc | apply Kd.N_drewN | apply Kd.N_drew)); (first | exact HO_32.out | exact R_any HO_32.out)⟩, ⟨rch HO_109002⟩, ⟨blc⟩, ⟨bel HB⟩⟩
       ·rw [if_neg c21] at H
        exact absurd H (by simp)
      ·rw [if_neg c20] at H
       exact absurd H (by simp)
     ·rw [if_neg c19] at H
      have c19b0 : decide (x34_1 < (t115.length : Int)) = false := decide_eq_false c19
      clear c19
      simp only [Option.some.injEq, Prod.mk.injEq] at H
      obtain ⟨rfl, rfl⟩ := H
      go_wp2
      go_ret2
      exact ⟨by first | rfl | (simp [errW_none, errW_some] <;> rfl) | (simp [*, errW_none, errW_some] <;> rfl), bel HB⟩
  ·rw [if_neg c7] at H
   have c7b0 : (t114.toList == a0.toList) = false := beq_eq_false_iff_ne.mpr c7
   have c7b1 : (t114.toList != a0.toList) = true := bne_iff_ne.mpr c7
   simp only [Option.some.injEq, Prod.mk.injEq] at H
   obtain ⟨rfl, rfl⟩ := H
   go_enter Tryz.func9, Tryz.ntmps9
   go_wp2_with (first | ((with_reducible refine gate_callee (f := 26) rfl ?_); refine gcall (some 18) Tryz.func26 #[.string a0, .string a1] rfl ?_; (with_reducible refine (spec_tiRead.calls k a0 a1 t101 t102 t103 t106 true _ A3.out).mono ?_); rintro e w32 ⟨v104, rfl, ho0, hb⟩; refine ⟨_, rfl, ?_⟩; have n0_ := Aside0.mk (Kd.R_lower ho0 (below_size (bel HB))); have n1_ := Aside0.mk (below_step (bel HB) hb); clear HB; have HO105 := n0_; have HB := n1_; clear n0_ n1_; (try clear hb); (try clear hb2); (try clear hk); (try clear hi); (try clear ho0)) | ((with_reducible refine gate_dst (N := 6) rfl ?_); refine boxE (N := 6) (cs := #[.int .i64 0, .int .i64 0, .slice none 0 0]) (t := 45) ?_; intro gb108 hg w33 hbox hb; have n0_ := Aside0.mk (Kd.R_below (rch HO105) hb); have n1_ := Aside0.mk (below_step (bel HB) hb); have n2_ := Aside0.mk (hbox); have n3_ := Aside0.mk (gsz hg (bel HB)); have n4_ := Aside0.mk (gsz hg (bel HB)); clear HO105; clear HB; have HO105 := n0_; have HB := n1_; have BK108 := n2_; have GW108 := n3_; have GE108 := n4_; clear n0_ n1_ n2_ n3_ n4_; clear hb hbox hg; have hcz34_0 : w33.cell? ⟨gb108, 0, none⟩ = some (.int .i64 0) := (blk_cell BK108.out 0).trans rfl; have hcz34_1 : w33.cell? ⟨gb108, 1, none⟩ = some (.int .i64 0) := (blk_cell BK108.out 1).trans rfl; have hcz34_2 : w33.cell? ⟨gb108, 2, none⟩ = some (.slice none 0 0) := (blk_cell BK108.out 2).trans rfl; have hfz34_0 := blk_frozen BK108.out 0; have hfz34_1 := blk_frozen BK108.out 1; have hfz34_2 := blk_frozen BK108.out 2; obtain ⟨Ao35, co35, eo35⟩ := Kd.R_slice HO105.out; subst eo35) | ((with_reducible refine gate_callee (f := 28) rfl ?_); refine gcall (some 26) Tryz.func28 #[.agg #[.int .i64 t101, .int .i64 t102, .slice Ao35 t103.length co35], .int .i64 t106] rfl ?_; (with_reducible refine (spec_tiTilt.calls k t101 t102 _ _ t103 t106 t109 t110 t111 _ ?side1 ?side2 A5.out).mono ?_); (case side1 => refine (Kd.R_reads' (e := 5) (base := w.heap.size) (ok := fun k_ => True) (n := t103.length) (c := co35) ?_).2.2; exact (by (with_reducible repeat (first | apply Kd.R_alloc | apply Kd.R_drewN | apply Kd.R_drew)); exact (Kd.R_mono (Kd.R_far (p := ⟨gb108, 2, none⟩) (Kd.R_far (p := ⟨gb108, 1, none⟩) (Kd.R_far (p := ⟨gb108, 0, none⟩) (Kd.R_types HO105.out BK108.out (by decide)) (fun _ hk => hk.2) (.int .i64 t101)) (fun _ hk => hk.2) (.int .i64 t102)) (fun _ hk => hk.2) (.slice Ao35 t103.length co35)) (fun _ h_ => h_.1)))); (case side2 => exact (Kd.R_reads' HO105.out).2.1); rintro e w36 ⟨v112, rfl, ho0, hb⟩; refine ⟨_, rfl, ?_⟩; have n0_ := Aside0.mk (Kd.R_elder' (by (with_reducible repeat (first | apply Kd.R_alloc | apply Kd.R_drewN | apply Kd.R_drew)); exact (Kd.R_mono (Kd.R_far (p := ⟨gb108, 2, none⟩) (Kd.R_far (p := ⟨gb108, 1, none⟩) (Kd.R_far (p := ⟨gb108, 0, none⟩) (Kd.R_types HO105.out BK108.out (by decide)) (fun _ hk => hk.2) (.int .i64 t101)) (fun _ hk => hk.2) (.int .i64 t102)) (fun _ hk => hk.2) (.slice Ao35 t103.length co35)) (fun _ h_ => h_.1))) (Kd.R_base ho0) hb); have n1_ := Aside0.mk (Kd.R_lower (Kd.R_new' ho0 (Kd.R_lt (by (with_reducible repeat (first | apply Kd.R_alloc | apply Kd.R_drewN | apply Kd.R_drew)); exact (Kd.R_mono (Kd.R_far (p := ⟨gb108, 2, none⟩) (Kd.R_far (p := ⟨gb108, 1, none⟩) (Kd.R_far (p := ⟨gb108, 0, none⟩) (Kd.R_types HO105.out BK108.out (by decide)) (fun _ hk => hk.2) (.int .i64 t101)) (fun _ hk => hk.2) (.int .i64 t102)) (fun _ hk => hk.2) (.slice Ao35 t103.length co35)) (fun _ h_ => h_.1))))) (below_size (bel HB))); have n2_ := Aside0.mk (blk_below (g := gb108) (o := .cells #[.int .i64 t101, .int .i64 t102, .slice Ao35 t103.length co35] 45 (0, 0)) (by (with_reducible repeat (first | refine blk_drewN ?_ _ | refine blk_drew ?_ | refine blk_alloc ?_ _)); refine blk_put (cs := #[.int .i64 t101, .int .i64 t102, .slice none 0 0]) ?_ 2 _ rfl; (with_reducible repeat (first | refine blk_drewN ?_ _ | refine blk_drew ?_ | refine blk_alloc ?_ _)); refine blk_put (cs := #[.int .i64 t101, .int .i64 0, .slice none 0 0]) ?_ 1 _ rfl; (with_reducible repeat (first | refine blk_drewN ?_ _ | refine blk_drew ?_ | refine blk_alloc ?_ _)); refine blk_put (cs := #[.int .i64 0, .int .i64 0, .slice none 0 0]) ?_ 0 _ rfl; exact blc) hb); have n3_ := Aside0.mk (below_step (bel HB) hb); clear HO105; clear BK108; clear HB; have HO105 := n0_; have HO113 := n1_; have BK108 := n2_; have HB := n3_; clear n0_ n1_ n2_ n3_; (try clear hb); (try clear hb2); (try clear hk); (try clear hi); (try clear ho0); obtain ⟨Ao37, co37, eo37⟩ := Kd.R_slice HO113.out; subst eo37) | ((with_reducible refine gate_callee (f := 27) rfl ?_); refine gcall (some 27) Tryz.func27 #[.agg #[.int .i64 t109, .int .i64 t110, .slice Ao37 t111.length co37]] rfl ?_; (with_reducible refine (spec_tyText.calls k t109 t110 _ _ t111 t114 _ ?side1 ?side2 A6.out).mono ?_); (case side1 => repeat (first | exact (Kd.R_reads' HO113.out).2.2 | (with_reducible refine Kd.C_alloc ?_ _) | (with_reducible refine Kd.C_drewN ?_ _) | (with_reducible refine Kd.C_drew ?_))); (case side2 => exact (Kd.R_reads' HO113.out).2.1); rintro e w38 ⟨rfl, hb⟩; refine ⟨_, rfl, ?_⟩; have n0_ := Aside0.mk (Kd.R_below (rch HO105) hb); have n1_ := Aside0.mk (Kd.R_below (rch HO113) hb); have n2_ := Aside0.mk (blk_below (g := gb108) (o := .cells #[.int .i64 t101, .int .i64 t102, .slice Ao35 t103.length co35] 45 (0, 0)) blc hb); have n3_ := Aside0.mk (below_step (bel HB) hb); clear HO105; clear HO113; clear BK108; clear HB; have HO105 := n0_; have HO113 := n1_; have BK108 := n2_; have HB := n3_; clear n0_ n1_ n2_ n3_; (try clear hb); (try clear hb2); (try clear hk); (try clear hi)))
   go_ret2
   exact ⟨by first | rfl | (simp [errW_none, errW_some] <;> rfl) | (simp [*, errW_none, errW_some] <;> rfl), bel HB⟩
 ·replace c4 := Bool.eq_false_iff.mpr c4
  subst c4
  have H1 : (some (0, false)) = some (r1, r2) := by rw [if_neg (show ¬ (false = true) by decide)] at H; exact H
  clear H
  have H := H1
  clear H1
  simp only [Option.some.injEq, Prod.mk.injEq] at H
  obtain ⟨rfl, rfl⟩ := H
  go_enter Tryz.func9, Tryz.ntmps9
  go_wp2_with (first | ((with_reducible refine gate_callee (f := 26) rfl ?_); refine gcall (some 18) Tryz.func26 #[.string a0, .string a1] rfl ?_; (with_reducible refine (spec_tiRead.calls k a0 a1 t101 t102 t103 t106 false _ A3.out).mono ?_); rintro e w39 ⟨v104, rfl, ho0, hb⟩; refine ⟨_, rfl, ?_⟩; have n0_ := Aside0.mk (Kd.R_lower ho0 (below_size (bel HB))); have n1_ := Aside0.mk (below_step (bel HB) hb); clear HB; have HO105 := n0_; have HB := n1_; clear n0_ n1_; (try clear hb); (try clear hb2); (try clear hk); (try clear hi); (try clear ho0)) | ((with_reducible refine gate_dst (N := 6) rfl ?_); refine boxE (N := 6) (cs := #[.int .i64 0, .int .i64 0, .slice none 0 0]) (t := 45) ?_; intro gb108 hg w40 hbox hb; have n0_ := Aside0.mk (Kd.R_below (rch HO105) hb); have n1_ := Aside0.mk (below_step (bel HB) hb); have n2_ := Aside0.mk (hbox); have n3_ := Aside0.mk (gsz hg (bel HB)); have n4_ := Aside0.mk (gsz hg (bel HB)); clear HO105; clear HB; have HO105 := n0_; have HB := n1_; have BK108 := n2_; have GW108 := n3_; have GE108 := n4_; clear n0_ n1_ n2_ n3_ n4_; clear hb hbox hg; have hcz41_0 : w40.cell? ⟨gb108, 0, none⟩ = some (.int .i64 0) := (blk_cell BK108.out 0).trans rfl; have hcz41_1 : w40.cell? ⟨gb108, 1, none⟩ = some (.int .i64 0) := (blk_cell BK108.out 1).trans rfl; have hcz41_2 : w40.cell? ⟨gb108, 2, none⟩ = some (.slice none 0 0) := (blk_cell BK108.out 2).trans rfl; have hfz41_0 := blk_frozen BK108.out 0; have hfz41_1 := blk_frozen BK108.out 1; have hfz41_2 := blk_frozen BK108.out 2; obtain ⟨Ao42, co42, eo42⟩ := Kd.R_slice HO105.out; subst eo42))
  go_ret2
  exact ⟨by first | rfl | (simp [errW_none, errW_some] <;> rfl) | (simp [*, errW_none, errW_some] <;> rfl), bel HB⟩
mutual
def impl_CountBefore.l0 : Nat → Int → List (List Int) → Int → Int → Int → Int → List Int → Option (Int × Bool)
 | 0, _, _, _, _, _, _, _ => none
 | k + 1, x7, x27, x28, x29, x108000, x108001, x108002 => if x29 < x28 then (if 0 ≤ x29 then (if x29 < (x27.length : Int) then (impl_CountBefore.l1 k x7 (rd_Lii x27 x29) 0 x27 x28 x29 (rd_Lii x27 x29) ((rd_Lii x27 x29).length : Int) 0 x108000 x108001 x108002) else (none)) else (none)) else (some (x7, true))
def impl_CountBefore.l1 : Nat → Int → List Int → Int → List (List Int) → Int → Int → List Int → Int → Int → Int → Int → List Int → Option (Int × Bool)
 | 0, _, _, _, _, _, _, _, _, _, _, _, _ => none
 | k + 1, x7, x9, x10, x27, x28, x29, x33, x34, x35, x108000, x108001, x108002 => if x35 < x34 then (if 0 ≤ x35 then (if x35 < (x33.length : Int) then (if 0 ≤ (rd x33 x35) then (if (rd x33 x35) < (x108002.length : Int) then ((impl_isBall.f (rd x108002 (rd x33 x35))).bind fun t115 => ((impl_bit.f t115).bind fun t116 => (impl_CountBefore.l1 k x7 x9 (wrap64 (x10 + t116)) x27 x28 x29 x33 x34 (wrap64 (x35 + 1)) x108000 x108001 x108002))) else (none)) else (none)) else (none)) else (none)) else ((impl_binomial.f k (x9.length : Int) x10).bind fun t117 => (impl_CountBefore.l0 k (wrap64 (x7 * t117)) x27 x28 (wrap64 (x29 + 1)) x108000 x108001 x108002))
end
def impl_CountBefore.f (k : Nat) (a0 : ByteArray) (a1 : ByteArray) : Option (Int × Bool) := (impl_isTilted.f k a0 a1).bind fun t101 => (if t101 = true then ((impl_read.f a0).bind fun bt102 => (if 0 < (a1.size : Int) then ((impl_tray_isStill.f k bt102.1 bt102.2.1 bt102.2.2 (bt a1 0)).bind fun t108 => (if t108 = true then ((impl_tray_stretches.f k bt102.1 bt102.2.1 bt102.2.2 (bt a1 0)).bind fun t109 => (impl_CountBefore.l0 k 1 t109 (t109.length : Int) 0 bt102.1 bt102.2.1 bt102.2.2)) else (some (0, true)))) else (none))) else (some (0, false)))
set_option maxHeartbeats 8000000 in
set_option maxRecDepth 100000 in
theorem impl_CountBefore.calls (k : Nat) (a0 : ByteArray) (a1 : ByteArray) (r1 : Int) (r2 : Bool) (w : World) (hG : GoodW w) (h : impl_CountBefore.f k a0 a1 = some (r1, r2)) :
  Calls Tryz.prog 10 #[.string a0, .string a1] w fun e w' => e = .returned (.tuple #[.int .i64 r1, .bool r2]) ∧ Below w.heap.size w w' := by
 have hu55 := Tryz.underlying55
 have HG := Aside0.mk hG
 clear hG
 have HB := Aside0.mk (Below.refl w.heap.size w)
 have H : ((impl_isTilted.f k a0 a1).bind fun t101 => (if t101 = true then ((impl_read.f a0).bind fun bt102 => (if 0 < (a1.size : Int) then ((impl_tray_isStill.f k bt102.1 bt102.2.1 bt102.2.2 (bt a1 0)).bind fun t108 => (if t108 = true then ((impl_tray_stretches.f k bt102.1 bt102.2.1 bt102.2.2 (bt a1 0)).bind fun t109 => (impl_CountBefore.l0 k 1 t109 (t109.length : Int) 0 bt102.1 bt102.2.1 bt102.2.2)) else (some (0, true)))) else (none))) else (some (0, false)))) = some (r1, r2) := h
 clear h
 replace H := Option.bind_eq_some_iff.mp H
 obtain ⟨t101, A30, H⟩ := H
 replace H : (if t101 = true then ((impl_read.f a0).bind fun bt102 => (if 0 < (a1.size : Int) then ((impl_tray_isStill.f k bt102.1 bt102.2.1 bt102.2.2 (bt a1 0)).bind fun t108 => (if t108 = true then ((impl_tray_stretches.f k bt102.1 bt102.2.1 bt102.2.2 (bt a1 0)).bind fun t109 => (impl_CountBefore.l0 k 1 t109 (t109.length : Int) 0 bt102.1 bt102.2.1 bt102.2.2)) else (some (0, true)))) else (none))) else (some (0, false))) = some (r1, r2) := H
 have A3 := Aside0.mk A30
 clear A30
 by_cases c4 : t101 = true
 ·subst c4
  have H1 : ((impl_read.f a0).bind fun bt102 => (if 0 < (a1.size : Int) then ((impl_tray_isStill.f k bt102.1 bt102.2.1 bt102.2.2 (bt a1 0)).bind fun t108 => (if t108 = true then ((impl_tray_stretches.f k bt102.1 bt102.2.1 bt102.2.2 (bt a1 0)).bind fun t109 => (impl_CountBefore.l0 k 1 t109 (t109.length : Int) 0 bt102.1 bt102.2.1 bt102.2.2)) else (some (0, true)))) else (none))) = some (r1, r2) := by rw [if_pos rfl] at H; exact H
  clear H
  have H := H1
  clear H1
  replace H := Option.bind_eq_some_iff.mp H
  obtain ⟨⟨t102, t103, t104⟩, A50, H⟩ := H
  replace H : (if 0 < (a1.size : Int) then ((impl_tray_isStill.f k t102 t103 t104 (bt a1 0)).bind fun t108 => (if t108 = true then ((impl_tray_stretches.f k t102 t103 t104 (bt a1 0)).bind fun t109 => (impl_CountBefore.l0 k 1 t109 (t109.length : Int) 0 t102 t103 t104)) else (some (0, true)))) else (none)) = some (r1, r2) := H
  have A5 := Aside0.mk A50
  clear A50
  by_cases c6 : 0 < (a1.size : Int)
  ·rw [if_pos c6] at H
   have c6b0 : decide (0 < (a1.size : Int)) = true := decide_eq_true c6
   have c6b1 : decide (0 < a1.size) = true := decide_eq_true (by omega)
   clear c6
   replace H := Option.bind_eq_some_iff.mp H
   obtain ⟨t108, A80, H⟩ := H
   replace H : (if t108 = true then ((impl_tray_stretches.f k t102 t103 t104 (bt a1 0)).bind fun t109 => (impl_CountBefore.l0 k 1 t109 (t109.length : Int) 0 t102 t103 t104)) else (some (0, true))) = some (r1, r2) := H
   have A8 := Aside0.mk A80
   clear A80
   by_cases c9 : t108 = true
   ·subst c9
    have H1 : ((impl_tray_stretches.f k t102 t103 t104 (bt a1 0)).bind fun t109 => (impl_CountBefore.l0 k 1 t109 (t109.length : Int) 0 t102 t103 t104)) = some (r1, r2) := by rw [if_pos rfl] at H; exact H
    clear H
    have H := H1
    clear H1
    replace H := Option.bind_eq_some_iff.mp H
    obtain ⟨t109, A110, H⟩ := H
    replace H : (impl_CountBefore.l0 k 1 t109 (t109.length : Int) 0 t102 t103 t104) = some (r1, r2) := H
    have A11 := Aside0.mk A110
    clear A110
    have H' := Aside0.mk H
    clear H
    go_enter Tryz.func10, Tryz.ntmps10
    try go_wp2_with (first | ((with_reducible refine gate_callee (f := 32) rfl ?_); refine gcall (some 15) Tryz.func32 #[.string a0, .string a1] rfl ?_; (with_reducible refine (impl_isTilted.calls k a0 a1 true _ ?side1 A3.out).mono ?_); (case side1 => (refine GoodW.below HG.out ?_); exact bel HB); rintro e w12 ⟨rfl, hb⟩; refine ⟨_, rfl, ?_⟩; have n0_ := Aside0.mk (below_step (bel HB) hb); clear HB; have HB := n0_; clear n0_; (try clear hb); (try clear hb2); (try clear hk); (try clear hi)) | ((with_reducible refine gate_callee (f := 33) rfl ?_); refine gcall (some 18) Tryz.func33 #[.string a0] rfl ?_; (with_reducible refine (impl_read.calls a0 t102 t103 t104 _ ?side1 A5.out).mono ?_); (case side1 => (refine GoodW.below HG.out ?_); exact bel HB); rintro e w13 ⟨v105, rfl, ho0, hb⟩; refine ⟨_, rfl, ?_⟩; have n0_ := Aside0.mk (Kd.V_lower (Kd.V_mono (ok' := fun k_ => True) ho0 (fun k_ hk_ => trivial)) (below_size (bel HB))); have n1_ := Aside0.mk (below_step (bel HB) hb); clear HB; have HO106 := n0_; have HB := n1_; clear n0_ n1_; (try clear hb); (try clear hb2); (try clear hk); (try clear hi); (try clear ho0)) | ((with_reducible refine gate_dst (N := 6) rfl ?_); refine boxE (N := 6) (cs := #[.int .i64 0, .int .i64 0, .slice none 0 0]) (t := 55) ?_; intro gb107 hg w14 hbox hb; have n0_ := Aside0.mk (Kd.V_below (Kd.V_elderB (by (with_reducible repeat (first | apply Kd.V_alloc | apply Kd.V_drewN | apply Kd.V_drew)); (first | exact HO106.out | exact R_any HO106.out)) gb107 (Nat.le_of_eq hg.symm)) hb); have n1_ := Aside0.mk (below_step (bel HB) hb); have n2_ := Aside0.mk (hbox); have n3_ := Aside0.mk (gsz hg (bel HB)); have n4_ := Aside0.mk (gsz hg (bel HB)); clear HO106; clear HB; have HO106 := n0_; have HB := n1_; have BK107 := n2_; have GW107 := n3_; have GE107 := n4_; clear n0_ n1_ n2_ n3_ n4_; clear hb hbox hg; have hcz15_0 : w14.cell? ⟨gb107, 0, none⟩ = some (.int .i64 0) := (blk_cell BK107.out 0).trans rfl; have hcz15_1 : w14.cell? ⟨gb107, 1, none⟩ = some (.int .i64 0) := (blk_cell BK107.out 1).trans rfl; have hcz15_2 : w14.cell? ⟨gb107, 2, none⟩ = some (.slice none 0 0) := (blk_cell BK107.out 2).trans rfl; have hfz15_0 := blk_frozen BK107.out 0; have hfz15_1 := blk_frozen BK107.out 1; have hfz15_2 := blk_frozen BK107.out 2; obtain ⟨Ao16, co16, eo16⟩ := Kd.V_slice HO106.out; subst eo16))
    have n0_ : Aside0 (Kd.V (Kd.int .u8) 5 (((w14.setCell ⟨gb107, 0, none⟩ (.int .i64 t102)).setCell ⟨gb107, 1, none⟩ (.int .i64 t103)).setCell ⟨gb107, 2, none⟩ (.slice Ao16 t104.length co16)) w.heap.size (fun k_ => k_ ≠ gb107) (.slice Ao16 t104.length co16) t104) := ⟨by (with_reducible repeat (first | apply Kd.V_alloc | apply Kd.V_drewN | apply Kd.V_drew)); exact Kd.V_mono (Kd.V_far (p := ⟨gb107, 2, none⟩) (Kd.V_far (p := ⟨gb107, 1, none⟩) (Kd.V_far (p := ⟨gb107, 0, none⟩) (Kd.V_mono HO106.out (fun k_ hk => (⟨hk, hk.2⟩ : _ ∧ k_ ≠ gb107))) (fun _ hk => hk.2) (.int .i64 t102)) (fun _ hk => hk.2) (.int .i64 t103)) (fun _ hk => hk.2) (.slice Ao16 t104.length co16)) (fun _ hk => hk.1.2)⟩
    have n1_ : Aside0 ((((w14.setCell ⟨gb107, 0, none⟩ (.int .i64 t102)).setCell ⟨gb107, 1, none⟩ (.int .i64 t103)).setCell ⟨gb107, 2, none⟩ (.slice Ao16 t104.length co16)).heap[gb107]? = some (.cells #[.int .i64 t102, .int .i64 t103, .slice Ao16 t104.length co16] 55 (0, 0))) := ⟨by (with_reducible repeat (first | refine blk_drewN ?_ _ | refine blk_drew ?_ | refine blk_alloc ?_ _)); refine blk_put (cs := #[.int .i64 t102, .int .i64 t103, .slice none 0 0]) ?_ 2 _ rfl; (with_reducible repeat (first | refine blk_drewN ?_ _ | refine blk_drew ?_ | refine blk_alloc ?_ _)); refine blk_put (cs := #[.int .i64 t102, .int .i64 0, .slice none 0 0]) ?_ 1 _ rfl; (with_reducible repeat (first | refine blk_drewN ?_ _ | refine blk_drew ?_ | refine blk_alloc ?_ _)); refine blk_put (cs := #[.int .i64 0, .int .i64 0, .slice none 0 0]) ?_ 0 _ rfl; exact blc⟩
    have n2_ : Aside0 (Below w.heap.size w (((w14.setCell ⟨gb107, 0, none⟩ (.int .i64 t102)).setCell ⟨gb107, 1, none⟩ (.int .i64 t103)).setCell ⟨gb107, 2, none⟩ (.slice Ao16 t104.length co16))) := ⟨bel HB⟩
    (try clear HO106)
    (try clear BK107)
    (try clear HB)
    generalize (((w14.setCell ⟨gb107, 0, none⟩ (.int .i64 t102)).setCell ⟨gb107, 1, none⟩ (.int .i64 t103)).setCell ⟨gb107, 2, none⟩ (.slice Ao16 t104.length co16)) = w17 at n0_ n1_ n2_ ⊢
    have HO106 := n0_
    have BK107 := n1_
    have HB := n2_
    clear n0_ n1_ n2_
    have n0_ := Aside0.mk (Kd.V_drew HO106.out)
    have n1_ := Aside0.mk (blk_drew BK107.out)
    have n2_ := Aside0.mk (below_drew1 HB.out)
    clear HO106
    clear BK107
    clear HB
    have HO106 := n0_
    have BK107 := n1_
    have HB := n2_
    clear n0_ n1_ n2_
    have p7 : 0 ≤ (0 : Int) := (by omega)
    have q7 : 0 < a1.size := (by have : (0 : Int) < (a1.size : Int) := of_decide_eq_true (by first | (with_reducible assumption) | assumption); omega)
    have hx7 : ∀ h : 0 < a1.size, ((a1[0]'h).toNat : Int) = bt a1 0 := bt_at a1 0
    clear p7
    have qi7 : (0 < (a1.size : Int)) = True := eq_true (of_decide_eq_true (by first | (with_reducible assumption) | assumption))
    replace q7 := eq_true q7
    refine start_ (n := 5) (S := fun w' => w'.cell? ⟨gb107, 0, none⟩ = some (.int .i64 t102) ∧ w'.cell? ⟨gb107, 1, none⟩ = some (.int .i64 t103) ∧ w'.cell? ⟨gb107, 2, none⟩ = some (.slice Ao16 t104.length co16)) (ds := []) #[false, false, false, false, false] (by kernel_rfl) rfl rfl ⟨(blk_cell BK107.out 0).trans rfl, (blk_cell BK107.out 1).trans rfl, (blk_cell BK107.out 2).trans rfl⟩ (fun hHeld => ?_)
    generalize w17.drew = w18 at HO106 BK107 HB hHeld ⊢
    refine pure_ (i := 1) (N := some 20) (v := ?_) (a' := ?_) #[false, true, false, false, false] rfl rfl (by kernel_rfl) (fun _ _ _ h => h) (Or.inl ⟨by rfl, ?_⟩) ?_ ?_
    rotate_left
    ·intro w'
     go_simp
     with_reducible rfl
    rotate_left
    ·simp only [Act.put, List.setIfInBounds_toArray, List.set_cons_zero, List.set_cons_succ, i64_w, i32_w]
     rfl
    refine take_ (i := 0) (N := some 19) (v := ?_) (a' := ?_) #[true, true, false, false, false] rfl rfl (by kernel_rfl) (fun _ _ _ h => h) (Or.inl ⟨by rfl, ?_⟩) hHeld ?_ ?_
    rotate_left
    ·rintro w' ⟨s0, s1, s2⟩
     go_simp
     with_reducible rfl
    rotate_left
    ·simp only [Act.put, List.setIfInBounds_toArray, List.set_cons_zero, List.set_cons_succ, i64_w, i32_w]
     rfl
    refine take_ (i := 2) (N := some 21) (v := ?_) (a' := ?_) #[true, true, true, false, false] rfl rfl (by kernel_rfl) (fun _ _ _ h => h) (Or.inl ⟨by rfl, ?_⟩) hHeld ?_ ?_
    rotate_left
    ·rintro w' ⟨s0, s1, s2⟩
     go_simp
     with_reducible rfl
    rotate_left
    ·simp only [Act.put, List.setIfInBounds_toArray, List.set_cons_zero, List.set_cons_succ, i64_w, i32_w]
     rfl
    refine one_ (i := 3) (N := some 22) #[true, true, true, true, false] rfl rfl (by kernel_rfl) (by decide) (fun K hK => ?_)
    refine goes_ Tryz.func34 (by kernel_rfl) rfl #[.agg #[.int .i64 t102, .int .i64 t103, .slice Ao16 t104.length co16], .int .u8 (bt a1 0)] (by rfl) rfl rfl (by (try simp only [List.map_toArray, List.map_cons, List.map_nil]); first | done | rfl | (simp only [List.length_drop, List.length_take]; rfl)) ?_
    with_reducible refine (impl_tray_isStill.calls k t102 t103 _ _ t104 (bt a1 0) true _ ?side1 ?side2 A8.out).mono ?_
    (case side1 => repeat (first | exact (Kd.V_reads' HO106.out).2.2 | (with_reducible refine Kd.C_alloc ?_ _) | (with_reducible refine Kd.C_drewN ?_ _) | (with_reducible refine Kd.C_drew ?_)))
    (case side2 => exact (Kd.V_reads' HO106.out).2.1)
    rintro e w19 ⟨rfl, hb⟩
    refine ⟨_, rfl, ?_⟩
    have n0_ := Aside0.mk (Kd.V_below (by (with_reducible repeat (first | apply Kd.V_alloc | apply Kd.V_drewN | apply Kd.V_drew)); (first | exact HO106.out | exact R_any HO106.out)) hb)
    have n1_ := Aside0.mk (blk_below (g := gb107) (o := .cells #[.int .i64 t102, .int .i64 t103, .slice Ao16 t104.length co16] 55 (0, 0)) blc hb)
    have n2_ := Aside0.mk (below_step (bel HB) hb)
    clear HO106
    clear BK107
    clear HB
    have HO106 := n0_
    have BK107 := n1_
    have HB := n2_
    clear n0_ n1_ n2_
    (try clear hb)
    (try clear hb2)
    (try clear hk)
    (try clear hi)
    refine hK.out _ _ ⟨(blk_cell BK107.out 0).trans rfl, (blk_cell BK107.out 1).trans rfl, (blk_cell BK107.out 2).trans rfl⟩ (fun hHeld => ?_)
    clear hK K
    refine norm_ (a' := ?_) ?_ ?_
    rotate_left
    ·show Act.put _ (some 22) _ = _
     simp only [Act.put, List.setIfInBounds_toArray, List.set_cons_zero, List.set_cons_succ, i64_w, i32_w]
     rfl
    refine pure_ (i := 4) (N := some 23) (v := ?_) (a' := ?_) #[true, true, true, true, true] rfl rfl (by kernel_rfl) (fun _ _ _ h => h) (Or.inl ⟨by rfl, ?_⟩) ?_ ?_
    rotate_left
    ·intro w'
     go_simp
     with_reducible rfl
    rotate_left
    ·simp only [Act.put, List.setIfInBounds_toArray, List.set_cons_zero, List.set_cons_succ, i64_w, i32_w]
     rfl
    refine done_ (by kernel_rfl) ?_
    try go_wp2
    have n0_ := Aside0.mk (Kd.V_drew HO106.out)
    have n1_ := Aside0.mk (blk_drew BK107.out)
    have n2_ := Aside0.mk (below_drew1 HB.out)
    clear HO106
    clear BK107
    clear HB
    have HO106 := n0_
    have BK107 := n1_
    have HB := n2_
    clear n0_ n1_ n2_
    have p10 : 0 ≤ (0 : Int) := (by omega)
    have q10 : 0 < a1.size := (by have : (0 : Int) < (a1.size : Int) := of_decide_eq_true (by first | (with_reducible assumption) | assumption); omega)
    have hx10 : ∀ h : 0 < a1.size, ((a1[0]'h).toNat : Int) = bt a1 0 := bt_at a1 0
    clear p10
    have qi10 : (0 < (a1.size : Int)) = True := eq_true (of_decide_eq_true (by first | (with_reducible assumption) | assumption))
    replace q10 := eq_true q10
    refine start_ (n := 6) (S := fun w' => w'.cell? ⟨gb107, 0, none⟩ = some (.int .i64 t102) ∧ w'.cell? ⟨gb107, 1, none⟩ = some (.int .i64 t103) ∧ w'.cell? ⟨gb107, 2, none⟩ = some (.slice Ao16 t104.length co16)) (ds := []) #[false, false, false, false, false, false] (by kernel_rfl) rfl rfl ⟨(blk_cell BK107.out 0).trans rfl, (blk_cell BK107.out 1).trans rfl, (blk_cell BK107.out 2).trans rfl⟩ (fun hHeld => ?_)
    generalize w19.drew = w20 at HO106 BK107 HB hHeld ⊢
    refine pure_ (i := 1) (N := some 25) (v := ?_) (a' := ?_) #[false, true, false, false, false, false] rfl rfl (by kernel_rfl) (fun _ _ _ h => h) (Or.inl ⟨by rfl, ?_⟩) ?_ ?_
    rotate_left
    ·intro w'
     go_simp
     with_reducible rfl
    rotate_left
    ·simp only [Act.put, List.setIfInBounds_toArray, List.set_cons_zero, List.set_cons_succ, i64_w, i32_w]
     rfl
    refine pure_ (i := 5) (N := some 29) (v := ?_) (a' := ?_) #[false, true, false, false, false, true] rfl rfl (by kernel_rfl) (fun _ _ _ h => h) (Or.inl ⟨by rfl, ?_⟩) ?_ ?_
    rotate_left
    ·intro w'
     go_simp
     with_reducible rfl
    rotate_left
    ·simp only [Act.put, List.setIfInBounds_toArray, List.set_cons_zero, List.set_cons_succ, i64_w, i32_w]
     rfl
    refine take_ (i := 0) (N := some 24) (v := ?_) (a' := ?_) #[true, true, false, false, false, true] rfl rfl (by kernel_rfl) (fun _ _ _ h => h) (Or.inl ⟨by rfl, ?_⟩) hHeld ?_ ?_
    rotate_left
    ·rintro w' ⟨s0, s1, s2⟩
     go_simp
     with_reducible rfl
    rotate_left
    ·simp only [Act.put, List.setIfInBounds_toArray, List.set_cons_zero, List.set_cons_succ, i64_w, i32_w]
     rfl
    refine take_ (i := 2) (N := some 26) (v := ?_) (a' := ?_) #[true, true, true, false, false, true] rfl rfl (by kernel_rfl) (fun _ _ _ h => h) (Or.inl ⟨by rfl, ?_⟩) hHeld ?_ ?_
    rotate_left
    ·rintro w' ⟨s0, s1, s2⟩
     go_simp
     with_reducible rfl
    rotate_left
    ·simp only [Act.put, List.setIfInBounds_toArray, List.set_cons_zero, List.set_cons_succ, i64_w, i32_w]
     rfl
    refine one_ (i := 3) (N := some 27) #[true, true, true, true, false, true] rfl rfl (by kernel_rfl) (by decide) (fun K hK => ?_)
    refine goes_ Tryz.func35 (by kernel_rfl) rfl #[.agg #[.int .i64 t102, .int .i64 t103, .slice Ao16 t104.length co16], .int .u8 (bt a1 0)] (by rfl) rfl rfl (by (try simp only [List.map_toArray, List.map_cons, List.map_nil]); first | done | rfl | (simp only [List.length_drop, List.length_take]; rfl)) ?_
    with_reducible refine (impl_tray_stretches.calls k t102 t103 _ _ t104 (bt a1 0) t109 _ ?side1 ?side2 A11.out).mono ?_
    (case side1 => repeat (first | exact (Kd.V_reads' HO106.out).2.2 | (with_reducible refine Kd.C_alloc ?_ _) | (with_reducible refine Kd.C_drewN ?_ _) | (with_reducible refine Kd.C_drew ?_)))
    (case side2 => exact (Kd.V_reads' HO106.out).2.1)
    rintro e w21 ⟨v110, rfl, ho0, hb⟩
    refine ⟨_, rfl, ?_⟩
    have n0_ := Aside0.mk (Kd.V_elder' (by (with_reducible repeat (first | apply Kd.V_alloc | apply Kd.V_drewN | apply Kd.V_drew)); (first | exact HO106.out | exact R_any HO106.out)) (Kd.S_base ho0) hb)
    have n1_ := Aside0.mk (Kd.S_lower ho0 (below_size (bel HB)))
    have n2_ := Aside0.mk (blk_below (g := gb107) (o := .cells #[.int .i64 t102, .int .i64 t103, .slice Ao16 t104.length co16] 55 (0, 0)) blc hb)
    have n3_ := Aside0.mk (below_step (bel HB) hb)
    clear HO106
    clear BK107
    clear HB
    have HO106 := n0_
    have HO111 := n1_
    have BK107 := n2_
    have HB := n3_
    clear n0_ n1_ n2_ n3_
    (try clear hb)
    (try clear hb2)
    (try clear hk)
    (try clear hi)
    (try clear ho0)
    obtain ⟨Ao22, co22, eo22⟩ := Kd.S_slice HO111.out
    (first | subst eo22 | (injection eo22 with f1_ f2_ f3_; have f4_ := f1_.symm; have f5_ := f3_.symm; clear f1_ f2_ f3_; subst f4_; subst f5_))
    refine hK.out _ _ ⟨(blk_cell BK107.out 0).trans rfl, (blk_cell BK107.out 1).trans rfl, (blk_cell BK107.out 2).trans rfl⟩ (fun hHeld => ?_)
    clear hK K
    refine norm_ (a' := ?_) ?_ ?_
    rotate_left
    ·show Act.put _ (some 27) _ = _
     simp only [Act.put, List.setIfInBounds_toArray, List.set_cons_zero, List.set_cons_succ, i64_w, i32_w]
     rfl
    refine pure_ (i := 4) (N := some 28) (v := ?_) (a' := ?_) #[true, true, true, true, true, true] rfl rfl (by kernel_rfl) (fun _ _ _ h => h) (Or.inl ⟨by rfl, ?_⟩) ?_ ?_
    rotate_left
    ·intro w'
     go_simp
     with_reducible rfl
    rotate_left
    ·simp only [Act.put, List.setIfInBounds_toArray, List.set_cons_zero, List.set_cons_succ, i64_w, i32_w]
     rfl
    refine done_ (by kernel_rfl) ?_
    try go_wp2
    go_loopg [7, 29] k (fun kq v7 v29 w' => ∃ (x7_1 : Int) (x29_1 : Int), v7 = .int .i64 x7_1 ∧ v29 = .int .i64 x29_1 ∧ Aside0 (impl_CountBefore.l0 kq x7_1 t109 (t109.length : Int) x29_1 t102 t103 t104 = some (r1, r2)) ∧ Aside0 (kq ≤ k) ∧ Aside0 (Kd.S (Kd.slice 3 (Kd.int .i64)) 25 w' w.heap.size (fun _ => True) (.slice Ao22 t109.length co22) t109) ∧ Aside0 (Kd.V (Kd.int .u8) 5 w' w.heap.size (fun k_ => some k_ ≠ ((.slice Ao22 t109.length co22) : Value).ownBlock ∧ k_ ≠ gb107) (.slice Ao16 t104.length co16) t104) ∧ Aside0 (w'.heap[gb107]? = some (.cells #[.int .i64 t102, .int .i64 t103, (.slice Ao16 t104.length co16)] 55 (0, 0))) ∧ Aside0 (Below w.heap.size w w'))
    case atStart => exact ⟨(1), (0), (by first | rfl | (simp; done) | (simp [*]; done)), (by first | rfl | (simp; done) | (simp [*]; done)), H', ⟨Nat.le_refl _⟩, ⟨by (with_reducible repeat (first | apply Kd.S_alloc | apply Kd.S_drewN | apply Kd.S_drew)); (first | exact HO111.out | exact R_any HO111.out)⟩, ⟨by (with_reducible repeat (first | apply Kd.V_alloc | apply Kd.V_drewN | apply Kd.V_drew)); exact Kd.V_mono HO106.out (fun _ hk => ⟨hk.2, hk.1⟩)⟩, ⟨blc⟩, ⟨bel HB⟩⟩
    case round =>
     clear H'
     try clear c1
     try clear p1
     try clear q1
     try clear hx1
     try clear qi1
     try clear p2
     try clear c3
     try clear c4
     try clear c6
     try clear c6b0
     try clear c6b0y
     try clear c6b1
     try clear p7
     try clear q7
     try clear hx7
     try clear qi7
     try clear c9
     try clear c10
     try clear p10
     try clear q10
     try clear hx10
     try clear qi10
     try clear hcz15_0
     try clear hcz15_1
     try clear hcz15_2
     try clear hfz15_0
     try clear hfz15_1
     try clear hfz15_2
     try clear p10
     try clear p7
     try clear q10
     try clear q7
     obtain ⟨x7_1, x29_1, rfl, rfl, HA, HK1, HO_27, HO_108002, BK107, HB⟩ := hrel
     cases gk with
     | zero => exact absurd HA.out (by simp [impl_CountBefore.l0])
     | succ k1 =>
      have H := HA.out
      clear HA
      simp only [impl_CountBefore.l0] at H
      by_cases c23 : x29_1 < (t109.length : Int)
      ·rw [if_pos c23] at H
       have c23b0 : decide (x29_1 < (t109.length : Int)) = true := decide_eq_true c23
       clear c23
       by_cases c24 : 0 ≤ x29_1
       ·rw [if_pos c24] at H
        have c24b0 : decide (0 ≤ x29_1) = true := decide_eq_true c24
        clear c24
        by_cases c25 : x29_1 < (t109.length : Int)
        ·rw [if_pos c25] at H
         have c25b0 : decide (x29_1 < (t109.length : Int)) = true := decide_eq_true c25
         clear c25
         have H' := Aside0.mk H
         clear H
         have p112 : 0 ≤ (x29_1 : Int) := of_decide_eq_true (by first | (with_reducible assumption) | assumption)
         have q112 : x29_1 < (t109.length : Int) := of_decide_eq_true (by first | (with_reducible assumption) | assumption)
         obtain ⟨ad112, A112_0, c112_0, e112, hx112_0, hl112_0, hi112_0⟩ := at_Lii (Kd.S_reads' HO_27.out).2.2 x29_1 p112 q112
         cases e112
         obtain ⟨ce112, hce112, hMe112, hcc112⟩ := Kd.S_get HO_27.out [] x29_1 p112 (by first | exact q112 | exact of_decide_eq_true (by first | (with_reducible assumption) | assumption) | (have e_ := (Kd.S_reads' HO_27.out).1; omega))
         obtain ⟨ve112_0, rfl, ge112_0⟩ := hMe112
         have hv112_0 := hcc112 0 _ rfl
         rw [Nat.add_zero, show ((Kd.slice 3 (Kd.int .i64))).sz = 1 from rfl, Nat.mul_one] at hv112_0
         replace hv112_0 := Option.some.inj (hv112_0.symm.trans hx112_0)
         rw [hv112_0] at ge112_0
         have HL112_0 := Aside0.mk (show Kd.R (Kd.int .i64) 3 _ _ _ _ (rd_Lii t109 x29_1) from ge112_0)
         clear hv112_0 ge112_0
         clear hcc112 hce112
         have HR112_0 := Aside0.mk hi112_0
         have HC112_0 := Aside0.mk hl112_0
         clear hi112_0 hl112_0
         replace p112 := eq_true p112
         replace q112 := eq_true q112
         go_wp2
         go_loopg [10, 35] k1 (fun kq v10 v35 w' => ∃ (x10_2 : Int) (x35_2 : Int), v10 = .int .i64 x10_2 ∧ v35 = .int .i64 x35_2 ∧ Aside0 (impl_CountBefore.l1 kq x7_1 (rd_Lii t109 x29_1) x10_2 t109 (t109.length : Int) x29_1 (rd_Lii t109 x29_1) ((rd_Lii t109 x29_1).length : Int) x35_2 t102 t103 t104 = some (r1, r2)) ∧ Aside0 (kq ≤ k1) ∧ Aside0 (Kd.S (Kd.slice 3 (Kd.int .i64)) 25 w' w.heap.size (fun _ => True) (.slice (some ad112) t109.length co22) t109) ∧ Aside0 (Kd.V (Kd.int .u8) 5 w' w.heap.size (fun k_ => some k_ ≠ ((.slice (some ad112) t109.length co22) : Value).ownBlock ∧ k_ ≠ gb107) (.slice Ao16 t104.length co16) t104) ∧ Aside0 (w'.heap[gb107]? = some (.cells #[.int .i64 t102, .int .i64 t103, (.slice Ao16 t104.length co16)] 55 (0, 0))) ∧ Aside0 (Kd.C (Kd.int .i64) w' A112_0 (rd_Lii t109 x29_1).length (rd_Lii t109 x29_1)) ∧ Aside0 (Below w.heap.size w w'))
         case atStart => exact ⟨(0), (0), (by first | rfl | (simp; done) | (simp [*]; done)), (by first | rfl | (simp; done) | (simp [*]; done)), H', ⟨Nat.le_refl _⟩, ⟨by (with_reducible repeat (first | apply Kd.S_alloc | apply Kd.S_drewN | apply Kd.S_drew)); (first | exact HO_27.out | exact R_any HO_27.out)⟩, ⟨by (with_reducible repeat (first | apply Kd.V_alloc | apply Kd.V_drewN | apply Kd.V_drew)); (first | exact HO_108002.out | exact R_any HO_108002.out)⟩, ⟨blc⟩, ⟨by repeat (first | (with_reducible exact HR112_0.out) | (with_reducible refine Kd.C_alloc ?_ _) | (with_reducible refine Kd.C_drewN ?_ _) | (with_reducible refine Kd.C_drew ?_) | exact HR112_0.out)⟩, ⟨bel HB⟩⟩
         case round =>
          clear H'
          try clear c1
          try clear p1
          try clear q1
          try clear hx1
          try clear qi1
          try clear c2
          try clear p2
          try clear c3
          try clear c4
          try clear c6
          try clear c6b0
          try clear c6b0y
          try clear c6b1
          try clear p7
          try clear q7
          try clear hx7
          try clear qi7
          try clear c9
          try clear c10
          try clear p10
          try clear q10
          try clear hx10
          try clear qi10
          try clear c11
          try clear p11
          try clear q11
          try clear hx11
          try clear c23
          try clear c23b0
          try clear c23b0y
          try clear c24
          try clear c24b0
          try clear c24b0y
          try clear c25
          try clear c25b0
          try clear c25b0y
          try clear hcz15_0
          try clear hcz15_1
          try clear hcz15_2
          try clear hfz15_0
          try clear hfz15_1
          try clear hfz15_2
          try clear hx112_0
          try clear p1
          try clear p10
          try clear p112
          try clear p2
          try clear p7
          try clear q1
          try clear q10
          try clear q112
          try clear q7
          obtain ⟨x10_2, x35_2, rfl, rfl, HA, HK2, HO_27, HO_108002, BK107, HR112_0, HB⟩ := hrel
          cases gk with
          | zero => exact absurd HA.out (by simp [impl_CountBefore.l1])
          | succ k2 =>
           have H := HA.out
           clear HA
           simp only [impl_CountBefore.l1] at H
           by_cases c26 : x35_2 < ((rd_Lii t109 x29_1).length : Int)
           ·rw [if_pos c26] at H
            have c26b0 : decide (x35_2 < ((rd_Lii t109 x29_1).length : Int)) = true := decide_eq_true c26
            clear c26
            by_cases c27 : 0 ≤ x35_2
            ·rw [if_pos c27] at H
             have c27b0 : decide (0 ≤ x35_2) = true := decide_eq_true c27
             clear c27
             by_cases c28 : x35_2 < ((rd_Lii t109 x29_1).length : Int)
             ·rw [if_pos c28] at H
              have c28b0 : decide (x35_2 < ((rd_Lii t109 x29_1).length : Int)) = true := decide_eq_true c28
              clear c28
              by_cases c29 : 0 ≤ (rd (rd_Lii t109 x29_1) x35_2)
              ·rw [if_pos c29] at H
               have c29b0 : decide (0 ≤ (rd (rd_Lii t109 x29_1) x35_2)) = true := decide_eq_true c29
               clear c29
               by_cases c30 : (rd (rd_Lii t109 x29_1) x35_2) < (t104.length : Int)
               ·rw [if_pos c30] at H
                have c30b0 : decide ((rd (rd_Lii t109 x29_1) x35_2) < (t104.length : Int)) = true := decide_eq_true c30
                clear c30
                replace H := Option.bind_eq_some_iff.mp H
                obtain ⟨t115, A310, H⟩ := H
                replace H : ((impl_bit.f t115).bind fun t116 => (impl_CountBefore.l1 k2 x7_1 (rd_Lii t109 x29_1) (wrap64 (x10_2 + t116)) t109 (t109.length : Int) x29_1 (rd_Lii t109 x29_1) ((rd_Lii t109 x29_1).length : Int) (wrap64 (x35_2 + 1)) t102 t103 t104)) = some (r1, r2) := H
                have A31 := Aside0.mk A310
                clear A310
                replace H := Option.bind_eq_some_iff.mp H
                obtain ⟨t116, A320, H⟩ := H
                replace H : (impl_CountBefore.l1 k2 x7_1 (rd_Lii t109 x29_1) (wrap64 (x10_2 + t116)) t109 (t109.length : Int) x29_1 (rd_Lii t109 x29_1) ((rd_Lii t109 x29_1).length : Int) (wrap64 (x35_2 + 1)) t102 t103 t104) = some (r1, r2) := H
                have A32 := Aside0.mk A320
                clear A320
                have H' := Aside0.mk H
                clear H
                have p113 : 0 ≤ (x35_2 : Int) := of_decide_eq_true (by first | (with_reducible assumption) | assumption)
                have q113 : x35_2 < ((rd_Lii t109 x29_1).length : Int) := of_decide_eq_true (by first | (with_reducible assumption) | assumption)
                obtain ⟨ad113, e113, hx113_0⟩ := Kd.at_int HR112_0.out x35_2 p113 q113
                cases e113
                (try replace hx113_0 := (HB.out.cell (World.block_lt_of_cell? w _ hx113_0)).trans hx113_0)
                replace p113 := eq_true p113
                replace q113 := eq_true q113
                have hcz33_0 : wr.cell? ⟨gb107, 0, none⟩ = some (.int .i64 t102) := (blk_cell BK107.out 0).trans rfl
                have hcz33_1 : wr.cell? ⟨gb107, 1, none⟩ = some (.int .i64 t103) := (blk_cell BK107.out 1).trans rfl
                have hcz33_2 : wr.cell? ⟨gb107, 2, none⟩ = some (.slice Ao16 t104.length co16) := (blk_cell BK107.out 2).trans rfl
                have hfz33_0 := blk_frozen BK107.out 0
                have hfz33_1 := blk_frozen BK107.out 1
                have hfz33_2 := blk_frozen BK107.out 2
                have p114 : 0 ≤ ((rd (rd_Lii t109 x29_1) x35_2) : Int) := of_decide_eq_true (by first | (with_reducible assumption) | assumption)
                have q114 : (rd (rd_Lii t109 x29_1) x35_2) < (t104.length : Int) := of_decide_eq_true (by first | (with_reducible assumption) | assumption)
                obtain ⟨ad114, e114, hx114_0⟩ := Kd.at_int (Kd.V_reads' HO_108002.out).2.2 (rd (rd_Lii t109 x29_1) x35_2) p114 q114
                cases e114
                replace p114 := eq_true p114
                replace q114 := eq_true q114
                go_wp2_with (first | ((with_reducible refine gate_callee (f := 37) rfl ?_); refine gcall (some 45) Tryz.func37 #[.int .u8 (rd t104 (rd (rd_Lii t109 x29_1) x35_2))] rfl ?_; (with_reducible refine (impl_isBall.calls (rd t104 (rd (rd_Lii t109 x29_1) x35_2)) t115 _ A31.out).mono ?_); rintro e w' ⟨rfl, ⟨nd, rfl⟩⟩; refine ⟨_, rfl, ?_⟩) | ((with_reducible refine gate_callee (f := 36) rfl ?_); refine gcall (some 46) Tryz.func36 #[.bool t115] rfl ?_; (with_reducible refine (impl_bit.calls t115 t116 _ A32.out).mono ?_); rintro e w' ⟨rfl, ⟨nd, rfl⟩⟩; refine ⟨_, rfl, ?_⟩))
                go_roundg k2
                case measure => have := HK1.out; have := HK2.out; omega
                case rel => exact ⟨(wrap64 (x10_2 + t116)), (wrap64 (x35_2 + 1)), (by first | rfl | (simp; done) | (simp [*]; done)), (by first | rfl | (simp; done) | (simp [*]; done)), H', ⟨by have := HK1.out; have := HK2.out; omega⟩, ⟨by (with_reducible repeat (first | apply Kd.S_alloc | apply Kd.S_drewN | apply Kd.S_drew)); (first | exact HO_27.out | exact R_any HO_27.out)⟩, ⟨by (with_reducible repeat (first | apply Kd.V_alloc | apply Kd.V_drewN | apply Kd.V_drew)); (first | exact HO_108002.out | exact R_any HO_108002.out)⟩, ⟨blc⟩, ⟨by repeat (first | (with_reducible exact HR112_0.out) | (with_reducible refine Kd.C_alloc ?_ _) | (with_reducible refine Kd.C_drewN ?_ _) | (with_reducible refine Kd.C_drew ?_) | exact HR112_0.out)⟩, ⟨bel HB⟩⟩
               ·rw [if_neg c30] at H
                exact absurd H (by simp)
              ·rw [if_neg c29] at H
               exact absurd H (by simp)
             ·rw [if_neg c28] at H
              exact absurd H (by simp)
            ·rw [if_neg c27] at H
             exact absurd H (by simp)
           ·rw [if_neg c26] at H
            have c26b0 : decide (x35_2 < ((rd_Lii t109 x29_1).length : Int)) = false := decide_eq_false c26
            clear c26
            replace H := Option.bind_eq_some_iff.mp H
            obtain ⟨t117, A340, H⟩ := H
            replace H : (impl_CountBefore.l0 k2 (wrap64 (x7_1 * t117)) t109 (t109.length : Int) (wrap64 (x29_1 + 1)) t102 t103 t104) = some (r1, r2) := H
            have A34 := Aside0.mk A340
            clear A340
            have H' := Aside0.mk H
            clear H
            go_wp2_with (first | ((with_reducible refine gate_callee (f := 38) rfl ?_); refine gcall (some 53) Tryz.func38 #[.int .i64 ((rd_Lii t109 x29_1).length : Int), .int .i64 x10_2] rfl ?_; (with_reducible refine (impl_binomial.calls k2 ((rd_Lii t109 x29_1).length : Int) x10_2 t117 _ A34.out).mono ?_); rintro e w' ⟨rfl, ⟨nd, rfl⟩⟩; refine ⟨_, rfl, ?_⟩))
            go_roundg k2
            case measure => have := HK1.out; have := HK2.out; omega
            case rel => exact ⟨(wrap64 (x7_1 * t117)), (wrap64 (x29_1 + 1)), (by first | rfl | (simp; done) | (simp [*]; done)), (by first | rfl | (simp; done) | (simp [*]; done)), H', ⟨by have := HK1.out; have := HK2.out; omega⟩, ⟨by (with_reducible repeat (first | apply Kd.S_alloc | apply Kd.S_drewN | apply Kd.S_drew)); (first | exact HO_27.out | exact R_any HO_27.out)⟩, ⟨by (with_reducible repeat (first | apply Kd.V_alloc | apply Kd.V_drewN | apply Kd.V_drew)); (first | exact HO_108002.out | exact R_any HO_108002.out)⟩, ⟨blc⟩, ⟨bel HB⟩⟩
        ·rw [if_neg c25] at H
         exact absurd H (by simp)
       ·rw [if_neg c24] at H
        exact absurd H (by simp)
      ·rw [if_neg c23] at H
       have c23b0 : decide (x29_1 < (t109.length : Int)) = false := decide_eq_false c23
       clear c23
       simp only [Option.some.injEq, Prod.mk.injEq] at H
       obtain ⟨rfl, rfl⟩ := H
       go_wp2
       go_ret2
       exact ⟨by first | rfl | (simp [errW_none, errW_some] <;> rfl) | (simp [*, errW_none, errW_some] <;> rfl), bel HB⟩
   ·replace c9 := Bool.eq_false_iff.mpr c9
    subst c9
    have H1 : (some (0, true)) = some (r1, r2) := by rw [if_neg (show ¬ (false = true) by decide)] at H; exact H
    clear H
    have H := H1
    clear H1
    simp only [Option.some.injEq, Prod.mk.injEq] at H
    obtain ⟨rfl, rfl⟩ := H
    go_enter Tryz.func10, Tryz.ntmps10
    try go_wp2_with (first | ((with_reducible refine gate_callee (f := 32) rfl ?_); refine gcall (some 15) Tryz.func32 #[.string a0, .string a1] rfl ?_; (with_reducible refine (impl_isTilted.calls k a0 a1 true _ ?side1 A3.out).mono ?_); (case side1 => (refine GoodW.below HG.out ?_); exact bel HB); rintro e w35 ⟨rfl, hb⟩; refine ⟨_, rfl, ?_⟩; have n0_ := Aside0.mk (below_step (bel HB) hb); clear HB; have HB := n0_; clear n0_; (try clear hb); (try clear hb2); (try clear hk); (try clear hi)) | ((with_reducible refine gate_callee (f := 33) rfl ?_); refine gcall (some 18) Tryz.func33 #[.string a0] rfl ?_; (with_reducible refine (impl_read.calls a0 t102 t103 t104 _ ?side1 A5.out).mono ?_); (case side1 => (refine GoodW.below HG.out ?_); exact bel HB); rintro e w36 ⟨v105, rfl, ho0, hb⟩; refine ⟨_, rfl, ?_⟩; have n0_ := Aside0.mk (Kd.V_lower (Kd.V_mono (ok' := fun k_ => True) ho0 (fun k_ hk_ => trivial)) (below_size (bel HB))); have n1_ := Aside0.mk (below_step (bel HB) hb); clear HB; have HO106 := n0_; have HB := n1_; clear n0_ n1_; (try clear hb); (try clear hb2); (try clear hk); (try clear hi); (try clear ho0)) | ((with_reducible refine gate_dst (N := 6) rfl ?_); refine boxE (N := 6) (cs := #[.int .i64 0, .int .i64 0, .slice none 0 0]) (t := 55) ?_; intro gb107 hg w37 hbox hb; have n0_ := Aside0.mk (Kd.V_below (Kd.V_elderB (by (with_reducible repeat (first | apply Kd.V_alloc | apply Kd.V_drewN | apply Kd.V_drew)); (first | exact HO106.out | exact R_any HO106.out)) gb107 (Nat.le_of_eq hg.symm)) hb); have n1_ := Aside0.mk (below_step (bel HB) hb); have n2_ := Aside0.mk (hbox); have n3_ := Aside0.mk (gsz hg (bel HB)); have n4_ := Aside0.mk (gsz hg (bel HB)); clear HO106; clear HB; have HO106 := n0_; have HB := n1_; have BK107 := n2_; have GW107 := n3_; have GE107 := n4_; clear n0_ n1_ n2_ n3_ n4_; clear hb hbox hg; have hcz38_0 : w37.cell? ⟨gb107, 0, none⟩ = some (.int .i64 0) := (blk_cell BK107.out 0).trans rfl; have hcz38_1 : w37.cell? ⟨gb107, 1, none⟩ = some (.int .i64 0) := (blk_cell BK107.out 1).trans rfl; have hcz38_2 : w37.cell? ⟨gb107, 2, none⟩ = some (.slice none 0 0) := (blk_cell BK107.out 2).trans rfl; have hfz38_0 := blk_frozen BK107.out 0; have hfz38_1 := blk_frozen BK107.out 1; have hfz38_2 := blk_frozen BK107.out 2; obtain ⟨Ao39, co39, eo39⟩ := Kd.V_slice HO106.out; subst eo39))
    have n0_ : Aside0 (Kd.V (Kd.int .u8) 5 (((w37.setCell ⟨gb107, 0, none⟩ (.int .i64 t102)).setCell ⟨gb107, 1, none⟩ (.int .i64 t103)).setCell ⟨gb107, 2, none⟩ (.slice Ao39 t104.length co39)) w.heap.size (fun k_ => k_ ≠ gb107) (.slice Ao39 t104.length co39) t104) := ⟨by (with_reducible repeat (first | apply Kd.V_alloc | apply Kd.V_drewN | apply Kd.V_drew)); exact Kd.V_mono (Kd.V_far (p := ⟨gb107, 2, none⟩) (Kd.V_far (p := ⟨gb107, 1, none⟩) (Kd.V_far (p := ⟨gb107, 0, none⟩) (Kd.V_mono HO106.out (fun k_ hk => (⟨hk, hk.2⟩ : _ ∧ k_ ≠ gb107))) (fun _ hk => hk.2) (.int .i64 t102)) (fun _ hk => hk.2) (.int .i64 t103)) (fun _ hk => hk.2) (.slice Ao39 t104.length co39)) (fun _ hk => hk.1.2)⟩
    have n1_ : Aside0 ((((w37.setCell ⟨gb107, 0, none⟩ (.int .i64 t102)).setCell ⟨gb107, 1, none⟩ (.int .i64 t103)).setCell ⟨gb107, 2, none⟩ (.slice Ao39 t104.length co39)).heap[gb107]? = some (.cells #[.int .i64 t102, .int .i64 t103, .slice Ao39 t104.length co39] 55 (0, 0))) := ⟨by (with_reducible repeat (first | refine blk_drewN ?_ _ | refine blk_drew ?_ | refine blk_alloc ?_ _)); refine blk_put (cs := #[.int .i64 t102, .int .i64 t103, .slice none 0 0]) ?_ 2 _ rfl; (with_reducible repeat (first | refine blk_drewN ?_ _ | refine blk_drew ?_ | refine blk_alloc ?_ _)); refine blk_put (cs := #[.int .i64 t102, .int .i64 0, .slice none 0 0]) ?_ 1 _ rfl; (with_reducible repeat (first | refine blk_drewN ?_ _ | refine blk_drew ?_ | refine blk_alloc ?_ _)); refine blk_put (cs := #[.int .i64 0, .int .i64 0, .slice none 0 0]) ?_ 0 _ rfl; exact blc⟩
    have n2_ : Aside0 (Below w.heap.size w (((w37.setCell ⟨gb107, 0, none⟩ (.int .i64 t102)).setCell ⟨gb107, 1, none⟩ (.int .i64 t103)).setCell ⟨gb107, 2, none⟩ (.slice Ao39 t104.length co39))) := ⟨bel HB⟩
    (try clear HO106)
    (try clear BK107)
    (try clear HB)
    generalize (((w37.setCell ⟨gb107, 0, none⟩ (.int .i64 t102)).setCell ⟨gb107, 1, none⟩ (.int .i64 t103)).setCell ⟨gb107, 2, none⟩ (.slice Ao39 t104.length co39)) = w40 at n0_ n1_ n2_ ⊢
    have HO106 := n0_
    have BK107 := n1_
    have HB := n2_
    clear n0_ n1_ n2_
    have n0_ := Aside0.mk (Kd.V_drew HO106.out)
    have n1_ := Aside0.mk (blk_drew BK107.out)
    have n2_ := Aside0.mk (below_drew1 HB.out)
    clear HO106
    clear BK107
    clear HB
    have HO106 := n0_
    have BK107 := n1_
    have HB := n2_
    clear n0_ n1_ n2_
    have p7 : 0 ≤ (0 : Int) := (by omega)
    have q7 : 0 < a1.size := (by have : (0 : Int) < (a1.size : Int) := of_decide_eq_true (by first | (with_reducible assumption) | assumption); omega)
    have hx7 : ∀ h : 0 < a1.size, ((a1[0]'h).toNat : Int) = bt a1 0 := bt_at a1 0
    clear p7
    have qi7 : (0 < (a1.size : Int)) = True := eq_true (of_decide_eq_true (by first | (with_reducible assumption) | assumption))
    replace q7 := eq_true q7
    refine start_ (n := 5) (S := fun w' => w'.cell? ⟨gb107, 0, none⟩ = some (.int .i64 t102) ∧ w'.cell? ⟨gb107, 1, none⟩ = some (.int .i64 t103) ∧ w'.cell? ⟨gb107, 2, none⟩ = some (.slice Ao39 t104.length co39)) (ds := []) #[false, false, false, false, false] (by kernel_rfl) rfl rfl ⟨(blk_cell BK107.out 0).trans rfl, (blk_cell BK107.out 1).trans rfl, (blk_cell BK107.out 2).trans rfl⟩ (fun hHeld => ?_)
    generalize w40.drew = w41 at HO106 BK107 HB hHeld ⊢
    refine pure_ (i := 1) (N := some 20) (v := ?_) (a' := ?_) #[false, true, false, false, false] rfl rfl (by kernel_rfl) (fun _ _ _ h => h) (Or.inl ⟨by rfl, ?_⟩) ?_ ?_
    rotate_left
    ·intro w'
     go_simp
     with_reducible rfl
    rotate_left
    ·simp only [Act.put, List.setIfInBounds_toArray, List.set_cons_zero, List.set_cons_succ, i64_w, i32_w]
     rfl
    refine take_ (i := 0) (N := some 19) (v := ?_) (a' := ?_) #[true, true, false, false, false] rfl rfl (by kernel_rfl) (fun _ _ _ h => h) (Or.inl ⟨by rfl, ?_⟩) hHeld ?_ ?_
    rotate_left
    ·rintro w' ⟨s0, s1, s2⟩
     go_simp
     with_reducible rfl
    rotate_left
    ·simp only [Act.put, List.setIfInBounds_toArray, List.set_cons_zero, List.set_cons_succ, i64_w, i32_w]
     rfl
    refine take_ (i := 2) (N := some 21) (v := ?_) (a' := ?_) #[true, true, true, false, false] rfl rfl (by kernel_rfl) (fun _ _ _ h => h) (Or.inl ⟨by rfl, ?_⟩) hHeld ?_ ?_
    rotate_left
    ·rintro w' ⟨s0, s1, s2⟩
     go_simp
     with_reducible rfl
    rotate_left
    ·simp only [Act.put, List.setIfInBounds_toArray, List.set_cons_zero, List.set_cons_succ, i64_w, i32_w]
     rfl
    refine one_ (i := 3) (N := some 22) #[true, true, true, true, false] rfl rfl (by kernel_rfl) (by decide) (fun K hK => ?_)
    refine goes_ Tryz.func34 (by kernel_rfl) rfl #[.agg #[.int .i64 t102, .int .i64 t103, .slice Ao39 t104.length co39], .int .u8 (bt a1 0)] (by rfl) rfl rfl (by (try simp only [List.map_toArray, List.map_cons, List.map_nil]); first | done | rfl | (simp only [List.length_drop, List.length_take]; rfl)) ?_
    with_reducible refine (impl_tray_isStill.calls k t102 t103 _ _ t104 (bt a1 0) false _ ?side1 ?side2 A8.out).mono ?_
    (case side1 => repeat (first | exact (Kd.V_reads' HO106.out).2.2 | (with_reducible refine Kd.C_alloc ?_ _) | (with_reducible refine Kd.C_drewN ?_ _) | (with_reducible refine Kd.C_drew ?_)))
    (case side2 => exact (Kd.V_reads' HO106.out).2.1)
    rintro e w42 ⟨rfl, hb⟩
    refine ⟨_, rfl, ?_⟩
    have n0_ := Aside0.mk (Kd.V_below (by (with_reducible repeat (first | apply Kd.V_alloc | apply Kd.V_drewN | apply Kd.V_drew)); (first | exact HO106.out | exact R_any HO106.out)) hb)
    have n1_ := Aside0.mk (blk_below (g := gb107) (o := .cells #[.int .i64 t102, .int .i64 t103, .slice Ao39 t104.length co39] 55 (0, 0)) blc hb)
    have n2_ := Aside0.mk (below_step (bel HB) hb)
    clear HO106
    clear BK107
    clear HB
    have HO106 := n0_
    have BK107 := n1_
    have HB := n2_
    clear n0_ n1_ n2_
    (try clear hb)
    (try clear hb2)
    (try clear hk)
    (try clear hi)
    refine hK.out _ _ ⟨(blk_cell BK107.out 0).trans rfl, (blk_cell BK107.out 1).trans rfl, (blk_cell BK107.out 2).trans rfl⟩ (fun hHeld => ?_)
    clear hK K
    refine norm_ (a' := ?_) ?_ ?_
    rotate_left
    ·show Act.put _ (some 22) _ = _
     simp only [Act.put, List.setIfInBounds_toArray, List.set_cons_zero, List.set_cons_succ, i64_w, i32_w]
     rfl
    refine pure_ (i := 4) (N := some 23) (v := ?_) (a' := ?_) #[true, true, true, true, true] rfl rfl (by kernel_rfl) (fun _ _ _ h => h) (Or.inl ⟨by rfl, ?_⟩) ?_ ?_
    rotate_left
    ·intro w'
     go_simp
     with_reducible rfl
    rotate_left
    ·simp only [Act.put, List.setIfInBounds_toArray, List.set_cons_zero, List.set_cons_succ, i64_w, i32_w]
     rfl
    refine done_ (by kernel_rfl) ?_
    try go_wp2
    go_ret2
    exact ⟨by first | rfl | (simp [errW_none, errW_some] <;> rfl) | (simp [*, errW_none, errW_some] <;> rfl), bel HB⟩
  ·rw [if_neg c6] at H
   exact absurd H (by simp)
 ·replace c4 := Bool.eq_false_iff.mpr c4
  subst c4
  have H1 : (some (0, false)) = some (r1, r2) := by rw [if_neg (show ¬ (false = true) by decide)] at H; exact H
  clear H
  have H := H1
  clear H1
  simp only [Option.some.injEq, Prod.mk.injEq] at H
  obtain ⟨rfl, rfl⟩ := H
  go_enter Tryz.func10, Tryz.ntmps10
  go_wp2_with (first | ((with_reducible refine gate_callee (f := 32) rfl ?_); refine gcall (some 15) Tryz.func32 #[.string a0, .string a1] rfl ?_; (with_reducible refine (impl_isTilted.calls k a0 a1 false _ ?side1 A3.out).mono ?_); (case side1 => (refine GoodW.below HG.out ?_); exact bel HB); rintro e w43 ⟨rfl, hb⟩; refine ⟨_, rfl, ?_⟩; have n0_ := Aside0.mk (below_step (bel HB) hb); clear HB; have HB := n0_; clear n0_; (try clear hb); (try clear hb2); (try clear hk); (try clear hi)))
  go_ret2
  exact ⟨by first | rfl | (simp [errW_none, errW_some] <;> rfl) | (simp [*, errW_none, errW_some] <;> rfl), bel HB⟩
def laws_FnExactCountBefore.f (k : Nat) (a0 : ByteArray) (a1 : ByteArray) : Option (Bool) := if (a0.size : Int) > 1048576 then (some true) else (if (a1.size : Int) > 1048576 then (some true) else ((spec_CountBefore.f k a0 a1).bind fun bt101 => ((impl_CountBefore.f k a0 a1).bind fun bt103 => (if bt103.1 = bt101.1 then (if (bt103.2 != bt101.2) = true then (some false) else (some true)) else (some false)))))
set_option maxHeartbeats 8000000 in
set_option maxRecDepth 100000 in
theorem laws_FnExactCountBefore.calls (k : Nat) (a0 : ByteArray) (a1 : ByteArray) (r : Bool) (w : World) (hG : GoodW w) (h : laws_FnExactCountBefore.f k a0 a1 = some r) :
  Calls Tryz.prog 3 #[.string a0, .string a1] w fun e w' => e = .returned (.bool r) ∧ Below w.heap.size w w' := by
 have HG := Aside0.mk hG
 clear hG
 have HB := Aside0.mk (Below.refl w.heap.size w)
 have H : (if (a0.size : Int) > 1048576 then (some true) else (if (a1.size : Int) > 1048576 then (some true) else ((spec_CountBefore.f k a0 a1).bind fun bt101 => ((impl_CountBefore.f k a0 a1).bind fun bt103 => (if bt103.1 = bt101.1 then (if (bt103.2 != bt101.2) = true then (some false) else (some true)) else (some false)))))) = some r := h
 clear h
 by_cases c3 : (a0.size : Int) > 1048576
 ·rw [if_pos c3] at H
  have c3b0 : decide (1048576 < (a0.size : Int)) = true := decide_eq_true c3
  have c3b1 : decide (1048576 < a0.size) = true := decide_eq_true (by omega)
  clear c3
  obtain rfl := Option.some.inj H
  go_enter Tryz.func3, Tryz.ntmps3
  go_wp2
  go_ret
  exact ⟨by first | rfl | (simp [errW_none, errW_some] <;> rfl) | (simp [*, errW_none, errW_some] <;> rfl), bel HB⟩
 ·rw [if_neg c3] at H
  have c3b0 : decide (1048576 < (a0.size : Int)) = false := decide_eq_false c3
  have c3b1 : decide (1048576 < a0.size) = false := decide_eq_false (by omega)
  clear c3
  by_cases c4 : (a1.size : Int) > 1048576
  ·rw [if_pos c4] at H
   have c4b0 : decide (1048576 < (a1.size : Int)) = true := decide_eq_true c4
   have c4b1 : decide (1048576 < a1.size) = true := decide_eq_true (by omega)
   clear c4
   obtain rfl := Option.some.inj H
   go_enter Tryz.func3, Tryz.ntmps3
   go_wp2
   go_ret
   exact ⟨by first | rfl | (simp [errW_none, errW_some] <;> rfl) | (simp [*, errW_none, errW_some] <;> rfl), bel HB⟩
  ·rw [if_neg c4] at H
   have c4b0 : decide (1048576 < (a1.size : Int)) = false := decide_eq_false c4
   have c4b1 : decide (1048576 < a1.size) = false := decide_eq_false (by omega)
   clear c4
   replace H := Option.bind_eq_some_iff.mp H
   obtain ⟨⟨t101, t102⟩, A50, H⟩ := H
   replace H : ((impl_CountBefore.f k a0 a1).bind fun bt103 => (if bt103.1 = t101 then (if (bt103.2 != t102) = true then (some false) else (some true)) else (some false))) = some r := H
   have A5 := Aside0.mk A50
   clear A50
   replace H := Option.bind_eq_some_iff.mp H
   obtain ⟨⟨t103, t104⟩, A60, H⟩ := H
   replace H : (if t103 = t101 then (if (t104 != t102) = true then (some false) else (some true)) else (some false)) = some r := H
   have A6 := Aside0.mk A60
   clear A60
   by_cases c7 : t103 = t101
   ·rw [if_pos c7] at H
    have c7b0 : (t103 == t101) = true := beq_iff_eq.mpr c7
    have c7b1 : (t103 != t101) = false := bne_eq_false_iff_eq.mpr c7
    clear c7
    by_cases c8 : (t104 != t102) = true
    ·rw [if_pos c8] at H
     have c8b0 : (t104 != t102) = true := c8
     (try (have c8b1 : decide (t104 = t102) = false := by simpa using c8))
     (try (have c8b2 : (t104 == t102) = false := by simpa using c8))
     (try (have c8b3 : ¬ (t104 = t102) := by simpa using c8))
     clear c8
     obtain rfl := Option.some.inj H
     go_enter Tryz.func3, Tryz.ntmps3
     go_wp2_with (first | ((with_reducible refine gate_callee (f := 9) rfl ?_); refine gcall (some 18) Tryz.func9 #[.string a0, .string a1] rfl ?_; (with_reducible refine (spec_CountBefore.calls k a0 a1 t101 t102 _ A5.out).mono ?_); rintro e w9 ⟨rfl, hb⟩; refine ⟨_, rfl, ?_⟩; have n0_ := Aside0.mk (below_step (bel HB) hb); clear HB; have HB := n0_; clear n0_; (try clear hb); (try clear hb2); (try clear hk); (try clear hi)) | ((with_reducible refine gate_callee (f := 10) rfl ?_); refine gcall (some 24) Tryz.func10 #[.string a0, .string a1] rfl ?_; (with_reducible refine (impl_CountBefore.calls k a0 a1 t103 t104 _ ?side1 A6.out).mono ?_); (case side1 => (refine GoodW.below HG.out ?_); exact bel HB); rintro e w10 ⟨rfl, hb⟩; refine ⟨_, rfl, ?_⟩; have n0_ := Aside0.mk (below_step (bel HB) hb); clear HB; have HB := n0_; clear n0_; (try clear hb); (try clear hb2); (try clear hk); (try clear hi)))
     go_ret
     exact ⟨by first | rfl | (simp [errW_none, errW_some] <;> rfl) | (simp [*, errW_none, errW_some] <;> rfl), bel HB⟩
    ·rw [if_neg c8] at H
     have c8b0 : (t104 != t102) = false := by simpa using c8
     (try (have c8b1 : decide (t104 = t102) = true := by simpa using c8))
     (try (have c8b2 : (t104 == t102) = true := by simpa using c8))
     clear c8
     obtain rfl := Option.some.inj H
     go_enter Tryz.func3, Tryz.ntmps3
     go_wp2_with (first | ((with_reducible refine gate_callee (f := 9) rfl ?_); refine gcall (some 18) Tryz.func9 #[.string a0, .string a1] rfl ?_; (with_reducible refine (spec_CountBefore.calls k a0 a1 t101 t102 _ A5.out).mono ?_); rintro e w11 ⟨rfl, hb⟩; refine ⟨_, rfl, ?_⟩; have n0_ := Aside0.mk (below_step (bel HB) hb); clear HB; have HB := n0_; clear n0_; (try clear hb); (try clear hb2); (try clear hk); (try clear hi)) | ((with_reducible refine gate_callee (f := 10) rfl ?_); refine gcall (some 24) Tryz.func10 #[.string a0, .string a1] rfl ?_; (with_reducible refine (impl_CountBefore.calls k a0 a1 t103 t104 _ ?side1 A6.out).mono ?_); (case side1 => (refine GoodW.below HG.out ?_); exact bel HB); rintro e w12 ⟨rfl, hb⟩; refine ⟨_, rfl, ?_⟩; have n0_ := Aside0.mk (below_step (bel HB) hb); clear HB; have HB := n0_; clear n0_; (try clear hb); (try clear hb2); (try clear hk); (try clear hi)))
     go_ret
     exact ⟨by first | rfl | (simp [errW_none, errW_some] <;> rfl) | (simp [*, errW_none, errW_some] <;> rfl), bel HB⟩
   ·rw [if_neg c7] at H
    have c7b0 : (t103 == t101) = false := beq_eq_false_iff_ne.mpr c7
    have c7b1 : (t103 != t101) = true := bne_iff_ne.mpr c7
    obtain rfl := Option.some.inj H
    go_enter Tryz.func3, Tryz.ntmps3
    go_wp2_with (first | ((with_reducible refine gate_callee (f := 9) rfl ?_); refine gcall (some 18) Tryz.func9 #[.string a0, .string a1] rfl ?_; (with_reducible refine (spec_CountBefore.calls k a0 a1 t101 t102 _ A5.out).mono ?_); rintro e w13 ⟨rfl, hb⟩; refine ⟨_, rfl, ?_⟩; have n0_ := Aside0.mk (below_step (bel HB) hb); clear HB; have HB := n0_; clear n0_; (try clear hb); (try clear hb2); (try clear hk); (try clear hi)) | ((with_reducible refine gate_callee (f := 10) rfl ?_); refine gcall (some 24) Tryz.func10 #[.string a0, .string a1] rfl ?_; (with_reducible refine (impl_CountBefore.calls k a0 a1 t103 t104 _ ?side1 A6.out).mono ?_); (case side1 => (refine GoodW.below HG.out ?_); exact bel HB); rintro e w14 ⟨rfl, hb⟩; refine ⟨_, rfl, ?_⟩; have n0_ := Aside0.mk (below_step (bel HB) hb); clear HB; have HB := n0_; clear n0_; (try clear hb); (try clear hb2); (try clear hk); (try clear hi)))
    go_ret
    exact ⟨by first | rfl | (simp [errW_none, errW_some] <;> rfl) | (simp [*, errW_none, errW_some] <;> rfl), bel HB⟩
end Go.Proofs.YtepmpilopmcjpaaGreatDoor.Q
end
section
namespace Go.Proofs.YtepmpilopmcjpaaGreatDoor.Q
set_option linter.unusedSectionVars false
open Go.RowKit Go.Proofs.YtepmpilopmcjpaaGreatDoorW.PrintWords Go.Proofs.YtepmpilopmcjpaaGreatDoorW.PrintLast Go.Proofs.YtepmpilopmcjpaaGreatDoorW.PrintMore
open Classical
def chL (n : Int) : Nat → Nat → Int → Int
 | 0, _, a => a
 | m + 1, i, a => chL n m (i + 1) (wrap64 (Int.tdiv (wrap64 (a * (wrap64 (n - (i : Int))))) (wrap64 ((i : Int) + 1))))
theorem chooseS_l0 (n : Int) (b : Nat) (hb : b ≤ 1000) : ∀ (m i : Nat) (a : Int), i + m = b → Ev (fun k => spec_tiChoose.l0 k n (b : Int) a (i : Int)) (chL n m i a)
 | 0, i, a, h => by
  refine Ev.step (Ev.const rfl) fun k => ?_
  rw [spec_tiChoose.l0, if_neg (by omega)]
  rfl
 | m + 1, i, a, h => by
  have ih := chooseS_l0 n b hb m (i + 1) (wrap64 (Int.tdiv (wrap64 (a * (wrap64 (n - (i : Int))))) (wrap64 ((i : Int) + 1)))) (by omega)
  rw [← wr1 i (by omega)] at ih
  refine Ev.step ih fun k => ?_
  rw [spec_tiChoose.l0, if_pos (by omega), if_neg (by rw [wr1 i (by omega)]; omega)]
theorem chooseI_l0 (n : Int) (b : Nat) (hb : b ≤ 1000) : ∀ (m i : Nat) (a : Int), i + m = b → Ev (fun k => impl_binomial.l0 k n a (b : Int) (i : Int)) (chL n m i a)
 | 0, i, a, h => by
  refine Ev.step (Ev.const rfl) fun k => ?_
  rw [impl_binomial.l0, if_neg (by omega)]
  rfl
 | m + 1, i, a, h => by
  have ih := chooseI_l0 n b hb m (i + 1) (wrap64 (Int.tdiv (wrap64 (a * (wrap64 (n - (i : Int))))) (wrap64 ((i : Int) + 1)))) (by omega)
  rw [← wr1 i (by omega)] at ih
  refine Ev.step ih fun k => ?_
  rw [impl_binomial.l0, if_pos (by omega), if_neg (by rw [wr1 i (by omega)]; omega)]
theorem chooseI_ev (n b : Nat) (hb : b ≤ n) (hn : n ≤ 1000) : Ev (fun k => impl_binomial.f k (n : Int) (b : Int)) (chL n b 0 1) := by
 refine Ev.congr (chooseI_l0 (n : Int) b (by omega) b 0 1 (by omega)) fun k => ?_
 unfold impl_binomial.f
 rw [within_eq, Option.bind_some, if_pos (decide_eq_true (by omega))]
 rfl
def prodB (cs : List Int) : List (List Int) → Int → Int
 | [], a => a
 | s :: P, a => prodB cs P (wrap64 (a * chL s.length (s.filter (bI cs)).length 0 1))
theorem cbS_l1 (cs : List Int) (P : List (List Int)) (L : List Int) (n i a w h : Int) (r : Int × Bool) (hL : L.length ≤ 1000) (hLx : ∀ x ∈ L, 0 ≤ x ∧ x < (cs.length : Int)) : ∀ (l : List Int) (u b : Nat), L.drop u = l → u ≤ L.length → b ≤ u →
  Ev (fun k => spec_CountBefore.l0 k (wrap64 (a * chL L.length (b + (l.filter (bI cs)).length) 0 1)) P n (wrap64 (i + 1)) w h cs) r → Ev (fun k => spec_CountBefore.l1 k a L (b : Int) P n i L (L.length : Int) (u : Int) w h cs) r
 | [], u, b, hdr, hu, hb, hE => by
  have h1 : u = L.length := by
   have := congrArg List.length hdr
   simp at this
   omega
  subst h1
  refine Ev.step (Ev.bind (f := fun k t122 => (spec_CountBefore.l0 k (wrap64 (a * t122)) P n (wrap64 (i + 1)) w h cs)) (chooseS_l0 (L.length : Int) b (by omega) b 0 1 (by omega)) hE) fun k => ?_
  rw [spec_CountBefore.l1, if_neg (by omega)]
  rfl
 | x :: l, u, b, hdr, hu, hb, hE => by
  obtain ⟨h1, h2, h3⟩ := rd_drop hdr
  obtain ⟨x0, x1⟩ := hLx x (List.mem_of_mem_drop (i := u) (by rw [hdr]; exact List.mem_cons_self))
  by_cases hx : bI cs x = true
  ·rw [List.filter_cons_of_pos hx, List.length_cons, show b + ((l.filter (bI cs)).length + 1) = b + 1 + (l.filter (bI cs)).length by omega] at hE
   refine Ev.step (cbS_l1 cs P L n i a w h r hL hLx l (u + 1) (b + 1) h3 h1 (by omega) hE) fun k => ?_
   rw [spec_CountBefore.l1, if_pos (by omega), if_pos (by omega), if_pos (by omega), h2, if_pos x0, if_pos x1, tyBall_eq, Option.bind_some, if_pos (show isB (rd cs x) = true from hx), wr1 b (by omega), wr1 u (by omega)]
  ·rw [List.filter_cons_of_neg hx] at hE
   refine Ev.step (cbS_l1 cs P L n i a w h r hL hLx l (u + 1) b h3 h1 (by omega) hE) fun k => ?_
   rw [spec_CountBefore.l1, if_pos (by omega), if_pos (by omega), if_pos (by omega), h2, if_pos x0, if_pos x1, tyBall_eq, Option.bind_some, if_neg (show ¬ isB (rd cs x) = true from hx), wr1 u (by omega)]
theorem cbS_l0 (cs : List Int) (P : List (List Int)) (w h : Int) : ∀ (Ls : List (List Int)) (i : Nat) (a : Int), P.drop i = Ls → i ≤ P.length → i + Ls.length ≤ 1000 → (∀ s ∈ Ls, s.length ≤ 1000 ∧ ∀ x ∈ s, 0 ≤ x ∧ x < (cs.length : Int)) → Ev (fun k => spec_CountBefore.l0 k a P (P.length : Int) (i : Int) w h cs) (prodB cs Ls a, true)
 | [], i, a, hdr, hi, _, _ => by
  have h1 : i = P.length := by
   have := congrArg List.length hdr
   simp at this
   omega
  subst h1
  refine Ev.step (Ev.const rfl) fun k => ?_
  rw [spec_CountBefore.l0, if_neg (by omega)]
  rfl
 | s :: Ls, i, a, hdr, _, hq, hx => by
  obtain ⟨h1, h2, h3⟩ := rdS_drop hdr
  simp only [List.length_cons] at hq
  obtain ⟨s1, s2⟩ := hx s List.mem_cons_self
  have ih := cbS_l0 cs P w h Ls (i + 1) (wrap64 (a * chL s.length (s.filter (bI cs)).length 0 1)) h3 h1 (by omega) (fun t ht => hx t (List.mem_cons_of_mem _ ht))
  rw [← wr1 i (by omega)] at ih
  refine Ev.step (cbS_l1 cs P s P.length i a w h _ s1 s2 s 0 0 rfl (Nat.zero_le _) (Nat.le_refl _) (by rw [Nat.zero_add]; exact ih)) fun k => ?_
  rw [spec_CountBefore.l0, if_pos (by omega), if_pos (by omega), if_pos (by omega), show rd_Lii P (i : Int) = s from h2]
  rfl
theorem cbI_l1 (cs : List Int) (P : List (List Int)) (L : List Int) (n i a w h : Int) (r : Int × Bool) (hL : L.length ≤ 1000) (hLx : ∀ x ∈ L, 0 ≤ x ∧ x < (cs.length : Int)) : ∀ (l : List Int) (u b : Nat), L.drop u = l → u ≤ L.length → b ≤ u →
  Ev (fun k => impl_CountBefore.l0 k (wrap64 (a * chL L.length (b + (l.filter (bI cs)).length) 0 1)) P n (wrap64 (i + 1)) w h cs) r → Ev (fun k => impl_CountBefore.l1 k a L (b : Int) P n i L (L.length : Int) (u : Int) w h cs) r
 | [], u, b, hdr, hu, hb, hE => by
  have h1 : u = L.length := by
   have := congrArg List.length hdr
   simp at this
   omega
  subst h1
  refine Ev.step (Ev.bind (f := fun k t122 => (impl_CountBefore.l0 k (wrap64 (a * t122)) P n (wrap64 (i + 1)) w h cs)) (chooseI_ev L.length b hb hL) hE) fun k => ?_
  rw [impl_CountBefore.l1, if_neg (by omega)]
 | x :: l, u, b, hdr, hu, hb, hE => by
  obtain ⟨h1, h2, h3⟩ := rd_drop hdr
  obtain ⟨x0, x1⟩ := hLx x (List.mem_of_mem_drop (i := u) (by rw [hdr]; exact List.mem_cons_self))
  by_cases hx : bI cs x = true
  ·rw [List.filter_cons_of_pos hx, List.length_cons, show b + ((l.filter (bI cs)).length + 1) = b + 1 + (l.filter (bI cs)).length by omega] at hE
   refine Ev.step (cbI_l1 cs P L n i a w h r hL hLx l (u + 1) (b + 1) h3 h1 (by omega) hE) fun k => ?_
   rw [impl_CountBefore.l1, if_pos (by omega), if_pos (by omega), if_pos (by omega), h2, if_pos x0, if_pos x1, isBall_eq, Option.bind_some, show isB (rd cs x) = true from hx, show impl_bit.f true = some 1 from rfl, Option.bind_some, wr1 b (by omega), wr1 u (by omega)]
  ·rw [List.filter_cons_of_neg hx] at hE
   refine Ev.step (cbI_l1 cs P L n i a w h r hL hLx l (u + 1) b h3 h1 (by omega) hE) fun k => ?_
   rw [impl_CountBefore.l1, if_pos (by omega), if_pos (by omega), if_pos (by omega), h2, if_pos x0, if_pos x1, isBall_eq, Option.bind_some, show isB (rd cs x) = false from by simpa [bI] using hx, show impl_bit.f false = some 0 from rfl, Option.bind_some, Int.add_zero, w64 (n := (b : Int)) (by omega) (by omega), wr1 u (by omega)]
theorem cbI_l0 (cs : List Int) (P : List (List Int)) (w h : Int) : ∀ (Ls : List (List Int)) (i : Nat) (a : Int), P.drop i = Ls → i ≤ P.length → i + Ls.length ≤ 1000 → (∀ s ∈ Ls, s.length ≤ 1000 ∧ ∀ x ∈ s, 0 ≤ x ∧ x < (cs.length : Int)) → Ev (fun k => impl_CountBefore.l0 k a P (P.length : Int) (i : Int) w h cs) (prodB cs Ls a, true)
 | [], i, a, hdr, hi, _, _ => by
  have h1 : i = P.length := by
   have := congrArg List.length hdr
   simp at this
   omega
  subst h1
  refine Ev.step (Ev.const rfl) fun k => ?_
  rw [impl_CountBefore.l0, if_neg (by omega)]
  rfl
 | s :: Ls, i, a, hdr, _, hq, hx => by
  obtain ⟨h1, h2, h3⟩ := rdS_drop hdr
  simp only [List.length_cons] at hq
  obtain ⟨s1, s2⟩ := hx s List.mem_cons_self
  have ih := cbI_l0 cs P w h Ls (i + 1) (wrap64 (a * chL s.length (s.filter (bI cs)).length 0 1)) h3 h1 (by omega) (fun t ht => hx t (List.mem_cons_of_mem _ ht))
  rw [← wr1 i (by omega)] at ih
  refine Ev.step (cbI_l1 cs P s P.length i a w h _ s1 s2 s 0 0 rfl (Nat.zero_le _) (Nat.le_refl _) (by rw [Nat.zero_add]; exact ih)) fun k => ?_
  rw [impl_CountBefore.l0, if_pos (by omega), if_pos (by omega), if_pos (by omega), show rd_Lii P (i : Int) = s from h2]
  rfl
def CountBeforeR (t s : ByteArray) : Int × Bool := match trayOf t with
 | none => (0, false)
 | some (w, h, cs) => if 0 ≤ dirI s then (if tiltC w.toNat h.toNat cs (dirI s).toNat = cs then prodB cs (strL w.toNat h.toNat cs (dirI s).toNat) 1 else 0, true) else (0, false)
theorem specCountBefore_ev (t s : ByteArray) : Ev (fun k => spec_CountBefore.f k t s) (CountBeforeR t s) := by
 refine Ev.bind (f := fun k (bt101 : Int × Int × List Int × Int × Bool) => (if bt101.2.2.2.2 = true then ((spec_tiTilt.f k bt101.1 bt101.2.1 bt101.2.2.1 bt101.2.2.2.1).bind fun bt109 => ((spec_tyText.f k bt109.1 bt109.2.1 bt109.2.2).bind fun t114 => (if t114.toList = t.toList then ((spec_tiStretches.f k bt101.1 bt101.2.1 bt101.2.2.1 bt101.2.2.2.1).bind fun t115 => (spec_CountBefore.l0 k 1 t115 (t115.length : Int) 0 bt101.1 bt101.2.1 bt101.2.2.1)) else (some (0, true))))) else (some (0, false)))) (tiRead_ev t s) ?_
 unfold CountBeforeR
 rcases ht : trayOf t with _ | ⟨w, h, cs⟩
 ·exact Ev.congr (Ev.const rfl) fun k => if_neg Bool.false_ne_true
 ·obtain ⟨w, h, cs, e, hw1, hw, hh1, hh, hs, hn⟩ := tray_parts ht
  injection e with e1 e2
  injection e2 with e2 e3
  subst e1 e2 e3
  have hz : 0 < w * h := Nat.mul_pos hw1 hh1
  show Ev _ (if 0 ≤ dirI s then _ else _)
  by_cases hd : 0 ≤ dirI s
  ·obtain ⟨d, hd4, e, _⟩ := dirI_nat hd
   rw [if_pos hd, e]
   simp only [Int.toNat_natCast]
   have hlen : (tiltC w h cs d).length = w * h := (tiltC_len hw hh hs hd4).trans hn
   have htx := tyText_ev (w := w) (h := h) (cs := tiltC w h cs d) hw1 hh1 hs hlen
   have hsame := tx_same hw1 hw hh1 hh hs ht (tilt_cells w h d (tray_own ht).1) hlen
   have h1 := cuts_many hw hh hs hd4 (cs := cs)
   have h2 : (strL w h cs d).length = (cutsL w h cs d).length := by unfold strL; exact List.length_mergeSort _
   have hgo : Ev (fun k => if (tx (tiltC w h cs d) w h).toList = t.toList then ((spec_tiStretches.f k w h cs d).bind fun t115 => (spec_CountBefore.l0 k 1 t115 (t115.length : Int) 0 w h cs)) else (some (0, true))) (if tiltC w h cs d = cs then prodB cs (strL w h cs d) 1 else 0, true) := by
    by_cases hf : tiltC w h cs d = cs
    ·rw [if_pos hf]
     refine Ev.congr (Ev.bind (f := fun k (t115 : List (List Int)) => (spec_CountBefore.l0 k 1 t115 (t115.length : Int) 0 w h cs)) (tiStretches_ev hw hh hs hd4 hn) (cbS_l0 cs (strL w h cs d) w h (strL w h cs d) 0 1 rfl (Nat.zero_le _) (by omega) (str_in hw hh hs hd4 hn))) fun k => if_pos (hsame.2 hf)
    ·rw [if_neg hf]
     exact Ev.congr (Ev.const rfl) fun k => if_neg fun e => hf (hsame.1 e)
   refine Ev.congr (Ev.bind (f := fun k (bt109 : Int × Int × List Int) => ((spec_tyText.f k bt109.1 bt109.2.1 bt109.2.2).bind fun t114 => (if t114.toList = t.toList then ((spec_tiStretches.f k w h cs d).bind fun t115 => (spec_CountBefore.l0 k 1 t115 (t115.length : Int) 0 w h cs)) else (some (0, true))))) (tiTilt_ev hw hh hs hd4 hw1 hh1 hn) (Ev.bind (f := fun k (t114 : ByteArray) => (if t114.toList = t.toList then ((spec_tiStretches.f k w h cs d).bind fun t115 => (spec_CountBefore.l0 k 1 t115 (t115.length : Int) 0 w h cs)) else (some (0, true)))) htx hgo)) fun k => ?_
   exact if_pos (decide_eq_true (show (0 : Int) ≤ (d : Int) by omega))
  ·rw [if_neg hd]
   exact Ev.congr (Ev.const rfl) fun k => if_neg (by simpa using hd)
theorem implCountBefore_ev (t s : ByteArray) (ht0 : t.size ≤ 1048576) (_hs0 : s.size ≤ 1048576) : Ev (fun k => impl_CountBefore.f k t s) (CountBeforeR t s) := by
 refine Ev.bind (f := fun k (t101 : Bool) => (if t101 = true then ((impl_read.f t).bind fun bt102 => (if 0 < (s.size : Int) then ((impl_tray_isStill.f k bt102.1 bt102.2.1 bt102.2.2 (bt s 0)).bind fun t108 => (if t108 = true then ((impl_tray_stretches.f k bt102.1 bt102.2.1 bt102.2.2 (bt s 0)).bind fun t109 => (impl_CountBefore.l0 k 1 t109 (t109.length : Int) 0 bt102.1 bt102.2.1 bt102.2.2)) else (some (0, true)))) else (none))) else (some (0, false)))) (isTilted_ev t s ht0) ?_
 unfold CountBeforeR
 rcases ht : trayOf t with _ | ⟨w, h, cs⟩
 ·exact Ev.congr (Ev.const rfl) fun k => if_neg (by simp)
 ·have hread := tray_read ht
  obtain ⟨w, h, cs, e, hw1, hw, hh1, hh, hs, hn⟩ := tray_parts ht
  injection e with e1 e2
  injection e2 with e2 e3
  subst e1 e2 e3
  have hz : 0 < w * h := Nat.mul_pos hw1 hh1
  show Ev _ (if 0 ≤ dirI s then _ else _)
  by_cases hd : 0 ≤ dirI s
  ·obtain ⟨d, hd4, e, rfl⟩ := dirI_nat hd
   rw [if_pos hd, e]
   simp only [Int.toNat_natCast]
   obtain ⟨b1, b2⟩ := bt_dir ⟨d, hd4⟩
   simp only at b1 b2
   have h1 := cuts_many hw hh hs hd4 (cs := cs)
   have h2 : (strL w h cs d).length = (cutsL w h cs d).length := by unfold strL; exact List.length_mergeSort _
   have hgo : Ev (fun k => if decide (tiltC w h cs d = cs) = true then ((impl_tray_stretches.f k w h cs (dirC d)).bind fun t109 => (impl_CountBefore.l0 k 1 t109 (t109.length : Int) 0 w h cs)) else (some (0, true))) (if tiltC w h cs d = cs then prodB cs (strL w h cs d) 1 else 0, true) := by
    by_cases hf : tiltC w h cs d = cs
    ·rw [if_pos hf]
     refine Ev.congr (Ev.bind (f := fun k (t109 : List (List Int)) => (impl_CountBefore.l0 k 1 t109 (t109.length : Int) 0 w h cs)) (stretches_ev hw hh hs hd4 hw1 hh1 hn) (cbI_l0 cs (strL w h cs d) w h (strL w h cs d) 0 1 rfl (Nat.zero_le _) (by omega) (str_in hw hh hs hd4 hn))) fun k => if_pos (decide_eq_true hf)
    ·rw [if_neg hf]
     exact Ev.congr (Ev.const rfl) fun k => if_neg (by simpa using hf)
   refine Ev.congr (Ev.bind (f := fun k (t108 : Bool) => (if t108 = true then ((impl_tray_stretches.f k w h cs (dirC d)).bind fun t109 => (impl_CountBefore.l0 k 1 t109 (t109.length : Int) 0 w h cs)) else (some (0, true)))) (still_ev hw hh hs hd4 hw1 hh1 hn) hgo) fun k => ?_
   rw [if_pos (show ((some ((w : Int), (h : Int), cs)).isSome && decide (0 ≤ (d : Int))) = true by rw [decide_eq_true (show (0 : Int) ≤ (d : Int) by omega)]; rfl), hread, Option.bind_some, if_pos b1, b2]
  ·rw [if_neg hd]
   exact Ev.congr (Ev.const rfl) fun k => if_neg (by simpa using hd)
theorem lawCountBefore_ev (t : ByteArray) (s : ByteArray) : Ev (fun k => laws_FnExactCountBefore.f k t s) true := by
 by_cases ht : t.size ≤ 1048576
 case neg =>
  refine Ev.congr (Ev.const (o := some true) rfl) fun k => ?_
  unfold laws_FnExactCountBefore.f
  exact if_pos (by omega)
 by_cases hs : s.size ≤ 1048576
 case neg =>
  refine Ev.congr (Ev.const (o := some true) rfl) fun k => ?_
  unfold laws_FnExactCountBefore.f
  rw [if_neg (by omega)]
  exact if_pos (by omega)
 have hsp := specCountBefore_ev t s
 have him := implCountBefore_ev t s ht hs
 refine Ev.congr (Ev.bind (f := fun k (bt101 : Int × Bool) => ((impl_CountBefore.f k t s).bind fun bt103 => (if bt103.1 = bt101.1 then (if (bt103.2 != bt101.2) = true then (some false) else (some true)) else (some false)))) hsp (Ev.bind (f := fun _ (bt103 : Int × Bool) => (if bt103.1 = (CountBeforeR t s).1 then (if (bt103.2 != (CountBeforeR t s).2) = true then (some false) else (some true)) else (some false))) him (Ev.const ?_))) fun k => by unfold laws_FnExactCountBefore.f; rw [if_neg (by omega), if_neg (by omega)]
 rw [if_pos rfl, bne_self_eq_false, if_neg (by decide)]
end Go.Proofs.YtepmpilopmcjpaaGreatDoor.Q
end
