/- Texts of this claim, joined. -/
import Derived.Test.YtmefnfhghfemgaaDoorJFirstOrder01
import Derived.Test.YtmefnfhghfemgaaDoorJFirstOrder02
import Derived.Test.YtmefnfhghfemgaaDoorJFirstOrder03
set_option linter.unusedVariables false
set_option linter.unusedSimpArgs false
set_option linter.unusedSectionVars false
section
namespace Go.Proofs.YtmefnfhghfemgaaDoor.Q
open Go.RowKit Go.Proofs.YtmefnfhghfemgaaDoorW.PrintWords Go.Proofs.YtmefnfhghfemgaaDoorW.PrintLast Go.Proofs.YtmefnfhghfemgaaDoorW.PrintMore
attribute [local go_sem] max2_int min2_int max_two min_two max_three min_three max_four min_four
set_option linter.unusedVariables false
set_option linter.unusedSimpArgs false
mutual
def spec_skPieces.l0 : Nat → List Int → Int → Int → Int → Int → List Int → Option (List Int × Int)
 | 0, _, _, _, _, _, _ => none
 | k + 1, x4, x18, x19, x102000, x102001, x102002 => if x19 < x18 then (if 0 ≤ x19 then (if x19 < (x4.length : Int) then (spec_skPieces.l0 k (x4.set (x19 : Int).toNat (-1)) x18 (wrap64 (x19 + 1)) x102000 x102001 x102002) else (none)) else (none)) else (spec_skPieces.l1 k x4 0 x102002 (x102002.length : Int) 0 x102000 x102001 x102002)
def spec_skPieces.l1 : Nat → List Int → Int → List Int → Int → Int → Int → Int → List Int → Option (List Int × Int)
 | 0, _, _, _, _, _, _, _, _ => none
 | k + 1, x4, x6, x27, x28, x29, x102000, x102001, x102002 => if x29 < x28 then (if 0 ≤ x29 then (if x29 < (x27.length : Int) then ((spec_tyBall.f (rd x27 x29)).bind fun t107 => (if t107 = true then (if x29 < (x4.length : Int) then (spec_skPieces.j2 k x4 x6 x29 x27 x28 x29 (decide ((rd x4 x29) ≥ 0)) x102000 x102001 x102002) else (none)) else (spec_skPieces.j2 k x4 x6 x29 x27 x28 x29 true x102000 x102001 x102002))) else (none)) else (none)) else (some (x4, x6))
def spec_skPieces.j2 : Nat → List Int → Int → Int → List Int → Int → Int → Bool → Int → Int → List Int → Option (List Int × Int)
 | 0, _, _, _, _, _, _, _, _, _, _ => none
 | k + 1, x4, x6, x7, x27, x28, x29, x43, x102000, x102001, x102002 => if x43 = true then (spec_skPieces.l1 k x4 x6 x27 x28 (wrap64 (x29 + 1)) x102000 x102001 x102002) else (if 0 ≤ x7 then (if x7 < (x4.length : Int) then (spec_skPieces.l2 k (x4.set (x7 : Int).toNat x6) x6 (([x7] : List Int)) 0 x27 x28 x29 x102000 x102001 x102002) else (none)) else (none))
def spec_skPieces.l2 : Nat → List Int → Int → List Int → Int → List Int → Int → Int → Int → Int → List Int → Option (List Int × Int)
 | 0, _, _, _, _, _, _, _, _, _, _ => none
 | k + 1, x4, x6, x9, x10, x27, x28, x29, x102000, x102001, x102002 => if x10 < (x9.length : Int) then (if 0 ≤ x10 then ((spec_tyNear.f k x102000 x102001 x102002 (rd x9 x10)).bind fun t114 => (spec_skPieces.l3 k x4 x6 x9 x10 x27 x28 x29 t114 (t114.length : Int) 0 x102000 x102001 x102002)) else (none)) else (spec_skPieces.l1 k x4 (wrap64 (x6 + 1)) x27 x28 (wrap64 (x29 + 1)) x102000 x102001 x102002)
def spec_skPieces.l3 : Nat → List Int → Int → List Int → Int → List Int → Int → Int → List Int → Int → Int → Int → Int → List Int → Option (List Int × Int)
 | 0, _, _, _, _, _, _, _, _, _, _, _, _, _ => none
 | k + 1, x4, x6, x9, x10, x27, x28, x29, x61, x62, x63, x102000, x102001, x102002 => if x63 < x62 then (if 0 ≤ x63 then (if x63 < (x61.length : Int) then (if 0 ≤ (rd x61 x63) then (if (rd x61 x63) < (x102002.length : Int) then ((spec_tyBall.f (rd x102002 (rd x61 x63))).bind fun t119 => (if t119 = true then (if (rd x61 x63) < (x4.length : Int) then (if (rd x4 (rd x61 x63)) < 0 then (if x9.length < 17592186044416 then (spec_skPieces.l3 k (x4.set ((rd x61 x63) : Int).toNat x6) x6 (x9 ++ [rd x61 x63]) x10 x27 x28 x29 x61 x62 (wrap64 (x63 + 1)) x102000 x102001 x102002) else (none)) else (spec_skPieces.l3 k x4 x6 x9 x10 x27 x28 x29 x61 x62 (wrap64 (x63 + 1)) x102000 x102001 x102002)) else (none)) else (spec_skPieces.l3 k x4 x6 x9 x10 x27 x28 x29 x61 x62 (wrap64 (x63 + 1)) x102000 x102001 x102002))) else (none)) else (none)) else (none)) else (none)) else (spec_skPieces.l2 k x4 x6 x9 (wrap64 (x10 + 1)) x27 x28 x29 x102000 x102001 x102002)
end
def spec_skPieces.f (k : Nat) (a0_0 : Int) (a0_1 : Int) (l0_2 : List Int) : Option (List Int × Int) := if 0 ≤ (l0_2.length : Int) then (if ((l0_2.length : Int) : Int).toNat ≤ 35184372088832 then ((some (List.replicate ((l0_2.length : Int) : Int).toNat 0 : List Int)).bind fun y102 => (spec_skPieces.l0 k y102 (y102.length : Int) 0 a0_0 a0_1 l0_2)) else (none)) else (none)
def spec_skPieces.T17 : Bool × List (List Nat × List Nat) := (true, [([], []), ([], []), ([], []), ([1, 2], [1, 2]), ([3], [3]), ([0, 4], [0, 4]), ([5], [5]), ([], [])])
def spec_skPieces.B17 : List Nat := [0, 0, 0, 6, 14, 31, 63, 0]
theorem spec_skPieces.tab17 : rtab .any (opsOf Tryd.f47 17) = spec_skPieces.T17 := by kernel_rfl
theorem spec_skPieces.bits17 : waitsOk spec_skPieces.T17.2 spec_skPieces.B17 = true := by kernel_rfl
set_option maxHeartbeats 8000000 in
set_option maxRecDepth 100000 in
theorem spec_skPieces.calls (k : Nat) (a0_0 : Int) (a0_1 : Int) (A0_2 : Option Addr) (c0_2 : Nat) (l0_2 : List Int) (r1 : List Int) (r2 : Int) (w : World) (hr0_2 : Kd.C (Kd.int .u8) w A0_2 l0_2.length l0_2) (hc0_2 : l0_2.length ≤ c0_2) (h : spec_skPieces.f k a0_0 a0_1 l0_2 = some (r1, r2)) :
  Calls Tryd.prog 47 #[.agg #[.int .i64 a0_0, .int .i64 a0_1, .slice A0_2 l0_2.length c0_2]] w fun e w' => ∃ v0_ : Value, e = .returned (.tuple #[v0_, .int .i64 r2]) ∧ Kd.R (Kd.int .i64) 3 w' w.heap.size (fun _ => True) v0_ r1 ∧ Below w.heap.size w w' := by
 have hu40 := Tryd.underlying40
 have HR0_2 := Aside0.mk hr0_2
 have HC0_2 := Aside0.mk hc0_2
 clear hr0_2 hc0_2
 have HB := Aside0.mk (Below.refl w.heap.size w)
 have H : (if 0 ≤ (l0_2.length : Int) then (if ((l0_2.length : Int) : Int).toNat ≤ 35184372088832 then ((some (List.replicate ((l0_2.length : Int) : Int).toNat 0 : List Int)).bind fun y102 => (spec_skPieces.l0 k y102 (y102.length : Int) 0 a0_0 a0_1 l0_2)) else (none)) else (none)) = some (r1, r2) := h
 clear h
 by_cases c2 : 0 ≤ (l0_2.length : Int)
 ·rw [if_pos c2] at H
  have c2b0 := eq_true c2
  have c2b1 : decide (0 ≤ (l0_2.length : Int)) = true := decide_eq_true c2
  clear c2
  by_cases c3 : ((l0_2.length : Int) : Int).toNat ≤ 35184372088832
  ·rw [if_pos c3] at H
   have c3b0 := eq_true c3
   have c3b1 : decide (((l0_2.length : Int) : Int).toNat ≤ 35184372088832) = true := decide_eq_true c3
   clear c3
   obtain ⟨y102, hy102⟩ : ∃ y_ : List Int, y_ = (List.replicate ((l0_2.length : Int) : Int).toNat 0) := ⟨_, rfl⟩
   replace H : (spec_skPieces.l0 k y102 (y102.length : Int) 0 a0_0 a0_1 l0_2) = some (r1, r2) := rH hy102 H
   have Ny102 := Aside0.mk hy102
   clear hy102
   have H' := Aside0.mk H
   clear H
   go_enter Tryd.func47, Tryd.ntmps47
   go_wp2_with (first | ((with_reducible refine gate_dst (N := 1) rfl ?_); refine boxE (N := 1) (cs := #[.int .i64 a0_0, .int .i64 a0_1, .slice A0_2 l0_2.length c0_2]) (t := 40) ?_; intro gb101 hg w4 hbox hb; have n0_ := Aside0.mk (below_step (bel HB) hb); have n1_ := Aside0.mk (hbox); have n2_ := Aside0.mk (gsz hg (bel HB)); have n3_ := Aside0.mk (gsz hg (bel HB)); clear HB; have HB := n0_; have BK101 := n1_; have GW101 := n2_; have GE101 := n3_; clear n0_ n1_ n2_ n3_; clear hb hbox hg; have hcz5_0 : w4.cell? ⟨gb101, 0, none⟩ = some (.int .i64 a0_0) := (blk_cell BK101.out 0).trans rfl; have hcz5_1 : w4.cell? ⟨gb101, 1, none⟩ = some (.int .i64 a0_1) := (blk_cell BK101.out 1).trans rfl; have hcz5_2 : w4.cell? ⟨gb101, 2, none⟩ = some (.slice A0_2 l0_2.length c0_2) := (blk_cell BK101.out 2).trans rfl; have hfz5_0 := blk_frozen BK101.out 0; have hfz5_1 := blk_frozen BK101.out 1; have hfz5_2 := blk_frozen BK101.out 2) | ((with_reducible refine gate_dst (N := 16) rfl ?_); refine Kd.R_make (Kd.int .i64) _ 3 rfl (N := 16) rfl 31 _ _ rfl (l0_2.length : Int) rfl rfl Tryd.underlying31 (.int .i64 0) 8 info3 rfl (by decide) (by omega) 0 (ok := fun _ => True) (okp := fun _ => True) rfl (fun _ hk => hk) trivial (of_decide_eq_true (by first | (with_reducible assumption) | assumption)) (Nat.le_trans (Nat.mul_le_mul_right _ (of_decide_eq_true (by first | (with_reducible assumption) | assumption) : (l0_2.length : Int).toNat ≤ 35184372088832)) (by omega)) (Below.refl _ _) (Nat.le_refl _) ?_; intro v103 w6 ho7 hb hg_ hnew_; clear hg_ hnew_; (first | rw [← Ny102.out] at ho7 | (simp only [Int.reduceToNat] at ho7; rw [← Ny102.out] at ho7)); have n0_ := Aside0.mk (Kd.R_lower ho7 (below_size (bel HB))); have n1_ := Aside0.mk (blk_below (g := gb101) (o := .cells #[.int .i64 a0_0, .int .i64 a0_1, .slice A0_2 l0_2.length c0_2] 40 (0, 0)) blc hb); have n2_ := Aside0.mk (below_step (bel HB) hb); clear BK101; clear HB; have HO104 := n0_; have BK101 := n1_; have HB := n2_; clear n0_ n1_ n2_; clear hb ho7; obtain ⟨Ao8, co8, eo8⟩ := Kd.R_slice HO104.out; subst eo8))
   go_loopg [19] k (fun kq v19 w' => ∃ (x4_1 : List Int) (x19_1 : Int), v19 = .int .i64 x19_1 ∧ Aside0 (spec_skPieces.l0 kq x4_1 (y102.length : Int) x19_1 a0_0 a0_1 l0_2 = some (r1, r2)) ∧ Aside0 (kq ≤ k) ∧ Aside0 (Kd.R (Kd.int .i64) 3 w' w.heap.size (fun _ => True) (.slice Ao8 y102.length co8) x4_1) ∧ Aside0 (w'.heap[gb101]? = some (.cells #[.int .i64 a0_0, .int .i64 a0_1, (.slice A0_2 l0_2.length c0_2)] 40 (0, 0))) ∧ Aside0 (Below w.heap.size w w'))
   case atStart => exact ⟨(y102), (0), (by first | rfl | (simp; done) | (simp [*]; done)), H', ⟨Nat.le_refl _⟩, ⟨rch HO104⟩, ⟨blc⟩, ⟨bel HB⟩⟩
   case round =>
    clear H'
    try clear c2
    try clear c2b0
    try clear c2b0y
    try clear c2b1
    try clear p2
    try clear c3
    try clear c3b0
    try clear c3b0y
    try clear c3b1
    try clear c4
    try clear hcz5_0
    try clear hcz5_1
    try clear hcz5_2
    try clear hfz5_0
    try clear hfz5_1
    try clear hfz5_2
    obtain ⟨x4_1, x19_1, rfl, HA, HK1, HO_4, BK101, HB⟩ := hrel
    have hl4_1 := (Kd.R_reads' HO_4.out).1
    rw [hl4_1] at HO_4
    (try simp only [hl4_1])
    (try simp only [hl4_1] at BK101)
    cases gk with
    | zero => exact absurd HA.out (by simp [spec_skPieces.l0])
    | succ k1 =>
     have H := HA.out
     clear HA
     simp only [spec_skPieces.l0] at H
     by_cases c9 : x19_1 < (y102.length : Int)
     ·rw [if_pos c9] at H
      have c9b0 : decide (x19_1 < (y102.length : Int)) = true := decide_eq_true c9
      clear c9
      by_cases c10 : 0 ≤ x19_1
      ·rw [if_pos c10] at H
       have c10b0 : decide (0 ≤ x19_1) = true := decide_eq_true c10
       clear c10
       by_cases c11 : x19_1 < (x4_1.length : Int)
       ·rw [if_pos c11] at H
        have c11b0 : decide (x19_1 < (x4_1.length : Int)) = true := decide_eq_true c11
        clear c11
        obtain ⟨y105, hy105⟩ : ∃ y_ : List Int, y_ = (x4_1.set (x19_1 : Int).toNat (-1)) := ⟨_, rfl⟩
        replace H : (spec_skPieces.l0 k1 y105 (y102.length : Int) (wrap64 (x19_1 + 1)) a0_0 a0_1 l0_2) = some (r1, r2) := rH hy105 H
        have Ny105 := Aside0.mk hy105
        clear hy105
        have H' := Aside0.mk H
        clear H
        have p12 : 0 ≤ (x19_1 : Int) := of_decide_eq_true (by first | (with_reducible assumption) | assumption)
        have q12 : (x19_1 : Int) < ((x4_1.length : Int) : Int) := of_decide_eq_true (by first | (with_reducible assumption) | assumption)
        obtain ⟨go12, co12, eo12, gb12, gl12, cl12, HG12⟩ := Kd.R_form HO_4.out (by omega)
        (first | cases eo12 | (injection eo12 with ea_ en_ ec_; (first | subst ea_ | (injection ea_ with ea_; subst ea_)); subst ec_; clear en_))
        have GB12 := Aside0.mk gb12
        have GG12 := Aside0.mk HG12
        clear gb12 gl12 HG12
        obtain ⟨hx12_0, hf12_0⟩ := Kd.R_celln 0 HO_4.out (x19_1 : Int) p12 q12
        replace p12 := eq_true p12
        replace q12 := eq_true q12
        have HP13 := Kd.R_putg HO_4.out (x19_1 : Int) (-1)
        go_wp2_with (first | ((with_reducible refine gate_store (t := 3) (p := 24) rfl ?_); refine store_event (t := 3) (p := 24) (v := ?vo_w14) (w1 := (wr.setCell ⟨go12, (x19_1 : Int).toNat, none⟩ (.int .i64 (-1)))) ?hg ?ho ?hn ?hr ?_; (case ho => rfl); (case hg => rfl); (case hn => rfl); (case hr => first | (go_simp; done) | (go_simp; rfl)); intro w14 hw; have hg : wr.grownBy w14 (some go12) := (by rw [hw]; exact HP13.2); have hp_ : Kd.R (Kd.int .i64) 3 w14 w.heap.size (fun _ => True) (.slice (some ⟨go12, 0, none⟩) x4_1.length co8) y105 := (by rw [hw, Ny105.out]; (first | exact HP13.1 | exact R_any HP13.1)); clear HP13; have n0_ := Aside0.mk (hp_); have n1_ := Aside0.mk (blk_grown (g := gb101) (o := .cells #[.int .i64 a0_0, .int .i64 a0_1, .slice A0_2 l0_2.length c0_2] 40 (0, 0)) blc hg (Kd.R_ne HO_4.out BK101.out (by decide))); have n2_ := Aside0.mk ((by rw [hw]; exact below_set (HB.out) GB12.out : Below w.heap.size w w14)); clear HO_4; clear BK101; clear HB; have HO_4 := n0_; have BK101 := n1_; have HB := n2_; clear n0_ n1_ n2_; clear hg hw hp_))
        (try simp only [← hl4_1])
        go_roundg k1
        case measure => have := HK1.out; omega
        case rel => exact ⟨(y105), (wrap64 (x19_1 + 1)), (by first | rfl | (simp; done) | (simp [*]; done)), H', ⟨by have := HK1.out; omega⟩, ⟨by (try simp only [hl4_1]); (with_reducible repeat (first | apply Kd.R_alloc | apply Kd.R_drewN | apply Kd.R_drew)); (first | exact HO_4.out | exact R_any HO_4.out)⟩, ⟨by (try simp only [hl4_1]); exact blc⟩, ⟨bel HB⟩⟩
       ·rw [if_neg c11] at H
        exact absurd H (by simp)
      ·rw [if_neg c10] at H
       exact absurd H (by simp)
     ·rw [if_neg c9] at H
      have c9b0 : decide (x19_1 < (y102.length : Int)) = false := decide_eq_false c9
      (try (have c9b0y := c9b0; first | rw [hl4_1] at c9b0y))
      clear c9
      have H' := Aside0.mk H
      clear H
      have hcz15_0 : wr.cell? ⟨gb101, 0, none⟩ = some (.int .i64 a0_0) := (blk_cell BK101.out 0).trans rfl
      have hcz15_1 : wr.cell? ⟨gb101, 1, none⟩ = some (.int .i64 a0_1) := (blk_cell BK101.out 1).trans rfl
      have hcz15_2 : wr.cell? ⟨gb101, 2, none⟩ = some (.slice A0_2 l0_2.length c0_2) := (blk_cell BK101.out 2).trans rfl
      have hfz15_0 := blk_frozen BK101.out 0
      have hfz15_1 := blk_frozen BK101.out 1
      have hfz15_2 := blk_frozen BK101.out 2
      go_wp2
      go_loopg [6, 29] k1 (fun kq v6 v29 w' => ∃ (x4_2 : List Int) (x6_2 : Int) (x29_2 : Int), v6 = .int .i64 x6_2 ∧ v29 = .int .i64 x29_2 ∧ Aside0 (spec_skPieces.l1 kq x4_2 x6_2 l0_2 (l0_2.length : Int) x29_2 a0_0 a0_1 l0_2 = some (r1, r2)) ∧ Aside0 (kq ≤ k1) ∧ Aside0 (Kd.R (Kd.int .i64) 3 w' w.heap.size (fun _ => True) (.slice Ao8 x4_1.length co8) x4_2) ∧ Aside0 (w'.heap[gb101]? = some (.cells #[.int .i64 a0_0, .int .i64 a0_1, (.slice A0_2 l0_2.length c0_2)] 40 (0, 0))) ∧ Aside0 (Below w.heap.size w w'))
      case atStart => exact ⟨(x4_1), (0), (0), (by first | rfl | (simp; done) | (simp [*]; done)), (by first | rfl | (simp; done) | (simp [*]; done)), H', ⟨Nat.le_refl _⟩, ⟨by (try simp only [hl4_1]); (with_reducible repeat (first | apply Kd.R_alloc | apply Kd.R_drewN | apply Kd.R_drew)); (first | exact HO_4.out | exact R_any HO_4.out)⟩, ⟨by (try simp only [hl4_1]); exact blc⟩, ⟨bel HB⟩⟩
      case round =>
       clear H'
       try clear c1
       try clear p1
       try clear q1
       try clear hx1
       try clear hf1
       try clear c2
       try clear c2b0
       try clear c2b0y
       try clear c2b1
       try clear p2
       try clear c3
       try clear c3b0
       try clear c3b0y
       try clear c3b1
       try clear c4
       try clear p6
       try clear c9
       try clear c9b0
       try clear c9b0y
       try clear c10
       try clear c10b0
       try clear c10b0y
       try clear c11
       try clear c11b0
       try clear c11b0y
       try clear p12
       try clear q12
       try clear hx12
       try clear hf12
       try clear hcz15_0
       try clear hcz15_1
       try clear hcz15_2
       try clear hcz5_0
       try clear hcz5_1
       try clear hcz5_2
       try clear hfz15_0
       try clear hfz15_1
       try clear hfz15_2
       try clear hfz5_0
       try clear hfz5_1
       try clear hfz5_2
       try clear hx12_0
       try clear p12
       try clear p2
       try clear q12
       obtain ⟨x4_2, x6_2, x29_2, rfl, rfl, HA, HK2, HO_4, BK101, HB⟩ := hrel
       have hl4_2 := (Kd.R_reads' HO_4.out).1
       rw [hl4_2] at HO_4
       (try simp only [hl4_2])
       (try simp only [hl4_2] at BK101)
       cases gk with
       | zero => exact absurd HA.out (by simp [spec_skPieces.l1])
       | succ k2 =>
        have H := HA.out
        clear HA
        simp only [spec_skPieces.l1] at H
        by_cases c16 : x29_2 < (l0_2.length : Int)
        ·rw [if_pos c16] at H
         have c16b0 : decide (x29_2 < (l0_2.length : Int)) = true := decide_eq_true c16
         clear c16
         by_cases c17 : 0 ≤ x29_2
         ·rw [if_pos c17] at H
          have c17b0 : decide (0 ≤ x29_2) = true := decide_eq_true c17
          clear c17
          by_cases c18 : x29_2 < (l0_2.length : Int)
          ·rw [if_pos c18] at H
           have c18b0 : decide (x29_2 < (l0_2.length : Int)) = true := decide_eq_true c18
           clear c18
           have HC19 := Aside0.mk H
           clear H
           have p106 : 0 ≤ (x29_2 : Int) := of_decide_eq_true (by first | (with_reducible assumption) | assumption)
           have q106 : x29_2 < (l0_2.length : Int) := of_decide_eq_true (by first | (with_reducible assumption) | assumption)
           obtain ⟨ad106, e106, hx106_0⟩ := Kd.at_int HR0_2.out x29_2 p106 q106
           cases e106
           (try replace hx106_0 := (HB.out.cell (World.block_lt_of_cell? w _ hx106_0)).trans hx106_0)
           replace p106 := eq_true p106
           replace q106 := eq_true q106
           go_upto_region 11 with (fail)
           go_cut [43] (fun v43 wc => ∃ (kq : Nat) (x43_18 : Bool), v43 = .bool x43_18 ∧ Aside0 (spec_skPieces.j2 kq x4_2 x6_2 x29_2 l0_2 (l0_2.length : Int) x29_2 x43_18 a0_0 a0_1 l0_2 = some (r1, r2)) ∧ Aside0 (kq ≤ k2) ∧ Aside0 (Kd.R (Kd.int .i64) 3 wc w.heap.size (fun _ => True) (.slice Ao8 x4_2.length co8) x4_2) ∧ Aside0 (wc.heap[gb101]? = some (.cells #[.int .i64 a0_0, .int .i64 a0_1, (.slice (some ad106) l0_2.length c0_2)] 40 (0, 0))) ∧ Aside0 (Below w.heap.size w wc))
           case first =>
            have H := HC19.out
            clear HC19
            replace H := Option.bind_eq_some_iff.mp H
            obtain ⟨t107, A200, H⟩ := H
            replace H : (if t107 = true then (if x29_2 < (x4_2.length : Int) then (spec_skPieces.j2 k2 x4_2 x6_2 x29_2 l0_2 (l0_2.length : Int) x29_2 (decide ((rd x4_2 x29_2) ≥ 0)) a0_0 a0_1 l0_2) else (none)) else (spec_skPieces.j2 k2 x4_2 x6_2 x29_2 l0_2 (l0_2.length : Int) x29_2 true a0_0 a0_1 l0_2)) = some (r1, r2) := H
            have A20 := Aside0.mk A200
            clear A200
            by_cases c21 : t107 = true
            ·subst c21
             have H1 : (if x29_2 < (x4_2.length : Int) then (spec_skPieces.j2 k2 x4_2 x6_2 x29_2 l0_2 (l0_2.length : Int) x29_2 (decide ((rd x4_2 x29_2) ≥ 0)) a0_0 a0_1 l0_2) else (none)) = some (r1, r2) := by rw [if_pos rfl] at H; exact H
             clear H
             have H := H1
             clear H1
             by_cases c22 : x29_2 < (x4_2.length : Int)
             ·rw [if_pos c22] at H
              have c22b0 : decide (x29_2 < (x4_2.length : Int)) = true := decide_eq_true c22
              clear c22
              (first | rw [c22b0] | (simp only [i64_w, i32_w]; rw [c22b0]) | skip)
              have H' := Aside0.mk H
              clear H
              go_wp2_with (first | ((with_reducible refine gate_callee (f := 70) rfl ?_); refine gcall (some 35) Tryd.func70 #[.int .u8 (rd l0_2 x29_2)] rfl ?_; (with_reducible refine (spec_tyBall.calls (rd l0_2 x29_2) true _ A20.out).mono ?_); rintro e w' ⟨rfl, ⟨nd, rfl⟩⟩; refine ⟨_, rfl, ?_⟩; have p108 : 0 ≤ (x29_2 : Int) := of_decide_eq_true (by first | (with_reducible assumption) | assumption); have q108 : x29_2 < (x4_2.length : Int) := of_decide_eq_true (by first | (with_reducible assumption) | assumption); obtain ⟨ad108, e108, hx108_0⟩ := Kd.at_int (Kd.R_reads' HO_4.out).2.2 x29_2 p108 q108; cases e108; replace p108 := eq_true p108; replace q108 := eq_true q108))
              go_meet
              case rel => exact ⟨_, (decide ((rd x4_2 x29_2) ≥ 0)), (by first | rfl | (simp; done) | (simp [*]; done)), H', ⟨by have := HK1.out; have := HK2.out; first | omega | exact Nat.le_refl _⟩, ⟨by (try simp only [hl4_1]); (try simp only [hl4_2]); (with_reducible repeat (first | apply Kd.R_alloc | apply Kd.R_drewN | apply Kd.R_drew)); (first | exact HO_4.out | exact R_any HO_4.out)⟩, ⟨by (try simp only [hl4_1]); (try simp only [hl4_2]); exact blc⟩, ⟨bel HB⟩⟩
             ·rw [if_neg c22] at H
              exact absurd H (by simp)
            ·replace c21 := Bool.eq_false_iff.mpr c21
             subst c21
             have H1 : (spec_skPieces.j2 k2 x4_2 x6_2 x29_2 l0_2 (l0_2.length : Int) x29_2 true a0_0 a0_1 l0_2) = some (r1, r2) := by rw [if_neg (show ¬ (false = true) by decide)] at H; exact H
             clear H
             have H := H1
             clear H1
             have H' := Aside0.mk H
             clear H
             go_wp2_with (first | ((with_reducible refine gate_callee (f := 70) rfl ?_); refine gcall (some 35) Tryd.func70 #[.int .u8 (rd l0_2 x29_2)] rfl ?_; (with_reducible refine (spec_tyBall.calls (rd l0_2 x29_2) false _ A20.out).mono ?_); rintro e w' ⟨rfl, ⟨nd, rfl⟩⟩; refine ⟨_, rfl, ?_⟩))
             go_meet
             case rel => exact ⟨_, (true), (by first | rfl | (simp; done) | (simp [*]; done)), H', ⟨by have := HK1.out; have := HK2.out; first | omega | exact Nat.le_refl _⟩, ⟨by (try simp only [hl4_1]); (try simp only [hl4_2]); (with_reducible repeat (first | apply Kd.R_alloc | apply Kd.R_drewN | apply Kd.R_drew)); (first | exact HO_4.out | exact R_any HO_4.out)⟩, ⟨by (try simp only [hl4_1]); (try simp only [hl4_2]); exact blc⟩, ⟨bel HB⟩⟩
           case rest =>
            clear HC19
            try clear c1
            try clear p1
            try clear q1
            try clear hx1
            try clear hf1
            try clear c2
            try clear c2b0
            try clear c2b0y
            try clear c2b1
            try clear p2
            try clear c3
            try clear c3b0
            try clear c3b0y
            try clear c3b1
            try clear c4
            try clear p6
            try clear c7
            try clear c9
            try clear c9b0
            try clear c9b0y
            try clear c10
            try clear c10b0
            try clear c10b0y
            try clear p10
            try clear q10
            try clear hx10
            try clear c11
            try clear c11b0
            try clear c11b0y
            try clear p12
            try clear q12
            try clear hx12
            try clear hf12
            try clear c16
            try clear c16b0
            try clear c16b0y
            try clear c17
            try clear c17b0
            try clear c17b0y
            try clear c18
            try clear c18b0
            try clear c18b0y
            try clear c21
            try clear c22
            try clear c22b0
            try clear c22b0y
            try clear hcz15_0
            try clear hcz15_1
            try clear hcz15_2
            try clear hcz5_0
            try clear hcz5_1
            try clear hcz5_2
            try clear hfz15_0
            try clear hfz15_1
            try clear hfz15_2
            try clear hfz5_0
            try clear hfz5_1
            try clear hfz5_2
            try clear hx106_0
            try clear hx108_0
            try clear hx12_0
            try clear p1
            try clear p106
            try clear p108
            try clear p12
            try clear p2
            try clear p6
            try clear q1
            try clear q106
            try clear q108
            try clear q12
            obtain ⟨kq, x43_18, rfl, HA, HJ18, HO_4, BK101, HB⟩ := hcut
            cases kq with
            | zero => exact absurd HA.out (by simp [spec_skPieces.j2])
            | succ kj18 =>
             have H := HA.out
             clear HA
             simp only [spec_skPieces.j2] at H
             by_cases c23 : x43_18 = true
             ·subst c23
              have H1 : (spec_skPieces.l1 kj18 x4_2 x6_2 l0_2 (l0_2.length : Int) (wrap64 (x29_2 + 1)) a0_0 a0_1 l0_2) = some (r1, r2) := by rw [if_pos rfl] at H; exact H
              clear H
              have H := H1
              clear H1
              have H' := Aside0.mk H
              clear H
              go_wp2
              (try simp only [← hl4_2])
              go_roundg kj18
              case measure => have := HK1.out; have := HK2.out; have := HJ18.out; omega
              case rel => exact ⟨(x4_2), (x6_2), (wrap64 (x29_2 + 1)), (by first | rfl | (simp; done) | (simp [*]; done)), (by first | rfl | (simp; done) | (simp [*]; done)), H', ⟨by have := HK1.out; have := HK2.out; have := HJ18.out; omega⟩, ⟨by (try simp only [hl4_1]); (try simp only [hl4_2]); (with_reducible repeat (first | apply Kd.R_alloc | apply Kd.R_drewN | apply Kd.R_drew)); (first | exact HO_4.out | exact R_any HO_4.out)⟩, ⟨by (try simp only [hl4_1]); (try simp only [hl4_2]); exact blc⟩, ⟨bel HB⟩⟩
             ·replace c23 := Bool.eq_false_iff.mpr c23
              subst c23
              have H1 : (if 0 ≤ x29_2 then (if x29_2 < (x4_2.length : Int) then (spec_skPieces.l2 kj18 (x4_2.set (x29_2 : Int).toNat x6_2) x6_2 (([x29_2] : List Int)) 0 l0_2 (l0_2.length : Int) x29_2 a0_0 a0_1 l0_2) else (none)) else (none)) = some (r1, r2) := by rw [if_neg (show ¬ (false = true) by decide)] at H; exact H
              clear H
              have H := H1
              clear H1
              by_cases c24 : 0 ≤ x29_2
              ·rw [if_pos c24] at H
               have c24b0 : decide (0 ≤ x29_2) = true := decide_eq_true c24
               clear c24
               by_cases c25 : x29_2 < (x4_2.length : Int)
               ·rw [if_pos c25] at H
                have c25b0 : decide (x29_2 < (x4_2.length : Int)) = true := decide_eq_true c25
                clear c25
                obtain ⟨y109, hy109⟩ : ∃ y_ : List Int, y_ = (x4_2.set (x29_2 : Int).toNat x6_2) := ⟨_, rfl⟩
                replace H : (spec_skPieces.l2 kj18 y109 x6_2 (([x29_2] : List Int)) 0 l0_2 (l0_2.length : Int) x29_2 a0_0 a0_1 l0_2) = some (r1, r2) := rH hy109 H
                have Ny109 := Aside0.mk hy109
                clear hy109
                obtain ⟨y110, hy110⟩ : ∃ y_ : List Int, y_ = (([x29_2] : List Int)) := ⟨_, rfl⟩
                replace H : (spec_skPieces.l2 kj18 y109 x6_2 y110 0 l0_2 (l0_2.length : Int) x29_2 a0_0 a0_1 l0_2) = some (r1, r2) := rH hy110 H
                have Ny110 := Aside0.mk hy110
                clear hy110
                have H' := Aside0.mk H
                clear H
                have p26 : 0 ≤ (x29_2 : Int) := of_decide_eq_true (by first | (with_reducible assumption) | assumption)
                have q26 : (x29_2 : Int) < ((x4_2.length : Int) : Int) := of_decide_eq_true (by first | (with_reducible assumption) | assumption)
                obtain ⟨go26, co26, eo26, gb26, gl26, cl26, HG26⟩ := Kd.R_form HO_4.out (by omega)
                (first | cases eo26 | (injection eo26 with ea_ en_ ec_; (first | subst ea_ | (injection ea_ with ea_; subst ea_)); subst ec_; clear en_))
                have GB26 := Aside0.mk gb26
                have GG26 := Aside0.mk HG26
                clear gb26 gl26 HG26
                obtain ⟨hx26_0, hf26_0⟩ := Kd.R_celln 0 HO_4.out (x29_2 : Int) p26 q26
                replace p26 := eq_true p26
                replace q26 := eq_true q26
                have HP27 := Kd.R_putg HO_4.out (x29_2 : Int) x6_2
                go_wp2_with (first | ((with_reducible refine gate_store (t := 3) (p := 47) rfl ?_); refine store_event (t := 3) (p := 47) (v := ?vo_w28) (w1 := (wc.setCell ⟨go26, (x29_2 : Int).toNat, none⟩ (.int .i64 x6_2))) ?hg ?ho ?hn ?hr ?_; (case ho => rfl); (case hg => rfl); (case hn => rfl); (case hr => first | (go_simp; done) | (go_simp; rfl)); intro w28 hw; have hg : wc.grownBy w28 (some go26) := (by rw [hw]; exact HP27.2); have hp_ : Kd.R (Kd.int .i64) 3 w28 w.heap.size (fun _ => True) (.slice (some ⟨go26, 0, none⟩) x4_2.length co8) y109 := (by rw [hw, Ny109.out]; (first | exact HP27.1 | exact R_any HP27.1)); clear HP27; have n0_ := Aside0.mk (hp_); have n1_ := Aside0.mk (blk_grown (g := gb101) (o := .cells #[.int .i64 a0_0, .int .i64 a0_1, .slice (some ad106) l0_2.length c0_2] 40 (0, 0)) blc hg (Kd.R_ne HO_4.out BK101.out (by decide))); have n2_ := Aside0.mk ((by rw [hw]; exact below_set (HB.out) GB26.out : Below w.heap.size w w28)); clear HO_4; clear BK101; clear HB; have HO_4 := n0_; have BK101 := n1_; have HB := n2_; clear n0_ n1_ n2_; clear hg hw hp_) | ((with_reducible refine gate_dst (N := 49) rfl ?_); refine R_litG (Kd.int .i64) _ 3 ?hg (N := 49) ?hd (xs := ([x29_2] : List Int)) (inner := [.int .i64 x29_2]) (ok := fun _ => True) (okp := fun _ => True) ?hr ?hp (fun _ hk => hk) trivial (Below.refl _ _) (Nat.le_refl _) (by simp) ?_; (case hd => rfl); (case hg => first | rfl | decide | (simp [Region.wanted, yielded]; done) | (go_simp; done)); (case hr => first | (go_simp; done) | (go_simp; rfl)); (case hp => exact (Reps.one (show Kd.M (Kd.int .i64) _ _ _ x29_2 [.int .i64 x29_2] from rfl) (Reps.none _ _))); intro v111 w29 ho30 hb hg_ hnew_; clear hg_ hnew_; (first | rw [← Ny110.out] at ho30 | (simp only [Int.reduceToNat] at ho30; rw [← Ny110.out] at ho30)); have n0_ := Aside0.mk (Kd.R_elder' (rch HO_4) (Kd.R_base ho30) hb); have n1_ := Aside0.mk (Kd.R_lower (Kd.R_new' ho30 (Kd.R_lt (rch HO_4))) (below_size (bel HB))); have n2_ := Aside0.mk (blk_below (g := gb101) (o := .cells #[.int .i64 a0_0, .int .i64 a0_1, .slice (some ad106) l0_2.length c0_2] 40 (0, 0)) blc hb); have n3_ := Aside0.mk (below_step (bel HB) hb); clear HO_4; clear BK101; clear HB; have HO_4 := n0_; have HO112 := n1_; have BK101 := n2_; have HB := n3_; clear n0_ n1_ n2_ n3_; clear hb ho30))
                go_loopg [9, 10] kj18 (fun kq v9 v10 w' => ∃ (x4_4 : List Int) (x9_4 : List Int) (x10_4 : Int), v10 = .int .i64 x10_4 ∧ Aside0 (spec_skPieces.l2 kq x4_4 x6_2 x9_4 x10_4 l0_2 (l0_2.length : Int) x29_2 a0_0 a0_1 l0_2 = some (r1, r2)) ∧ Aside0 (kq ≤ kj18) ∧ Aside0 (Kd.R (Kd.int .i64) 3 w' w.heap.size (fun k_ => some k_ ≠ (v9 : Value).ownBlock) (.slice (some ⟨go26, 0, none⟩) x4_2.length co8) x4_4) ∧ Aside0 (Kd.R (Kd.int .i64) 3 w' w.heap.size (fun k_ => some k_ ≠ ((.slice (some ⟨go26, 0, none⟩) x4_2.length co8) : Value).ownBlock) v9 x9_4) ∧ Aside0 (w'.heap[gb101]? = some (.cells #[.int .i64 a0_0, .int .i64 a0_1, (.slice (some ad106) l0_2.length c0_2)] 40 (0, 0))) ∧ Aside0 (Below w.heap.size w w'))
                case atStart => exact ⟨(y109), (y110), (0), (by first | rfl | (simp; done) | (simp [*]; done)), H', ⟨Nat.le_refl _⟩, ⟨by (try simp only [hl4_1]); (try simp only [hl4_2]); (with_reducible repeat (first | apply Kd.R_alloc | apply Kd.R_drewN | apply Kd.R_drew)); (first | exact Kd.R_mono HO_4.out (fun _ hk => hk.2) | exact HO_4.out | exact R_any HO_4.out)⟩, ⟨by (try simp only [hl4_1]); (try simp only [hl4_2]); (with_reducible repeat (first | apply Kd.R_alloc | apply Kd.R_drewN | apply Kd.R_drew)); (first | exact Kd.R_mono HO112.out (fun _ hk => hk.2) | exact HO112.out | exact R_any HO112.out)⟩, ⟨by (try simp only [hl4_1]); (try simp only [hl4_2]); exact blc⟩, ⟨bel HB⟩⟩
                case round =>
                 clear H'
                 try clear c1
                 try clear p1
                 try clear q1
                 try clear hx1
                 try clear hf1
                 try clear c2
                 try clear c2b0
                 try clear c2b0y
                 try clear c2b1
                 try clear p2
                 try clear q2
                 try clear hx2
                 try clear hf2
                 try clear c3
                 try clear c3b0
                 try clear c3b0y
                 try clear c3b1
                 try clear c4
                 try clear p6
                 try clear c7
                 try clear c9
                 try clear c9b0
                 try clear c9b0y
                 try clear c10
                 try clear c10b0
                 try clear c10b0y
                 try clear p10
                 try clear q10
                 try clear hx10
                 try clear c11
                 try clear c11b0
                 try clear c11b0y
                 try clear p12
                 try clear q12
                 try clear hx12
                 try clear hf12
                 try clear c16
                 try clear c16b0
                 try clear c16b0y
                 try clear c17
                 try clear c17b0
                 try clear c17b0y
                 try clear c18
                 try clear c18b0
                 try clear c18b0y
                 try clear c21
                 try clear c22
                 try clear c22b0
                 try clear c22b0y
                 try clear c23
                 try clear c24
                 try clear c24b0
                 try clear c24b0y
                 try clear c25
                 try clear c25b0
                 try clear c25b0y
                 try clear p26
                 try clear q26
                 try clear hx26
                 try clear hf26
                 try clear hcz15_0
                 try clear hcz15_1
                 try clear hcz15_2
                 try clear hcz5_0
                 try clear hcz5_1
                 try clear hcz5_2
                 try clear hfz15_0
                 try clear hfz15_1
                 try clear hfz15_2
                 try clear hfz5_0
                 try clear hfz5_1
                 try clear hfz5_2
                 try clear hx106_0
                 try clear hx108_0
                 try clear hx12_0
                 try clear hx26_0
                 try clear p1
                 try clear p10
                 try clear p106
                 try clear p108
                 try clear p12
                 try clear p2
                 try clear p26
                 try clear p6
                 try clear q1
                 try clear q10
                 try clear q106
                 try clear q108
                 try clear q12
                 try clear q26
                 obtain ⟨x4_4, x9_4, x10_4, rfl, HA, HK4, HO_4, HO_9, BK101, HB⟩ := hrel
                 have hl4_4 := (Kd.R_reads' HO_4.out).1
                 rw [hl4_4] at HO_4
                 (try simp only [hl4_4])
                 (try simp only [hl4_4] at BK101)
                 (try simp only [hl4_4] at HO_9)
                 cases gk with
                 | zero => exact absurd HA.out (by simp [spec_skPieces.l2])
                 | succ k4 =>
                  have H := HA.out
                  clear HA
                  simp only [spec_skPieces.l2] at H
                  by_cases c31 : x10_4 < (x9_4.length : Int)
                  ·rw [if_pos c31] at H
                   have c31b0 : decide (x10_4 < (x9_4.length : Int)) = true := decide_eq_true c31
                   clear c31
                   by_cases c32 : 0 ≤ x10_4
                   ·rw [if_pos c32] at H
                    have c32b0 : decide (0 ≤ x10_4) = true := decide_eq_true c32
                    clear c32
                    replace H := Option.bind_eq_some_iff.mp H
                    obtain ⟨t114, A330, H⟩ := H
                    replace H : (spec_skPieces.l3 k4 x4_4 x6_2 x9_4 x10_4 l0_2 (l0_2.length : Int) x29_2 t114 (t114.length : Int) 0 a0_0 a0_1 l0_2) = some (r1, r2) := H
                    have A33 := Aside0.mk A330
                    clear A330
                    have H' := Aside0.mk H
                    clear H
                    obtain ⟨Ao34, co34, eo34⟩ := Kd.R_slice HO_9.out
                    subst eo34
                    try go_wp2
                    have n0_ := Aside0.mk (Kd.R_drew HO_4.out)
                    have n1_ := Aside0.mk (Kd.R_drew HO_9.out)
                    have n2_ := Aside0.mk (blk_drew BK101.out)
                    have n3_ := Aside0.mk (below_drew1 HB.out)
                    clear HO_4
                    clear HO_9
                    clear BK101
                    clear HB
                    have HO_4 := n0_
                    have HO_9 := n1_
                    have BK101 := n2_
                    have HB := n3_
                    clear n0_ n1_ n2_ n3_
                    have p113 : 0 ≤ (x10_4 : Int) := of_decide_eq_true (by first | (with_reducible assumption) | assumption)
                    have q113 : x10_4 < (x9_4.length : Int) := of_decide_eq_true (by first | (with_reducible assumption) | assumption)
                    obtain ⟨ad113, e113, hx113_0⟩ := Kd.at_int (Kd.R_reads' HO_9.out).2.2 x10_4 p113 q113
                    cases e113
                    replace p113 := eq_true p113
                    replace q113 := eq_true q113
                    refine start_ (n := 8) (S := fun w' => w'.cell? ⟨gb101, 0, none⟩ = some (.int .i64 a0_0) ∧ w'.cell? ⟨gb101, 1, none⟩ = some (.int .i64 a0_1) ∧ w'.cell? ⟨gb101, 2, none⟩ = some (.slice (some ad106) l0_2.length c0_2) ∧ w'.cell? (ad113.add (x10_4).toNat) = some (.int .i64 (rd x9_4 x10_4))) (ds := []) #[false, false, false, false, false, false, false, false] (by kernel_rfl) rfl rfl ⟨(blk_cell BK101.out 0).trans rfl, (blk_cell BK101.out 1).trans rfl, (blk_cell BK101.out 2).trans rfl, hx113_0⟩ (fun hHeld => ?_); refine with_tabW spec_skPieces.tab17 spec_skPieces.bits17 (fun HT_ HW_ => ?_)
                    generalize wr.drew = w35 at HO_4 HO_9 BK101 HB hx113_0 hHeld ⊢
                    refine pure_ (i := 1) (N := some 57) (v := ?_) (a' := ?_) #[false, true, false, false, false, false, false, false] rfl rfl (any_of HT_.out (by kernel_rfl)) (fun _ _ _ h => h) (Or.inl ⟨by rfl, ?_⟩) ?_ ?_
                    rotate_left
                    ·intro w'
                     go_simp
                     with_reducible rfl
                    rotate_left
                    ·simp only [Act.put, List.setIfInBounds_toArray, List.set_cons_zero, List.set_cons_succ, i64_w, i32_w]
                     rfl
                    refine pure_ (i := 2) (N := some 58) (v := ?_) (a' := ?_) #[false, true, true, false, false, false, false, false] rfl rfl (any_of HT_.out (by kernel_rfl)) (fun _ _ _ h => h) (Or.inl ⟨by rfl, ?_⟩) ?_ ?_
                    rotate_left
                    ·intro w'
                     go_simp
                     with_reducible rfl
                    rotate_left
                    ·simp only [Act.put, List.setIfInBounds_toArray, List.set_cons_zero, List.set_cons_succ, i64_w, i32_w]
                     rfl
                    refine pure_ (i := 3) (N := some 59) (v := ?_) (a' := ?_) #[false, true, true, true, false, false, false, false] rfl rfl (any_of HT_.out (by kernel_rfl)) (fun _ _ _ h => h) (Or.inl ⟨by rfl, ?_⟩) ?_ ?_
                    rotate_left
                    ·intro w'
                     go_simp
                     with_reducible rfl
                    rotate_left
                    ·simp only [Act.put, List.setIfInBounds_toArray, List.set_cons_zero, List.set_cons_succ, i64_w, i32_w]
                     rfl
                    refine pure_ (i := 7) (N := some 63) (v := ?_) (a' := ?_) #[false, true, true, true, false, false, false, true] rfl rfl (any_of HT_.out (by kernel_rfl)) (fun _ _ _ h => h) (Or.inl ⟨by rfl, ?_⟩) ?_ ?_
                    rotate_left
                    ·intro w'
                     go_simp
                     with_reducible rfl
                    rotate_left
                    ·simp only [Act.put, List.setIfInBounds_toArray, List.set_cons_zero, List.set_cons_succ, i64_w, i32_w]
                     rfl
                    refine take_ (i := 0) (N := some 56) (v := ?_) (a' := ?_) #[true, true, true, true, false, false, false, true] rfl rfl (take_ofW HT_.out HW_.out (by kernel_rfl)) (fun _ _ _ h => h) (Or.inl ⟨by rfl, ?_⟩) hHeld ?_ ?_
                    rotate_left
                    ·rintro w' ⟨s0, s1, s2, s3⟩
                     go_simp
                     with_reducible rfl
                    rotate_left
                    ·simp only [Act.put, List.setIfInBounds_toArray, List.set_cons_zero, List.set_cons_succ, i64_w, i32_w]
                     rfl
                    refine take_ (i := 4) (N := some 60) (v := ?_) (a' := ?_) #[true, true, true, true, true, false, false, true] rfl rfl (take_ofW HT_.out HW_.out (by kernel_rfl)) (fun _ _ _ h => h) (Or.inl ⟨by rfl, ?_⟩) hHeld ?_ ?_
                    rotate_left
                    ·rintro w' ⟨s0, s1, s2, s3⟩
                     go_simp
                     with_reducible rfl
                    rotate_left
                    ·simp only [Act.put, List.setIfInBounds_toArray, List.set_cons_zero, List.set_cons_succ, i64_w, i32_w]
                     rfl
                    refine one_ (i := 5) (N := some 61) #[true, true, true, true, true, true, false, true] rfl rfl (one_of HT_.out (by kernel_rfl)) (by decide) (fun K hK => ?_)
                    refine goes_ Tryd.func84 (by kernel_rfl) rfl #[.agg #[.int .i64 a0_0, .int .i64 a0_1, .slice (some ad106) l0_2.length c0_2], .int .i64 (rd x9_4 x10_4)] (by rfl) rfl rfl (by (try simp only [List.map_toArray, List.map_cons, List.map_nil]); first | done | rfl | (simp only [List.length_drop, List.length_take]; rfl)) ?_
                    with_reducible refine (spec_tyNear.calls k4 a0_0 a0_1 _ _ l0_2 (rd x9_4 x10_4) t114 _ ?side1 ?side2 A33.out).mono ?_
                    (case side1 => repeat (first | exact (Kd.C_below HR0_2.out HB.out) | (with_reducible refine Kd.C_alloc ?_ _) | (with_reducible refine Kd.C_drewN ?_ _) | (with_reducible refine Kd.C_drew ?_)))
                    (case side2 => exact HC0_2.out)
                    rintro e w36 ⟨v115, rfl, ho0, hb⟩
                    have HS3_ := (hb.cell (World.block_lt_of_cell? _ _ (hHeld.2.2.2))).trans (hHeld.2.2.2)
                    refine ⟨_, rfl, ?_⟩
                    have n0_ := Aside0.mk (Kd.R_elder' (rch HO_4) (Kd.R_base ho0) hb)
                    have n1_ := Aside0.mk (Kd.R_elder' (rch HO_9) (Kd.R_base ho0) hb)
                    have n2_ := Aside0.mk (Kd.R_lower (Kd.R_new' (Kd.R_new' ho0 (Kd.R_lt (rch HO_4))) (Kd.R_lt (rch HO_9))) (below_size (bel HB)))
                    have n3_ := Aside0.mk (blk_below (g := gb101) (o := .cells #[.int .i64 a0_0, .int .i64 a0_1, .slice (some ad106) l0_2.length c0_2] 40 (0, 0)) blc hb)
                    have n4_ := Aside0.mk (below_step (bel HB) hb)
                    clear HO_4
                    clear HO_9
                    clear BK101
                    clear HB
                    have HO_4 := n0_
                    have HO_9 := n1_
                    have HO116 := n2_
                    have BK101 := n3_
                    have HB := n4_
                    clear n0_ n1_ n2_ n3_ n4_
                    (try clear hb)
                    (try clear hb2)
                    (try clear hk)
                    (try clear hi)
                    (try clear ho0)
                    obtain ⟨Ao37, co37, eo37⟩ := Kd.R_slice HO116.out
                    (first | subst eo37 | (injection eo37 with f1_ f2_ f3_; have f4_ := f1_.symm; have f5_ := f3_.symm; clear f1_ f2_ f3_; subst f4_; subst f5_))
                    refine hK.out _ _ ⟨(blk_cell BK101.out 0).trans rfl, (blk_cell BK101.out 1).trans rfl, (blk_cell BK101.out 2).trans rfl, HS3_⟩ (fun hHeld => ?_)
                    clear hK K
                    refine norm_ (a' := ?_) ?_ ?_
                    rotate_left
                    ·show Act.put _ (some 61) _ = _
                     simp only [Act.put, List.setIfInBounds_toArray, List.set_cons_zero, List.set_cons_succ, i64_w, i32_w]
                     rfl
                    refine pure_ (i := 6) (N := some 62) (v := ?_) (a' := ?_) #[true, true, true, true, true, true, true, true] rfl rfl (any_of HT_.out (by kernel_rfl)) (fun _ _ _ h => h) (Or.inl ⟨by rfl, ?_⟩) ?_ ?_
                    rotate_left
                    ·intro w'
                     go_simp
                     with_reducible rfl
                    rotate_left
                    ·simp only [Act.put, List.setIfInBounds_toArray, List.set_cons_zero, List.set_cons_succ, i64_w, i32_w]
                     rfl
                    refine done_ (done_of HT_.out (by kernel_rfl)) ?_
                    try go_wp2
                    go_loopg [9, 63] k4 (fun kq v9 v63 w' => ∃ (x4_5 : List Int) (x9_5 : List Int) (x63_5 : Int), v63 = .int .i64 x63_5 ∧ Aside0 (spec_skPieces.l3 kq x4_5 x6_2 x9_5 x10_4 l0_2 (l0_2.length : Int) x29_2 t114 (t114.length : Int) x63_5 a0_0 a0_1 l0_2 = some (r1, r2)) ∧ Aside0 (kq ≤ k4) ∧ Aside0 (Kd.R (Kd.int .i64) 3 w' w.heap.size (fun k_ => some k_ ≠ (v9 : Value).ownBlock ∧ some k_ ≠ ((.slice Ao37 t114.length co37) : Value).ownBlock) (.slice (some ⟨go26, 0, none⟩) x4_4.length co8) x4_5) ∧ Aside0 (Kd.R (Kd.int .i64) 3 w' w.heap.size (fun k_ => some k_ ≠ ((.slice (some ⟨go26, 0, none⟩) x4_4.length co8) : Value).ownBlock ∧ some k_ ≠ ((.slice Ao37 t114.length co37) : Value).ownBlock) v9 x9_5) ∧ Aside0 (Kd.R (Kd.int .i64) 3 w' w.heap.size (fun k_ => some k_ ≠ ((.slice (some ⟨go26, 0, none⟩) x4_4.length co8) : Value).ownBlock ∧ some k_ ≠ (v9 : Value).ownBlock) (.slice Ao37 t114.length co37) t114) ∧ Aside0 (w'.heap[gb101]? = some (.cells #[.int .i64 a0_0, .int .i64 a0_1, (.slice (some ad106) l0_2.length c0_2)] 40 (0, 0))) ∧ Aside0 (Below w.heap.size w w'))
                    case atStart => exact ⟨(x4_4), (x9_4), (0), (by first | rfl | (simp; done) | (simp [*]; done)), H', ⟨Nat.le_refl _⟩, ⟨by (try simp only [hl4_1]); (try simp only [hl4_2]); (try simp only [hl4_4]); (with_reducible repeat (first | apply Kd.R_alloc | apply Kd.R_drewN | apply Kd.R_drew)); (first | exact HO_4.out | exact R_any HO_4.out)⟩, ⟨by (try simp only [hl4_1]); (try simp only [hl4_2]); (try simp only [hl4_4]); (with_reducible repeat (first | apply Kd.R_alloc | apply Kd.R_drewN | apply Kd.R_drew)); (first | exact HO_9.out | exact R_any HO_9.out)⟩, ⟨by (try simp only [hl4_1]); (try simp only [hl4_2]); (try simp only [hl4_4]); (with_reducible repeat (first | apply Kd.R_alloc | apply Kd.R_drewN | apply Kd.R_drew)); exact Kd.R_mono HO116.out (fun _ hk => ⟨hk.1.2, hk.2⟩)⟩, ⟨by (try simp only [hl4_1]); (try simp only [hl4_2]); (try simp only [hl4_4]); exact blc⟩, ⟨bel HB⟩⟩
                    case round =>
                     clear H'
                     try clear c1
                     try clear p1
                     try clear q1
                     try clear hx1
                     try clear hf1
                     try clear c2
                     try clear c2b0
                     try clear c2b0y
                     try clear c2b1
                     try clear p2
                     try clear q2
                     try clear hx2
                     try clear hf2
                     try clear c3
                     try clear c3b0
                     try clear c3b0y
                     try clear c3b1
                     try clear c4
                     try clear p6
                     try clear c7
                     try clear c8
                     try clear c9
                     try clear c9b0
                     try clear c9b0y
                     try clear c10
                     try clear c10b0
                     try clear c10b0y
                     try clear p10
                     try clear q10
                     try clear hx10
                     try clear c11
                     try clear c11b0
                     try clear c11b0y
                     try clear p11
                     try clear q11
                     try clear hx11
                     try clear p12
                     try clear q12
                     try clear hx12
                     try clear hf12
                     try clear c16
                     try clear c16b0
                     try clear c16b0y
                     try clear c17
                     try clear c17b0
                     try clear c17b0y
                     try clear c18
                     try clear c18b0
                     try clear c18b0y
                     try clear c21
                     try clear c22
                     try clear c22b0
                     try clear c22b0y
                     try clear c23
                     try clear c24
                     try clear c24b0
                     try clear c24b0y
                     try clear c25
                     try clear c25b0
                     try clear c25b0y
                     try clear p26
                     try clear q26
                     try clear hx26
                     try clear hf26
                     try clear c31
                     try clear c31b0
                     try clear c31b0y
                     try clear c32
                     try clear c32b0
                     try clear c32b0y
                     try clear hcz15_0
                     try clear hcz15_1
                     try clear hcz15_2
                     try clear hcz5_0
                     try clear hcz5_1
                     try clear hcz5_2
                     try clear hfz15_0
                     try clear hfz15_1
                     try clear hfz15_2
                     try clear hfz5_0
                     try clear hfz5_1
                     try clear hfz5_2
                     try clear hx106_0
                     try clear hx108_0
                     try clear hx113_0
                     try clear hx12_0
                     try clear hx26_0
                     try clear p1
                     try clear p10
                     try clear p106
                     try clear p108
                     try clear p113
                     try clear p12
                     try clear p2
                     try clear p26
                     try clear p6
                     try clear q1
                     try clear q10
                     try clear q106
                     try clear q108
                     try clear q113
                     try clear q12
                     try clear q2
                     try clear q26
                     obtain ⟨x4_5, x9_5, x63_5, rfl, HA, HK5, HO_4, HO_9, HO_61, BK101, HB⟩ := hrel
                     have hl4_5 := (Kd.R_reads' HO_4.out).1
                     rw [hl4_5] at HO_4
                     (try simp only [hl4_5])
                     (try simp only [hl4_5] at BK101)
                     (try simp only [hl4_5] at HO_9)
                     (try simp only [hl4_5] at HO_61)
                     cases gk with
                     | zero => exact absurd HA.out (by simp [spec_skPieces.l3])
                     | succ k5 =>
                      have H := HA.out
                      clear HA
                      simp only [spec_skPieces.l3] at H
                      by_cases c38 : x63_5 < (t114.length : Int)
                      ·rw [if_pos c38] at H
                       have c38b0 : decide (x63_5 < (t114.length : Int)) = true := decide_eq_true c38
                       clear c38
                       by_cases c39 : 0 ≤ x63_5
                       ·rw [if_pos c39] at H
                        have c39b0 : decide (0 ≤ x63_5) = true := decide_eq_true c39
                        clear c39
                        by_cases c40 : x63_5 < (t114.length : Int)
                        ·rw [if_pos c40] at H
                         have c40b0 : decide (x63_5 < (t114.length : Int)) = true := decide_eq_true c40
                         clear c40
                         by_cases c41 : 0 ≤ (rd t114 x63_5)
                         ·rw [if_pos c41] at H
                          have c41b0 : decide (0 ≤ (rd t114 x63_5)) = true := decide_eq_true c41
                          clear c41
                          by_cases c42 : (rd t114 x63_5) < (l0_2.length : Int)
                          ·rw [if_pos c42] at H
                           have c42b0 : decide ((rd t114 x63_5) < (l0_2.length : Int)) = true := decide_eq_true c42
                           clear c42
                           replace H := Option.bind_eq_some_iff.mp H
                           obtain ⟨t119, A430, H⟩ := H
                           replace H : (if t119 = true then (if (rd t114 x63_5) < (x4_5.length : Int) then (if (rd x4_5 (rd t114 x63_5)) < 0 then (if x9_5.length < 17592186044416 then (spec_skPieces.l3 k5 (x4_5.set ((rd t114 x63_5) : Int).toNat x6_2) x6_2 (x9_5 ++ [rd t114 x63_5]) x10_4 l0_2 (l0_2.length : Int) x29_2 t114 (t114.length : Int) (wrap64 (x63_5 + 1)) a0_0 a0_1 l0_2) else (none)) else (spec_skPieces.l3 k5 x4_5 x6_2 x9_5 x10_4 l0_2 (l0_2.length : Int) x29_2 t114 (t114.length : Int) (wrap64 (x63_5 + 1)) a0_0 a0_1 l0_2)) else (none)) else (spec_skPieces.l3 k5 x4_5 x6_2 x9_5 x10_4 l0_2 (l0_2.length : Int) x29_2 t114 (t114.length : Int) (wrap64 (x63_5 + 1)) a0_0 a0_1 l0_2)) = some (r1, r2) := H
                           have A43 := Aside0.mk A430
                           clear A430
                           by_cases c44 : t119 = true
                           ·subst c44
                            have H1 : (if (rd t114 x63_5) < (x4_5.length : Int) then (if (rd x4_5 (rd t114 x63_5)) < 0 then (if x9_5.length < 17592186044416 then (spec_skPieces.l3 k5 (x4_5.set ((rd t114 x63_5) : Int).toNat x6_2) x6_2 (x9_5 ++ [rd t114 x63_5]) x10_4 l0_2 (l0_2.length : Int) x29_2 t114 (t114.length : Int) (wrap64 (x63_5 + 1)) a0_0 a0_1 l0_2) else (none)) else (spec_skPieces.l3 k5 x4_5 x6_2 x9_5 x10_4 l0_2 (l0_2.length : Int) x29_2 t114 (t114.length : Int) (wrap64 (x63_5 + 1)) a0_0 a0_1 l0_2)) else (none)) = some (r1, r2) := by rw [if_pos rfl] at H; exact H
                            clear H
                            have H := H1
                            clear H1
                            by_cases c45 : (rd t114 x63_5) < (x4_5.length : Int)
                            ·rw [if_pos c45] at H
                             have c45b0 : decide ((rd t114 x63_5) < (x4_5.length : Int)) = true := decide_eq_true c45
                             clear c45
                             by_cases c46 : (rd x4_5 (rd t114 x63_5)) < 0
                             ·rw [if_pos c46] at H
                              have c46b0 : decide ((rd x4_5 (rd t114 x63_5)) < 0) = true := decide_eq_true c46
                              clear c46
                              obtain ⟨y121, hy121⟩ : ∃ y_ : List Int, y_ = (x4_5.set ((rd t114 x63_5) : Int).toNat x6_2) := ⟨_, rfl⟩
                              replace H : (if x9_5.length < 17592186044416 then (spec_skPieces.l3 k5 y121 x6_2 (x9_5 ++ [rd t114 x63_5]) x10_4 l0_2 (l0_2.length : Int) x29_2 t114 (t114.length : Int) (wrap64 (x63_5 + 1)) a0_0 a0_1 l0_2) else (none)) = some (r1, r2) := rH hy121 H
                              have Ny121 := Aside0.mk hy121
                              clear hy121
                              by_cases c48 : x9_5.length < 17592186044416
                              ·rw [if_pos c48] at H
                               have LMc48 := Aside0.mk c48
                               clear c48
                               obtain ⟨y122, hy122⟩ : ∃ y_ : List Int, y_ = (x9_5 ++ [rd t114 x63_5]) := ⟨_, rfl⟩
                               replace H : (spec_skPieces.l3 k5 y121 x6_2 y122 x10_4 l0_2 (l0_2.length : Int) x29_2 t114 (t114.length : Int) (wrap64 (x63_5 + 1)) a0_0 a0_1 l0_2) = some (r1, r2) := rH hy122 H
                               have Ny122 := Aside0.mk hy122
                               clear hy122
                               have H' := Aside0.mk H
                               clear H
                               have p117 : 0 ≤ (x63_5 : Int) := of_decide_eq_true (by first | (with_reducible assumption) | assumption)
                               have q117 : x63_5 < (t114.length : Int) := of_decide_eq_true (by first | (with_reducible assumption) | assumption)
                               obtain ⟨ad117, e117, hx117_0⟩ := Kd.at_int (Kd.R_reads' HO_61.out).2.2 x63_5 p117 q117
                               cases e117
                               replace p117 := eq_true p117
                               replace q117 := eq_true q117
                               have hcz49_0 : wr.cell? ⟨gb101, 0, none⟩ = some (.int .i64 a0_0) := (blk_cell BK101.out 0).trans rfl
                               have hcz49_1 : wr.cell? ⟨gb101, 1, none⟩ = some (.int .i64 a0_1) := (blk_cell BK101.out 1).trans rfl
                               have hcz49_2 : wr.cell? ⟨gb101, 2, none⟩ = some (.slice (some ad106) l0_2.length c0_2) := (blk_cell BK101.out 2).trans rfl
                               have hfz49_0 := blk_frozen BK101.out 0
                               have hfz49_1 := blk_frozen BK101.out 1
                               have hfz49_2 := blk_frozen BK101.out 2
                               have p118 : 0 ≤ ((rd t114 x63_5) : Int) := of_decide_eq_true (by first | (with_reducible assumption) | assumption)
                               have q118 : (rd t114 x63_5) < (l0_2.length : Int) := of_decide_eq_true (by first | (with_reducible assumption) | assumption)
                               obtain ⟨ad118, e118, hx118_0⟩ := Kd.at_int HR0_2.out (rd t114 x63_5) p118 q118
                               obtain rfl : ad106 = ad118 := (by injection e118)
                               (try replace hx118_0 := (HB.out.cell (World.block_lt_of_cell? w _ hx118_0)).trans hx118_0)
                               replace p118 := eq_true p118
                               replace q118 := eq_true q118
                               go_wp2_with (first | ((with_reducible refine gate_callee (f := 70) rfl ?_); refine gcall (some 72) Tryd.func70 #[.int .u8 (rd l0_2 (rd t114 x63_5))] rfl ?_; (with_reducible refine (spec_tyBall.calls (rd l0_2 (rd t114 x63_5)) true _ A43.out).mono ?_); rintro e w' ⟨rfl, ⟨nd, rfl⟩⟩; refine ⟨_, rfl, ?_⟩; (try (rw [drewN_self wr]; generalize hq_ : World.drewN wr _ = wr; have n0_ : Aside0 (Kd.R (Kd.int .i64) 3 wr w.heap.size (fun k_ => some k_ ≠ (.slice (some ad117) t114.length co37 : Value).ownBlock ∧ some k_ ≠ (u9 : Value).ownBlock) (.slice (some ⟨go26, 0, none⟩) x4_5.length co8) x4_5) := ⟨by rw [← hq_]; exact (by (with_reducible repeat (first | apply Kd.R_alloc | apply Kd.R_drewN | apply Kd.R_drew)); (first | exact Kd.R_mono HO_4.out (fun _ hk => ⟨hk.2, hk.1⟩) | exact HO_4.out | exact R_any HO_4.out))⟩; have n1_ : Aside0 (Kd.R (Kd.int .i64) 3 wr w.heap.size (fun k_ => some k_ ≠ (.slice (some ⟨go26, 0, none⟩) x4_5.length co8 : Value).ownBlock ∧ some k_ ≠ (u9 : Value).ownBlock) (.slice (some ad117) t114.length co37) t114) := ⟨by rw [← hq_]; exact (rch HO_61)⟩; have n2_ : Aside0 (Kd.R (Kd.int .i64) 3 wr w.heap.size (fun k_ => some k_ ≠ (.slice (some ⟨go26, 0, none⟩) x4_5.length co8 : Value).ownBlock ∧ some k_ ≠ (.slice (some ad117) t114.length co37 : Value).ownBlock) u9 x9_5) := ⟨by rw [← hq_]; exact (rch HO_9)⟩; have n3_ : Aside0 (wr.heap[gb101]? = some (.cells #[.int .i64 a0_0, .int .i64 a0_1, .slice (some ad106) l0_2.length c0_2] 40 (0, 0))) := ⟨by rw [← hq_]; exact blc⟩; have n4_ : Aside0 (Below w.heap.size w wr) := ⟨by rw [← hq_]; exact (bel HB)⟩; clear HO_4 HO_61 HO_9 BK101 HB hq_; have HO_4 := n0_; have HO_61 := n1_; have HO_9 := n2_; have BK101 := n3_; have HB := n4_; clear n0_ n1_ n2_ n3_ n4_)); have p120 : 0 ≤ ((rd t114 x63_5) : Int) := of_decide_eq_true (by first | (with_reducible assumption) | assumption); have q120 : (rd t114 x63_5) < (x4_5.length : Int) := of_decide_eq_true (by first | (with_reducible assumption) | assumption); obtain ⟨ad120, e120, hx120_0⟩ := Kd.at_int (Kd.R_reads' HO_4.out).2.2 (rd t114 x63_5) p120 q120; obtain rfl : (⟨go26, 0, none⟩ : Addr) = ad120 := (by injection e120); (first | simp only [add_plain] at hx120_0 | simp only [add_at] at hx120_0 | simp only [Addr.add, Nat.zero_add] at hx120_0 | skip); replace p120 := eq_true p120; replace q120 := eq_true q120; have p47 : 0 ≤ ((rd t114 x63_5) : Int) := of_decide_eq_true (by first | (with_reducible assumption) | assumption); have q47 : ((rd t114 x63_5) : Int) < ((x4_5.length : Int) : Int) := of_decide_eq_true (by first | (with_reducible assumption) | assumption); obtain ⟨hx47_0, hf47_0⟩ := Kd.R_celln 0 HO_4.out ((rd t114 x63_5) : Int) p47 q47; replace p47 := eq_true p47; replace q47 := eq_true q47; obtain ⟨hy50_, hz50_⟩ := Kd.R_celln 0 HO_4.out ((rd t114 x63_5) : Int) (of_decide_eq_true (by first | (with_reducible assumption) | assumption)) (of_decide_eq_true (by first | (with_reducible assumption) | assumption)); have HP50 := Kd.R_putg HO_4.out ((rd t114 x63_5) : Int) x6_2) | ((with_reducible refine gate_store (t := 3) (p := 83) rfl ?_); refine store_event (t := 3) (p := 83) (v := ?vo_w51) (w1 := (wr.setCell ⟨go26, ((rd t114 x63_5) : Int).toNat, none⟩ (.int .i64 x6_2))) ?hg ?ho ?hn ?hr ?_; (case ho => rfl); (case hg => rfl); (case hn => rfl); (case hr => first | (go_simp; done) | (go_simp; rfl)); intro w51 hw; have hg : wr.grownBy w51 (some go26) := (by rw [hw]; exact HP50.2); have hp_ : Kd.R (Kd.int .i64) 3 w51 w.heap.size (fun k_ => some k_ ≠ (u9 : Value).ownBlock ∧ some k_ ≠ (.slice (some ad117) t114.length co37 : Value).ownBlock) (.slice (some ⟨go26, 0, none⟩) x4_5.length co8) y121 := (by rw [hw, Ny121.out]; (first | exact HP50.1 | exact R_any HP50.1)); clear HP50; have n0_ := Aside0.mk (hp_); have n1_ := Aside0.mk (Kd.R_after (v := (.slice (some ⟨go26, 0, none⟩) x4_5.length co8)) (v1 := (.slice (some ⟨go26, 0, none⟩) x4_5.length co8)) (ok := (fun k_ => some k_ ≠ (.slice (some ad117) t114.length co37 : Value).ownBlock)) (by (with_reducible repeat (first | apply Kd.R_alloc | apply Kd.R_drewN | apply Kd.R_drew)); (first | exact Kd.R_mono HO_9.out (fun _ hk => ⟨hk.2, hk.1⟩) | exact HO_9.out | exact R_any HO_9.out)) hg (.inl rfl)); have n2_ := Aside0.mk (Kd.R_after (v := (.slice (some ⟨go26, 0, none⟩) x4_5.length co8)) (v1 := (.slice (some ⟨go26, 0, none⟩) x4_5.length co8)) (ok := (fun k_ => some k_ ≠ (u9 : Value).ownBlock)) (by (with_reducible repeat (first | apply Kd.R_alloc | apply Kd.R_drewN | apply Kd.R_drew)); (first | exact Kd.R_mono HO_61.out (fun _ hk => ⟨hk.2, hk.1⟩) | exact HO_61.out | exact R_any HO_61.out)) hg (.inl rfl)); have n3_ := Aside0.mk (blk_grown (g := gb101) (o := .cells #[.int .i64 a0_0, .int .i64 a0_1, .slice (some ad106) l0_2.length c0_2] 40 (0, 0)) blc hg (Kd.R_ne HO_4.out BK101.out (by decide))); have n4_ := Aside0.mk ((by rw [hw]; exact below_set (HB.out) GB26.out : Below w.heap.size w w51)); clear HO_4; clear HO_9; clear HO_61; clear BK101; clear HB; have HO_4 := n0_; have HO_9 := n1_; have HO_61 := n2_; have BK101 := n3_; have HB := n4_; clear n0_ n1_ n2_ n3_ n4_; clear hg hw hp_) | ((with_reducible refine gate_builtin (b := .append) (xs := #[.tmp 84, .tmp 86]) rfl ?_); at_builtin; refine Kd.R_append (Kd.int .i64) (w0 := w) w.heap.size rfl (.tmp 84) (.tmp 86) 31 3 (.int .i64 0) 8 rfl Tryd.underlying31 info3 rfl (by decide) (by omega) u9 x9_5 (rd t114 x63_5) [.int .i64 (rd t114 x63_5)] (fun k_ => some k_ ≠ (.slice (some ⟨go26, 0, none⟩) x4_5.length co8 : Value).ownBlock ∧ some k_ ≠ (.slice (some ad117) t114.length co37 : Value).ownBlock) (fun _ => False) rfl rfl ?aP (fun _ hk => hk.elim) ?aF ?aO ?aB ?aS ?aL ?_; (case aP => exact rfl); (case aB => exact (bel HB)); (case aF => exact (fun k_ hk => ⟨Kd.fresh' (Kd.R_lt (rch HO_4)) k_ hk, Kd.fresh' (Kd.R_lt (rch HO_61)) k_ hk⟩)); (case aO => exact (by (with_reducible repeat (first | apply Kd.R_alloc | apply Kd.R_drewN | apply Kd.R_drew)); (first | exact Kd.R_mono HO_9.out (fun _ hk => ⟨hk.2, hk.1⟩) | exact HO_9.out | exact R_any HO_9.out))); (case aS => exact (below_size (bel HB))); (case aL => have := LMc48.out; omega); intro v123 w52 ho hb hg hat; rw [← Ny122.out] at ho; have n0_ := Aside0.mk (Kd.R_after (ok := (fun k_ => some k_ ≠ (.slice (some ad117) t114.length co37 : Value).ownBlock)) (by (with_reducible repeat (first | apply Kd.R_alloc | apply Kd.R_drewN | apply Kd.R_drew)); (first | exact Kd.R_mono HO_4.out (fun _ hk => ⟨hk.2, hk.1⟩) | exact HO_4.out | exact R_any HO_4.out)) hg hat); have n1_ := Aside0.mk (Kd.R_after (ok := (fun k_ => some k_ ≠ (.slice (some ⟨go26, 0, none⟩) x4_5.length co8 : Value).ownBlock)) (by (with_reducible repeat (first | apply Kd.R_alloc | apply Kd.R_drewN | apply Kd.R_drew)); (first | exact Kd.R_mono HO_61.out (fun _ hk => ⟨hk.2, hk.1⟩) | exact HO_61.out | exact R_any HO_61.out)) hg hat); have n2_ := Aside0.mk (blk_grown (g := gb101) (o := .cells #[.int .i64 a0_0, .int .i64 a0_1, .slice (some ad106) l0_2.length c0_2] 40 (0, 0)) blc hg (Kd.R_ne HO_9.out BK101.out (by decide))); have n3_ := Aside0.mk (hb); have n4_ := Aside0.mk (ho); clear HO_4; clear HO_61; clear BK101; clear HB; clear HO_9; have HO_4 := n0_; have HO_61 := n1_; have BK101 := n2_; have HB := n3_; have HO124 := n4_; clear n0_ n1_ n2_ n3_ n4_; clear ho hb hg hat))
                               (try simp only [← hl4_5])
                               go_roundg k5
                               case measure => have := HK1.out; have := HK2.out; have := HJ18.out; have := HK4.out; have := HK5.out; omega
                               case rel => exact ⟨(y121), (y122), (wrap64 (x63_5 + 1)), (by first | rfl | (simp; done) | (simp [*]; done)), H', ⟨by have := HK1.out; have := HK2.out; have := HJ18.out; have := HK4.out; have := HK5.out; omega⟩, ⟨by (try simp only [hl4_1]); (try simp only [hl4_2]); (try simp only [hl4_4]); (try simp only [hl4_5]); (with_reducible repeat (first | apply Kd.R_alloc | apply Kd.R_drewN | apply Kd.R_drew)); (first | exact Kd.R_mono HO_4.out (fun _ hk => ⟨hk.2, hk.1⟩) | exact HO_4.out | exact R_any HO_4.out)⟩, ⟨by (try simp only [hl4_1]); (try simp only [hl4_2]); (try simp only [hl4_4]); (try simp only [hl4_5]); (with_reducible repeat (first | apply Kd.R_alloc | apply Kd.R_drewN | apply Kd.R_drew)); (first | exact HO124.out | exact R_any HO124.out)⟩, ⟨by (try simp only [hl4_1]); (try simp only [hl4_2]); (try simp only [hl4_4]); (try simp only [hl4_5]); (with_reducible repeat (first | apply Kd.R_alloc | apply Kd.R_drewN | apply Kd.R_drew)); (first | exact HO_61.out | exact R_any HO_61.out)⟩, ⟨by (try simp only [hl4_1]); (try simp only [hl4_2]); (try simp only [hl4_4]); (try simp only [hl4_5]); exact blc⟩, ⟨bel HB⟩⟩
                              ·rw [if_neg c48] at H
                               exact absurd H (by simp)
                             ·rw [if_neg c46] at H
                              have c46b0 : decide ((rd x4_5 (rd t114 x63_5)) < 0) = false := decide_eq_false c46
                              clear c46
                              have H' := Aside0.mk H
                              clear H
                              have p117 : 0 ≤ (x63_5 : Int) := of_decide_eq_true (by first | (with_reducible assumption) | assumption)
                              have q117 : x63_5 < (t114.length : Int) := of_decide_eq_true (by first | (with_reducible assumption) | assumption)
                              obtain ⟨ad117, e117, hx117_0⟩ := Kd.at_int (Kd.R_reads' HO_61.out).2.2 x63_5 p117 q117
                              cases e117
                              replace p117 := eq_true p117
                              replace q117 := eq_true q117
                              have hcz53_0 : wr.cell? ⟨gb101, 0, none⟩ = some (.int .i64 a0_0) := (blk_cell BK101.out 0).trans rfl
                              have hcz53_1 : wr.cell? ⟨gb101, 1, none⟩ = some (.int .i64 a0_1) := (blk_cell BK101.out 1).trans rfl
                              have hcz53_2 : wr.cell? ⟨gb101, 2, none⟩ = some (.slice (some ad106) l0_2.length c0_2) := (blk_cell BK101.out 2).trans rfl
                              have hfz53_0 := blk_frozen BK101.out 0
                              have hfz53_1 := blk_frozen BK101.out 1
                              have hfz53_2 := blk_frozen BK101.out 2
                              have p118 : 0 ≤ ((rd t114 x63_5) : Int) := of_decide_eq_true (by first | (with_reducible assumption) | assumption)
                              have q118 : (rd t114 x63_5) < (l0_2.length : Int) := of_decide_eq_true (by first | (with_reducible assumption) | assumption)
                              obtain ⟨ad118, e118, hx118_0⟩ := Kd.at_int HR0_2.out (rd t114 x63_5) p118 q118
                              obtain rfl : ad106 = ad118 := (by injection e118)
                              (try replace hx118_0 := (HB.out.cell (World.block_lt_of_cell? w _ hx118_0)).trans hx118_0)
                              replace p118 := eq_true p118
                              replace q118 := eq_true q118
                              go_wp2_with (first | ((with_reducible refine gate_callee (f := 70) rfl ?_); refine gcall (some 72) Tryd.func70 #[.int .u8 (rd l0_2 (rd t114 x63_5))] rfl ?_; (with_reducible refine (spec_tyBall.calls (rd l0_2 (rd t114 x63_5)) true _ A43.out).mono ?_); rintro e w' ⟨rfl, ⟨nd, rfl⟩⟩; refine ⟨_, rfl, ?_⟩; have p120 : 0 ≤ ((rd t114 x63_5) : Int) := of_decide_eq_true (by first | (with_reducible assumption) | assumption); have q120 : (rd t114 x63_5) < (x4_5.length : Int) := of_decide_eq_true (by first | (with_reducible assumption) | assumption); obtain ⟨ad120, e120, hx120_0⟩ := Kd.at_int (Kd.R_reads' HO_4.out).2.2 (rd t114 x63_5) p120 q120; obtain rfl : (⟨go26, 0, none⟩ : Addr) = ad120 := (by injection e120); (first | simp only [add_plain] at hx120_0 | simp only [add_at] at hx120_0 | simp only [Addr.add, Nat.zero_add] at hx120_0 | skip); replace p120 := eq_true p120; replace q120 := eq_true q120))
                              (try simp only [← hl4_5])
                              go_roundg k5
                              case measure => have := HK1.out; have := HK2.out; have := HJ18.out; have := HK4.out; have := HK5.out; omega
                              case rel => exact ⟨(x4_5), (x9_5), (wrap64 (x63_5 + 1)), (by first | rfl | (simp; done) | (simp [*]; done)), H', ⟨by have := HK1.out; have := HK2.out; have := HJ18.out; have := HK4.out; have := HK5.out; omega⟩, ⟨by (try simp only [hl4_1]); (try simp only [hl4_2]); (try simp only [hl4_4]); (try simp only [hl4_5]); (with_reducible repeat (first | apply Kd.R_alloc | apply Kd.R_drewN | apply Kd.R_drew)); (first | exact HO_4.out | exact R_any HO_4.out)⟩, ⟨by (try simp only [hl4_1]); (try simp only [hl4_2]); (try simp only [hl4_4]); (try simp only [hl4_5]); (with_reducible repeat (first | apply Kd.R_alloc | apply Kd.R_drewN | apply Kd.R_drew)); (first | exact HO_9.out | exact R_any HO_9.out)⟩, ⟨by (try simp only [hl4_1]); (try simp only [hl4_2]); (try simp only [hl4_4]); (try simp only [hl4_5]); (with_reducible repeat (first | apply Kd.R_alloc | apply Kd.R_drewN | apply Kd.R_drew)); (first | exact HO_61.out | exact R_any HO_61.out)⟩, ⟨by (try simp only [hl4_1]); (try simp only [hl4_2]); (try simp only [hl4_4]); (try simp only [hl4_5]); exact blc⟩, ⟨bel HB⟩⟩
                            ·rw [if_neg c45] at H
                             exact absurd H (by simp)
                           ·replace c44 := Bool.eq_false_iff.mpr c44
                            subst c44
                            have H1 : (spec_skPieces.l3 k5 x4_5 x6_2 x9_5 x10_4 l0_2 (l0_2.length : Int) x29_2 t114 (t114.length : Int) (wrap64 (x63_5 + 1)) a0_0 a0_1 l0_2) = some (r1, r2) := by rw [if_neg (show ¬ (false = true) by decide)] at H; exact H
                            clear H
                            have H := H1
                            clear H1
                            have H' := Aside0.mk H
                            clear H
                            have p117 : 0 ≤ (x63_5 : Int) := of_decide_eq_true (by first | (with_reducible assumption) | assumption)
                            have q117 : x63_5 < (t114.length : Int) := of_decide_eq_true (by first | (with_reducible assumption) | assumption)
                            obtain ⟨ad117, e117, hx117_0⟩ := Kd.at_int (Kd.R_reads' HO_61.out).2.2 x63_5 p117 q117
                            cases e117
                            replace p117 := eq_true p117
                            replace q117 := eq_true q117
                            have hcz54_0 : wr.cell? ⟨gb101, 0, none⟩ = some (.int .i64 a0_0) := (blk_cell BK101.out 0).trans rfl
                            have hcz54_1 : wr.cell? ⟨gb101, 1, none⟩ = some (.int .i64 a0_1) := (blk_cell BK101.out 1).trans rfl
                            have hcz54_2 : wr.cell? ⟨gb101, 2, none⟩ = some (.slice (some ad106) l0_2.length c0_2) := (blk_cell BK101.out 2).trans rfl
                            have hfz54_0 := blk_frozen BK101.out 0
                            have hfz54_1 := blk_frozen BK101.out 1
                            have hfz54_2 := blk_frozen BK101.out 2
                            have p118 : 0 ≤ ((rd t114 x63_5) : Int) := of_decide_eq_true (by first | (with_reducible assumption) | assumption)
                            have q118 : (rd t114 x63_5) < (l0_2.length : Int) := of_decide_eq_true (by first | (with_reducible assumption) | assumption)
                            obtain ⟨ad118, e118, hx118_0⟩ := Kd.at_int HR0_2.out (rd t114 x63_5) p118 q118
                            obtain rfl : ad106 = ad118 := (by injection e118)
                            (try replace hx118_0 := (HB.out.cell (World.block_lt_of_cell? w _ hx118_0)).trans hx118_0)
                            replace p118 := eq_true p118
                            replace q118 := eq_true q118
                            go_wp2_with (first | ((with_reducible refine gate_callee (f := 70) rfl ?_); refine gcall (some 72) Tryd.func70 #[.int .u8 (rd l0_2 (rd t114 x63_5))] rfl ?_; (with_reducible refine (spec_tyBall.calls (rd l0_2 (rd t114 x63_5)) false _ A43.out).mono ?_); rintro e w' ⟨rfl, ⟨nd, rfl⟩⟩; refine ⟨_, rfl, ?_⟩))
                            (try simp only [← hl4_5])
                            go_roundg k5
                            case measure => have := HK1.out; have := HK2.out; have := HJ18.out; have := HK4.out; have := HK5.out; omega
                            case rel => exact ⟨(x4_5), (x9_5), (wrap64 (x63_5 + 1)), (by first | rfl | (simp; done) | (simp [*]; done)), H', ⟨by have := HK1.out; have := HK2.out; have := HJ18.out; have := HK4.out; have := HK5.out; omega⟩, ⟨by (try simp only [hl4_1]); (try simp only [hl4_2]); (try simp only [hl4_4]); (try simp only [hl4_5]); (with_reducible repeat (first | apply Kd.R_alloc | apply Kd.R_drewN | apply Kd.R_drew)); (first | exact HO_4.out | exact R_any HO_4.out)⟩, ⟨by (try simp only [hl4_1]); (try simp only [hl4_2]); (try simp only [hl4_4]); (try simp only [hl4_5]); (with_reducible repeat (first | apply Kd.R_alloc | apply Kd.R_drewN | apply Kd.R_drew)); (first | exact HO_9.out | exact R_any HO_9.out)⟩, ⟨by (try simp only [hl4_1]); (try simp only [hl4_2]); (try simp only [hl4_4]); (try simp only [hl4_5]); (with_reducible repeat (first | apply Kd.R_alloc | apply Kd.R_drewN | apply Kd.R_drew)); (first | exact HO_61.out | exact R_any HO_61.out)⟩, ⟨by (try simp only [hl4_1]); (try simp only [hl4_2]); (try simp only [hl4_4]); (try simp only [hl4_5]); exact blc⟩, ⟨bel HB⟩⟩
                          ·rw [if_neg c42] at H
                           exact absurd H (by simp)
                         ·rw [if_neg c41] at H
                          exact absurd H (by simp)
                        ·rw [if_neg c40] at H
                         exact absurd H (by simp)
                       ·rw [if_neg c39] at H
                        exact absurd H (by simp)
                      ·rw [if_neg c38] at H
                       have c38b0 : decide (x63_5 < (t114.length : Int)) = false := decide_eq_false c38
                       (try (have c38b0y := c38b0; first | rw [hl4_1] at c38b0y | rw [hl4_2] at c38b0y | rw [hl4_4] at c38b0y | rw [hl4_5] at c38b0y))
                       clear c38
                       have H' := Aside0.mk H
                       clear H
                       go_wp2
                       (try simp only [← hl4_4, ← hl4_5])
                       go_roundg k5
                       case measure => have := HK1.out; have := HK2.out; have := HJ18.out; have := HK4.out; have := HK5.out; omega
                       case rel => exact ⟨(x4_5), (x9_5), (wrap64 (x10_4 + 1)), (by first | rfl | (simp; done) | (simp [*]; done)), H', ⟨by have := HK1.out; have := HK2.out; have := HJ18.out; have := HK4.out; have := HK5.out; omega⟩, ⟨by (try simp only [hl4_1]); (try simp only [hl4_2]); (try simp only [hl4_4]); (try simp only [hl4_5]); (with_reducible repeat (first | apply Kd.R_alloc | apply Kd.R_drewN | apply Kd.R_drew)); exact Kd.R_mono HO_4.out (fun _ hk => hk.1)⟩, ⟨by (try simp only [hl4_1]); (try simp only [hl4_2]); (try simp only [hl4_4]); (try simp only [hl4_5]); (with_reducible repeat (first | apply Kd.R_alloc | apply Kd.R_drewN | apply Kd.R_drew)); exact Kd.R_mono HO_9.out (fun _ hk => hk.1)⟩, ⟨by (try simp only [hl4_1]); (try simp only [hl4_2]); (try simp only [hl4_4]); (try simp only [hl4_5]); exact blc⟩, ⟨bel HB⟩⟩
                   ·rw [if_neg c32] at H
                    exact absurd H (by simp)
                  ·rw [if_neg c31] at H
                   have c31b0 : decide (x10_4 < (x9_4.length : Int)) = false := decide_eq_false c31
                   (try (have c31b0y := c31b0; first | rw [hl4_1] at c31b0y | rw [hl4_2] at c31b0y | rw [hl4_4] at c31b0y))
                   clear c31
                   have H' := Aside0.mk H
                   clear H
                   obtain ⟨Ao55, co55, eo55⟩ := Kd.R_slice HO_9.out
                   subst eo55
                   go_wp2
                   (try simp only [← hl4_2, ← hl4_4])
                   go_roundg k4
                   case measure => have := HK1.out; have := HK2.out; have := HJ18.out; have := HK4.out; omega
                   case rel => exact ⟨(x4_4), (wrap64 (x6_2 + 1)), (wrap64 (x29_2 + 1)), (by first | rfl | (simp; done) | (simp [*]; done)), (by first | rfl | (simp; done) | (simp [*]; done)), H', ⟨by have := HK1.out; have := HK2.out; have := HJ18.out; have := HK4.out; omega⟩, ⟨by (try simp only [hl4_1]); (try simp only [hl4_2]); (try simp only [hl4_4]); (with_reducible repeat (first | apply Kd.R_alloc | apply Kd.R_drewN | apply Kd.R_drew)); exact Kd.R_mono HO_4.out (fun _ hk => trivial)⟩, ⟨by (try simp only [hl4_1]); (try simp only [hl4_2]); (try simp only [hl4_4]); exact blc⟩, ⟨bel HB⟩⟩
               ·rw [if_neg c25] at H
                exact absurd H (by simp)
              ·rw [if_neg c24] at H
               exact absurd H (by simp)
          ·rw [if_neg c18] at H
           exact absurd H (by simp)
         ·rw [if_neg c17] at H
          exact absurd H (by simp)
        ·rw [if_neg c16] at H
         have c16b0 : decide (x29_2 < (l0_2.length : Int)) = false := decide_eq_false c16
         (try (have c16b0y := c16b0; first | rw [hl4_1] at c16b0y | rw [hl4_2] at c16b0y))
         clear c16
         simp only [Option.some.injEq, Prod.mk.injEq] at H
         obtain ⟨rfl, rfl⟩ := H
         go_wp2
         go_ret2
         exact ⟨_, by first | rfl | (simp [errW_none, errW_some] <;> rfl) | (simp [*, errW_none, errW_some] <;> rfl), rch HO_4, bel HB⟩
  ·rw [if_neg c3] at H
   exact absurd H (by simp)
 ·rw [if_neg c2] at H
  exact absurd H (by simp)
end Go.Proofs.YtmefnfhghfemgaaDoor.Q
end
section
namespace Go.Proofs.YtmefnfhghfemgaaDoor.Q
open Go.RowKit Go.Proofs.YtmefnfhghfemgaaDoorW.PrintWords Go.Proofs.YtmefnfhghfemgaaDoorW.PrintLast Go.Proofs.YtmefnfhghfemgaaDoorW.PrintMore
set_option linter.unusedSectionVars false
section
open Classical
inductive Rch (w h : Nat) (cs : List Int) : Int → Int → Prop
 | refl (i : Int) (h0 : 0 ≤ i) (h1 : i < ((w * h : Nat) : Int)) (hb : bI cs i = true) : Rch w h cs i i
 | step (i u v : Int) (hu : Rch w h cs i u) (hv : v ∈ nbs w h u.toNat) (hb : bI cs v = true) : Rch w h cs i v
def isMin (w h : Nat) (cs : List Int) (i : Nat) : Prop := bI cs i = true ∧ ∀ j : Nat, j < i → ¬ Rch w h cs j i
noncomputable def mins (w h : Nat) (cs : List Int) (i : Nat) : List Nat := (List.range i).filter (fun j => decide (isMin w h cs j))
noncomputable def comp (w h : Nat) (cs : List Int) (t : Nat) (i : Int) : List Int := ((List.range t).filter (fun j : Nat => decide (Rch w h cs i (j : Int)))).map (fun j : Nat => (j : Int))
theorem mins_succ (w h : Nat) (cs : List Int) (i : Nat) : mins w h cs (i + 1) = mins w h cs i ++ if isMin w h cs i then [i] else [] := by
 unfold mins
 rw [List.range_succ, List.filter_append]
 congr 1
 by_cases hm : isMin w h cs i
 ·rw [if_pos hm]; simp [hm]
 ·rw [if_neg hm]; simp [hm]
theorem mins_len (w h : Nat) (cs : List Int) (i : Nat) : (mins w h cs i).length ≤ i := by
 have := List.length_filter_le (fun j => decide (isMin w h cs j)) (List.range i)
 rw [List.length_range] at this
 exact this
theorem comp_succ (w h : Nat) (cs : List Int) (t : Nat) (i : Int) : comp w h cs (t + 1) i = comp w h cs t i ++ if Rch w h cs i t then [(t : Int)] else [] := by
 unfold comp
 rw [List.range_succ, List.filter_append, List.map_append]
 congr 1
 by_cases hm : Rch w h cs i t
 ·rw [if_pos hm]; simp [hm]
 ·rw [if_neg hm]; simp [hm]
theorem comp_len (w h : Nat) (cs : List Int) (t : Nat) (i : Int) : (comp w h cs t i).length ≤ t := by
 unfold comp
 rw [List.length_map]
 have := List.length_filter_le (fun j : Nat => decide (Rch w h cs i (j : Int))) (List.range t)
 rw [List.length_range] at this
 exact this
section
variable {w h : Nat} {cs : List Int} (hw : w ≤ 7) (hh : h ≤ 7) (hs : w * h ≤ 36)
include hw hh hs
theorem Rch.at {i j : Int} (hr : Rch w h cs i j) : 0 ≤ j ∧ j < ((w * h : Nat) : Int) ∧ bI cs j = true := by
 induction hr with
 | refl h0 h1 hb => exact ⟨h0, h1, hb⟩
 | step u v hu hv hb ih =>
  have h2 := nbs_at hw hh hs (i := u.toNat) (by omega) hv
  exact ⟨h2.1, h2.2.1, hb⟩
theorem Rch.src {i j : Int} (hr : Rch w h cs i j) : 0 ≤ i ∧ i < ((w * h : Nat) : Int) ∧ bI cs i = true := by
 induction hr with
 | refl h0 h1 hb => exact ⟨h0, h1, hb⟩
 | step u v hu hv hb ih => exact ih
theorem Rch.trans {i j k : Int} (h1 : Rch w h cs i j) (h2 : Rch w h cs j k) : Rch w h cs i k := by
 induction h2 with
 | refl => exact h1
 | step u v hu hv hb ih => exact Rch.step i u v ih hv hb
theorem Rch.symm {i j : Int} (hr : Rch w h cs i j) : Rch w h cs j i := by
 induction hr with
 | refl h0 h1 hb => exact Rch.refl i h0 h1 hb
 | step u v hu hv hb ih =>
  have h1 := Rch.at hw hh hs hu
  have h2 := nbs_at hw hh hs (i := u.toNat) (by omega) hv
  have h3 : Rch w h cs v u := by
   refine Rch.step v v u (Rch.refl v h2.1 h2.2.1 hb) ?_ h1.2.2
   have h4 := h2.2.2
   rwa [show ((u.toNat : Nat) : Int) = u by omega] at h4
  exact Rch.trans hw hh hs h3 ih
structure BI (w h : Nat) (cs L0 L q : List Int) (src c : Int) : Prop where
 len : L.length = w * h
 lab : ∀ j : Int, 0 ≤ j → j < ((w * h : Nat) : Int) → rd L j = if j ∈ q then c else rd L0 j
 mem : ∀ j ∈ q, Rch w h cs src j
 nodup : q.Nodup
 src : src ∈ q
theorem BI.qlen {L0 L q : List Int} {src c : Int} (hb : BI w h cs L0 L q src c) : q.length ≤ w * h :=
 nodup_len _ q hb.nodup fun j hj => by
  have := Rch.at hw hh hs (hb.mem j hj)
  exact ⟨this.1, this.2.1⟩
theorem BI.push {L0 L q : List Int} {src c u v : Int} (hb : BI w h cs L0 L q src c) (hc : 0 ≤ c) (hu : u ∈ q) (hv : v ∈ nbs w h u.toNat) (hbv : bI cs v = true) (hn : rd L v < 0) : BI w h cs L0 (L.set v.toNat c) (q ++ [v]) src c := by
 have h1 := Rch.at hw hh hs (hb.mem u hu)
 have h2 := nbs_at hw hh hs (i := u.toNat) (by omega) hv
 have h3 : v ∉ q := fun h4 => by
  have h5 := hb.lab v h2.1 h2.2.1
  rw [if_pos h4] at h5
  omega
 refine ⟨by rw [List.length_set]; exact hb.len, fun j h4 h5 => ?_, fun j hj => ?_, ?_, List.mem_append_left _ hb.src⟩
 ·rw [rd_set L v j c h2.1 (by rw [hb.len]; exact h2.2.1) h4]
  by_cases h6 : j = v
  ·rw [if_pos h6, if_pos (by rw [h6]; simp)]
  ·rw [if_neg h6, hb.lab j h4 h5, ite_iff (show j ∈ q ++ [v] ↔ j ∈ q by simp [h6])]
 ·rcases List.mem_append.1 hj with h6 | h6
  ·exact hb.mem j h6
  ·rw [List.mem_singleton.1 h6]
   exact Rch.step _ u v (hb.mem u hu) hv hbv
 ·rw [List.nodup_append]
  exact ⟨hb.nodup, by simp, fun a ha b hb2 e => h3 (by rw [← List.mem_singleton.1 hb2, ← e]; exact ha)⟩
theorem sk_l3 (hn : cs.length = w * h) (L0 : List Int) (src c x29 : Int) (hc : 0 ≤ c) (p : Nat) (u : Int) (N : List Int) (hN : N = nbs w h u.toNat) (hN4 : N.length ≤ 4) (hu36 : p ≤ 36) : ∀ (m t : Nat) (L q : List Int), t + m = N.length → BI w h cs L0 L q src c → u ∈ q →
  (∀ v ∈ N.take t, bI cs v = true → 0 ≤ rd L v) →
  ∃ L' q', BI w h cs L0 L' q' src c ∧ q <+: q' ∧ (∀ v ∈ N, bI cs v = true → 0 ≤ rd L' v) ∧ (∀ j : Int, 0 ≤ j → j < ((w * h : Nat) : Int) → 0 ≤ rd L j → 0 ≤ rd L' j) ∧
   ∀ K, Ev (fun k => spec_skPieces.l2 k L' c q' ((p + 1 : Nat) : Int) cs cs.length x29 w h cs) K → Ev (fun k => spec_skPieces.l3 k L c q p cs cs.length x29 N N.length t w h cs) K
 | 0, t, L, q, ht, hb, hu, hcl => by
  refine ⟨L, q, hb, List.prefix_rfl, ?_, fun _ _ _ h => h, fun K hK => Ev.step hK fun k => ?_⟩
  ·rwa [List.take_of_length_le (by omega)] at hcl
  ·rw [spec_skPieces.l3, if_neg (by omega), show wrap64 ((p : Int) + 1) = ((p + 1 : Nat) : Int) by rw [w64 (by omega) (by omega)]; omega]
 | m + 1, t, L, q, ht, hb, hu, hcl => by
  have hlt : t < N.length := by omega
  have c1 : (t : Int) < (N.length : Int) := by omega
  have c0 : (0 : Int) ≤ (t : Int) := by omega
  have hru := Rch.at hw hh hs (hb.mem u hu)
  have hwt : wrap64 ((t : Int) + 1) = ((t + 1 : Nat) : Int) := by rw [w64 (by omega) (by omega)]; omega
  have htk : N.take (t + 1) = N.take t ++ [N[t]] := List.take_succ_eq_append_getElem hlt
  have hrd := rd_nat _ t hlt
  have hv : N[t] ∈ N := List.getElem_mem hlt
  generalize N[t] = v at htk hrd hv
  have hvr := nbs_at hw hh hs (i := u.toNat) (by omega) (hN ▸ hv)
  have hql := BI.qlen hw hh hs hb
  have c3 : 0 ≤ v := hvr.1
  have c4 : v < (cs.length : Int) := by rw [hn]; exact hvr.2.1
  have c5 : v < (L.length : Int) := by rw [hb.len]; exact hvr.2.1
  have c6 : q.length < 17592186044416 := Nat.lt_of_le_of_lt (Nat.le_trans hql hs) (by decide)
  have hgo : ∀ K, Ev (fun k => if bI cs v = true then (if rd L v < 0 then spec_skPieces.l3 k (L.set v.toNat c) c (q ++ [v]) p cs cs.length x29 N N.length ((t + 1 : Nat) : Int) w h cs else spec_skPieces.l3 k L c q p cs cs.length x29 N N.length ((t + 1 : Nat) : Int) w h cs) else spec_skPieces.l3 k L c q p cs cs.length x29 N N.length ((t + 1 : Nat) : Int) w h cs) K →
    Ev (fun k => spec_skPieces.l3 k L c q p cs cs.length x29 N N.length t w h cs) K := fun K hK => by
   refine Ev.step hK fun k => ?_
   rw [spec_skPieces.l3, if_pos c1, if_pos c0, if_pos c1, hrd, if_pos c3, if_pos c4, tyBall_eq, Option.bind_some, hwt]
   show (if bI cs v = true then _ else _) = _
   by_cases h1 : bI cs v = true
   ·rw [if_pos h1, if_pos h1, if_pos c5]
    by_cases h2 : rd L v < 0
    ·rw [if_pos h2, if_pos h2, if_pos c6]
    ·rw [if_neg h2, if_neg h2]
   ·rw [if_neg h1, if_neg h1]
  by_cases h1 : bI cs v = true
  ·by_cases h2 : rd L v < 0
   ·have hp := BI.push hw hh hs hb hc hu (hN ▸ hv) h1 h2
    have hgrow : ∀ j : Int, 0 ≤ j → j < ((w * h : Nat) : Int) → 0 ≤ rd L j → 0 ≤ rd (L.set v.toNat c) j := fun j h3 h4 h5 => by
     rw [rd_set L v j c hvr.1 (by rw [hb.len]; omega) h3]
     split
     ·exact hc
     ·exact h5
    obtain ⟨L', q', e1, e2, e3, e4, e5⟩ := sk_l3 hn L0 src c x29 hc p u N hN hN4 hu36 m (t + 1) _ _ (by omega) hp (List.mem_append_left _ hu) (fun x hx hbx => by
     rw [htk] at hx
     rcases List.mem_append.1 hx with h3 | h3
     ·have h4 := nbs_at hw hh hs (i := u.toNat) (by omega) (hN ▸ List.take_subset _ _ h3)
      exact hgrow x h4.1 h4.2.1 (hcl x h3 hbx)
     ·rw [List.mem_singleton.1 h3, rd_set L v v c hvr.1 (by rw [hb.len]; omega) hvr.1, if_pos rfl]
      exact hc)
    refine ⟨L', q', e1, (List.prefix_append q [v]).trans e2, e3, fun j h3 h4 h5 => e4 j h3 h4 (hgrow j h3 h4 h5), fun K hK => hgo K ?_⟩
    refine Ev.congr (e5 K hK) fun k => ?_
    rw [if_pos h1, if_pos h2]
   ·obtain ⟨L', q', e1, e2, e3, e4, e5⟩ := sk_l3 hn L0 src c x29 hc p u N hN hN4 hu36 m (t + 1) L q (by omega) hb hu (fun x hx hbx => by
     rw [htk] at hx
     rcases List.mem_append.1 hx with h3 | h3
     ·exact hcl x h3 hbx
     ·rw [List.mem_singleton.1 h3]
      omega)
    refine ⟨L', q', e1, e2, e3, e4, fun K hK => hgo K ?_⟩
    refine Ev.congr (e5 K hK) fun k => ?_
    rw [if_pos h1, if_neg h2]
  ·obtain ⟨L', q', e1, e2, e3, e4, e5⟩ := sk_l3 hn L0 src c x29 hc p u N hN hN4 hu36 m (t + 1) L q (by omega) hb hu (fun x hx hbx => by
     rw [htk] at hx
     rcases List.mem_append.1 hx with h3 | h3
     ·exact hcl x h3 hbx
     ·rw [List.mem_singleton.1 h3] at hbx
      exact absurd hbx h1)
   refine ⟨L', q', e1, e2, e3, e4, fun K hK => hgo K ?_⟩
   refine Ev.congr (e5 K hK) fun k => ?_
   rw [if_neg h1]
theorem sk_l2 (hn : cs.length = w * h) (L0 : List Int) (src c x29 : Int) (hc : 0 ≤ c) : ∀ (m p : Nat) (L q : List Int), p + m = w * h + 1 → p ≤ q.length → BI w h cs L0 L q src c →
  (∀ u ∈ q.take p, ∀ v ∈ nbs w h u.toNat, bI cs v = true → 0 ≤ rd L v) →
  ∃ L' q', BI w h cs L0 L' q' src c ∧ (∀ u ∈ q', ∀ v ∈ nbs w h u.toNat, bI cs v = true → 0 ≤ rd L' v) ∧
   ∀ K, Ev (fun k => spec_skPieces.l1 k L' (wrap64 (c + 1)) cs cs.length (wrap64 (x29 + 1)) w h cs) K → Ev (fun k => spec_skPieces.l2 k L c q p cs cs.length x29 w h cs) K
 | 0, p, L, q, hp, hpq, hb, hcl => by
  have := BI.qlen hw hh hs hb
  omega
 | m + 1, p, L, q, hp, hpq, hb, hcl => by
  have hql := BI.qlen hw hh hs hb
  by_cases hlt : p < q.length
  ·have hrd := rd_nat q p hlt
   have hu : q[p] ∈ q := List.getElem_mem hlt
   have hur := Rch.at hw hh hs (hb.mem _ hu)
   obtain ⟨L1, q1, e1, e2, e3, e4, e5⟩ := sk_l3 hw hh hs hn L0 src c x29 hc p q[p] _ rfl (nbs_len hw hh hs (by omega)) (by omega) (nbs w h q[p].toNat).length 0 L q (Nat.zero_add _) hb hu (fun v hv => by simp at hv)
   obtain ⟨z, hz⟩ := e2
   have hle : q.length ≤ q1.length := by rw [← hz, List.length_append]; omega
   have htk : q1.take (p + 1) = q.take p ++ [q[p]] := by
    rw [← hz, List.take_append_of_le_length (by omega)]
    exact List.take_succ_eq_append_getElem hlt
   obtain ⟨L2, q2, f1, f2, f3⟩ := sk_l2 hn L0 src c x29 hc m (p + 1) L1 q1 (by omega) (by omega) e1 (fun u hu2 v hv hbv => by
    rw [htk] at hu2
    rcases List.mem_append.1 hu2 with h3 | h3
    ·have h4 := Rch.at hw hh hs (hb.mem u (List.take_subset _ _ h3))
     have h5 := nbs_at hw hh hs (i := u.toNat) (by omega) hv
     exact e4 v h5.1 h5.2.1 (hcl u h3 v hv hbv)
    ·rw [List.mem_singleton.1 h3] at hv
     exact e3 v hv hbv)
   refine ⟨L2, q2, f1, f2, fun K hK => ?_⟩
   have hnear := near_ev hw hh hs (i := q[p].toNat) (by omega) cs
   rw [show ((q[p].toNat : Nat) : Int) = q[p] by omega] at hnear
   refine Ev.step (Ev.bind (f := fun k t => spec_skPieces.l3 k L c q p cs cs.length x29 t t.length 0 w h cs) hnear (e5 K (f3 K hK))) fun k => ?_
   rw [spec_skPieces.l2, if_pos (by omega), if_pos (by omega), hrd]
  ·refine ⟨L, q, hb, ?_, fun K hK => Ev.step hK fun k => ?_⟩
   ·rwa [List.take_of_length_le (by omega)] at hcl
   ·rw [spec_skPieces.l2, if_neg (by omega)]
end
end
end Go.Proofs.YtmefnfhghfemgaaDoor.Q
end
section
namespace Go.Proofs.YtmefnfhghfemgaaDoor.Q
open Go.RowKit Go.Proofs.YtmefnfhghfemgaaDoorW.PrintWords Go.Proofs.YtmefnfhghfemgaaDoorW.PrintLast Go.Proofs.YtmefnfhghfemgaaDoorW.PrintMore
set_option linter.unusedSectionVars false
open Classical
section
variable {w h : Nat} {cs : List Int} (hw : w ≤ 7) (hh : h ≤ 7) (hs : w * h ≤ 36)
include hw hh hs
structure OI (w h : Nat) (cs L : List Int) (i : Nat) : Prop where
 len : L.length = w * h
 reach : ∀ j : Int, 0 ≤ j → j < ((w * h : Nat) : Int) → (0 ≤ rd L j ↔ ∃ m : Nat, m < i ∧ Rch w h cs m j)
 lab : ∀ j : Int, 0 ≤ j → j < ((w * h : Nat) : Int) → 0 ≤ rd L j → ∃ m : Nat, m < i ∧ isMin w h cs m ∧ Rch w h cs m j ∧ rd L j = (mins w h cs m).length
 low : ∀ j : Int, 0 ≤ j → j < ((w * h : Nat) : Int) → rd L j < 0 → rd L j = -1
theorem OI.same {L : List Int} {i : Nat} (ho : OI w h cs L i) (hm : ¬ isMin w h cs i) : OI w h cs L (i + 1) := by
 refine ⟨ho.len, fun j h0 h1 => (ho.reach j h0 h1).trans ⟨fun ⟨m, h2, h3⟩ => ⟨m, by omega, h3⟩, fun ⟨m, h2, h3⟩ => ?_⟩, fun j h0 h1 h2 => ?_, ho.low⟩
 ·by_cases h4 : m = i
  ·subst h4
   have h5 := Rch.src hw hh hs h3
   have h6 : ∃ m' : Nat, m' < m ∧ Rch w h cs m' m := by
    apply Classical.byContradiction
    intro h7
    exact hm ⟨h5.2.2, fun j hj hr => h7 ⟨j, hj, hr⟩⟩
   obtain ⟨m', h7, h8⟩ := h6
   exact ⟨m', h7, Rch.trans hw hh hs h8 h3⟩
  ·exact ⟨m, by omega, h3⟩
 ·obtain ⟨m, h3, h4⟩ := ho.lab j h0 h1 h2
  exact ⟨m, by omega, h4⟩
theorem BI.done {L0 L q : List Int} {i : Nat} (ho : OI w h cs L0 i) (hm : isMin w h cs i) (hb : BI w h cs L0 L q i (mins w h cs i).length)
  (hcl : ∀ u ∈ q, ∀ v ∈ nbs w h u.toNat, bI cs v = true → 0 ≤ rd L v) : OI w h cs L (i + 1) := by
 have hmark : ∀ j : Int, Rch w h cs i j → 0 ≤ rd L j := by
  intro j hj
  induction hj with
  | refl h0 h1 hbb =>
   rw [hb.lab i h0 h1, if_pos hb.src]
   omega
  | step u v hu hv hbv ih =>
   have h1 := Rch.at hw hh hs hu
   have h2 := nbs_at hw hh hs (i := u.toNat) (by omega) hv
   by_cases h3 : u ∈ q
   ·exact hcl u h3 v hv hbv
   ·rw [hb.lab u h1.1 h1.2.1, if_neg h3] at ih
    obtain ⟨m, h4, h5⟩ := (ho.reach u h1.1 h1.2.1).1 ih
    have h6 := (ho.reach v h2.1 h2.2.1).2 ⟨m, h4, Rch.step _ u v h5 hv hbv⟩
    rw [hb.lab v h2.1 h2.2.1]
    split
    ·omega
    ·exact h6
 refine ⟨hb.len, fun j h0 h1 => ⟨fun h2 => ?_, fun ⟨m, h2, h3⟩ => ?_⟩, fun j h0 h1 h2 => ?_, fun j h0 h1 h2 => ?_⟩
 ·by_cases h3 : j ∈ q
  ·exact ⟨i, by omega, hb.mem j h3⟩
  ·rw [hb.lab j h0 h1, if_neg h3] at h2
   obtain ⟨m, h4, h5⟩ := (ho.reach j h0 h1).1 h2
   exact ⟨m, by omega, h5⟩
 ·by_cases h4 : m = i
  ·subst h4
   exact hmark j h3
  ·have h5 := (ho.reach j h0 h1).2 ⟨m, by omega, h3⟩
   rw [hb.lab j h0 h1]
   split
   ·omega
   ·exact h5
 ·by_cases h3 : j ∈ q
  ·refine ⟨i, by omega, hm, hb.mem j h3, ?_⟩
   rw [hb.lab j h0 h1, if_pos h3]
  ·rw [hb.lab j h0 h1, if_neg h3] at h2 ⊢
   obtain ⟨m, h4, h5⟩ := ho.lab j h0 h1 h2
   exact ⟨m, by omega, h5⟩
 ·by_cases h3 : j ∈ q
  ·rw [hb.lab j h0 h1, if_pos h3] at h2
   omega
  ·rw [hb.lab j h0 h1, if_neg h3] at h2 ⊢
   exact ho.low j h0 h1 h2
theorem BI.start {L0 : List Int} {i : Nat} {c : Int} (hlen : L0.length = w * h) (hi : i < w * h) (hb : bI cs i = true) : BI w h cs L0 (L0.set ((i : Nat) : Int).toNat c) [(i : Int)] i c := by
 refine ⟨by rw [List.length_set]; exact hlen, fun j h0 h1 => ?_, fun j hj => ?_, by simp, by simp⟩
 ·rw [rd_set L0 i j c (by omega) (by omega) h0]
  exact ite_iff (by simp)
 ·rw [List.mem_singleton.1 hj]
  exact Rch.refl _ (by omega) (by omega) hb
theorem sk_l1 (hn : cs.length = w * h) : ∀ (m i : Nat) (L : List Int), i + m = w * h → OI w h cs L i → ∃ L', OI w h cs L' (w * h) ∧ Ev (fun k => spec_skPieces.l1 k L (mins w h cs i).length cs cs.length i w h cs) (L', ((mins w h cs (w * h)).length : Int))
 | 0, i, L, hi, ho => by
  obtain rfl : i = w * h := by omega
  refine ⟨L, ho, Ev.step (Ev.const (o := some (L, ((mins w h cs (w * h)).length : Int))) rfl) fun k => ?_⟩
  rw [spec_skPieces.l1, if_neg (by omega)]
 | m + 1, i, L, hi, ho => by
  have hlt : i < w * h := by omega
  have c1 : (i : Int) < (cs.length : Int) := by omega
  have c0 : (0 : Int) ≤ (i : Int) := by omega
  have c2 : (i : Int) < (L.length : Int) := by rw [ho.len]; omega
  have hwi : wrap64 ((i : Int) + 1) = ((i + 1 : Nat) : Int) := by rw [w64 (by omega) (by omega)]; omega
  have hml := mins_len w h cs i
  have hstep : ∀ b K, Ev (fun k => spec_skPieces.j2 k L (mins w h cs i).length i cs cs.length i b w h cs) K → ((bI cs i = true → b = decide (rd L i ≥ 0)) ∧ (bI cs i = false → b = true)) →
    Ev (fun k => spec_skPieces.l1 k L (mins w h cs i).length cs cs.length i w h cs) K := fun b K hK hb => by
   refine Ev.step hK fun k => ?_
   rw [spec_skPieces.l1, if_pos c1, if_pos c0, if_pos c1, tyBall_eq, Option.bind_some]
   show (if bI cs i = true then _ else _) = _
   by_cases h1 : bI cs i = true
   ·rw [if_pos h1, if_pos c2, hb.1 h1]
   ·rw [if_neg h1, hb.2 (Bool.eq_false_iff.2 h1)]
  by_cases hm : isMin w h cs i
  ·have hrd : rd L i < 0 := by
    apply Int.not_le.1
    intro h2
    obtain ⟨m', h3, h4⟩ := (ho.reach i (by omega) (by omega)).1 h2
    exact hm.2 m' h3 h4
   obtain ⟨L', q', e1, e2, e3⟩ := sk_l2 hw hh hs hn L i (mins w h cs i).length i (by omega) (w * h + 1) 0 _ [(i : Int)] (by omega) (Nat.zero_le _) (BI.start hw hh hs ho.len hlt hm.1) (fun u hu => by simp at hu)
   have ho2 := BI.done hw hh hs ho hm e1 e2
   obtain ⟨L2, f1, f2⟩ := sk_l1 hn m (i + 1) L' (by omega) ho2
   refine ⟨L2, f1, hstep false _ ?_ ⟨fun _ => (decide_eq_false (by omega)).symm, fun h2 => by rw [hm.1] at h2; cases h2⟩⟩
   have hms : ((mins w h cs (i + 1)).length : Int) = wrap64 ((mins w h cs i).length + 1) := by
    rw [w64 (by omega) (by omega), mins_succ, if_pos hm, List.length_append, List.length_singleton]
    omega
   rw [hms, ← hwi] at f2
   refine Ev.step (e3 _ f2) fun k => ?_
   rw [spec_skPieces.j2, if_neg (by decide), if_pos c0, if_pos c2]
   rfl
  ·have ho2 := OI.same hw hh hs ho hm
   obtain ⟨L2, f1, f2⟩ := sk_l1 hn m (i + 1) L (by omega) ho2
   have hms : mins w h cs (i + 1) = mins w h cs i := by rw [mins_succ, if_neg hm, List.append_nil]
   rw [hms, ← hwi] at f2
   refine ⟨L2, f1, hstep true _ ?_ ⟨fun h2 => ?_, fun _ => rfl⟩⟩
   ·refine Ev.step f2 fun k => ?_
    rw [spec_skPieces.j2, if_pos rfl]
   ·refine (decide_eq_true ?_).symm
    apply Classical.byContradiction
    intro h3
    refine hm ⟨h2, fun j hj hr => h3 ?_⟩
    exact (ho.reach i (by omega) (by omega)).2 ⟨j, hj, hr⟩
theorem sk_l0 (hn : cs.length = w * h) (K : List Int × Int) : ∀ (m t : Nat) (L : List Int), t + m = w * h → L.length = w * h → (∀ j : Int, 0 ≤ j → j < t → rd L j = -1) →
  (∀ L' : List Int, L'.length = w * h → (∀ j : Int, 0 ≤ j → j < ((w * h : Nat) : Int) → rd L' j = -1) → L' = List.replicate (w * h) (-1)) → Ev (fun k => spec_skPieces.l1 k (List.replicate (w * h) (-1)) 0 cs cs.length 0 w h cs) K → Ev (fun k => spec_skPieces.l0 k L ((w * h : Nat) : Int) t w h cs) K
 | 0, t, L, ht, hl, hv, hu, hK => by
  refine Ev.step hK fun k => ?_
  rw [spec_skPieces.l0, if_neg (by omega), hu L hl (fun j h0 h1 => hv j h0 (by omega))]
 | m + 1, t, L, ht, hl, hv, hu, hK => by
  have hwt : wrap64 ((t : Int) + 1) = ((t + 1 : Nat) : Int) := by rw [w64 (by omega) (by omega)]; omega
  have ih := sk_l0 hn K m (t + 1) (L.set ((t : Nat) : Int).toNat (-1)) (by omega) (by rw [List.length_set]; exact hl) (fun j h0 h1 => by
   rw [rd_set L t j (-1) (by omega) (by omega) h0]
   split
   ·rfl
   ·exact hv j h0 (by omega)) hu hK
  refine Ev.step ih fun k => ?_
  rw [spec_skPieces.l0, if_pos (by omega), if_pos (by omega), if_pos (by omega), hwt]
theorem rep_eq (n : Nat) (L : List Int) (hl : L.length = n) (hv : ∀ j : Int, 0 ≤ j → j < (n : Int) → rd L j = -1) : L = List.replicate n (-1) := by
 refine List.ext_getElem (by simpa using hl) fun i h1 h2 => ?_
 have := hv i (by omega) (by omega)
 rw [rd_nat L i h1] at this
 rw [this, List.getElem_replicate]
theorem rd_rep (n : Nat) (x j : Int) (h0 : 0 ≤ j) (h1 : j < (n : Int)) : rd (List.replicate n x) j = x := by
 unfold rd
 rw [List.getD_eq_getElem?_getD, List.getElem?_replicate, if_pos (by omega)]
 rfl
theorem pieces_ev (hn : cs.length = w * h) : ∃ L, OI w h cs L (w * h) ∧ Ev (fun k => spec_skPieces.f k w h cs) (L, ((mins w h cs (w * h)).length : Int)) := by
 have ho : OI w h cs (List.replicate (w * h) (-1)) 0 := by
  refine ⟨by simp, fun j h0 h1 => ⟨fun h2 => ?_, fun ⟨m, h2, _⟩ => by omega⟩, fun j h0 h1 h2 => ?_, fun j h0 h1 _ => rd_rep hw hh hs _ _ j h0 h1⟩
  ·rw [rd_rep hw hh hs _ _ j h0 h1] at h2
   omega
  ·rw [rd_rep hw hh hs _ _ j h0 h1] at h2
   omega
 obtain ⟨L, h1, h2⟩ := sk_l1 hw hh hs hn (w * h) 0 _ (by omega) ho
 refine ⟨L, h1, ?_⟩
 have h3 := sk_l0 hw hh hs hn _ (w * h) 0 (List.replicate (w * h) 0) (by omega) (by simp) (fun j a b => by omega) (rep_eq hw hh hs _) h2
 refine Ev.congr h3 fun k => ?_
 unfold spec_skPieces.f
 rw [if_pos (by omega), if_pos (by omega), Option.bind_some, hn, List.length_replicate, Int.toNat_natCast]
 rfl
end
end Go.Proofs.YtmefnfhghfemgaaDoor.Q
end
section
namespace Go.Proofs.YtmefnfhghfemgaaDoor.Q
open Go.RowKit Go.Proofs.YtmefnfhghfemgaaDoorW.PrintWords Go.Proofs.YtmefnfhghfemgaaDoorW.PrintLast Go.Proofs.YtmefnfhghfemgaaDoorW.PrintMore
set_option linter.unusedSectionVars false
open Classical
section
variable {w h : Nat} {cs : List Int} (hw : w ≤ 7) (hh : h ≤ 7) (hs : w * h ≤ 36)
include hw hh hs
structure DI (w h : Nat) (cs L q : List Int) (src : Int) : Prop where
 len : L.length = w * h
 inq : ∀ j : Int, 0 ≤ j → j < ((w * h : Nat) : Int) → j ∈ q → 0 ≤ rd L j ∧ rd L j < q.length
 out : ∀ j : Int, 0 ≤ j → j < ((w * h : Nat) : Int) → j ∉ q → rd L j = -1
 mem : ∀ j ∈ q, Rch w h cs src j
 nodup : q.Nodup
 src : src ∈ q
theorem DI.qlen {L q : List Int} {src : Int} (hb : DI w h cs L q src) : q.length ≤ w * h :=
 nodup_len _ q hb.nodup fun j hj => by
  have := Rch.at hw hh hs (hb.mem j hj)
  exact ⟨this.1, this.2.1⟩
theorem DI.push {L q : List Int} {src u v : Int} (hb : DI w h cs L q src) (hu : u ∈ q) (hv : v ∈ nbs w h u.toNat) (hbv : bI cs v = true) (hn : rd L v < 0) : DI w h cs (L.set v.toNat (wrap64 (rd L u + 1))) (q ++ [v]) src := by
 have h1 := Rch.at hw hh hs (hb.mem u hu)
 have h2 := nbs_at hw hh hs (i := u.toNat) (by omega) hv
 have hq := DI.qlen hw hh hs hb
 have hru := hb.inq u h1.1 h1.2.1 hu
 have hwr : wrap64 (rd L u + 1) = rd L u + 1 := w64 (by omega) (by omega)
 have h3 : v ∉ q := fun h4 => by
  have h5 := hb.inq v h2.1 h2.2.1 h4
  omega
 have hvl : v < (L.length : Int) := by rw [hb.len]; exact h2.2.1
 refine ⟨by rw [List.length_set]; exact hb.len, fun j h4 h5 h6 => ?_, fun j h4 h5 h6 => ?_, fun j hj => ?_, ?_, List.mem_append_left _ hb.src⟩
 ·rw [rd_set L v j _ h2.1 hvl h4, List.length_append, List.length_singleton, hwr]
  by_cases h7 : j = v
  ·rw [if_pos h7]
   omega
  ·rw [if_neg h7]
   have h8 := hb.inq j h4 h5 (by simpa [h7] using h6)
   omega
 ·have h7 : j ≠ v := fun e => h6 (by rw [e]; simp)
  rw [rd_set L v j _ h2.1 hvl h4, if_neg h7]
  exact hb.out j h4 h5 (fun h8 => h6 (List.mem_append_left _ h8))
 ·rcases List.mem_append.1 hj with h6 | h6
  ·exact hb.mem j h6
  ·rw [List.mem_singleton.1 h6]
   exact Rch.step _ u v (hb.mem u hu) hv hbv
 ·rw [List.nodup_append]
  exact ⟨hb.nodup, by simp, fun a ha b hb2 e => h3 (by rw [← List.mem_singleton.1 hb2, ← e]; exact ha)⟩
theorem di_l1 (hn : cs.length = w * h) (src : Int) (p : Nat) (u : Int) (N : List Int) (hN : N = nbs w h u.toNat) (hN4 : N.length ≤ 4) (hp36 : p ≤ 36) : ∀ (m t : Nat) (L q : List Int), t + m = N.length → DI w h cs L q src → (hpq : p < q.length) → rd q p = u → u ∈ q →
  (∀ v ∈ N.take t, bI cs v = true → v ∈ q) →
  ∃ L' q', DI w h cs L' q' src ∧ q <+: q' ∧ (∀ v ∈ N, bI cs v = true → v ∈ q') ∧
   ∀ K, Ev (fun k => impl_tray_distances_isBall.l0 k L' q' ((p + 1 : Nat) : Int) w h cs) K → Ev (fun k => impl_tray_distances_isBall.l1 k L q p N N.length t w h cs) K
 | 0, t, L, q, ht, hb, hpq, hqu, hu, hcl => by
  refine ⟨L, q, hb, List.prefix_rfl, ?_, fun K hK => Ev.step hK fun k => ?_⟩
  ·rwa [List.take_of_length_le (by omega)] at hcl
  ·rw [impl_tray_distances_isBall.l1, if_neg (by omega), show wrap64 ((p : Int) + 1) = ((p + 1 : Nat) : Int) by rw [w64 (by omega) (by omega)]; omega]
 | m + 1, t, L, q, ht, hb, hpq, hqu, hu, hcl => by
  have hlt : t < N.length := by omega
  have c1 : (t : Int) < (N.length : Int) := by omega
  have c0 : (0 : Int) ≤ (t : Int) := by omega
  have c7 : (0 : Int) ≤ (p : Int) := by omega
  have c8 : (p : Int) < (q.length : Int) := by omega
  have hru := Rch.at hw hh hs (hb.mem u hu)
  have c9 : u < (L.length : Int) := by rw [hb.len]; exact hru.2.1
  have hwt : wrap64 ((t : Int) + 1) = ((t + 1 : Nat) : Int) := by rw [w64 (by omega) (by omega)]; omega
  have htk : N.take (t + 1) = N.take t ++ [N[t]] := List.take_succ_eq_append_getElem hlt
  have hrd := rd_nat _ t hlt
  have hv : N[t] ∈ N := List.getElem_mem hlt
  generalize N[t] = v at htk hrd hv
  have hvr := nbs_at hw hh hs (i := u.toNat) (by omega) (hN ▸ hv)
  have hql := DI.qlen hw hh hs hb
  have c3 : 0 ≤ v := hvr.1
  have c4 : v < (cs.length : Int) := by rw [hn]; exact hvr.2.1
  have c5 : v < (L.length : Int) := by rw [hb.len]; exact hvr.2.1
  have c6 : q.length < 17592186044416 := Nat.lt_of_le_of_lt (Nat.le_trans hql hs) (by decide)
  have hgo : ∀ K, Ev (fun k => if bI cs v = true then (if rd L v < 0 then impl_tray_distances_isBall.l1 k (L.set v.toNat (wrap64 (rd L u + 1))) (q ++ [v]) p N N.length ((t + 1 : Nat) : Int) w h cs else impl_tray_distances_isBall.l1 k L q p N N.length ((t + 1 : Nat) : Int) w h cs) else impl_tray_distances_isBall.l1 k L q p N N.length ((t + 1 : Nat) : Int) w h cs) K →
    Ev (fun k => impl_tray_distances_isBall.l1 k L q p N N.length t w h cs) K := fun K hK => by
   refine Ev.step hK fun k => ?_
   rw [impl_tray_distances_isBall.l1, if_pos c1, if_pos c0, if_pos c1, hrd, if_pos c3, if_pos c4, isBall_eq, Option.bind_some, hwt]
   show (if bI cs v = true then _ else _) = _
   by_cases h1 : bI cs v = true
   ·rw [if_pos h1, if_pos h1, if_pos c5]
    by_cases h2 : rd L v < 0
    ·rw [if_pos h2, if_pos h2, if_pos c7, if_pos c8, hqu, if_pos hru.1, if_pos c9, if_pos c6]
    ·rw [if_neg h2, if_neg h2]
   ·rw [if_neg h1, if_neg h1]
  by_cases h1 : bI cs v = true
  ·by_cases h2 : rd L v < 0
   ·have hp := DI.push hw hh hs hb hu (hN ▸ hv) h1 h2
    obtain ⟨L', q', e1, e2, e3, e5⟩ := di_l1 hn src p u N hN hN4 hp36 m (t + 1) _ _ (by omega) hp (by rw [List.length_append]; omega) (by
     rw [← hqu]
     unfold rd
     rw [Int.toNat_natCast, List.getD_eq_getElem?_getD, List.getElem?_append_left hpq, List.getD_eq_getElem?_getD]) (List.mem_append_left _ hu) (fun x hx hbx => by
     rw [htk] at hx
     rcases List.mem_append.1 hx with h3 | h3
     ·exact List.mem_append_left _ (hcl x h3 hbx)
     ·exact List.mem_append_right _ h3)
    refine ⟨L', q', e1, (List.prefix_append q [v]).trans e2, e3, fun K hK => hgo K ?_⟩
    refine Ev.congr (e5 K hK) fun k => ?_
    rw [if_pos h1, if_pos h2]
   ·obtain ⟨L', q', e1, e2, e3, e5⟩ := di_l1 hn src p u N hN hN4 hp36 m (t + 1) L q (by omega) hb hpq hqu hu (fun x hx hbx => by
     rw [htk] at hx
     rcases List.mem_append.1 hx with h3 | h3
     ·exact hcl x h3 hbx
     ·rw [List.mem_singleton.1 h3]
      apply Classical.byContradiction
      intro h4
      have h5 := hb.out v hvr.1 hvr.2.1 h4
      omega)
    refine ⟨L', q', e1, e2, e3, fun K hK => hgo K ?_⟩
    refine Ev.congr (e5 K hK) fun k => ?_
    rw [if_pos h1, if_neg h2]
  ·obtain ⟨L', q', e1, e2, e3, e5⟩ := di_l1 hn src p u N hN hN4 hp36 m (t + 1) L q (by omega) hb hpq hqu hu (fun x hx hbx => by
     rw [htk] at hx
     rcases List.mem_append.1 hx with h3 | h3
     ·exact hcl x h3 hbx
     ·rw [List.mem_singleton.1 h3] at hbx
      exact absurd hbx h1)
   refine ⟨L', q', e1, e2, e3, fun K hK => hgo K ?_⟩
   refine Ev.congr (e5 K hK) fun k => ?_
   rw [if_neg h1]
theorem di_l0 (hn : cs.length = w * h) (src : Int) : ∀ (m p : Nat) (L q : List Int), p + m = w * h + 1 → p ≤ q.length → DI w h cs L q src →
  (∀ u ∈ q.take p, ∀ v ∈ nbs w h u.toNat, bI cs v = true → v ∈ q) →
  ∃ L' q', DI w h cs L' q' src ∧ (∀ u ∈ q', ∀ v ∈ nbs w h u.toNat, bI cs v = true → v ∈ q') ∧ Ev (fun k => impl_tray_distances_isBall.l0 k L q p w h cs) L'
 | 0, p, L, q, hp, hpq, hb, hcl => by
  have := DI.qlen hw hh hs hb
  omega
 | m + 1, p, L, q, hp, hpq, hb, hcl => by
  have hql := DI.qlen hw hh hs hb
  by_cases hlt : p < q.length
  ·have hrd := rd_nat q p hlt
   have hu : q[p] ∈ q := List.getElem_mem hlt
   have hur := Rch.at hw hh hs (hb.mem _ hu)
   obtain ⟨L1, q1, e1, e2, e3, e5⟩ := di_l1 hw hh hs hn src p q[p] _ rfl (nbs_len hw hh hs (by omega)) (by omega) (nbs w h q[p].toNat).length 0 L q (Nat.zero_add _) hb hlt hrd hu (fun v hv => by simp at hv)
   obtain ⟨z, hz⟩ := e2
   have hle : q.length ≤ q1.length := by rw [← hz, List.length_append]; omega
   have htk : q1.take (p + 1) = q.take p ++ [q[p]] := by
    rw [← hz, List.take_append_of_le_length (by omega)]
    exact List.take_succ_eq_append_getElem hlt
   obtain ⟨L2, q2, f1, f2, f3⟩ := di_l0 hn src m (p + 1) L1 q1 (by omega) (by omega) e1 (fun u hu2 v hv hbv => by
    rw [htk] at hu2
    rcases List.mem_append.1 hu2 with h3 | h3
    ·rw [← hz]
     exact List.mem_append_left _ (hcl u h3 v hv hbv)
    ·rw [List.mem_singleton.1 h3] at hv
     exact e3 v hv hbv)
   refine ⟨L2, q2, f1, f2, ?_⟩
   have hnear := beside_ev hw hh hs (i := q[p].toNat) (by omega) cs
   rw [show ((q[p].toNat : Nat) : Int) = q[p] by omega] at hnear
   refine Ev.step (Ev.bind (f := fun k t => impl_tray_distances_isBall.l1 k L q p t t.length 0 w h cs) hnear (e5 _ f3)) fun k => ?_
   rw [impl_tray_distances_isBall.l0, if_pos (by omega), if_pos (by omega), hrd]
  ·refine ⟨L, q, hb, ?_, Ev.step (Ev.const (o := some L) rfl) fun k => ?_⟩
   ·rwa [List.take_of_length_le (by omega)] at hcl
   ·rw [impl_tray_distances_isBall.l0, if_neg (by omega)]
theorem rd_rep2 (n : Nat) (x j : Int) (h0 : 0 ≤ j) (h1 : j < (n : Int)) : rd (List.replicate n x) j = x := by
 unfold rd
 rw [List.getD_eq_getElem?_getD, List.getElem?_replicate, if_pos (by omega)]
 rfl
theorem dist_ev (hn : cs.length = w * h) (i : Nat) (hi : i < w * h) : ∃ L : List Int, L.length = w * h ∧ (∀ j : Int, 0 ≤ j → j < ((w * h : Nat) : Int) → (0 ≤ rd L j ↔ Rch w h cs i j)) ∧ Ev (fun k => impl_tray_distances_isBall.f k w h cs i ()) L := by
 have hrep : slices_Repeat_int.f ([(-1)] : List Int) (cs.length : Int) = some (List.replicate (w * h) (-1)) := by
  unfold slices_Repeat_int.f
  rw [if_pos ⟨rfl, by omega, by omega⟩, hn, Int.toNat_natCast]
  rfl
 have c0 : (0 : Int) ≤ (i : Int) := by omega
 have c1 : (i : Int) < (cs.length : Int) := by omega
 have c2 : (i : Int) < ((List.replicate (w * h) (-1 : Int)).length : Int) := by rw [List.length_replicate]; omega
 by_cases hb : bI cs i = true
 ·have hd : DI w h cs ((List.replicate (w * h) (-1)).set ((i : Nat) : Int).toNat 0) [(i : Int)] i := by
   refine ⟨by simp, fun j h0 h1 h2 => ?_, fun j h0 h1 h2 => ?_, fun j hj => ?_, by simp, by simp⟩
   ·rw [rd_set _ i j 0 c0 c2 h0, if_pos (by simpa using h2)]
    simp
   ·rw [rd_set _ i j 0 c0 c2 h0, if_neg (by simpa using h2)]
    exact rd_rep2 hw hh hs _ _ j h0 h1
   ·rw [List.mem_singleton.1 hj]
    exact Rch.refl _ (by omega) (by omega) hb
  obtain ⟨L, q, e1, e2, e3⟩ := di_l0 hw hh hs hn i (w * h + 1) 0 _ _ (by omega) (Nat.zero_le _) hd (fun u hu => by simp at hu)
  have hq : ∀ j : Int, Rch w h cs i j → j ∈ q := by
   intro j hj
   induction hj with
   | refl => exact e1.src
   | step u v hu hv hbv ih => exact e2 u ih v hv hbv
  refine ⟨L, e1.len, fun j h0 h1 => ⟨fun h2 => ?_, fun h2 => (e1.inq j h0 h1 (hq j h2)).1⟩, Ev.congr e3 fun k => ?_⟩
  ·apply e1.mem j
   apply Classical.byContradiction
   intro h3
   have := e1.out j h0 h1 h3
   omega
  ·unfold impl_tray_distances_isBall.f
   rw [hrep, Option.bind_some, if_pos c0, if_pos c1, isBall_eq, Option.bind_some]
   show (if bI cs i = true then _ else _) = _
   rw [if_pos hb, if_pos c2]
   rfl
 ·refine ⟨List.replicate (w * h) (-1), by simp, fun j h0 h1 => ⟨fun h2 => ?_, fun h2 => absurd (Rch.src hw hh hs h2).2.2 hb⟩, Ev.congr (Ev.const (o := some (List.replicate (w * h) (-1))) rfl) fun k => ?_⟩
  ·rw [rd_rep2 hw hh hs _ _ j h0 h1] at h2
   omega
  ·unfold impl_tray_distances_isBall.f
   rw [hrep, Option.bind_some, if_pos c0, if_pos c1, isBall_eq, Option.bind_some]
   show (if bI cs i = true then _ else _) = _
   rw [if_neg hb]
theorem comp_head (i : Nat) (hi : i < w * h) : (0 < (comp w h cs (w * h) i).length ∧ rd (comp w h cs (w * h) i) 0 = i) ↔ isMin w h cs i := by
 have hr : List.range (w * h) = List.range i ++ (List.range' i (w * h - i)) := by
  have h1 := List.range'_append_1 (s := 0) (m := i) (n := w * h - i)
  rw [Nat.zero_add, show i + (w * h - i) = w * h by omega] at h1
  rw [List.range_eq_range', List.range_eq_range', h1]
 have hr2 : List.range' i (w * h - i) = i :: List.range' (i + 1) (w * h - i - 1) := by
  rw [show w * h - i = (w * h - i - 1) + 1 by omega, List.range'_succ]
  rfl
 unfold comp
 rw [hr, hr2, List.filter_append, List.map_append]
 constructor
 ·intro ⟨h1, h2⟩
  rcases e : (List.range i).filter (fun j : Nat => decide (Rch w h cs i (j : Int))) with _ | ⟨a, l⟩
  ·rw [e] at h1 h2
   refine ⟨?_, fun j hj hrj => ?_⟩
   ·by_cases h3 : Rch w h cs i (i : Int)
    ·exact (Rch.src hw hh hs h3).2.2
    ·exfalso
     rw [List.filter_cons, if_neg (by simp [h3]), List.map_nil, List.nil_append] at h1 h2
     rcases e2 : (List.range' (i + 1) (w * h - i - 1)).filter (fun j : Nat => decide (Rch w h cs i (j : Int))) with _ | ⟨a, l⟩
     ·rw [e2] at h1
      simp at h1
     ·rw [e2] at h2
      have hb := (Rch.src hw hh hs (of_decide_eq_true (List.mem_filter.1 (e2 ▸ List.mem_cons_self : a ∈ _)).2)).2.2
      exact h3 (Rch.refl _ (by omega) (by omega) hb)
   ·have hs2 := Rch.symm hw hh hs hrj
    have hm : j ∈ (List.range i).filter (fun j : Nat => decide (Rch w h cs i (j : Int))) := List.mem_filter.2 ⟨List.mem_range.2 hj, decide_eq_true hs2⟩
    rw [e] at hm
    simp at hm
  ·exfalso
   rw [e] at h2
   have hm : a ∈ (List.range i).filter (fun j : Nat => decide (Rch w h cs i (j : Int))) := e ▸ List.mem_cons_self
   have ha := List.mem_range.1 (List.mem_filter.1 hm).1
   simp [rd] at h2
   omega
 ·intro hm
  have e : (List.range i).filter (fun j : Nat => decide (Rch w h cs i (j : Int))) = [] := by
   rw [List.filter_eq_nil_iff]
   intro j hj h1
   exact hm.2 j (List.mem_range.1 hj) (Rch.symm hw hh hs (of_decide_eq_true h1))
  have h3 : Rch w h cs i (i : Int) := Rch.refl _ (by omega) (by omega) hm.1
  rw [e, List.map_nil, List.nil_append, List.filter_cons, if_pos (by simpa using h3), List.map_cons]
  exact ⟨by simp, by simp [rd]⟩
theorem pa_l1 (i : Nat) (D : List Int) (hD : D.length = w * h) (hR : ∀ j : Int, 0 ≤ j → j < ((w * h : Nat) : Int) → (0 ≤ rd D j ↔ Rch w h cs i j)) (x5 : List (List Int)) (K : List (List Int))
  (hK : Ev (fun k => if 0 < ((comp w h cs (w * h) i).length : Int) ∧ rd (comp w h cs (w * h) i) 0 = i then (if x5.length < 5864062014805 then impl_tray_parts_isBall.l0 k () (x5 ++ [comp w h cs (w * h) i]) cs.length (wrap64 ((i : Int) + 1)) w h cs else none) else impl_tray_parts_isBall.l0 k () x5 cs.length (wrap64 ((i : Int) + 1)) w h cs) K) :
  ∀ (m t : Nat), t + m = w * h → Ev (fun k => impl_tray_parts_isBall.l1 k () x5 i (comp w h cs t i) cs.length i D D.length t w h cs) K
 | 0, t, ht => by
  obtain rfl : t = w * h := by omega
  refine Ev.step hK fun k => ?_
  rw [impl_tray_parts_isBall.l1, if_neg (by omega)]
  by_cases h1 : ((comp w h cs (w * h) i).length : Int) > 0
  ·rw [if_pos h1, if_pos h1]
   by_cases h2 : rd (comp w h cs (w * h) i) 0 = i
   ·rw [if_pos h2]
    exact (if_pos ⟨h1, h2⟩).symm
   ·rw [if_neg h2]
    exact (if_neg fun h3 => h2 h3.2).symm
  ·rw [if_neg h1]
   exact (if_neg fun h3 => h1 h3.1).symm
 | m + 1, t, ht => by
  have ih := pa_l1 i D hD hR x5 K hK m (t + 1) (by omega)
  have hwt : wrap64 ((t : Int) + 1) = ((t + 1 : Nat) : Int) := by rw [w64 (by omega) (by omega)]; omega
  have hcl := comp_len w h cs t i
  have c6 : (comp w h cs t i).length < 17592186044416 := Nat.lt_of_le_of_lt (Nat.le_trans hcl (show t ≤ 36 by omega)) (by decide)
  have c1 : (t : Int) < (D.length : Int) := by omega
  have c0 : (0 : Int) ≤ (t : Int) := by omega
  have hrt := hR t c0 (by omega)
  rw [comp_succ] at ih
  refine Ev.step ih fun k => ?_
  rw [impl_tray_parts_isBall.l1, if_pos c1, if_pos c0, if_pos c1, hwt]
  by_cases h1 : Rch w h cs i (t : Int)
  ·rw [if_pos (hrt.2 h1), if_pos c6, if_pos h1]
  ·rw [if_neg (fun h2 => h1 (hrt.1 h2)), if_neg h1, List.append_nil]
noncomputable def parts (w h : Nat) (cs : List Int) (i : Nat) : List (List Int) := (mins w h cs i).map fun m : Nat => comp w h cs (w * h) m
theorem pa_l0 (hn : cs.length = w * h) : ∀ (m i : Nat), i + m = w * h → Ev (fun k => impl_tray_parts_isBall.l0 k () (parts w h cs i) cs.length i w h cs) (parts w h cs (w * h))
 | 0, i, hi => by
  obtain rfl : i = w * h := by omega
  refine Ev.step (Ev.const (o := some (parts w h cs (w * h))) rfl) fun k => ?_
  rw [impl_tray_parts_isBall.l0, if_neg (by omega)]
 | m + 1, i, hi => by
  have ih := pa_l0 hn m (i + 1) (by omega)
  have hlt : i < w * h := by omega
  obtain ⟨D, hD, hR, hE⟩ := dist_ev hw hh hs hn i hlt
  have hwi : wrap64 ((i : Int) + 1) = ((i + 1 : Nat) : Int) := by rw [w64 (by omega) (by omega)]; omega
  have hml := mins_len w h cs i
  have hpl : (parts w h cs i).length < 5864062014805 := by
   unfold parts
   rw [List.length_map]
   exact Nat.lt_of_le_of_lt (Nat.le_trans hml (show i ≤ 36 by omega)) (by decide)
  have hd := comp_head hw hh hs (cs := cs) i hlt
  have hps : parts w h cs (i + 1) = if isMin w h cs i then parts w h cs i ++ [comp w h cs (w * h) i] else parts w h cs i := by
   unfold parts
   rw [mins_succ, List.map_append]
   by_cases hm : isMin w h cs i
   ·rw [if_pos hm, if_pos hm]
    rfl
   ·rw [if_neg hm, if_neg hm, List.map_nil, List.append_nil]
  have h1 := pa_l1 hw hh hs i D hD hR (parts w h cs i) _ (by
   refine Ev.congr ih fun k => ?_
   rw [hwi, hps]
   by_cases hm : isMin w h cs i
   ·have h2 := hd.2 hm
    rw [if_pos ⟨by omega, h2.2⟩, if_pos hpl, if_pos hm]
   ·rw [if_neg (fun h2 => hm (hd.1 ⟨by omega, h2.2⟩)), if_neg hm]) (w * h) 0 (by omega)
  refine Ev.step (Ev.bind (f := fun k t => impl_tray_parts_isBall.l1 k () (parts w h cs i) i ([] : List Int) cs.length i t t.length 0 w h cs) hE ?_) fun k => ?_
  ·exact h1
  ·rw [impl_tray_parts_isBall.l0, if_pos (by omega)]
theorem parts_ev (hn : cs.length = w * h) : Ev (fun k => impl_tray_pieces.f k w h cs) (parts w h cs (w * h)) := by
 refine Ev.bind (f := fun _ t => some t) ?_ (Ev.const rfl)
 exact pa_l0 hw hh hs hn (w * h) 0 (by omega)
end
end Go.Proofs.YtmefnfhghfemgaaDoor.Q
end
section
namespace Go.Proofs.YtmefnfhghfemgaaDoor.Q
open Go.RowKit Go.Proofs.YtmefnfhghfemgaaDoorW.PrintWords Go.Proofs.YtmefnfhghfemgaaDoorW.PrintLast Go.Proofs.YtmefnfhghfemgaaDoorW.PrintMore
attribute [local go_sem] max2_int min2_int max_two min_two max_three min_three max_four min_four
set_option linter.unusedVariables false
set_option linter.unusedSimpArgs false
def spec_l1In.f (a0 : Int) (a1 : Int) (a2 : Int) : Option (Bool) := if a0 ≥ a1 then (some (decide (a0 ≤ a2))) else (some false)
set_option maxHeartbeats 8000000 in
set_option maxRecDepth 100000 in
theorem spec_l1In.calls (a0 : Int) (a1 : Int) (a2 : Int) (r : Bool) (w : World) (h : spec_l1In.f a0 a1 a2 = some r) :
  Calls Tryd.prog 42 #[.int .i64 a0, .int .i64 a1, .int .i64 a2] w fun e w' => e = .returned (.bool r) ∧ Drawn0 w w' := by
 have H : (if a0 ≥ a1 then (some (decide (a0 ≤ a2))) else (some false)) = some r := h
 clear h
 by_cases c4 : a0 ≥ a1
 ·rw [if_pos c4] at H
  have c4b0 : decide (a1 ≤ a0) = true := decide_eq_true c4
  clear c4
  obtain rfl := Option.some.inj H
  go_enter Tryd.func42, Tryd.ntmps42
  go_wp2
  go_ret
  exact ⟨by first | rfl | (simp; done) | (simp [*]; done), by repeat (first | exact Drawn0.refl _ | apply Drawn0.step)⟩
 ·rw [if_neg c4] at H
  have c4b0 : decide (a1 ≤ a0) = false := decide_eq_false c4
  clear c4
  obtain rfl := Option.some.inj H
  go_enter Tryd.func42, Tryd.ntmps42
  go_wp2
  go_ret
  exact ⟨by first | rfl | (simp; done) | (simp [*]; done), by repeat (first | exact Drawn0.refl _ | apply Drawn0.step)⟩
end Go.Proofs.YtmefnfhghfemgaaDoor.Q
end
section
namespace Go.Proofs.YtmefnfhghfemgaaDoor.Q
open Go.RowKit Go.Proofs.YtmefnfhghfemgaaDoorW.PrintWords Go.Proofs.YtmefnfhghfemgaaDoorW.PrintLast Go.Proofs.YtmefnfhghfemgaaDoorW.PrintMore
attribute [local go_sem] max2_int min2_int max_two min_two max_three min_three max_four min_four
set_option linter.unusedVariables false
set_option linter.unusedSimpArgs false
def spec_tyBalls.l0 : Nat → List Int → List Int → Int → Int → Option (List Int)
 | 0, _, _, _, _ => none
 | k + 1, x3, x7, x8, x9 => if x9 < x8 then (if 0 ≤ x9 then (if x9 < (x7.length : Int) then ((spec_tyBall.f (rd x7 x9)).bind fun t103 => (if t103 = true then (if x3.length < 17592186044416 then (spec_tyBalls.l0 k (x3 ++ [x9]) x7 x8 (wrap64 (x9 + 1))) else (none)) else (spec_tyBalls.l0 k x3 x7 x8 (wrap64 (x9 + 1))))) else (none)) else (none)) else (some x3)
def spec_tyBalls.f (k : Nat) (a0_0 : Int) (a0_1 : Int) (l0_2 : List Int) : Option (List Int) := spec_tyBalls.l0 k ([] : List Int) l0_2 (l0_2.length : Int) 0
set_option maxHeartbeats 8000000 in
set_option maxRecDepth 100000 in
theorem spec_tyBalls.calls (k : Nat) (a0_0 : Int) (a0_1 : Int) (A0_2 : Option Addr) (c0_2 : Nat) (l0_2 : List Int) (r : List Int) (w : World) (hr0_2 : Kd.C (Kd.int .u8) w A0_2 l0_2.length l0_2) (hc0_2 : l0_2.length ≤ c0_2) (h : spec_tyBalls.f k a0_0 a0_1 l0_2 = some r) :
  Calls Tryd.prog 34 #[.agg #[.int .i64 a0_0, .int .i64 a0_1, .slice A0_2 l0_2.length c0_2]] w fun e w' => ∃ v0_ : Value, e = .returned (v0_) ∧ Kd.R (Kd.int .i64) 3 w' w.heap.size (fun _ => True) v0_ r ∧ Below w.heap.size w w' := by
 have hu40 := Tryd.underlying40
 have HR0_2 := Aside0.mk hr0_2
 have HC0_2 := Aside0.mk hc0_2
 clear hr0_2 hc0_2
 have HB := Aside0.mk (Below.refl w.heap.size w)
 have H : (spec_tyBalls.l0 k ([] : List Int) l0_2 (l0_2.length : Int) 0) = some r := h
 clear h
 have H' := Aside0.mk H
 clear H
 go_enter Tryd.func34, Tryd.ntmps34
 go_wp2_with (first | ((with_reducible refine gate_dst (N := 1) rfl ?_); refine boxE (N := 1) (cs := #[.int .i64 a0_0, .int .i64 a0_1, .slice A0_2 l0_2.length c0_2]) (t := 40) ?_; intro gb101 hg w2 hbox hb; have n0_ := Aside0.mk (below_step (bel HB) hb); have n1_ := Aside0.mk (hbox); have n2_ := Aside0.mk (gsz hg (bel HB)); have n3_ := Aside0.mk (gsz hg (bel HB)); clear HB; have HB := n0_; have BK101 := n1_; have GW101 := n2_; have GE101 := n3_; clear n0_ n1_ n2_ n3_; clear hb hbox hg; have hcz3_0 : w2.cell? ⟨gb101, 0, none⟩ = some (.int .i64 a0_0) := (blk_cell BK101.out 0).trans rfl; have hcz3_1 : w2.cell? ⟨gb101, 1, none⟩ = some (.int .i64 a0_1) := (blk_cell BK101.out 1).trans rfl; have hcz3_2 : w2.cell? ⟨gb101, 2, none⟩ = some (.slice A0_2 l0_2.length c0_2) := (blk_cell BK101.out 2).trans rfl; have hfz3_0 := blk_frozen BK101.out 0; have hfz3_1 := blk_frozen BK101.out 1; have hfz3_2 := blk_frozen BK101.out 2))
 go_loopg [3, 9] k (fun kq v3 v9 w' => ∃ (x3_1 : List Int) (x9_1 : Int), v9 = .int .i64 x9_1 ∧ Aside0 (spec_tyBalls.l0 kq x3_1 l0_2 (l0_2.length : Int) x9_1 = some r) ∧ Aside0 (kq ≤ k) ∧ Aside0 (Kd.R (Kd.int .i64) 3 w' w.heap.size (fun _ => True) v3 x3_1) ∧ Aside0 (w'.heap[gb101]? = some (.cells #[.int .i64 a0_0, .int .i64 a0_1, (.slice A0_2 l0_2.length c0_2)] 40 (0, 0))) ∧ Aside0 (Below w.heap.size w w'))
 case atStart => exact ⟨(([] : List Int)), (0), (by first | rfl | (simp; done) | (simp [*]; done)), H', ⟨Nat.le_refl _⟩, ⟨by first | exact Kd.R_nil _ _ _ _ _ | exact Kd.N_nil _ _ _ _ _ | exact Kd.V_nil _ _ _ _ _ | exact Kd.Q_nil _ _ _ _ _ | exact Kd.S_nil _ _ _ _ _⟩, ⟨blc⟩, ⟨bel HB⟩⟩
 case round =>
  clear H'
  try clear p2
  try clear c3
  try clear hcz3_0
  try clear hcz3_1
  try clear hcz3_2
  try clear hfz3_0
  try clear hfz3_1
  try clear hfz3_2
  obtain ⟨x3_1, x9_1, rfl, HA, HK1, HO_3, BK101, HB⟩ := hrel
  cases gk with
  | zero => exact absurd HA.out (by simp [spec_tyBalls.l0])
  | succ k1 =>
   have H := HA.out
   clear HA
   simp only [spec_tyBalls.l0] at H
   by_cases c4 : x9_1 < (l0_2.length : Int)
   ·rw [if_pos c4] at H
    have c4b0 : decide (x9_1 < (l0_2.length : Int)) = true := decide_eq_true c4
    clear c4
    by_cases c5 : 0 ≤ x9_1
    ·rw [if_pos c5] at H
     have c5b0 : decide (0 ≤ x9_1) = true := decide_eq_true c5
     clear c5
     by_cases c6 : x9_1 < (l0_2.length : Int)
     ·rw [if_pos c6] at H
      have c6b0 : decide (x9_1 < (l0_2.length : Int)) = true := decide_eq_true c6
      clear c6
      replace H := Option.bind_eq_some_iff.mp H
      obtain ⟨t103, A70, H⟩ := H
      replace H : (if t103 = true then (if x3_1.length < 17592186044416 then (spec_tyBalls.l0 k1 (x3_1 ++ [x9_1]) l0_2 (l0_2.length : Int) (wrap64 (x9_1 + 1))) else (none)) else (spec_tyBalls.l0 k1 x3_1 l0_2 (l0_2.length : Int) (wrap64 (x9_1 + 1)))) = some r := H
      have A7 := Aside0.mk A70
      clear A70
      by_cases c8 : t103 = true
      ·subst c8
       have H1 : (if x3_1.length < 17592186044416 then (spec_tyBalls.l0 k1 (x3_1 ++ [x9_1]) l0_2 (l0_2.length : Int) (wrap64 (x9_1 + 1))) else (none)) = some r := by rw [if_pos rfl] at H; exact H
       clear H
       have H := H1
       clear H1
       by_cases c9 : x3_1.length < 17592186044416
       ·rw [if_pos c9] at H
        have LMc9 := Aside0.mk c9
        clear c9
        obtain ⟨y104, hy104⟩ : ∃ y_ : List Int, y_ = (x3_1 ++ [x9_1]) := ⟨_, rfl⟩
        replace H : (spec_tyBalls.l0 k1 y104 l0_2 (l0_2.length : Int) (wrap64 (x9_1 + 1))) = some r := rH hy104 H
        have Ny104 := Aside0.mk hy104
        clear hy104
        have H' := Aside0.mk H
        clear H
        have p102 : 0 ≤ (x9_1 : Int) := of_decide_eq_true (by first | (with_reducible assumption) | assumption)
        have q102 : x9_1 < (l0_2.length : Int) := of_decide_eq_true (by first | (with_reducible assumption) | assumption)
        obtain ⟨ad102, e102, hx102_0⟩ := Kd.at_int HR0_2.out x9_1 p102 q102
        cases e102
        (try replace hx102_0 := (HB.out.cell (World.block_lt_of_cell? w _ hx102_0)).trans hx102_0)
        replace p102 := eq_true p102
        replace q102 := eq_true q102
        go_wp2_with (first | ((with_reducible refine gate_callee (f := 70) rfl ?_); refine gcall (some 15) Tryd.func70 #[.int .u8 (rd l0_2 x9_1)] rfl ?_; (with_reducible refine (spec_tyBall.calls (rd l0_2 x9_1) true _ A7.out).mono ?_); rintro e w' ⟨rfl, ⟨nd, rfl⟩⟩; refine ⟨_, rfl, ?_⟩) | ((with_reducible refine gate_builtin (b := .append) (xs := #[.tmp 16, .tmp 18]) rfl ?_); at_builtin; refine Kd.R_append (Kd.int .i64) (w0 := w) w.heap.size rfl (.tmp 16) (.tmp 18) 31 3 (.int .i64 0) 8 rfl Tryd.underlying31 info3 rfl (by decide) (by omega) u3 x3_1 x9_1 [.int .i64 x9_1] (fun _ => True) (fun _ => False) rfl rfl ?aP (fun _ hk => hk.elim) ?aF ?aO ?aB ?aS ?aL ?_; (case aP => exact rfl); (case aB => exact (bel HB)); (case aF => exact (fun _ _ => trivial)); (case aO => exact (rch HO_3)); (case aS => exact (below_size (bel HB))); (case aL => have := LMc9.out; omega); intro v105 w10 ho hb hg hat; rw [← Ny104.out] at ho; have n0_ := Aside0.mk (blk_grown (g := gb101) (o := .cells #[.int .i64 a0_0, .int .i64 a0_1, .slice (some ad102) l0_2.length c0_2] 40 (0, 0)) blc hg (Kd.R_ne HO_3.out BK101.out (by decide))); have n1_ := Aside0.mk (hb); have n2_ := Aside0.mk (ho); clear BK101; clear HB; clear HO_3; have BK101 := n0_; have HB := n1_; have HO106 := n2_; clear n0_ n1_ n2_; clear ho hb hg hat))
        go_roundg k1
        case measure => have := HK1.out; omega
        case rel => exact ⟨(y104), (wrap64 (x9_1 + 1)), (by first | rfl | (simp; done) | (simp [*]; done)), H', ⟨by have := HK1.out; omega⟩, ⟨rch HO106⟩, ⟨blc⟩, ⟨bel HB⟩⟩
       ·rw [if_neg c9] at H
        exact absurd H (by simp)
      ·replace c8 := Bool.eq_false_iff.mpr c8
       subst c8
       have H1 : (spec_tyBalls.l0 k1 x3_1 l0_2 (l0_2.length : Int) (wrap64 (x9_1 + 1))) = some r := by rw [if_neg (show ¬ (false = true) by decide)] at H; exact H
       clear H
       have H := H1
       clear H1
       have H' := Aside0.mk H
       clear H
       have p102 : 0 ≤ (x9_1 : Int) := of_decide_eq_true (by first | (with_reducible assumption) | assumption)
       have q102 : x9_1 < (l0_2.length : Int) := of_decide_eq_true (by first | (with_reducible assumption) | assumption)
       obtain ⟨ad102, e102, hx102_0⟩ := Kd.at_int HR0_2.out x9_1 p102 q102
       cases e102
       (try replace hx102_0 := (HB.out.cell (World.block_lt_of_cell? w _ hx102_0)).trans hx102_0)
       replace p102 := eq_true p102
       replace q102 := eq_true q102
       go_wp2_with (first | ((with_reducible refine gate_callee (f := 70) rfl ?_); refine gcall (some 15) Tryd.func70 #[.int .u8 (rd l0_2 x9_1)] rfl ?_; (with_reducible refine (spec_tyBall.calls (rd l0_2 x9_1) false _ A7.out).mono ?_); rintro e w' ⟨rfl, ⟨nd, rfl⟩⟩; refine ⟨_, rfl, ?_⟩))
       go_roundg k1
       case measure => have := HK1.out; omega
       case rel => exact ⟨(x3_1), (wrap64 (x9_1 + 1)), (by first | rfl | (simp; done) | (simp [*]; done)), H', ⟨by have := HK1.out; omega⟩, ⟨rch HO_3⟩, ⟨blc⟩, ⟨bel HB⟩⟩
     ·rw [if_neg c6] at H
      exact absurd H (by simp)
    ·rw [if_neg c5] at H
     exact absurd H (by simp)
   ·rw [if_neg c4] at H
    have c4b0 : decide (x9_1 < (l0_2.length : Int)) = false := decide_eq_false c4
    clear c4
    obtain rfl := Option.some.inj H
    go_wp2
    go_ret
    exact ⟨_, by first | rfl | (simp [errW_none, errW_some] <;> rfl) | (simp [*, errW_none, errW_some] <;> rfl), rch HO_3, bel HB⟩
end Go.Proofs.YtmefnfhghfemgaaDoor.Q
end
section
namespace Go.Proofs.YtmefnfhghfemgaaDoor.Q
open Go.RowKit Go.Proofs.YtmefnfhghfemgaaDoorW.PrintWords Go.Proofs.YtmefnfhghfemgaaDoorW.PrintLast Go.Proofs.YtmefnfhghfemgaaDoorW.PrintMore
attribute [local go_sem] max2_int min2_int max_two min_two max_three min_three max_four min_four
set_option linter.unusedVariables false
set_option linter.unusedSimpArgs false
def spec_buIs.f (k : Nat) (a0_0 : Int) (a0_1 : Int) (l0_2 : List Int) : Option (Bool) := (spec_tyBalls.f k a0_0 a0_1 l0_2).bind fun t102 => ((spec_skPieces.f k a0_0 a0_1 l0_2).bind fun bt105 => ((spec_l1In.f (t102.length : Int) 1 10).bind fun t109 => (if t109 = true then (some (bt105.2 == 1)) else (some false))))
set_option maxHeartbeats 8000000 in
set_option maxRecDepth 100000 in
theorem spec_buIs.calls (k : Nat) (a0_0 : Int) (a0_1 : Int) (A0_2 : Option Addr) (c0_2 : Nat) (l0_2 : List Int) (r : Bool) (w : World) (hr0_2 : Kd.C (Kd.int .u8) w A0_2 l0_2.length l0_2) (hc0_2 : l0_2.length ≤ c0_2) (h : spec_buIs.f k a0_0 a0_1 l0_2 = some r) :
  Calls Tryd.prog 61 #[.agg #[.int .i64 a0_0, .int .i64 a0_1, .slice A0_2 l0_2.length c0_2]] w fun e w' => e = .returned (.bool r) ∧ Below w.heap.size w w' := by
 have hu40 := Tryd.underlying40
 have HR0_2 := Aside0.mk hr0_2
 have HC0_2 := Aside0.mk hc0_2
 clear hr0_2 hc0_2
 have HB := Aside0.mk (Below.refl w.heap.size w)
 have H : ((spec_tyBalls.f k a0_0 a0_1 l0_2).bind fun t102 => ((spec_skPieces.f k a0_0 a0_1 l0_2).bind fun bt105 => ((spec_l1In.f (t102.length : Int) 1 10).bind fun t109 => (if t109 = true then (some (bt105.2 == 1)) else (some false))))) = some r := h
 clear h
 replace H := Option.bind_eq_some_iff.mp H
 obtain ⟨t102, A20, H⟩ := H
 replace H : ((spec_skPieces.f k a0_0 a0_1 l0_2).bind fun bt105 => ((spec_l1In.f (t102.length : Int) 1 10).bind fun t109 => (if t109 = true then (some (bt105.2 == 1)) else (some false)))) = some r := H
 have A2 := Aside0.mk A20
 clear A20
 replace H := Option.bind_eq_some_iff.mp H
 obtain ⟨⟨t105, t108⟩, A30, H⟩ := H
 replace H : ((spec_l1In.f (t102.length : Int) 1 10).bind fun t109 => (if t109 = true then (some (t108 == 1)) else (some false))) = some r := H
 have A3 := Aside0.mk A30
 clear A30
 replace H := Option.bind_eq_some_iff.mp H
 obtain ⟨t109, A40, H⟩ := H
 replace H : (if t109 = true then (some (t108 == 1)) else (some false)) = some r := H
 have A4 := Aside0.mk A40
 clear A40
 by_cases c5 : t109 = true
 ·subst c5
  have H1 : (some (t108 == 1)) = some r := by rw [if_pos rfl] at H; exact H
  clear H
  have H := H1
  clear H1
  obtain rfl := Option.some.inj H
  go_enter Tryd.func61, Tryd.ntmps61
  go_wp2_with (first | ((with_reducible refine gate_dst (N := 1) rfl ?_); refine boxE (N := 1) (cs := #[.int .i64 a0_0, .int .i64 a0_1, .slice A0_2 l0_2.length c0_2]) (t := 40) ?_; intro gb101 hg w6 hbox hb; have n0_ := Aside0.mk (below_step (bel HB) hb); have n1_ := Aside0.mk (hbox); have n2_ := Aside0.mk (gsz hg (bel HB)); have n3_ := Aside0.mk (gsz hg (bel HB)); clear HB; have HB := n0_; have BK101 := n1_; have GW101 := n2_; have GE101 := n3_; clear n0_ n1_ n2_ n3_; clear hb hbox hg; have hcz7_0 : w6.cell? ⟨gb101, 0, none⟩ = some (.int .i64 a0_0) := (blk_cell BK101.out 0).trans rfl; have hcz7_1 : w6.cell? ⟨gb101, 1, none⟩ = some (.int .i64 a0_1) := (blk_cell BK101.out 1).trans rfl; have hcz7_2 : w6.cell? ⟨gb101, 2, none⟩ = some (.slice A0_2 l0_2.length c0_2) := (blk_cell BK101.out 2).trans rfl; have hfz7_0 := blk_frozen BK101.out 0; have hfz7_1 := blk_frozen BK101.out 1; have hfz7_2 := blk_frozen BK101.out 2) | ((with_reducible refine gate_callee (f := 34) rfl ?_); refine gcall (some 7) Tryd.func34 #[.agg #[.int .i64 a0_0, .int .i64 a0_1, .slice A0_2 l0_2.length c0_2]] rfl ?_; (with_reducible refine (spec_tyBalls.calls k a0_0 a0_1 _ _ l0_2 t102 _ ?side1 ?side2 A2.out).mono ?_); (case side1 => repeat (first | exact (Kd.C_below HR0_2.out HB.out) | (with_reducible refine Kd.C_alloc ?_ _) | (with_reducible refine Kd.C_drewN ?_ _) | (with_reducible refine Kd.C_drew ?_))); (case side2 => exact HC0_2.out); rintro e w8 ⟨v103, rfl, ho0, hb⟩; refine ⟨_, rfl, ?_⟩; have n0_ := Aside0.mk (Kd.R_lower ho0 (below_size (bel HB))); have n1_ := Aside0.mk (blk_below (g := gb101) (o := .cells #[.int .i64 a0_0, .int .i64 a0_1, .slice A0_2 l0_2.length c0_2] 40 (0, 0)) blc hb); have n2_ := Aside0.mk (below_step (bel HB) hb); clear BK101; clear HB; have HO104 := n0_; have BK101 := n1_; have HB := n2_; clear n0_ n1_ n2_; (try clear hb); (try clear hb2); (try clear hk); (try clear hi); (try clear ho0); obtain ⟨Ao9, co9, eo9⟩ := Kd.R_slice HO104.out; subst eo9; have hcz10_0 : w8.cell? ⟨gb101, 0, none⟩ = some (.int .i64 a0_0) := (blk_cell BK101.out 0).trans rfl; have hcz10_1 : w8.cell? ⟨gb101, 1, none⟩ = some (.int .i64 a0_1) := (blk_cell BK101.out 1).trans rfl; have hcz10_2 : w8.cell? ⟨gb101, 2, none⟩ = some (.slice A0_2 l0_2.length c0_2) := (blk_cell BK101.out 2).trans rfl; have hfz10_0 := blk_frozen BK101.out 0; have hfz10_1 := blk_frozen BK101.out 1; have hfz10_2 := blk_frozen BK101.out 2) | ((with_reducible refine gate_callee (f := 47) rfl ?_); refine gcall (some 11) Tryd.func47 #[.agg #[.int .i64 a0_0, .int .i64 a0_1, .slice A0_2 l0_2.length c0_2]] rfl ?_; (with_reducible refine (spec_skPieces.calls k a0_0 a0_1 _ _ l0_2 t105 t108 _ ?side1 ?side2 A3.out).mono ?_); (case side1 => repeat (first | exact (Kd.C_below HR0_2.out HB.out) | (with_reducible refine Kd.C_alloc ?_ _) | (with_reducible refine Kd.C_drewN ?_ _) | (with_reducible refine Kd.C_drew ?_))); (case side2 => exact HC0_2.out); rintro e w11 ⟨v106, rfl, ho0, hb⟩; refine ⟨_, rfl, ?_⟩; have n0_ := Aside0.mk (Kd.R_elder' (rch HO104) (Kd.R_base ho0) hb); have n1_ := Aside0.mk (Kd.R_lower (Kd.R_new' ho0 (Kd.R_lt (rch HO104))) (below_size (bel HB))); have n2_ := Aside0.mk (blk_below (g := gb101) (o := .cells #[.int .i64 a0_0, .int .i64 a0_1, .slice A0_2 l0_2.length c0_2] 40 (0, 0)) blc hb); have n3_ := Aside0.mk (below_step (bel HB) hb); clear HO104; clear BK101; clear HB; have HO104 := n0_; have HO107 := n1_; have BK101 := n2_; have HB := n3_; clear n0_ n1_ n2_ n3_; (try clear hb); (try clear hb2); (try clear hk); (try clear hi); (try clear ho0)) | ((with_reducible refine gate_callee (f := 42) rfl ?_); refine gcall (some 15) Tryd.func42 #[.int .i64 (t102.length : Int), .int .i64 1, .int .i64 10] rfl ?_; (with_reducible refine (spec_l1In.calls (t102.length : Int) 1 10 true _ A4.out).mono ?_); rintro e w' ⟨rfl, ⟨nd, rfl⟩⟩; refine ⟨_, rfl, ?_⟩))
  go_ret
  exact ⟨by first | rfl | (simp [errW_none, errW_some] <;> rfl) | (simp [*, errW_none, errW_some] <;> rfl), bel HB⟩
 ·replace c5 := Bool.eq_false_iff.mpr c5
  subst c5
  have H1 : (some false) = some r := by rw [if_neg (show ¬ (false = true) by decide)] at H; exact H
  clear H
  have H := H1
  clear H1
  obtain rfl := Option.some.inj H
  go_enter Tryd.func61, Tryd.ntmps61
  go_wp2_with (first | ((with_reducible refine gate_dst (N := 1) rfl ?_); refine boxE (N := 1) (cs := #[.int .i64 a0_0, .int .i64 a0_1, .slice A0_2 l0_2.length c0_2]) (t := 40) ?_; intro gb101 hg w12 hbox hb; have n0_ := Aside0.mk (below_step (bel HB) hb); have n1_ := Aside0.mk (hbox); have n2_ := Aside0.mk (gsz hg (bel HB)); have n3_ := Aside0.mk (gsz hg (bel HB)); clear HB; have HB := n0_; have BK101 := n1_; have GW101 := n2_; have GE101 := n3_; clear n0_ n1_ n2_ n3_; clear hb hbox hg; have hcz13_0 : w12.cell? ⟨gb101, 0, none⟩ = some (.int .i64 a0_0) := (blk_cell BK101.out 0).trans rfl; have hcz13_1 : w12.cell? ⟨gb101, 1, none⟩ = some (.int .i64 a0_1) := (blk_cell BK101.out 1).trans rfl; have hcz13_2 : w12.cell? ⟨gb101, 2, none⟩ = some (.slice A0_2 l0_2.length c0_2) := (blk_cell BK101.out 2).trans rfl; have hfz13_0 := blk_frozen BK101.out 0; have hfz13_1 := blk_frozen BK101.out 1; have hfz13_2 := blk_frozen BK101.out 2) | ((with_reducible refine gate_callee (f := 34) rfl ?_); refine gcall (some 7) Tryd.func34 #[.agg #[.int .i64 a0_0, .int .i64 a0_1, .slice A0_2 l0_2.length c0_2]] rfl ?_; (with_reducible refine (spec_tyBalls.calls k a0_0 a0_1 _ _ l0_2 t102 _ ?side1 ?side2 A2.out).mono ?_); (case side1 => repeat (first | exact (Kd.C_below HR0_2.out HB.out) | (with_reducible refine Kd.C_alloc ?_ _) | (with_reducible refine Kd.C_drewN ?_ _) | (with_reducible refine Kd.C_drew ?_))); (case side2 => exact HC0_2.out); rintro e w14 ⟨v103, rfl, ho0, hb⟩; refine ⟨_, rfl, ?_⟩; have n0_ := Aside0.mk (Kd.R_lower ho0 (below_size (bel HB))); have n1_ := Aside0.mk (blk_below (g := gb101) (o := .cells #[.int .i64 a0_0, .int .i64 a0_1, .slice A0_2 l0_2.length c0_2] 40 (0, 0)) blc hb); have n2_ := Aside0.mk (below_step (bel HB) hb); clear BK101; clear HB; have HO104 := n0_; have BK101 := n1_; have HB := n2_; clear n0_ n1_ n2_; (try clear hb); (try clear hb2); (try clear hk); (try clear hi); (try clear ho0); obtain ⟨Ao15, co15, eo15⟩ := Kd.R_slice HO104.out; subst eo15; have hcz16_0 : w14.cell? ⟨gb101, 0, none⟩ = some (.int .i64 a0_0) := (blk_cell BK101.out 0).trans rfl; have hcz16_1 : w14.cell? ⟨gb101, 1, none⟩ = some (.int .i64 a0_1) := (blk_cell BK101.out 1).trans rfl; have hcz16_2 : w14.cell? ⟨gb101, 2, none⟩ = some (.slice A0_2 l0_2.length c0_2) := (blk_cell BK101.out 2).trans rfl; have hfz16_0 := blk_frozen BK101.out 0; have hfz16_1 := blk_frozen BK101.out 1; have hfz16_2 := blk_frozen BK101.out 2) | ((with_reducible refine gate_callee (f := 47) rfl ?_); refine gcall (some 11) Tryd.func47 #[.agg #[.int .i64 a0_0, .int .i64 a0_1, .slice A0_2 l0_2.length c0_2]] rfl ?_; (with_reducible refine (spec_skPieces.calls k a0_0 a0_1 _ _ l0_2 t105 t108 _ ?side1 ?side2 A3.out).mono ?_); (case side1 => repeat (first | exact (Kd.C_below HR0_2.out HB.out) | (with_reducible refine Kd.C_alloc ?_ _) | (with_reducible refine Kd.C_drewN ?_ _) | (with_reducible refine Kd.C_drew ?_))); (case side2 => exact HC0_2.out); rintro e w17 ⟨v106, rfl, ho0, hb⟩; refine ⟨_, rfl, ?_⟩; have n0_ := Aside0.mk (Kd.R_elder' (rch HO104) (Kd.R_base ho0) hb); have n1_ := Aside0.mk (Kd.R_lower (Kd.R_new' ho0 (Kd.R_lt (rch HO104))) (below_size (bel HB))); have n2_ := Aside0.mk (blk_below (g := gb101) (o := .cells #[.int .i64 a0_0, .int .i64 a0_1, .slice A0_2 l0_2.length c0_2] 40 (0, 0)) blc hb); have n3_ := Aside0.mk (below_step (bel HB) hb); clear HO104; clear BK101; clear HB; have HO104 := n0_; have HO107 := n1_; have BK101 := n2_; have HB := n3_; clear n0_ n1_ n2_ n3_; (try clear hb); (try clear hb2); (try clear hk); (try clear hi); (try clear ho0)) | ((with_reducible refine gate_callee (f := 42) rfl ?_); refine gcall (some 15) Tryd.func42 #[.int .i64 (t102.length : Int), .int .i64 1, .int .i64 10] rfl ?_; (with_reducible refine (spec_l1In.calls (t102.length : Int) 1 10 false _ A4.out).mono ?_); rintro e w' ⟨rfl, ⟨nd, rfl⟩⟩; refine ⟨_, rfl, ?_⟩))
  go_ret
  exact ⟨by first | rfl | (simp [errW_none, errW_some] <;> rfl) | (simp [*, errW_none, errW_some] <;> rfl), bel HB⟩
def spec_buRead.l0 : Nat → List Int → Int → Int → Int → Int → List Int → Option (Int × Int × List Int × Bool)
 | 0, _, _, _, _, _, _ => none
 | k + 1, x17, x18, x19, x109000, x109001, x109002 => if x19 < x18 then (if 0 ≤ x19 then (if x19 < (x17.length : Int) then (if (rd x17 x19) = 46 then (spec_buRead.l0 k x17 x18 (wrap64 (x19 + 1)) x109000 x109001 x109002) else (if (rd x17 x19) = 111 then (spec_buRead.l0 k x17 x18 (wrap64 (x19 + 1)) x109000 x109001 x109002) else (some (x109000, x109001, x109002, false)))) else (none)) else (none)) else ((spec_buIs.f k x109000 x109001 x109002).bind fun t110 => (some (x109000, x109001, x109002, t110)))
def spec_buRead.f (k : Nat) (a0 : ByteArray) : Option (Int × Int × List Int × Bool) := (spec_tyRead.f k a0).bind fun bt102 => (if bt102.2.2.2 = true then (spec_buRead.l0 k bt102.2.2.1 (bt102.2.2.1.length : Int) 0 bt102.1 bt102.2.1 bt102.2.2.1) else (some (bt102.1, bt102.2.1, bt102.2.2.1, false)))
set_option maxHeartbeats 8000000 in
set_option maxRecDepth 100000 in
theorem spec_buRead.calls (k : Nat) (a0 : ByteArray) (r1 : Int) (r2 : Int) (r3 : List Int) (r4 : Bool) (w : World) (h : spec_buRead.f k a0 = some (r1, r2, r3, r4)) :
  Calls Tryd.prog 29 #[.string a0] w fun e w' => ∃ v2_ : Value, e = .returned (.tuple #[.agg #[.int .i64 r1, .int .i64 r2, v2_], .bool r4]) ∧ Kd.R (Kd.int .u8) 5 w' w.heap.size (fun _ => True) v2_ r3 ∧ Below w.heap.size w w' := by
 have hu40 := Tryd.underlying40
 have HB := Aside0.mk (Below.refl w.heap.size w)
 have H : ((spec_tyRead.f k a0).bind fun bt102 => (if bt102.2.2.2 = true then (spec_buRead.l0 k bt102.2.2.1 (bt102.2.2.1.length : Int) 0 bt102.1 bt102.2.1 bt102.2.2.1) else (some (bt102.1, bt102.2.1, bt102.2.2.1, false)))) = some (r1, r2, r3, r4) := h
 clear h
 replace H := Option.bind_eq_some_iff.mp H
 obtain ⟨⟨t102, t103, t104, t107⟩, A20, H⟩ := H
 replace H : (if t107 = true then (spec_buRead.l0 k t104 (t104.length : Int) 0 t102 t103 t104) else (some (t102, t103, t104, false))) = some (r1, r2, r3, r4) := H
 have A2 := Aside0.mk A20
 clear A20
 by_cases c3 : t107 = true
 ·subst c3
  have H1 : (spec_buRead.l0 k t104 (t104.length : Int) 0 t102 t103 t104) = some (r1, r2, r3, r4) := by rw [if_pos rfl] at H; exact H
  clear H
  have H := H1
  clear H1
  have H' := Aside0.mk H
  clear H
  go_enter Tryd.func29, Tryd.ntmps29
  go_wp2_with (first | ((with_reducible refine gate_dst (N := 2) rfl ?_); refine boxE (N := 2) (cs := #[.int .i64 0, .int .i64 0, .slice none 0 0]) (t := 40) ?_; intro gb101 hg w4 hbox hb; have n0_ := Aside0.mk (below_step (bel HB) hb); have n1_ := Aside0.mk (hbox); have n2_ := Aside0.mk (gsz hg (bel HB)); have n3_ := Aside0.mk (gsz hg (bel HB)); clear HB; have HB := n0_; have BK101 := n1_; have GW101 := n2_; have GE101 := n3_; clear n0_ n1_ n2_ n3_; clear hb hbox hg) | ((with_reducible refine gate_callee (f := 46) rfl ?_); refine gcall (some 10) Tryd.func46 #[.string a0] rfl ?_; (with_reducible refine (spec_tyRead.calls k a0 t102 t103 t104 true _ A2.out).mono ?_); rintro e w5 ⟨v105, rfl, ho0, hb⟩; refine ⟨_, rfl, ?_⟩; have n0_ := Aside0.mk (Kd.R_lower ho0 (below_size (bel HB))); have n1_ := Aside0.mk (blk_below (g := gb101) (o := .cells #[.int .i64 0, .int .i64 0, .slice none 0 0] 40 (0, 0)) blc hb); have n2_ := Aside0.mk (below_step (bel HB) hb); clear BK101; clear HB; have HO106 := n0_; have BK101 := n1_; have HB := n2_; clear n0_ n1_ n2_; (try clear hb); (try clear hb2); (try clear hk); (try clear hi); (try clear ho0)) | ((with_reducible refine gate_dst (N := 4) rfl ?_); refine boxE (N := 4) (cs := #[.int .i64 0, .int .i64 0, .slice none 0 0]) (t := 40) ?_; intro gb108 hg w6 hbox hb; have n0_ := Aside0.mk (Kd.R_below (rch HO106) hb); have n1_ := Aside0.mk (blk_below (g := gb101) (o := .cells #[.int .i64 0, .int .i64 0, .slice none 0 0] 40 (0, 0)) blc hb); have n2_ := Aside0.mk (below_step (bel HB) hb); have n3_ := Aside0.mk (hbox); have n4_ := Aside0.mk (gsz hg (bel HB)); have n5_ := Aside0.mk (gsz hg (bel HB)); have n6_ := Aside0.mk ((by rw [hg]; exact Nat.ne_of_lt (blk_lt (g := gb101) (o := .cells #[.int .i64 0, .int .i64 0, .slice none 0 0] 40 (0, 0)) blc) : gb101 ≠ gb108)); have n7_ := Aside0.mk ((by rw [hg]; exact Nat.ne_of_gt (blk_lt (g := gb101) (o := .cells #[.int .i64 0, .int .i64 0, .slice none 0 0] 40 (0, 0)) blc) : gb108 ≠ gb101)); clear HO106; clear BK101; clear HB; have HO106 := n0_; have BK101 := n1_; have HB := n2_; have BK108 := n3_; have GW108 := n4_; have GE108 := n5_; have NB101_108 := n6_; have NB108_101 := n7_; clear n0_ n1_ n2_ n3_ n4_ n5_ n6_ n7_; clear hb hbox hg; have hnb7 := NB108_101.out; have hnc7 := NB101_108.out; have hcz8_0 : w6.cell? ⟨gb108, 0, none⟩ = some (.int .i64 0) := (blk_cell BK108.out 0).trans rfl; have hcz8_1 : w6.cell? ⟨gb108, 1, none⟩ = some (.int .i64 0) := (blk_cell BK108.out 1).trans rfl; have hcz8_2 : w6.cell? ⟨gb108, 2, none⟩ = some (.slice none 0 0) := (blk_cell BK108.out 2).trans rfl; have hfz8_0 := blk_frozen BK108.out 0; have hfz8_1 := blk_frozen BK108.out 1; have hfz8_2 := blk_frozen BK108.out 2; obtain ⟨Ao9, co9, eo9⟩ := Kd.R_slice HO106.out; subst eo9))
  go_loopg [19] k (fun kq v19 w' => ∃ (x19_1 : Int) (x102000_1 : Int) (x102001_1 : Int), v19 = .int .i64 x19_1 ∧ Aside0 (spec_buRead.l0 kq t104 (t104.length : Int) x19_1 t102 t103 t104 = some (r1, r2, r3, r4)) ∧ Aside0 (kq ≤ k) ∧ Aside0 (Kd.R (Kd.int .u8) 5 w' w.heap.size (fun _ => True) (.slice Ao9 t104.length co9) t104) ∧ Aside0 (Kd.R (Kd.int .u8) 5 w' w.heap.size (fun _ => True) (.slice Ao9 t104.length co9) t104) ∧ Aside0 (w'.heap[gb101]? = some (.cells #[.int .i64 x102000_1, .int .i64 x102001_1, (.slice none 0 0)] 40 (0, 0))) ∧ Aside0 (w'.heap[gb108]? = some (.cells #[.int .i64 t102, .int .i64 t103, (.slice Ao9 t104.length co9)] 40 (0, 0))) ∧ Aside0 (Below w.heap.size w w'))
  case atStart => exact ⟨(0), (0), (0), (by first | rfl | (simp; done) | (simp [*]; done)), H', ⟨Nat.le_refl _⟩, ⟨by (with_reducible repeat (first | apply Kd.R_alloc | apply Kd.R_drewN | apply Kd.R_drew)); exact Kd.R_mono (Kd.R_far (p := ⟨gb108, 2, none⟩) (Kd.R_far (p := ⟨gb108, 1, none⟩) (Kd.R_far (p := ⟨gb108, 0, none⟩) (Kd.R_types HO106.out BK108.out (by decide)) (fun _ hk => hk.2) (.int .i64 t102)) (fun _ hk => hk.2) (.int .i64 t103)) (fun _ hk => hk.2) (.slice Ao9 t104.length co9)) (fun _ hk => trivial)⟩, ⟨by (with_reducible repeat (first | apply Kd.R_alloc | apply Kd.R_drewN | apply Kd.R_drew)); exact Kd.R_mono (Kd.R_far (p := ⟨gb108, 2, none⟩) (Kd.R_far (p := ⟨gb108, 1, none⟩) (Kd.R_far (p := ⟨gb108, 0, none⟩) (Kd.R_types HO106.out BK108.out (by decide)) (fun _ hk => hk.2) (.int .i64 t102)) (fun _ hk => hk.2) (.int .i64 t103)) (fun _ hk => hk.2) (.slice Ao9 t104.length co9)) (fun _ hk => trivial)⟩, ⟨by (with_reducible repeat (first | refine blk_drewN ?_ _ | refine blk_drew ?_ | refine blk_alloc ?_ _)); refine blk_far ?_ NB101_108.out _; (with_reducible repeat (first | refine blk_drewN ?_ _ | refine blk_drew ?_ | refine blk_alloc ?_ _)); refine blk_far ?_ NB101_108.out _; (with_reducible repeat (first | refine blk_drewN ?_ _ | refine blk_drew ?_ | refine blk_alloc ?_ _)); refine blk_far ?_ NB101_108.out _; exact blc⟩, ⟨by (with_reducible repeat (first | refine blk_drewN ?_ _ | refine blk_drew ?_ | refine blk_alloc ?_ _)); refine blk_put (cs := #[.int .i64 t102, .int .i64 t103, .slice none 0 0]) ?_ 2 _ rfl; (with_reducible repeat (first | refine blk_drewN ?_ _ | refine blk_drew ?_ | refine blk_alloc ?_ _)); refine blk_put (cs := #[.int .i64 t102, .int .i64 0, .slice none 0 0]) ?_ 1 _ rfl; (with_reducible repeat (first | refine blk_drewN ?_ _ | refine blk_drew ?_ | refine blk_alloc ?_ _)); refine blk_put (cs := #[.int .i64 0, .int .i64 0, .slice none 0 0]) ?_ 0 _ rfl; exact blc⟩, ⟨bel HB⟩⟩
  case round =>
   clear H'
   try clear c2
   try clear p2
   try clear c3
   try clear c4
   try clear c7
   try clear hcz8_0
   try clear hcz8_1
   try clear hcz8_2
   try clear hfz8_0
   try clear hfz8_1
   try clear hfz8_2
   obtain ⟨x19_1, x102000_1, x102001_1, rfl, HA, HK1, HO_17, HO_109002, BK101, BK108, HB⟩ := hrel
   cases gk with
   | zero => exact absurd HA.out (by simp [spec_buRead.l0])
   | succ k1 =>
    have H := HA.out
    clear HA
    simp only [spec_buRead.l0] at H
    by_cases c10 : x19_1 < (t104.length : Int)
    ·rw [if_pos c10] at H
     have c10b0 : decide (x19_1 < (t104.length : Int)) = true := decide_eq_true c10
     clear c10
     by_cases c11 : 0 ≤ x19_1
     ·rw [if_pos c11] at H
      have c11b0 : decide (0 ≤ x19_1) = true := decide_eq_true c11
      clear c11
      by_cases c12 : x19_1 < (t104.length : Int)
      ·rw [if_pos c12] at H
       have c12b0 : decide (x19_1 < (t104.length : Int)) = true := decide_eq_true c12
       clear c12
       by_cases c13 : (rd t104 x19_1) = 46
       ·rw [if_pos c13] at H
        have c13b0 : ((rd t104 x19_1) == 46) = true := beq_iff_eq.mpr c13
        have c13b1 : ((rd t104 x19_1) != 46) = false := bne_eq_false_iff_eq.mpr c13
        clear c13
        have H' := Aside0.mk H
        clear H
        have p109 : 0 ≤ (x19_1 : Int) := of_decide_eq_true (by first | (with_reducible assumption) | assumption)
        have q109 : x19_1 < (t104.length : Int) := of_decide_eq_true (by first | (with_reducible assumption) | assumption)
        obtain ⟨ad109, e109, hx109_0⟩ := Kd.at_int (Kd.R_reads' HO_17.out).2.2 x19_1 p109 q109
        cases e109
        replace p109 := eq_true p109
        replace q109 := eq_true q109
        go_wp2
        go_roundg k1
        case measure => have := HK1.out; omega
        case rel => exact ⟨(wrap64 (x19_1 + 1)), (x102000_1), (x102001_1), (by first | rfl | (simp; done) | (simp [*]; done)), H', ⟨by have := HK1.out; omega⟩, ⟨rch HO_17⟩, ⟨rch HO_109002⟩, ⟨blc⟩, ⟨blc⟩, ⟨bel HB⟩⟩
       ·rw [if_neg c13] at H
        have c13b0 : ((rd t104 x19_1) == 46) = false := beq_eq_false_iff_ne.mpr c13
        have c13b1 : ((rd t104 x19_1) != 46) = true := bne_iff_ne.mpr c13
        by_cases c14 : (rd t104 x19_1) = 111
        ·rw [if_pos c14] at H
         have c14b0 : ((rd t104 x19_1) == 111) = true := beq_iff_eq.mpr c14
         have c14b1 : ((rd t104 x19_1) != 111) = false := bne_eq_false_iff_eq.mpr c14
         clear c14
         have H' := Aside0.mk H
         clear H
         have p109 : 0 ≤ (x19_1 : Int) := of_decide_eq_true (by first | (with_reducible assumption) | assumption)
         have q109 : x19_1 < (t104.length : Int) := of_decide_eq_true (by first | (with_reducible assumption) | assumption)
         obtain ⟨ad109, e109, hx109_0⟩ := Kd.at_int (Kd.R_reads' HO_17.out).2.2 x19_1 p109 q109
         cases e109
         replace p109 := eq_true p109
         replace q109 := eq_true q109
         go_wp2
         go_roundg k1
         case measure => have := HK1.out; omega
         case rel => exact ⟨(wrap64 (x19_1 + 1)), (x102000_1), (x102001_1), (by first | rfl | (simp; done) | (simp [*]; done)), H', ⟨by have := HK1.out; omega⟩, ⟨rch HO_17⟩, ⟨rch HO_109002⟩, ⟨blc⟩, ⟨blc⟩, ⟨bel HB⟩⟩
        ·rw [if_neg c14] at H
         have c14b0 : ((rd t104 x19_1) == 111) = false := beq_eq_false_iff_ne.mpr c14
         have c14b1 : ((rd t104 x19_1) != 111) = true := bne_iff_ne.mpr c14
         simp only [Option.some.injEq, Prod.mk.injEq] at H
         obtain ⟨rfl, rfl, rfl, rfl⟩ := H
         have p109 : 0 ≤ (x19_1 : Int) := of_decide_eq_true (by first | (with_reducible assumption) | assumption)
         have q109 : x19_1 < (t104.length : Int) := of_decide_eq_true (by first | (with_reducible assumption) | assumption)
         obtain ⟨ad109, e109, hx109_0⟩ := Kd.at_int (Kd.R_reads' HO_17.out).2.2 x19_1 p109 q109
         cases e109
         replace p109 := eq_true p109
         replace q109 := eq_true q109
         have hnb15 := NB108_101.out
         have hnc15 := NB101_108.out
         have hcz16_0 : wr.cell? ⟨gb108, 0, none⟩ = some (.int .i64 t102) := (blk_cell BK108.out 0).trans rfl
         have hcz16_1 : wr.cell? ⟨gb108, 1, none⟩ = some (.int .i64 t103) := (blk_cell BK108.out 1).trans rfl
         have hcz16_2 : wr.cell? ⟨gb108, 2, none⟩ = some (.slice (some ad109) t104.length co9) := (blk_cell BK108.out 2).trans rfl
         have hfz16_0 := blk_frozen BK108.out 0
         have hfz16_1 := blk_frozen BK108.out 1
         have hfz16_2 := blk_frozen BK108.out 2
         have hcz17_0 : wr.cell? ⟨gb101, 0, none⟩ = some (.int .i64 x102000_1) := (blk_cell BK101.out 0).trans rfl
         have hcz17_1 : wr.cell? ⟨gb101, 1, none⟩ = some (.int .i64 x102001_1) := (blk_cell BK101.out 1).trans rfl
         have hcz17_2 : wr.cell? ⟨gb101, 2, none⟩ = some (.slice none 0 0) := (blk_cell BK101.out 2).trans rfl
         have hfz17_0 := blk_frozen BK101.out 0
         have hfz17_1 := blk_frozen BK101.out 1
         have hfz17_2 := blk_frozen BK101.out 2
         go_wp2
         refine bodyPost_ret (results_ct rfl _ _ gb101 40 #[.int .i64 t102, .int .i64 t103, .slice (some ad109) t104.length co9] (0, 0) _ rfl (by (with_reducible repeat (first | refine blk_drewN ?_ _ | refine blk_drew ?_ | refine blk_alloc ?_ _)); refine blk_put (cs := #[.int .i64 t102, .int .i64 t103, .slice none 0 0]) ?_ 2 _ rfl; (with_reducible repeat (first | refine blk_drewN ?_ _ | refine blk_drew ?_ | refine blk_alloc ?_ _)); refine blk_put (cs := #[.int .i64 t102, .int .i64 x102001_1, .slice none 0 0]) ?_ 1 _ rfl; (with_reducible repeat (first | refine blk_drewN ?_ _ | refine blk_drew ?_ | refine blk_alloc ?_ _)); refine blk_put (cs := #[.int .i64 x102000_1, .int .i64 x102001_1, .slice none 0 0]) ?_ 0 _ rfl; exact blc) Tryd.underlying40 rfl (by kernel_rfl)) rfl ?_
         exact ⟨_, by first | rfl | (simp [errW_none, errW_some] <;> rfl) | (simp [*, errW_none, errW_some] <;> rfl), by (with_reducible repeat (first | apply Kd.R_alloc | apply Kd.R_drewN | apply Kd.R_drew)); exact Kd.R_mono (Kd.R_far (p := ⟨gb101, 2, none⟩) (Kd.R_far (p := ⟨gb101, 1, none⟩) (Kd.R_far (p := ⟨gb101, 0, none⟩) (Kd.R_types HO_109002.out BK101.out (by decide)) (fun _ hk => hk.2) (.int .i64 t102)) (fun _ hk => hk.2) (.int .i64 t103)) (fun _ hk => hk.2) (.slice (some ad109) t104.length co9)) (fun _ hk => trivial), bel HB⟩
      ·rw [if_neg c12] at H
       exact absurd H (by simp)
     ·rw [if_neg c11] at H
      exact absurd H (by simp)
    ·rw [if_neg c10] at H
     have c10b0 : decide (x19_1 < (t104.length : Int)) = false := decide_eq_false c10
     clear c10
     replace H := Option.bind_eq_some_iff.mp H
     obtain ⟨t110, A180, H⟩ := H
     replace H : (some (t102, t103, t104, t110)) = some (r1, r2, r3, r4) := H
     have A18 := Aside0.mk A180
     clear A180
     simp only [Option.some.injEq, Prod.mk.injEq] at H
     obtain ⟨rfl, rfl, rfl, rfl⟩ := H
     try go_wp2
     have n0_ := Aside0.mk (Kd.R_drew HO_17.out)
     have n1_ := Aside0.mk (Kd.R_drew HO_109002.out)
     have n2_ := Aside0.mk (blk_drew BK101.out)
     have n3_ := Aside0.mk (blk_drew BK108.out)
     have n4_ := Aside0.mk (below_drew1 HB.out)
     clear HO_17
     clear HO_109002
     clear BK101
     clear BK108
     clear HB
     have HO_17 := n0_
     have HO_109002 := n1_
     have BK101 := n2_
     have BK108 := n3_
     have HB := n4_
     clear n0_ n1_ n2_ n3_ n4_
     refine start_ (n := 5) (S := fun w' => w'.cell? ⟨gb108, 0, none⟩ = some (.int .i64 t102) ∧ w'.cell? ⟨gb108, 1, none⟩ = some (.int .i64 t103) ∧ w'.cell? ⟨gb108, 2, none⟩ = some (.slice Ao9 t104.length co9)) (ds := []) #[false, false, false, false, false] (by kernel_rfl) rfl rfl ⟨(blk_cell BK108.out 0).trans rfl, (blk_cell BK108.out 1).trans rfl, (blk_cell BK108.out 2).trans rfl⟩ (fun hHeld => ?_)
     generalize wr.drew = w19 at HO_17 HO_109002 BK101 BK108 HB hHeld ⊢
     refine take_ (i := 0) (N := some 31) (v := ?_) (a' := ?_) #[true, false, false, false, false] rfl rfl (by kernel_rfl) (fun _ _ _ h => h) (Or.inl ⟨by rfl, ?_⟩) hHeld ?_ ?_
     rotate_left
     ·rintro w' ⟨s0, s1, s2⟩
      go_simp
      with_reducible rfl
     rotate_left
     ·simp only [Act.put, List.setIfInBounds_toArray, List.set_cons_zero, List.set_cons_succ, i64_w, i32_w]
      rfl
     refine take_ (i := 1) (N := some 32) (v := ?_) (a' := ?_) #[true, true, false, false, false] rfl rfl (by kernel_rfl) (fun _ _ _ h => h) (Or.inl ⟨by rfl, ?_⟩) hHeld ?_ ?_
     rotate_left
     ·rintro w' ⟨s0, s1, s2⟩
      go_simp
      with_reducible rfl
     rotate_left
     ·simp only [Act.put, List.setIfInBounds_toArray, List.set_cons_zero, List.set_cons_succ, i64_w, i32_w]
      rfl
     refine one_ (i := 2) (N := some 33) #[true, true, true, false, false] rfl rfl (by kernel_rfl) (by decide) (fun K hK => ?_)
     refine goes_ Tryd.func61 (by kernel_rfl) rfl #[.agg #[.int .i64 t102, .int .i64 t103, .slice Ao9 t104.length co9]] (by rfl) rfl rfl (by (try simp only [List.map_toArray, List.map_cons, List.map_nil]); first | done | rfl | (simp only [List.length_drop, List.length_take]; rfl)) ?_
     with_reducible refine (spec_buIs.calls k1 t102 t103 _ _ t104 t110 _ ?side1 ?side2 A18.out).mono ?_
     (case side1 => repeat (first | exact (Kd.R_reads' HO_109002.out).2.2 | (with_reducible refine Kd.C_alloc ?_ _) | (with_reducible refine Kd.C_drewN ?_ _) | (with_reducible refine Kd.C_drew ?_)))
     (case side2 => exact (Kd.R_reads' HO_109002.out).2.1)
     rintro e w20 ⟨rfl, hb⟩
     refine ⟨_, rfl, ?_⟩
     have n0_ := Aside0.mk (Kd.R_below (rch HO_17) hb)
     have n1_ := Aside0.mk (Kd.R_below (rch HO_109002) hb)
     have n2_ := Aside0.mk (blk_below (g := gb101) (o := .cells #[.int .i64 x102000_1, .int .i64 x102001_1, .slice none 0 0] 40 (0, 0)) blc hb)
     have n3_ := Aside0.mk (blk_below (g := gb108) (o := .cells #[.int .i64 t102, .int .i64 t103, .slice Ao9 t104.length co9] 40 (0, 0)) blc hb)
     have n4_ := Aside0.mk (below_step (bel HB) hb)
     clear HO_17
     clear HO_109002
     clear BK101
     clear BK108
     clear HB
     have HO_17 := n0_
     have HO_109002 := n1_
     have BK101 := n2_
     have BK108 := n3_
     have HB := n4_
     clear n0_ n1_ n2_ n3_ n4_
     (try clear hb)
     (try clear hb2)
     (try clear hk)
     (try clear hi)
     refine hK.out _ _ ⟨(blk_cell BK108.out 0).trans rfl, (blk_cell BK108.out 1).trans rfl, (blk_cell BK108.out 2).trans rfl⟩ (fun hHeld => ?_)
     clear hK K
     refine norm_ (a' := ?_) ?_ ?_
     rotate_left
     ·show Act.put _ (some 33) _ = _
      simp only [Act.put, List.setIfInBounds_toArray, List.set_cons_zero, List.set_cons_succ, i64_w, i32_w]
      rfl
     refine one_ (i := 3) (N := none) #[true, true, true, true, false] rfl rfl (by kernel_rfl) (by decide) (fun K hK => ?_)
     have hs21 : w20.cell? ⟨gb101, 0, none⟩ = some (.int .i64 x102000_1) := (blk_cell BK101.out 0).trans rfl
     have hfs21 := blk_frozen BK101.out 0
     have hns21_1 := NB108_101.out
     have hms21_1 := NB101_108.out
     have hs22 : w20.cell? ⟨gb101, 1, none⟩ = some (.int .i64 x102001_1) := (blk_cell BK101.out 1).trans rfl
     have hfs22 := blk_frozen BK101.out 1
     have hns22_1 := NB108_101.out
     have hms22_1 := NB101_108.out
     have hs23 : w20.cell? ⟨gb101, 2, none⟩ = some (.slice none 0 0) := (blk_cell BK101.out 2).trans rfl
     have hfs23 := blk_frozen BK101.out 2
     have hns23_1 := NB108_101.out
     have hms23_1 := NB101_108.out
     refine skip_ (w1 := ?_) (by rfl) rfl ?_ ?_
     rotate_left
     ·go_simp
      rfl
     refine hK.out _ _ ⟨((cell_far (p := ⟨gb101, _, none⟩) NB108_101.out _).trans (((cell_far (p := ⟨gb101, _, none⟩) NB108_101.out _).trans (((cell_far (p := ⟨gb101, _, none⟩) NB108_101.out _).trans (hHeld.1)))))), ((cell_far (p := ⟨gb101, _, none⟩) NB108_101.out _).trans (((cell_far (p := ⟨gb101, _, none⟩) NB108_101.out _).trans (((cell_far (p := ⟨gb101, _, none⟩) NB108_101.out _).trans (hHeld.2.1)))))), ((cell_far (p := ⟨gb101, _, none⟩) NB108_101.out _).trans (((cell_far (p := ⟨gb101, _, none⟩) NB108_101.out _).trans (((cell_far (p := ⟨gb101, _, none⟩) NB108_101.out _).trans (hHeld.2.2))))))⟩ (fun hHeld => ?_)
     clear hK K
     refine pure_ (i := 4) (N := some 3) (v := ?_) (a' := ?_) #[true, true, true, true, true] rfl rfl (by kernel_rfl) (fun _ _ _ h => h) (Or.inl ⟨by rfl, ?_⟩) ?_ ?_
     rotate_left
     ·intro w'
      go_simp
      with_reducible rfl
     rotate_left
     ·simp only [Act.put, List.setIfInBounds_toArray, List.set_cons_zero, List.set_cons_succ, i64_w, i32_w]
      rfl
     refine done_ (by kernel_rfl) ?_
     try go_wp2
     refine bodyPost_ret (results_ct rfl _ _ gb101 40 #[.int .i64 t102, .int .i64 t103, .slice Ao9 t104.length co9] (0, 0) _ rfl (by (with_reducible repeat (first | refine blk_drewN ?_ _ | refine blk_drew ?_ | refine blk_alloc ?_ _)); refine blk_put (cs := #[.int .i64 t102, .int .i64 t103, .slice none 0 0]) ?_ 2 _ rfl; (with_reducible repeat (first | refine blk_drewN ?_ _ | refine blk_drew ?_ | refine blk_alloc ?_ _)); refine blk_put (cs := #[.int .i64 t102, .int .i64 x102001_1, .slice none 0 0]) ?_ 1 _ rfl; (with_reducible repeat (first | refine blk_drewN ?_ _ | refine blk_drew ?_ | refine blk_alloc ?_ _)); refine blk_put (cs := #[.int .i64 x102000_1, .int .i64 x102001_1, .slice none 0 0]) ?_ 0 _ rfl; exact blc) Tryd.underlying40 rfl (by kernel_rfl)) rfl ?_
     exact ⟨_, by first | rfl | (simp [errW_none, errW_some] <;> rfl) | (simp [*, errW_none, errW_some] <;> rfl), by (with_reducible repeat (first | apply Kd.R_alloc | apply Kd.R_drewN | apply Kd.R_drew)); exact Kd.R_mono (Kd.R_far (p := ⟨gb101, 2, none⟩) (Kd.R_far (p := ⟨gb101, 1, none⟩) (Kd.R_far (p := ⟨gb101, 0, none⟩) (Kd.R_types HO_109002.out BK101.out (by decide)) (fun _ hk => hk.2) (.int .i64 t102)) (fun _ hk => hk.2) (.int .i64 t103)) (fun _ hk => hk.2) (.slice Ao9 t104.length co9)) (fun _ hk => trivial), bel HB⟩
 ·replace c3 := Bool.eq_false_iff.mpr c3
  subst c3
  have H1 : (some (t102, t103, t104, false)) = some (r1, r2, r3, r4) := by rw [if_neg (show ¬ (false = true) by decide)] at H; exact H
  clear H
  have H := H1
  clear H1
  simp only [Option.some.injEq, Prod.mk.injEq] at H
  obtain ⟨rfl, rfl, rfl, rfl⟩ := H
  go_enter Tryd.func29, Tryd.ntmps29
  go_wp2_with (first | ((with_reducible refine gate_dst (N := 2) rfl ?_); refine boxE (N := 2) (cs := #[.int .i64 0, .int .i64 0, .slice none 0 0]) (t := 40) ?_; intro gb101 hg w24 hbox hb; have n0_ := Aside0.mk (below_step (bel HB) hb); have n1_ := Aside0.mk (hbox); have n2_ := Aside0.mk (gsz hg (bel HB)); have n3_ := Aside0.mk (gsz hg (bel HB)); clear HB; have HB := n0_; have BK101 := n1_; have GW101 := n2_; have GE101 := n3_; clear n0_ n1_ n2_ n3_; clear hb hbox hg) | ((with_reducible refine gate_callee (f := 46) rfl ?_); refine gcall (some 10) Tryd.func46 #[.string a0] rfl ?_; (with_reducible refine (spec_tyRead.calls k a0 t102 t103 t104 false _ A2.out).mono ?_); rintro e w25 ⟨v105, rfl, ho0, hb⟩; refine ⟨_, rfl, ?_⟩; have n0_ := Aside0.mk (Kd.R_lower ho0 (below_size (bel HB))); have n1_ := Aside0.mk (blk_below (g := gb101) (o := .cells #[.int .i64 0, .int .i64 0, .slice none 0 0] 40 (0, 0)) blc hb); have n2_ := Aside0.mk (below_step (bel HB) hb); clear BK101; clear HB; have HO106 := n0_; have BK101 := n1_; have HB := n2_; clear n0_ n1_ n2_; (try clear hb); (try clear hb2); (try clear hk); (try clear hi); (try clear ho0)) | ((with_reducible refine gate_dst (N := 4) rfl ?_); refine boxE (N := 4) (cs := #[.int .i64 0, .int .i64 0, .slice none 0 0]) (t := 40) ?_; intro gb108 hg w26 hbox hb; have n0_ := Aside0.mk (Kd.R_below (rch HO106) hb); have n1_ := Aside0.mk (blk_below (g := gb101) (o := .cells #[.int .i64 0, .int .i64 0, .slice none 0 0] 40 (0, 0)) blc hb); have n2_ := Aside0.mk (below_step (bel HB) hb); have n3_ := Aside0.mk (hbox); have n4_ := Aside0.mk (gsz hg (bel HB)); have n5_ := Aside0.mk (gsz hg (bel HB)); have n6_ := Aside0.mk ((by rw [hg]; exact Nat.ne_of_lt (blk_lt (g := gb101) (o := .cells #[.int .i64 0, .int .i64 0, .slice none 0 0] 40 (0, 0)) blc) : gb101 ≠ gb108)); have n7_ := Aside0.mk ((by rw [hg]; exact Nat.ne_of_gt (blk_lt (g := gb101) (o := .cells #[.int .i64 0, .int .i64 0, .slice none 0 0] 40 (0, 0)) blc) : gb108 ≠ gb101)); clear HO106; clear BK101; clear HB; have HO106 := n0_; have BK101 := n1_; have HB := n2_; have BK108 := n3_; have GW108 := n4_; have GE108 := n5_; have NB101_108 := n6_; have NB108_101 := n7_; clear n0_ n1_ n2_ n3_ n4_ n5_ n6_ n7_; clear hb hbox hg; have hnb27 := NB108_101.out; have hnc27 := NB101_108.out; have hcz28_0 : w26.cell? ⟨gb108, 0, none⟩ = some (.int .i64 0) := (blk_cell BK108.out 0).trans rfl; have hcz28_1 : w26.cell? ⟨gb108, 1, none⟩ = some (.int .i64 0) := (blk_cell BK108.out 1).trans rfl; have hcz28_2 : w26.cell? ⟨gb108, 2, none⟩ = some (.slice none 0 0) := (blk_cell BK108.out 2).trans rfl; have hfz28_0 := blk_frozen BK108.out 0; have hfz28_1 := blk_frozen BK108.out 1; have hfz28_2 := blk_frozen BK108.out 2; obtain ⟨Ao29, co29, eo29⟩ := Kd.R_slice HO106.out; subst eo29; have hcz30_0 : w26.cell? ⟨gb101, 0, none⟩ = some (.int .i64 0) := (blk_cell BK101.out 0).trans rfl; have hcz30_1 : w26.cell? ⟨gb101, 1, none⟩ = some (.int .i64 0) := (blk_cell BK101.out 1).trans rfl; have hcz30_2 : w26.cell? ⟨gb101, 2, none⟩ = some (.slice none 0 0) := (blk_cell BK101.out 2).trans rfl; have hfz30_0 := blk_frozen BK101.out 0; have hfz30_1 := blk_frozen BK101.out 1; have hfz30_2 := blk_frozen BK101.out 2))
  refine bodyPost_ret (results_ct rfl _ _ gb101 40 #[.int .i64 t102, .int .i64 t103, .slice Ao29 t104.length co29] (0, 0) _ rfl (by (with_reducible repeat (first | refine blk_drewN ?_ _ | refine blk_drew ?_ | refine blk_alloc ?_ _)); refine blk_put (cs := #[.int .i64 t102, .int .i64 t103, .slice none 0 0]) ?_ 2 _ rfl; (with_reducible repeat (first | refine blk_drewN ?_ _ | refine blk_drew ?_ | refine blk_alloc ?_ _)); refine blk_put (cs := #[.int .i64 t102, .int .i64 0, .slice none 0 0]) ?_ 1 _ rfl; (with_reducible repeat (first | refine blk_drewN ?_ _ | refine blk_drew ?_ | refine blk_alloc ?_ _)); refine blk_put (cs := #[.int .i64 0, .int .i64 0, .slice none 0 0]) ?_ 0 _ rfl; (with_reducible repeat (first | refine blk_drewN ?_ _ | refine blk_drew ?_ | refine blk_alloc ?_ _)); refine blk_far ?_ NB101_108.out _; (with_reducible repeat (first | refine blk_drewN ?_ _ | refine blk_drew ?_ | refine blk_alloc ?_ _)); refine blk_far ?_ NB101_108.out _; (with_reducible repeat (first | refine blk_drewN ?_ _ | refine blk_drew ?_ | refine blk_alloc ?_ _)); refine blk_far ?_ NB101_108.out _; exact blc) Tryd.underlying40 rfl (by kernel_rfl)) rfl ?_
  exact ⟨_, by first | rfl | (simp [errW_none, errW_some] <;> rfl) | (simp [*, errW_none, errW_some] <;> rfl), by (with_reducible repeat (first | apply Kd.R_alloc | apply Kd.R_drewN | apply Kd.R_drew)); exact Kd.R_mono (Kd.R_far (p := ⟨gb101, 2, none⟩) (Kd.R_far (p := ⟨gb101, 1, none⟩) (Kd.R_far (p := ⟨gb101, 0, none⟩) (Kd.R_far (p := ⟨gb108, 2, none⟩) (Kd.R_far (p := ⟨gb108, 1, none⟩) (Kd.R_far (p := ⟨gb108, 0, none⟩) (Kd.R_types (Kd.R_types HO106.out BK108.out (by decide)) BK101.out (by decide)) (fun _ hk => hk.1.2) (.int .i64 t102)) (fun _ hk => hk.1.2) (.int .i64 t103)) (fun _ hk => hk.1.2) (.slice Ao29 t104.length co29)) (fun _ hk => hk.2) (.int .i64 t102)) (fun _ hk => hk.2) (.int .i64 t103)) (fun _ hk => hk.2) (.slice Ao29 t104.length co29)) (fun _ hk => trivial), bel HB⟩
end Go.Proofs.YtmefnfhghfemgaaDoor.Q
end
section
namespace Go.Proofs.YtmefnfhghfemgaaDoor.Q
open Go.RowKit Go.Proofs.YtmefnfhghfemgaaDoorW.PrintWords Go.Proofs.YtmefnfhghfemgaaDoorW.PrintLast Go.Proofs.YtmefnfhghfemgaaDoorW.PrintMore
attribute [local go_sem] max2_int min2_int max_two min_two max_three min_three max_four min_four
set_option linter.unusedVariables false
set_option linter.unusedSimpArgs false
def impl_tray_indices_isBall.l0 : Nat → List Int → List Int → Int → Int → Option (List Int)
 | 0, _, _, _, _ => none
 | k + 1, x5, x10, x11, x12 => if x12 < x11 then (if 0 ≤ x12 then (if x12 < (x10.length : Int) then ((impl_isBall.f (rd x10 x12)).bind fun t106 => (if t106 = true then (if x5.length < 17592186044416 then (impl_tray_indices_isBall.l0 k (x5 ++ [x12]) x10 x11 (wrap64 (x12 + 1))) else (none)) else (impl_tray_indices_isBall.l0 k x5 x10 x11 (wrap64 (x12 + 1))))) else (none)) else (none)) else (some x5)
def impl_tray_indices_isBall.f (k : Nat) (a0_0 : Int) (a0_1 : Int) (l0_2 : List Int) (a1 : Unit) : Option (List Int) := impl_tray_indices_isBall.l0 k (([] : List Int)) l0_2 (l0_2.length : Int) 0
set_option maxHeartbeats 8000000 in
set_option maxRecDepth 100000 in
theorem impl_tray_indices_isBall.calls (k : Nat) (a0_0 : Int) (a0_1 : Int) (A0_2 : Option Addr) (c0_2 : Nat) (l0_2 : List Int) (a1 : Unit) (r : List Int) (w : World) (hr0_2 : Kd.C (Kd.int .u8) w A0_2 l0_2.length l0_2) (hc0_2 : l0_2.length ≤ c0_2) (h : impl_tray_indices_isBall.f k a0_0 a0_1 l0_2 a1 = some r) :
  Calls Tryd.prog 65 #[.agg #[.int .i64 a0_0, .int .i64 a0_1, .slice A0_2 l0_2.length c0_2], .func (.func 66) #[] #[]] w fun e w' => ∃ v0_ : Value, e = .returned (v0_) ∧ Kd.R (Kd.int .i64) 3 w' w.heap.size (fun _ => True) v0_ r ∧ Below w.heap.size w w' := by
 have hu46 := Tryd.underlying46
 have HR0_2 := Aside0.mk hr0_2
 have HC0_2 := Aside0.mk hc0_2
 clear hr0_2 hc0_2
 have HB := Aside0.mk (Below.refl w.heap.size w)
 have H : (impl_tray_indices_isBall.l0 k (([] : List Int)) l0_2 (l0_2.length : Int) 0) = some r := h
 clear h
 obtain ⟨y102, hy102⟩ : ∃ y_ : List Int, y_ = (([] : List Int)) := ⟨_, rfl⟩
 replace H : (impl_tray_indices_isBall.l0 k y102 l0_2 (l0_2.length : Int) 0) = some r := rH hy102 H
 have Ny102 := Aside0.mk hy102
 clear hy102
 have H' := Aside0.mk H
 clear H
 go_enter Tryd.func65, Tryd.ntmps65
 go_wp2_with (first | ((with_reducible refine gate_dst (N := 2) rfl ?_); refine boxE (N := 2) (cs := #[.int .i64 a0_0, .int .i64 a0_1, .slice A0_2 l0_2.length c0_2]) (t := 46) ?_; intro gb101 hg w3 hbox hb; have n0_ := Aside0.mk (below_step (bel HB) hb); have n1_ := Aside0.mk (hbox); have n2_ := Aside0.mk (gsz hg (bel HB)); have n3_ := Aside0.mk (gsz hg (bel HB)); clear HB; have HB := n0_; have BK101 := n1_; have GW101 := n2_; have GE101 := n3_; clear n0_ n1_ n2_ n3_; clear hb hbox hg) | ((with_reducible refine gate_dst (N := 8) rfl ?_); refine R_litG (Kd.int .i64) _ 3 ?hg (N := 8) ?hd (xs := ([] : List Int)) (inner := []) (ok := fun _ => True) (okp := fun _ => True) ?hr ?hp (fun _ hk => hk) trivial (Below.refl _ _) (Nat.le_refl _) (by simp) ?_; (case hd => rfl); (case hg => first | rfl | decide | (simp [Region.wanted, yielded]; done) | (go_simp; done)); (case hr => first | (go_simp; done) | (go_simp; rfl)); (case hp => exact (Reps.none _ _)); intro v103 w4 ho5 hb hg_ hnew_; clear hg_ hnew_; (first | rw [← Ny102.out] at ho5 | (simp only [Int.reduceToNat] at ho5; rw [← Ny102.out] at ho5)); have n0_ := Aside0.mk (Kd.R_lower ho5 (below_size (bel HB))); have n1_ := Aside0.mk (blk_below (g := gb101) (o := .cells #[.int .i64 a0_0, .int .i64 a0_1, .slice A0_2 l0_2.length c0_2] 46 (0, 0)) blc hb); have n2_ := Aside0.mk (below_step (bel HB) hb); clear BK101; clear HB; have HO104 := n0_; have BK101 := n1_; have HB := n2_; clear n0_ n1_ n2_; clear hb ho5; have hcz6_0 : w4.cell? ⟨gb101, 0, none⟩ = some (.int .i64 a0_0) := (blk_cell BK101.out 0).trans rfl; have hcz6_1 : w4.cell? ⟨gb101, 1, none⟩ = some (.int .i64 a0_1) := (blk_cell BK101.out 1).trans rfl; have hcz6_2 : w4.cell? ⟨gb101, 2, none⟩ = some (.slice A0_2 l0_2.length c0_2) := (blk_cell BK101.out 2).trans rfl; have hfz6_0 := blk_frozen BK101.out 0; have hfz6_1 := blk_frozen BK101.out 1; have hfz6_2 := blk_frozen BK101.out 2))
 go_loopg [5, 12] k (fun kq v5 v12 w' => ∃ (x5_1 : List Int) (x12_1 : Int), v12 = .int .i64 x12_1 ∧ Aside0 (impl_tray_indices_isBall.l0 kq x5_1 l0_2 (l0_2.length : Int) x12_1 = some r) ∧ Aside0 (kq ≤ k) ∧ Aside0 (Kd.R (Kd.int .i64) 3 w' w.heap.size (fun _ => True) v5 x5_1) ∧ Aside0 (w'.heap[gb101]? = some (.cells #[.int .i64 a0_0, .int .i64 a0_1, (.slice A0_2 l0_2.length c0_2)] 46 (0, 0))) ∧ Aside0 (Below w.heap.size w w'))
 case atStart => exact ⟨(y102), (0), (by first | rfl | (simp; done) | (simp [*]; done)), H', ⟨Nat.le_refl _⟩, ⟨rch HO104⟩, ⟨blc⟩, ⟨bel HB⟩⟩
 case round =>
  clear H'
  try clear p2
  try clear c6
  try clear hcz6_0
  try clear hcz6_1
  try clear hcz6_2
  try clear hfz6_0
  try clear hfz6_1
  try clear hfz6_2
  obtain ⟨x5_1, x12_1, rfl, HA, HK1, HO_5, BK101, HB⟩ := hrel
  cases gk with
  | zero => exact absurd HA.out (by simp [impl_tray_indices_isBall.l0])
  | succ k1 =>
   have H := HA.out
   clear HA
   simp only [impl_tray_indices_isBall.l0] at H
   by_cases c7 : x12_1 < (l0_2.length : Int)
   ·rw [if_pos c7] at H
    have c7b0 : decide (x12_1 < (l0_2.length : Int)) = true := decide_eq_true c7
    clear c7
    by_cases c8 : 0 ≤ x12_1
    ·rw [if_pos c8] at H
     have c8b0 : decide (0 ≤ x12_1) = true := decide_eq_true c8
     clear c8
     by_cases c9 : x12_1 < (l0_2.length : Int)
     ·rw [if_pos c9] at H
      have c9b0 : decide (x12_1 < (l0_2.length : Int)) = true := decide_eq_true c9
      clear c9
      replace H := Option.bind_eq_some_iff.mp H
      obtain ⟨t106, A100, H⟩ := H
      replace H : (if t106 = true then (if x5_1.length < 17592186044416 then (impl_tray_indices_isBall.l0 k1 (x5_1 ++ [x12_1]) l0_2 (l0_2.length : Int) (wrap64 (x12_1 + 1))) else (none)) else (impl_tray_indices_isBall.l0 k1 x5_1 l0_2 (l0_2.length : Int) (wrap64 (x12_1 + 1)))) = some r := H
      have A10 := Aside0.mk A100
      clear A100
      by_cases c11 : t106 = true
      ·subst c11
       have H1 : (if x5_1.length < 17592186044416 then (impl_tray_indices_isBall.l0 k1 (x5_1 ++ [x12_1]) l0_2 (l0_2.length : Int) (wrap64 (x12_1 + 1))) else (none)) = some r := by rw [if_pos rfl] at H; exact H
       clear H
       have H := H1
       clear H1
       by_cases c12 : x5_1.length < 17592186044416
       ·rw [if_pos c12] at H
        have LMc12 := Aside0.mk c12
        clear c12
        obtain ⟨y107, hy107⟩ : ∃ y_ : List Int, y_ = (x5_1 ++ [x12_1]) := ⟨_, rfl⟩
        replace H : (impl_tray_indices_isBall.l0 k1 y107 l0_2 (l0_2.length : Int) (wrap64 (x12_1 + 1))) = some r := rH hy107 H
        have Ny107 := Aside0.mk hy107
        clear hy107
        have H' := Aside0.mk H
        clear H
        have p105 : 0 ≤ (x12_1 : Int) := of_decide_eq_true (by first | (with_reducible assumption) | assumption)
        have q105 : x12_1 < (l0_2.length : Int) := of_decide_eq_true (by first | (with_reducible assumption) | assumption)
        obtain ⟨ad105, e105, hx105_0⟩ := Kd.at_int HR0_2.out x12_1 p105 q105
        cases e105
        (try replace hx105_0 := (HB.out.cell (World.block_lt_of_cell? w _ hx105_0)).trans hx105_0)
        replace p105 := eq_true p105
        replace q105 := eq_true q105
        go_wp2_with (first | ((first | (with_reducible refine gate_callee (f := 66) rfl ?_) | (with_reducible refine gate_dst (N := 19) rfl ?_)); (first | refine gcall (some 19) Tryd.func66 #[.int .u8 (rd l0_2 x12_1)] rfl ?_ | refine goesV_ (some 19) rfl rfl Tryd.func66 (by kernel_rfl) rfl #[.int .u8 (rd l0_2 x12_1)] rfl (by (try simp only [List.map_toArray, List.map_cons, List.map_nil]); first | done | rfl | (simp only [List.length_drop, List.length_take]; rfl)) ?_); (with_reducible refine (impl_isBall.calls (rd l0_2 x12_1) true _ A10.out).mono ?_); rintro e w' ⟨rfl, ⟨nd, rfl⟩⟩; refine ⟨_, rfl, ?_⟩) | ((with_reducible refine gate_builtin (b := .append) (xs := #[.tmp 20, .tmp 22]) rfl ?_); at_builtin; refine Kd.R_append (Kd.int .i64) (w0 := w) w.heap.size rfl (.tmp 20) (.tmp 22) 31 3 (.int .i64 0) 8 rfl Tryd.underlying31 info3 rfl (by decide) (by omega) u5 x5_1 x12_1 [.int .i64 x12_1] (fun _ => True) (fun _ => False) rfl rfl ?aP (fun _ hk => hk.elim) ?aF ?aO ?aB ?aS ?aL ?_; (case aP => exact rfl); (case aB => exact (bel HB)); (case aF => exact (fun _ _ => trivial)); (case aO => exact (rch HO_5)); (case aS => exact (below_size (bel HB))); (case aL => have := LMc12.out; omega); intro v108 w13 ho hb hg hat; rw [← Ny107.out] at ho; have n0_ := Aside0.mk (blk_grown (g := gb101) (o := .cells #[.int .i64 a0_0, .int .i64 a0_1, .slice (some ad105) l0_2.length c0_2] 46 (0, 0)) blc hg (Kd.R_ne HO_5.out BK101.out (by decide))); have n1_ := Aside0.mk (hb); have n2_ := Aside0.mk (ho); clear BK101; clear HB; clear HO_5; have BK101 := n0_; have HB := n1_; have HO109 := n2_; clear n0_ n1_ n2_; clear ho hb hg hat))
        go_roundg k1
        case measure => have := HK1.out; omega
        case rel => exact ⟨(y107), (wrap64 (x12_1 + 1)), (by first | rfl | (simp; done) | (simp [*]; done)), H', ⟨by have := HK1.out; omega⟩, ⟨rch HO109⟩, ⟨blc⟩, ⟨bel HB⟩⟩
       ·rw [if_neg c12] at H
        exact absurd H (by simp)
      ·replace c11 := Bool.eq_false_iff.mpr c11
       subst c11
       have H1 : (impl_tray_indices_isBall.l0 k1 x5_1 l0_2 (l0_2.length : Int) (wrap64 (x12_1 + 1))) = some r := by rw [if_neg (show ¬ (false = true) by decide)] at H; exact H
       clear H
       have H := H1
       clear H1
       have H' := Aside0.mk H
       clear H
       have p105 : 0 ≤ (x12_1 : Int) := of_decide_eq_true (by first | (with_reducible assumption) | assumption)
       have q105 : x12_1 < (l0_2.length : Int) := of_decide_eq_true (by first | (with_reducible assumption) | assumption)
       obtain ⟨ad105, e105, hx105_0⟩ := Kd.at_int HR0_2.out x12_1 p105 q105
       cases e105
       (try replace hx105_0 := (HB.out.cell (World.block_lt_of_cell? w _ hx105_0)).trans hx105_0)
       replace p105 := eq_true p105
       replace q105 := eq_true q105
       go_wp2_with (first | ((first | (with_reducible refine gate_callee (f := 66) rfl ?_) | (with_reducible refine gate_dst (N := 19) rfl ?_)); (first | refine gcall (some 19) Tryd.func66 #[.int .u8 (rd l0_2 x12_1)] rfl ?_ | refine goesV_ (some 19) rfl rfl Tryd.func66 (by kernel_rfl) rfl #[.int .u8 (rd l0_2 x12_1)] rfl (by (try simp only [List.map_toArray, List.map_cons, List.map_nil]); first | done | rfl | (simp only [List.length_drop, List.length_take]; rfl)) ?_); (with_reducible refine (impl_isBall.calls (rd l0_2 x12_1) false _ A10.out).mono ?_); rintro e w' ⟨rfl, ⟨nd, rfl⟩⟩; refine ⟨_, rfl, ?_⟩))
       go_roundg k1
       case measure => have := HK1.out; omega
       case rel => exact ⟨(x5_1), (wrap64 (x12_1 + 1)), (by first | rfl | (simp; done) | (simp [*]; done)), H', ⟨by have := HK1.out; omega⟩, ⟨rch HO_5⟩, ⟨blc⟩, ⟨bel HB⟩⟩
     ·rw [if_neg c9] at H
      exact absurd H (by simp)
    ·rw [if_neg c8] at H
     exact absurd H (by simp)
   ·rw [if_neg c7] at H
    have c7b0 : decide (x12_1 < (l0_2.length : Int)) = false := decide_eq_false c7
    clear c7
    obtain rfl := Option.some.inj H
    go_wp2
    go_ret
    exact ⟨_, by first | rfl | (simp [errW_none, errW_some] <;> rfl) | (simp [*, errW_none, errW_some] <;> rfl), rch HO_5, bel HB⟩
end Go.Proofs.YtmefnfhghfemgaaDoor.Q
end
