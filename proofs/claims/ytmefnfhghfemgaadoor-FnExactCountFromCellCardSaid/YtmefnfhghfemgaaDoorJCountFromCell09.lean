/- Texts of this claim, joined. -/
import Derived.Test.YtmefnfhghfemgaaDoorJCountFromCell01
import Derived.Test.YtmefnfhghfemgaaDoorJCountFromCell04
import Derived.Test.YtmefnfhghfemgaaDoorJCountFromCell08
import Derived.Test.YtmefnfhghfemgaaDoorJCountFromCell05
set_option linter.unusedVariables false
set_option linter.unusedSimpArgs false
set_option linter.unusedSectionVars false
section
namespace Go.Proofs.YtmefnfhghfemgaaDoor.Q
open Go.RowKit Go.Proofs.YtmefnfhghfemgaaDoorW.PrintWords Go.Proofs.YtmefnfhghfemgaaDoorW.PrintLast Go.Proofs.YtmefnfhghfemgaaDoorW.PrintMore
attribute [local go_sem] max2_int min2_int max_two min_two max_three min_three max_four min_four
set_option linter.unusedVariables false
set_option linter.unusedSimpArgs false
mutual
def spec_CountFromCell.j0 : Nat → Int → Bool → Int → Int → List Int → Option (Int × Bool)
 | 0, _, _, _, _, _ => none
 | k + 1, x1, x26, x108000, x108001, x108002 => if x26 = true then (some (0, false)) else ((spec_tyBalls.f k x108000 x108001 x108002).bind fun t109 => (spec_CountFromCell.l0 k x1 0 t109 (t109.length : Int) 0 x108000 x108001 x108002))
def spec_CountFromCell.l0 : Nat → Int → Int → List Int → Int → Int → Int → Int → List Int → Option (Int × Bool)
 | 0, _, _, _, _, _, _, _, _ => none
 | k + 1, x1, x8, x28, x29, x30, x108000, x108001, x108002 => if x30 < x29 then (if 0 ≤ x30 then (if x30 < (x28.length : Int) then (if (rd x28 x30) = x1 then (spec_CountFromCell.l0 k x1 x30 x28 x29 (wrap64 (x30 + 1)) x108000 x108001 x108002) else (spec_CountFromCell.l0 k x1 x8 x28 x29 (wrap64 (x30 + 1)) x108000 x108001 x108002)) else (none)) else (none)) else ((spec_buCount.f k x108000 x108001 x108002 x8).bind fun t113 => (some (t113, true)))
end
def spec_CountFromCell.f (k : Nat) (a0 : ByteArray) (a1 : Int) : Option (Int × Bool) := (spec_buCell.f k a0 a1).bind fun bt101 => (if bt101.2.2.2 = true then (if 0 ≤ a1 then (if a1 < (bt101.2.2.1.length : Int) then (spec_CountFromCell.j0 k a1 ((rd bt101.2.2.1 a1) != 111) bt101.1 bt101.2.1 bt101.2.2.1) else (none)) else (none)) else (spec_CountFromCell.j0 k a1 true bt101.1 bt101.2.1 bt101.2.2.1))
set_option maxHeartbeats 8000000 in
set_option maxRecDepth 100000 in
theorem spec_CountFromCell.calls (k : Nat) (a0 : ByteArray) (a1 : Int) (r1 : Int) (r2 : Bool) (w : World) (h : spec_CountFromCell.f k a0 a1 = some (r1, r2)) :
  Calls Tryd.prog 15 #[.string a0, .int .i64 a1] w fun e w' => e = .returned (.tuple #[.int .i64 r1, .bool r2]) ∧ Below w.heap.size w w' := by
 have hu40 := Tryd.underlying40
 have HB := Aside0.mk (Below.refl w.heap.size w)
 have H : ((spec_buCell.f k a0 a1).bind fun bt101 => (if bt101.2.2.2 = true then (if 0 ≤ a1 then (if a1 < (bt101.2.2.1.length : Int) then (spec_CountFromCell.j0 k a1 ((rd bt101.2.2.1 a1) != 111) bt101.1 bt101.2.1 bt101.2.2.1) else (none)) else (none)) else (spec_CountFromCell.j0 k a1 true bt101.1 bt101.2.1 bt101.2.2.1))) = some (r1, r2) := h
 clear h
 replace H := Option.bind_eq_some_iff.mp H
 obtain ⟨⟨t101, t102, t103, t106⟩, A30, H⟩ := H
 replace H : (if t106 = true then (if 0 ≤ a1 then (if a1 < (t103.length : Int) then (spec_CountFromCell.j0 k a1 ((rd t103 a1) != 111) t101 t102 t103) else (none)) else (none)) else (spec_CountFromCell.j0 k a1 true t101 t102 t103)) = some (r1, r2) := H
 have A3 := Aside0.mk A30
 clear A30
 have HC4 := Aside0.mk H
 clear H
 go_enter Tryd.func15, Tryd.ntmps15
 go_upto_region 2 with (first | ((with_reducible refine gate_callee (f := 33) rfl ?_); refine gcall (some 14) Tryd.func33 #[.string a0, .int .i64 a1] rfl ?_; (with_reducible refine (spec_buCell.calls k a0 a1 t101 t102 t103 t106 _ A3.out).mono ?_); rintro e w5 ⟨v104, rfl, ho0, hb⟩; refine ⟨_, rfl, ?_⟩; have n0_ := Aside0.mk (Kd.R_lower ho0 (below_size (bel HB))); have n1_ := Aside0.mk (below_step (bel HB) hb); clear HB; have HO105 := n0_; have HB := n1_; clear n0_ n1_; (try clear hb); (try clear hb2); (try clear hk); (try clear hi); (try clear ho0)) | ((with_reducible refine gate_dst (N := 6) rfl ?_); refine boxE (N := 6) (cs := #[.int .i64 0, .int .i64 0, .slice none 0 0]) (t := 40) ?_; intro gb107 hg w6 hbox hb; have n0_ := Aside0.mk (Kd.R_below (rch HO105) hb); have n1_ := Aside0.mk (below_step (bel HB) hb); have n2_ := Aside0.mk (hbox); have n3_ := Aside0.mk (gsz hg (bel HB)); have n4_ := Aside0.mk (gsz hg (bel HB)); clear HO105; clear HB; have HO105 := n0_; have HB := n1_; have BK107 := n2_; have GW107 := n3_; have GE107 := n4_; clear n0_ n1_ n2_ n3_ n4_; clear hb hbox hg; have hcz7_0 : w6.cell? ⟨gb107, 0, none⟩ = some (.int .i64 0) := (blk_cell BK107.out 0).trans rfl; have hcz7_1 : w6.cell? ⟨gb107, 1, none⟩ = some (.int .i64 0) := (blk_cell BK107.out 1).trans rfl; have hcz7_2 : w6.cell? ⟨gb107, 2, none⟩ = some (.slice none 0 0) := (blk_cell BK107.out 2).trans rfl; have hfz7_0 := blk_frozen BK107.out 0; have hfz7_1 := blk_frozen BK107.out 1; have hfz7_2 := blk_frozen BK107.out 2; obtain ⟨Ao8, co8, eo8⟩ := Kd.R_slice HO105.out; subst eo8))
 (try simp only [Act.put, List.setIfInBounds_toArray, List.set_cons_zero, List.set_cons_succ])
 go_cut [26] (fun v26 wc => ∃ (kq : Nat) (x26_3 : Bool), v26 = .bool x26_3 ∧ Aside0 (spec_CountFromCell.j0 kq a1 x26_3 t101 t102 t103 = some (r1, r2)) ∧ Aside0 (kq ≤ k) ∧ Aside0 (Kd.R (Kd.int .u8) 5 wc w.heap.size (fun _ => True) (.slice Ao8 t103.length co8) t103) ∧ Aside0 (wc.heap[gb107]? = some (.cells #[.int .i64 t101, .int .i64 t102, (.slice Ao8 t103.length co8)] 40 (0, 0))) ∧ Aside0 (Below w.heap.size w wc))
 case first =>
  have H := HC4.out
  clear HC4
  by_cases c9 : t106 = true
  ·subst c9
   have H1 : (if 0 ≤ a1 then (if a1 < (t103.length : Int) then (spec_CountFromCell.j0 k a1 ((rd t103 a1) != 111) t101 t102 t103) else (none)) else (none)) = some (r1, r2) := by rw [if_pos rfl] at H; exact H
   clear H
   have H := H1
   clear H1
   by_cases c10 : 0 ≤ a1
   ·rw [if_pos c10] at H
    have c10b0 : decide (0 ≤ a1) = true := decide_eq_true c10
    clear c10
    (first | rw [c10b0] | (simp only [i64_w, i32_w]; rw [c10b0]) | skip)
    by_cases c11 : a1 < (t103.length : Int)
    ·rw [if_pos c11] at H
     have c11b0 : decide (a1 < (t103.length : Int)) = true := decide_eq_true c11
     clear c11
     have H' := Aside0.mk H
     clear H
     have hcz12_0 : w6.cell? ⟨gb107, 0, none⟩ = some (.int .i64 0) := (blk_cell BK107.out 0).trans rfl
     have hcz12_1 : w6.cell? ⟨gb107, 1, none⟩ = some (.int .i64 0) := (blk_cell BK107.out 1).trans rfl
     have hcz12_2 : w6.cell? ⟨gb107, 2, none⟩ = some (.slice none 0 0) := (blk_cell BK107.out 2).trans rfl
     have hfz12_0 := blk_frozen BK107.out 0
     have hfz12_1 := blk_frozen BK107.out 1
     have hfz12_2 := blk_frozen BK107.out 2
     have p108 : 0 ≤ (a1 : Int) := of_decide_eq_true (by first | (with_reducible assumption) | assumption)
     have q108 : a1 < (t103.length : Int) := of_decide_eq_true (by first | (with_reducible assumption) | assumption)
     obtain ⟨ad108, e108, hx108_0⟩ := Kd.at_int (Kd.R_reads' HO105.out).2.2 a1 p108 q108
     cases e108
     have hn108_0 : ad108.block ≠ gb107 := Kd.own_blk (Kd.R_ne HO105.out BK107.out (by decide))
     have hn108_1 : ad108.block ≠ gb107 := Kd.own_blk (Kd.R_ne HO105.out BK107.out (by decide))
     have hn108_2 : ad108.block ≠ gb107 := Kd.own_blk (Kd.R_ne HO105.out BK107.out (by decide))
     replace hx108_0 := (cell_far (p := ⟨gb107, 0, none⟩) (by first | (rw [add_block]; exact hn108_0) | (show (Addr.add _ _).block ≠ _; rw [add_block]; exact hn108_0) | exact hn108_0) (.int .i64 t101)).trans hx108_0
     replace hx108_0 := (cell_far (p := ⟨gb107, 1, none⟩) (by first | (rw [add_block]; exact hn108_1) | (show (Addr.add _ _).block ≠ _; rw [add_block]; exact hn108_1) | exact hn108_1) (.int .i64 t102)).trans hx108_0
     replace hx108_0 := (cell_far (p := ⟨gb107, 2, none⟩) (by first | (rw [add_block]; exact hn108_2) | (show (Addr.add _ _).block ≠ _; rw [add_block]; exact hn108_2) | exact hn108_2) (.slice (some ad108) t103.length co8)).trans hx108_0
     clear hn108_0
     clear hn108_1
     clear hn108_2
     replace p108 := eq_true p108
     replace q108 := eq_true q108
     go_wp2
     go_meet
     case rel => exact ⟨_, (((rd t103 a1) != 111)), (by first | rfl | (simp; done) | (simp [*]; done)), H', ⟨by first | omega | exact Nat.le_refl _⟩, ⟨by (with_reducible repeat (first | apply Kd.R_alloc | apply Kd.R_drewN | apply Kd.R_drew)); exact Kd.R_mono (Kd.R_far (p := ⟨gb107, 2, none⟩) (Kd.R_far (p := ⟨gb107, 1, none⟩) (Kd.R_far (p := ⟨gb107, 0, none⟩) (Kd.R_types HO105.out BK107.out (by decide)) (fun _ hk => hk.2) (.int .i64 t101)) (fun _ hk => hk.2) (.int .i64 t102)) (fun _ hk => hk.2) (.slice (some ad108) t103.length co8)) (fun _ hk => trivial)⟩, ⟨by (with_reducible repeat (first | refine blk_drewN ?_ _ | refine blk_drew ?_ | refine blk_alloc ?_ _)); refine blk_put (cs := #[.int .i64 t101, .int .i64 t102, .slice none 0 0]) ?_ 2 _ rfl; (with_reducible repeat (first | refine blk_drewN ?_ _ | refine blk_drew ?_ | refine blk_alloc ?_ _)); refine blk_put (cs := #[.int .i64 t101, .int .i64 0, .slice none 0 0]) ?_ 1 _ rfl; (with_reducible repeat (first | refine blk_drewN ?_ _ | refine blk_drew ?_ | refine blk_alloc ?_ _)); refine blk_put (cs := #[.int .i64 0, .int .i64 0, .slice none 0 0]) ?_ 0 _ rfl; exact blc⟩, ⟨bel HB⟩⟩
    ·rw [if_neg c11] at H
     exact absurd H (by simp)
   ·rw [if_neg c10] at H
    exact absurd H (by simp)
  ·replace c9 := Bool.eq_false_iff.mpr c9
   subst c9
   have H1 : (spec_CountFromCell.j0 k a1 true t101 t102 t103) = some (r1, r2) := by rw [if_neg (show ¬ (false = true) by decide)] at H; exact H
   clear H
   have H := H1
   clear H1
   have H' := Aside0.mk H
   clear H
   go_wp2
   go_meet
   case rel => exact ⟨_, (true), (by first | rfl | (simp; done) | (simp [*]; done)), H', ⟨by first | omega | exact Nat.le_refl _⟩, ⟨by (with_reducible repeat (first | apply Kd.R_alloc | apply Kd.R_drewN | apply Kd.R_drew)); exact Kd.R_mono (Kd.R_far (p := ⟨gb107, 2, none⟩) (Kd.R_far (p := ⟨gb107, 1, none⟩) (Kd.R_far (p := ⟨gb107, 0, none⟩) (Kd.R_types HO105.out BK107.out (by decide)) (fun _ hk => hk.2) (.int .i64 t101)) (fun _ hk => hk.2) (.int .i64 t102)) (fun _ hk => hk.2) (.slice Ao8 t103.length co8)) (fun _ hk => trivial)⟩, ⟨by (with_reducible repeat (first | refine blk_drewN ?_ _ | refine blk_drew ?_ | refine blk_alloc ?_ _)); refine blk_put (cs := #[.int .i64 t101, .int .i64 t102, .slice none 0 0]) ?_ 2 _ rfl; (with_reducible repeat (first | refine blk_drewN ?_ _ | refine blk_drew ?_ | refine blk_alloc ?_ _)); refine blk_put (cs := #[.int .i64 t101, .int .i64 0, .slice none 0 0]) ?_ 1 _ rfl; (with_reducible repeat (first | refine blk_drewN ?_ _ | refine blk_drew ?_ | refine blk_alloc ?_ _)); refine blk_put (cs := #[.int .i64 0, .int .i64 0, .slice none 0 0]) ?_ 0 _ rfl; exact blc⟩, ⟨bel HB⟩⟩
 case rest =>
  clear HC4
  try clear c1
  try clear p1
  try clear q1
  try clear hx1
  try clear p2
  try clear c3
  try clear c9
  try clear c10
  try clear c10b0
  try clear c10b0y
  try clear p10
  try clear q10
  try clear hx10
  try clear c11
  try clear c11b0
  try clear c11b0y
  try clear hcz12_0
  try clear hcz12_1
  try clear hcz12_2
  try clear hcz7_0
  try clear hcz7_1
  try clear hcz7_2
  try clear hfz12_0
  try clear hfz12_1
  try clear hfz12_2
  try clear hfz7_0
  try clear hfz7_1
  try clear hfz7_2
  try clear hx108_0
  try clear p108
  try clear q108
  obtain ⟨kq, x26_3, rfl, HA, HJ3, HO_108002, BK107, HB⟩ := hcut
  cases kq with
  | zero => exact absurd HA.out (by simp [spec_CountFromCell.j0])
  | succ kj3 =>
   have H := HA.out
   clear HA
   simp only [spec_CountFromCell.j0] at H
   by_cases c13 : x26_3 = true
   ·subst c13
    have H1 : (some (0, false)) = some (r1, r2) := by rw [if_pos rfl] at H; exact H
    clear H
    have H := H1
    clear H1
    simp only [Option.some.injEq, Prod.mk.injEq] at H
    obtain ⟨rfl, rfl⟩ := H
    go_wp2
    go_ret2
    exact ⟨by first | rfl | (simp [errW_none, errW_some] <;> rfl) | (simp [*, errW_none, errW_some] <;> rfl), bel HB⟩
   ·replace c13 := Bool.eq_false_iff.mpr c13
    subst c13
    have H1 : ((spec_tyBalls.f kj3 t101 t102 t103).bind fun t109 => (spec_CountFromCell.l0 kj3 a1 0 t109 (t109.length : Int) 0 t101 t102 t103)) = some (r1, r2) := by rw [if_neg (show ¬ (false = true) by decide)] at H; exact H
    clear H
    have H := H1
    clear H1
    replace H := Option.bind_eq_some_iff.mp H
    obtain ⟨t109, A140, H⟩ := H
    replace H : (spec_CountFromCell.l0 kj3 a1 0 t109 (t109.length : Int) 0 t101 t102 t103) = some (r1, r2) := H
    have A14 := Aside0.mk A140
    clear A140
    have H' := Aside0.mk H
    clear H
    have hcz15_0 : wc.cell? ⟨gb107, 0, none⟩ = some (.int .i64 t101) := (blk_cell BK107.out 0).trans rfl
    have hcz15_1 : wc.cell? ⟨gb107, 1, none⟩ = some (.int .i64 t102) := (blk_cell BK107.out 1).trans rfl
    have hcz15_2 : wc.cell? ⟨gb107, 2, none⟩ = some (.slice Ao8 t103.length co8) := (blk_cell BK107.out 2).trans rfl
    have hfz15_0 := blk_frozen BK107.out 0
    have hfz15_1 := blk_frozen BK107.out 1
    have hfz15_2 := blk_frozen BK107.out 2
    go_wp2_with (first | ((with_reducible refine gate_callee (f := 34) rfl ?_); refine gcall (some 28) Tryd.func34 #[.agg #[.int .i64 t101, .int .i64 t102, .slice Ao8 t103.length co8]] rfl ?_; (with_reducible refine (spec_tyBalls.calls kj3 t101 t102 _ _ t103 t109 _ ?side1 ?side2 A14.out).mono ?_); (case side1 => repeat (first | exact (Kd.R_reads' HO_108002.out).2.2 | (with_reducible refine Kd.C_alloc ?_ _) | (with_reducible refine Kd.C_drewN ?_ _) | (with_reducible refine Kd.C_drew ?_))); (case side2 => exact (Kd.R_reads' HO_108002.out).2.1); rintro e w16 ⟨v110, rfl, ho0, hb⟩; refine ⟨_, rfl, ?_⟩; have n0_ := Aside0.mk (Kd.R_below (rch HO_108002) hb); have n1_ := Aside0.mk (Kd.R_lower ho0 (below_size (bel HB))); have n2_ := Aside0.mk (blk_below (g := gb107) (o := .cells #[.int .i64 t101, .int .i64 t102, .slice Ao8 t103.length co8] 40 (0, 0)) blc hb); have n3_ := Aside0.mk (below_step (bel HB) hb); clear HO_108002; clear BK107; clear HB; have HO_108002 := n0_; have HO111 := n1_; have BK107 := n2_; have HB := n3_; clear n0_ n1_ n2_ n3_; (try clear hb); (try clear hb2); (try clear hk); (try clear hi); (try clear ho0); obtain ⟨Ao17, co17, eo17⟩ := Kd.R_slice HO111.out; subst eo17))
    go_loopg [8, 30] kj3 (fun kq v8 v30 w' => ∃ (x8_2 : Int) (x30_2 : Int), v8 = .int .i64 x8_2 ∧ v30 = .int .i64 x30_2 ∧ Aside0 (spec_CountFromCell.l0 kq a1 x8_2 t109 (t109.length : Int) x30_2 t101 t102 t103 = some (r1, r2)) ∧ Aside0 (kq ≤ kj3) ∧ Aside0 (Kd.R (Kd.int .i64) 3 w' w.heap.size (fun _ => True) (.slice Ao17 t109.length co17) t109) ∧ Aside0 (Kd.R (Kd.int .u8) 5 w' w.heap.size (fun _ => True) (.slice Ao8 t103.length co8) t103) ∧ Aside0 (w'.heap[gb107]? = some (.cells #[.int .i64 t101, .int .i64 t102, (.slice Ao8 t103.length co8)] 40 (0, 0))) ∧ Aside0 (Below w.heap.size w w'))
    case atStart => exact ⟨(0), (0), (by first | rfl | (simp; done) | (simp [*]; done)), (by first | rfl | (simp; done) | (simp [*]; done)), H', ⟨Nat.le_refl _⟩, ⟨rch HO111⟩, ⟨rch HO_108002⟩, ⟨blc⟩, ⟨bel HB⟩⟩
    case round =>
     clear H'
     try clear c1
     try clear p1
     try clear q1
     try clear hx1
     try clear p2
     try clear c3
     try clear c9
     try clear c10
     try clear c10b0
     try clear c10b0y
     try clear p10
     try clear q10
     try clear hx10
     try clear c11
     try clear c11b0
     try clear c11b0y
     try clear c13
     try clear c15
     try clear hcz12_0
     try clear hcz12_1
     try clear hcz12_2
     try clear hcz15_0
     try clear hcz15_1
     try clear hcz15_2
     try clear hcz7_0
     try clear hcz7_1
     try clear hcz7_2
     try clear hfz12_0
     try clear hfz12_1
     try clear hfz12_2
     try clear hfz15_0
     try clear hfz15_1
     try clear hfz15_2
     try clear hfz7_0
     try clear hfz7_1
     try clear hfz7_2
     try clear hx108_0
     try clear p1
     try clear p10
     try clear p108
     try clear p2
     try clear q1
     try clear q10
     try clear q108
     obtain ⟨x8_2, x30_2, rfl, rfl, HA, HK2, HO_28, HO_108002, BK107, HB⟩ := hrel
     cases gk with
     | zero => exact absurd HA.out (by simp [spec_CountFromCell.l0])
     | succ k2 =>
      have H := HA.out
      clear HA
      simp only [spec_CountFromCell.l0] at H
      by_cases c18 : x30_2 < (t109.length : Int)
      ·rw [if_pos c18] at H
       have c18b0 : decide (x30_2 < (t109.length : Int)) = true := decide_eq_true c18
       clear c18
       by_cases c19 : 0 ≤ x30_2
       ·rw [if_pos c19] at H
        have c19b0 : decide (0 ≤ x30_2) = true := decide_eq_true c19
        clear c19
        by_cases c20 : x30_2 < (t109.length : Int)
        ·rw [if_pos c20] at H
         have c20b0 : decide (x30_2 < (t109.length : Int)) = true := decide_eq_true c20
         clear c20
         by_cases c21 : (rd t109 x30_2) = a1
         ·rw [if_pos c21] at H
          have c21b0 : ((rd t109 x30_2) == a1) = true := beq_iff_eq.mpr c21
          have c21b1 : ((rd t109 x30_2) != a1) = false := bne_eq_false_iff_eq.mpr c21
          clear c21
          have H' := Aside0.mk H
          clear H
          have p112 : 0 ≤ (x30_2 : Int) := of_decide_eq_true (by first | (with_reducible assumption) | assumption)
          have q112 : x30_2 < (t109.length : Int) := of_decide_eq_true (by first | (with_reducible assumption) | assumption)
          obtain ⟨ad112, e112, hx112_0⟩ := Kd.at_int (Kd.R_reads' HO_28.out).2.2 x30_2 p112 q112
          cases e112
          replace p112 := eq_true p112
          replace q112 := eq_true q112
          go_wp2
          go_roundg k2
          case measure => have := HJ3.out; have := HK2.out; omega
          case rel => exact ⟨(x30_2), (wrap64 (x30_2 + 1)), (by first | rfl | (simp; done) | (simp [*]; done)), (by first | rfl | (simp; done) | (simp [*]; done)), H', ⟨by have := HJ3.out; have := HK2.out; omega⟩, ⟨rch HO_28⟩, ⟨rch HO_108002⟩, ⟨blc⟩, ⟨bel HB⟩⟩
         ·rw [if_neg c21] at H
          have c21b0 : ((rd t109 x30_2) == a1) = false := beq_eq_false_iff_ne.mpr c21
          have c21b1 : ((rd t109 x30_2) != a1) = true := bne_iff_ne.mpr c21
          have H' := Aside0.mk H
          clear H
          have p112 : 0 ≤ (x30_2 : Int) := of_decide_eq_true (by first | (with_reducible assumption) | assumption)
          have q112 : x30_2 < (t109.length : Int) := of_decide_eq_true (by first | (with_reducible assumption) | assumption)
          obtain ⟨ad112, e112, hx112_0⟩ := Kd.at_int (Kd.R_reads' HO_28.out).2.2 x30_2 p112 q112
          cases e112
          replace p112 := eq_true p112
          replace q112 := eq_true q112
          go_wp2
          go_roundg k2
          case measure => have := HJ3.out; have := HK2.out; omega
          case rel => exact ⟨(x8_2), (wrap64 (x30_2 + 1)), (by first | rfl | (simp; done) | (simp [*]; done)), (by first | rfl | (simp; done) | (simp [*]; done)), H', ⟨by have := HJ3.out; have := HK2.out; omega⟩, ⟨rch HO_28⟩, ⟨rch HO_108002⟩, ⟨blc⟩, ⟨bel HB⟩⟩
        ·rw [if_neg c20] at H
         exact absurd H (by simp)
       ·rw [if_neg c19] at H
        exact absurd H (by simp)
      ·rw [if_neg c18] at H
       have c18b0 : decide (x30_2 < (t109.length : Int)) = false := decide_eq_false c18
       clear c18
       replace H := Option.bind_eq_some_iff.mp H
       obtain ⟨t113, A220, H⟩ := H
       replace H : (some (t113, true)) = some (r1, r2) := H
       have A22 := Aside0.mk A220
       clear A220
       simp only [Option.some.injEq, Prod.mk.injEq] at H
       obtain ⟨rfl, rfl⟩ := H
       have hcz23_0 : wr.cell? ⟨gb107, 0, none⟩ = some (.int .i64 t101) := (blk_cell BK107.out 0).trans rfl
       have hcz23_1 : wr.cell? ⟨gb107, 1, none⟩ = some (.int .i64 t102) := (blk_cell BK107.out 1).trans rfl
       have hcz23_2 : wr.cell? ⟨gb107, 2, none⟩ = some (.slice Ao8 t103.length co8) := (blk_cell BK107.out 2).trans rfl
       have hfz23_0 := blk_frozen BK107.out 0
       have hfz23_1 := blk_frozen BK107.out 1
       have hfz23_2 := blk_frozen BK107.out 2
       go_wp2_with (first | ((with_reducible refine gate_callee (f := 30) rfl ?_); refine gcall (some 42) Tryd.func30 #[.agg #[.int .i64 t101, .int .i64 t102, .slice Ao8 t103.length co8], .int .i64 x8_2] rfl ?_; (with_reducible refine (spec_buCount.calls k2 t101 t102 _ _ t103 x8_2 t113 _ ?side1 ?side2 A22.out).mono ?_); (case side1 => repeat (first | exact (Kd.R_reads' HO_108002.out).2.2 | (with_reducible refine Kd.C_alloc ?_ _) | (with_reducible refine Kd.C_drewN ?_ _) | (with_reducible refine Kd.C_drew ?_))); (case side2 => exact (Kd.R_reads' HO_108002.out).2.1); rintro e w24 ⟨rfl, hb⟩; refine ⟨_, rfl, ?_⟩; have n0_ := Aside0.mk (Kd.R_below (rch HO_28) hb); have n1_ := Aside0.mk (Kd.R_below (rch HO_108002) hb); have n2_ := Aside0.mk (blk_below (g := gb107) (o := .cells #[.int .i64 t101, .int .i64 t102, .slice Ao8 t103.length co8] 40 (0, 0)) blc hb); have n3_ := Aside0.mk (below_step (bel HB) hb); clear HO_28; clear HO_108002; clear BK107; clear HB; have HO_28 := n0_; have HO_108002 := n1_; have BK107 := n2_; have HB := n3_; clear n0_ n1_ n2_ n3_; (try clear hb); (try clear hb2); (try clear hk); (try clear hi)))
       go_ret2
       exact ⟨by first | rfl | (simp [errW_none, errW_some] <;> rfl) | (simp [*, errW_none, errW_some] <;> rfl), bel HB⟩
def laws_FnExactCountFromCell.f (k : Nat) (a0 : ByteArray) (a1 : Int) : Option (Bool) := if (a0.size : Int) > 1048576 then (some true) else ((spec_CountFromCell.f k a0 a1).bind fun bt101 => ((impl_CountFromCell.f k a0 a1).bind fun bt103 => (if bt103.1 = bt101.1 then (if (bt103.2 != bt101.2) = true then (some false) else (some true)) else (some false))))
set_option maxHeartbeats 8000000 in
set_option maxRecDepth 100000 in
theorem laws_FnExactCountFromCell.calls (k : Nat) (a0 : ByteArray) (a1 : Int) (r : Bool) (w : World) (hG : GoodW w) (h : laws_FnExactCountFromCell.f k a0 a1 = some r) :
  Calls Tryd.prog 6 #[.string a0, .int .i64 a1] w fun e w' => e = .returned (.bool r) ∧ Below w.heap.size w w' := by
 have HG := Aside0.mk hG
 clear hG
 have HB := Aside0.mk (Below.refl w.heap.size w)
 have H : (if (a0.size : Int) > 1048576 then (some true) else ((spec_CountFromCell.f k a0 a1).bind fun bt101 => ((impl_CountFromCell.f k a0 a1).bind fun bt103 => (if bt103.1 = bt101.1 then (if (bt103.2 != bt101.2) = true then (some false) else (some true)) else (some false))))) = some r := h
 clear h
 by_cases c3 : (a0.size : Int) > 1048576
 ·rw [if_pos c3] at H
  have c3b0 : decide (1048576 < (a0.size : Int)) = true := decide_eq_true c3
  have c3b1 : decide (1048576 < a0.size) = true := decide_eq_true (by omega)
  clear c3
  obtain rfl := Option.some.inj H
  go_enter Tryd.func6, Tryd.ntmps6
  go_wp2
  go_ret
  exact ⟨by first | rfl | (simp [errW_none, errW_some] <;> rfl) | (simp [*, errW_none, errW_some] <;> rfl), bel HB⟩
 ·rw [if_neg c3] at H
  have c3b0 : decide (1048576 < (a0.size : Int)) = false := decide_eq_false c3
  have c3b1 : decide (1048576 < a0.size) = false := decide_eq_false (by omega)
  clear c3
  replace H := Option.bind_eq_some_iff.mp H
  obtain ⟨⟨t101, t102⟩, A40, H⟩ := H
  replace H : ((impl_CountFromCell.f k a0 a1).bind fun bt103 => (if bt103.1 = t101 then (if (bt103.2 != t102) = true then (some false) else (some true)) else (some false))) = some r := H
  have A4 := Aside0.mk A40
  clear A40
  replace H := Option.bind_eq_some_iff.mp H
  obtain ⟨⟨t103, t104⟩, A50, H⟩ := H
  replace H : (if t103 = t101 then (if (t104 != t102) = true then (some false) else (some true)) else (some false)) = some r := H
  have A5 := Aside0.mk A50
  clear A50
  by_cases c6 : t103 = t101
  ·rw [if_pos c6] at H
   have c6b0 : (t103 == t101) = true := beq_iff_eq.mpr c6
   have c6b1 : (t103 != t101) = false := bne_eq_false_iff_eq.mpr c6
   clear c6
   by_cases c7 : (t104 != t102) = true
   ·rw [if_pos c7] at H
    have c7b0 : (t104 != t102) = true := c7
    (try (have c7b1 : decide (t104 = t102) = false := by simpa using c7))
    (try (have c7b2 : (t104 == t102) = false := by simpa using c7))
    (try (have c7b3 : ¬ (t104 = t102) := by simpa using c7))
    clear c7
    obtain rfl := Option.some.inj H
    go_enter Tryd.func6, Tryd.ntmps6
    go_wp2_with (first | ((with_reducible refine gate_callee (f := 15) rfl ?_); refine gcall (some 15) Tryd.func15 #[.string a0, .int .i64 a1] rfl ?_; (with_reducible refine (spec_CountFromCell.calls k a0 a1 t101 t102 _ A4.out).mono ?_); rintro e w8 ⟨rfl, hb⟩; refine ⟨_, rfl, ?_⟩; have n0_ := Aside0.mk (below_step (bel HB) hb); clear HB; have HB := n0_; clear n0_; (try clear hb); (try clear hb2); (try clear hk); (try clear hi)) | ((with_reducible refine gate_callee (f := 16) rfl ?_); refine gcall (some 21) Tryd.func16 #[.string a0, .int .i64 a1] rfl ?_; (with_reducible refine (impl_CountFromCell.calls k a0 a1 t103 t104 _ ?side1 A5.out).mono ?_); (case side1 => (refine GoodW.below HG.out ?_); exact bel HB); rintro e w9 ⟨rfl, hb⟩; refine ⟨_, rfl, ?_⟩; have n0_ := Aside0.mk (below_step (bel HB) hb); clear HB; have HB := n0_; clear n0_; (try clear hb); (try clear hb2); (try clear hk); (try clear hi)))
    go_ret
    exact ⟨by first | rfl | (simp [errW_none, errW_some] <;> rfl) | (simp [*, errW_none, errW_some] <;> rfl), bel HB⟩
   ·rw [if_neg c7] at H
    have c7b0 : (t104 != t102) = false := by simpa using c7
    (try (have c7b1 : decide (t104 = t102) = true := by simpa using c7))
    (try (have c7b2 : (t104 == t102) = true := by simpa using c7))
    clear c7
    obtain rfl := Option.some.inj H
    go_enter Tryd.func6, Tryd.ntmps6
    go_wp2_with (first | ((with_reducible refine gate_callee (f := 15) rfl ?_); refine gcall (some 15) Tryd.func15 #[.string a0, .int .i64 a1] rfl ?_; (with_reducible refine (spec_CountFromCell.calls k a0 a1 t101 t102 _ A4.out).mono ?_); rintro e w10 ⟨rfl, hb⟩; refine ⟨_, rfl, ?_⟩; have n0_ := Aside0.mk (below_step (bel HB) hb); clear HB; have HB := n0_; clear n0_; (try clear hb); (try clear hb2); (try clear hk); (try clear hi)) | ((with_reducible refine gate_callee (f := 16) rfl ?_); refine gcall (some 21) Tryd.func16 #[.string a0, .int .i64 a1] rfl ?_; (with_reducible refine (impl_CountFromCell.calls k a0 a1 t103 t104 _ ?side1 A5.out).mono ?_); (case side1 => (refine GoodW.below HG.out ?_); exact bel HB); rintro e w11 ⟨rfl, hb⟩; refine ⟨_, rfl, ?_⟩; have n0_ := Aside0.mk (below_step (bel HB) hb); clear HB; have HB := n0_; clear n0_; (try clear hb); (try clear hb2); (try clear hk); (try clear hi)))
    go_ret
    exact ⟨by first | rfl | (simp [errW_none, errW_some] <;> rfl) | (simp [*, errW_none, errW_some] <;> rfl), bel HB⟩
  ·rw [if_neg c6] at H
   have c6b0 : (t103 == t101) = false := beq_eq_false_iff_ne.mpr c6
   have c6b1 : (t103 != t101) = true := bne_iff_ne.mpr c6
   obtain rfl := Option.some.inj H
   go_enter Tryd.func6, Tryd.ntmps6
   go_wp2_with (first | ((with_reducible refine gate_callee (f := 15) rfl ?_); refine gcall (some 15) Tryd.func15 #[.string a0, .int .i64 a1] rfl ?_; (with_reducible refine (spec_CountFromCell.calls k a0 a1 t101 t102 _ A4.out).mono ?_); rintro e w12 ⟨rfl, hb⟩; refine ⟨_, rfl, ?_⟩; have n0_ := Aside0.mk (below_step (bel HB) hb); clear HB; have HB := n0_; clear n0_; (try clear hb); (try clear hb2); (try clear hk); (try clear hi)) | ((with_reducible refine gate_callee (f := 16) rfl ?_); refine gcall (some 21) Tryd.func16 #[.string a0, .int .i64 a1] rfl ?_; (with_reducible refine (impl_CountFromCell.calls k a0 a1 t103 t104 _ ?side1 A5.out).mono ?_); (case side1 => (refine GoodW.below HG.out ?_); exact bel HB); rintro e w13 ⟨rfl, hb⟩; refine ⟨_, rfl, ?_⟩; have n0_ := Aside0.mk (below_step (bel HB) hb); clear HB; have HB := n0_; clear n0_; (try clear hb); (try clear hb2); (try clear hk); (try clear hi)))
   go_ret
   exact ⟨by first | rfl | (simp [errW_none, errW_some] <;> rfl) | (simp [*, errW_none, errW_some] <;> rfl), bel HB⟩
end Go.Proofs.YtmefnfhghfemgaaDoor.Q
end
section
namespace Go.Proofs.YtmefnfhghfemgaaDoor.Q
set_option linter.unusedSectionVars false
set_option linter.unusedSimpArgs false
open Go.RowKit Go.Proofs.YtmefnfhghfemgaaDoorW.PrintWords Go.Proofs.YtmefnfhghfemgaaDoorW.PrintLast Go.Proofs.YtmefnfhghfemgaaDoorW.PrintMore
open Classical
noncomputable def firstO (cs : List Int) (a : Int) : Nat := if h : ∃ f, f < (ballsOf cs).length ∧ rd (ballsOf cs) (f : Int) = a then h.choose else 0
theorem firstO_at {cs : List Int} {a : Int} (hc : inCells cs a) (h111 : rd cs a = 111) : firstO cs a < (ballsOf cs).length ∧ rd (ballsOf cs) ((firstO cs a : Nat) : Int) = a := by
 unfold inCells at hc
 have h : ∃ f, f < (ballsOf cs).length ∧ rd (ballsOf cs) (f : Int) = a := by
  obtain ⟨j, rfl⟩ : ∃ j : Nat, a = j := ⟨a.toNat, by omega⟩
  have hb : bI cs (j : Int) = true := by
   unfold bI
   rw [h111]
   decide
  have hm : (j : Int) ∈ ballsOf cs := by
   unfold ballsOf ballsTo
   exact List.mem_map.2 ⟨j, List.mem_filter.2 ⟨List.mem_range.2 (by omega), hb⟩, rfl⟩
  obtain ⟨f, hf, h2⟩ := List.getElem_of_mem hm
  exact ⟨f, hf, by rw [rd_nat _ f hf, h2]⟩
 unfold firstO
 rw [dif_pos h]
 exact h.choose_spec
noncomputable def CountFromCellR (s : ByteArray) (a : Int) : Int × Bool := match formOf s with
 | none => (0, false)
 | some (w, h, cs) => if inCells cs a ∧ rd cs a = 111 then (((cntQ w.toNat h.toNat cs (2 ^ firstO cs a) : Nat) : Int), true) else (0, false)
section
variable {N : Nat} {L : List Int} (hL : Cells N L) (h10 : L.length ≤ 10)
include hL h10
theorem indexO_l0 (f : Nat) (hf : f < L.length) (a : Int) (ha : rd L (f : Int) = a) : ∀ (m i : Nat), i + m = f → Ev (fun k => slices_Index_int_int.l0 k L a (L.length : Int) (i : Int)) (f : Int)
 | 0, i, hi => by
  obtain rfl : i = f := by omega
  refine Ev.step (Ev.const (o := some (i : Int)) rfl) fun k => ?_
  rw [slices_Index_int_int.l0, if_pos (by omega), if_pos (by omega), if_pos (by omega), if_pos ha.symm]
 | m + 1, i, hi => by
  have ih := indexO_l0 f hf a ha m (i + 1) (by omega)
  refine Ev.step ih fun k => ?_
  rw [slices_Index_int_int.l0, if_pos (by omega), if_pos (by omega), if_pos (by omega), if_neg (fun e => by
   have := hL.inj i f (by omega) hf (by rw [ha, e])
   omega), ws i (by omega)]
theorem indexS_l0 (f : Nat) (hf : f < L.length) (a : Int) (ha : rd L (f : Int) = a) (w h : Int) (cs : List Int) (K : Int × Bool) (hK : Ev (fun k => (spec_buCount.f k w h cs (f : Int)).bind fun t113 => some (t113, true)) K) :
  ∀ (m i : Nat), i + m = L.length → Ev (fun k => spec_CountFromCell.l0 k a (if f < i then (f : Int) else 0) L (L.length : Int) (i : Int) w h cs) K
 | 0, i, hi => by
  obtain rfl : i = L.length := by omega
  rw [if_pos hf]
  refine Ev.step hK fun k => ?_
  rw [spec_CountFromCell.l0, if_neg (by omega)]
 | m + 1, i, hi => by
  have ih := indexS_l0 f hf a ha w h cs K hK m (i + 1) (by omega)
  refine Ev.step ih fun k => ?_
  rw [spec_CountFromCell.l0, if_pos (by omega), if_pos (by omega), if_pos (by omega), ws i (by omega)]
  by_cases e : i = f
  ·subst e
   rw [if_pos ha, if_pos (Nat.lt_succ_self _)]
  ·rw [if_neg (fun h2 => e (hL.inj i f (by omega) hf (by rw [ha, h2])))]
   by_cases e2 : f < i
   ·rw [if_pos e2, if_pos (by omega)]
   ·rw [if_neg e2, if_neg (by omega)]
end
theorem specCountFromCell_ev (s : ByteArray) (a : Int) : Ev (fun k => spec_CountFromCell.f k s a) (CountFromCellR s a) := by
 obtain ⟨g, h1, h2⟩ := buCell_ev s a
 refine Ev.bind (f := fun k (bt101 : Int × Int × List Int × Bool) => (if bt101.2.2.2 = true then (if 0 ≤ a then (if a < (bt101.2.2.1.length : Int) then (spec_CountFromCell.j0 k a ((rd bt101.2.2.1 a) != 111) bt101.1 bt101.2.1 bt101.2.2.1) else (none)) else (none)) else (spec_CountFromCell.j0 k a true bt101.1 bt101.2.1 bt101.2.2.1))) h1 ?_
 have hno : ∀ x y z, Ev (fun k => spec_CountFromCell.j0 k a true x y z) ((0 : Int), false) := fun x y z => Ev.step (Ev.const (o := some ((0 : Int), false)) rfl) fun k => by rw [spec_CountFromCell.j0, if_pos rfl]
 unfold CountFromCellR
 rcases hf : formOf s with _ | t
 ·exact Ev.congr (hno _ _ _) fun k => if_neg Bool.false_ne_true
 ·obtain rfl := h2 t hf
  obtain ⟨w, h, cs, rfl, hw1, hw, hh1, hh, hs, hn, hk, ht⟩ := form_parts hf
  show Ev (fun k => if decide (inCells cs a) = true then (if 0 ≤ a then (if a < (cs.length : Int) then (spec_CountFromCell.j0 k a ((rd cs a) != 111) w h cs) else (none)) else (none)) else (spec_CountFromCell.j0 k a true w h cs)) (if _ then _ else _)
  by_cases hc : inCells cs a
  ·have ha := hc
   unfold inCells at ha
   refine Ev.congr (g' := fun k => spec_CountFromCell.j0 k a ((rd cs a) != 111) w h cs) ?_ fun k => by rw [if_pos (decide_eq_true hc), if_pos ha.1, if_pos ha.2]
   by_cases hr : rd cs a = 111
   ·rw [if_pos ⟨hc, hr⟩]
    obtain ⟨f1, f2⟩ := firstO_at hc hr
    have h3 := buCount_ev hw1 hw hh1 hh hs hn hk.2.1.2 (x1 := (firstO cs a : Int)) (S0 := 2 ^ firstO cs a) (Or.inr ⟨firstO cs a, f1, rfl, rfl⟩)
    rw [show tabQ w h cs (2 ^ firstO cs a) (2 ^ (ballsOf cs).length - 1) = cntQ w h cs (2 ^ firstO cs a) from if_neg (pow_one hk.2.1.1)] at h3
    have h4 := indexS_l0 (cells_balls cs) hk.2.1.2 (firstO cs a) f1 a f2 w h cs (((cntQ w h cs (2 ^ firstO cs a) : Nat) : Int), true) (Ev.bind (f := fun _ (t113 : Int) => some (t113, true)) h3 (Ev.const rfl)) (ballsOf cs).length 0 (Nat.zero_add _)
    rw [if_neg (Nat.not_lt_zero _)] at h4
    simp only [Int.toNat_natCast]
    refine Ev.step (Ev.bind (f := fun k t109 => spec_CountFromCell.l0 k a 0 t109 (t109.length : Int) 0 w h cs) (tyBalls_ev cs (by omega) w h) h4) fun k => ?_
    rw [spec_CountFromCell.j0, hr, if_neg (by decide)]
   ·rw [if_neg fun h => hr h.2]
    rw [show (rd cs a != 111) = true from bne_iff_ne.2 hr]
    exact hno _ _ _
  ·rw [if_neg fun h => hc h.1]
   exact Ev.congr (hno w h cs) fun k => if_neg (by simpa using hc)
theorem implCountFromCell_ev (s : ByteArray) (a : Int) (hs : s.size ≤ 1048576) : Ev (fun k => impl_CountFromCell.f k s a) (CountFromCellR s a) := by
 refine Ev.bind (f := fun k (b : Bool) => if b = true then (impl_read.f s).bind fun g => if 0 ≤ a ∧ a < (g.2.2.length : Int) then (if rd g.2.2 a = 111 then (impl_tray_indices_isBall.f k g.1 g.2.1 g.2.2 ()).bind fun L => (slices_Index_int_int.f k L a).bind fun j => if 0 ≤ j ∧ j ≤ 10 then (ordF k g.1 g.2.1 g.2.2 L (2 ^ j.toNat)).bind fun r => some (r, true) else none else some (0, false)) else none else some (0, false)) (isFormCell_ev s hs a) ?_
 unfold CountFromCellR
 rcases hf : formOf s with _ | t
 ·exact Ev.congr (Ev.const (o := some ((0 : Int), false)) rfl) fun k => if_neg Bool.false_ne_true
 ·obtain ⟨w, h, cs, rfl, hw1, hw, hh1, hh, hs2, hn, hk, ht⟩ := form_parts hf
  have hread := tray_read ht
  show Ev (fun k => if decide (inCells cs a) = true then _ else _) (if _ then _ else _)
  by_cases hc : inCells cs a
  ·have ha := hc
   unfold inCells at ha
   by_cases hr : rd cs a = 111
   ·rw [if_pos ⟨hc, hr⟩]
    simp only [Int.toNat_natCast]
    obtain ⟨f1, f2⟩ := firstO_at hc hr
    have h1 := ordF_ev hw hh hs2 hn hk.2.1.2 (form_open hk) (by rw [hn]; exact Nat.mul_le_mul hw1 hh1) (2 ^ (ballsOf cs).length) (2 ^ firstO cs a) (Nat.le_add_right _ _) (Nat.pow_lt_pow_right (by decide) f1)
    have h2 := indexO_l0 (cells_balls cs) hk.2.1.2 (firstO cs a) f1 a f2 (firstO cs a) 0 (Nat.zero_add _)
    refine Ev.congr (g' := fun k => (impl_tray_indices_isBall.f k w h cs ()).bind fun L => (slices_Index_int_int.f k L a).bind fun j => if 0 ≤ j ∧ j ≤ 10 then (ordF k w h cs L (2 ^ j.toNat)).bind fun r => some (r, true) else none) ?_ fun k => ?_
    ·refine Ev.bind (f := fun k L => (slices_Index_int_int.f k L a).bind fun j => if 0 ≤ j ∧ j ≤ 10 then (ordF k w h cs L (2 ^ j.toNat)).bind fun r => some (r, true) else none) (indices_ev cs (by rw [hn]; exact hs2) w h) ?_
     refine Ev.bind (f := fun k j => if 0 ≤ j ∧ j ≤ 10 then (ordF k w h cs (ballsOf cs) (2 ^ j.toNat)).bind fun r => some (r, true) else none) h2 ?_
     refine Ev.congr (Ev.bind (f := fun _ (r : Int) => some (r, true)) h1 (Ev.const rfl)) fun k => ?_
     rw [if_pos ⟨Int.natCast_nonneg _, by have := hk.2.1.2; omega⟩, Int.toNat_natCast]
    ·rw [if_pos (decide_eq_true hc), hread, Option.bind_some]
     exact (if_pos ha).trans (if_pos hr)
   ·rw [if_neg fun h => hr h.2]
    refine Ev.congr (Ev.const (o := some ((0 : Int), false)) rfl) fun k => ?_
    rw [if_pos (decide_eq_true hc), hread, Option.bind_some]
    exact (if_pos ha).trans (if_neg hr)
  ·rw [if_neg fun h => hc h.1]
   exact Ev.congr (Ev.const (o := some ((0 : Int), false)) rfl) fun k => if_neg (by simpa using hc)
theorem lawCountFromCell_ev (s : ByteArray) (a : Int) : Ev (fun k => laws_FnExactCountFromCell.f k s a) true := by
 by_cases hs : s.size ≤ 1048576
 case neg =>
  refine Ev.congr (Ev.const (o := some true) rfl) fun k => ?_
  unfold laws_FnExactCountFromCell.f
  exact if_pos (by omega)
 refine Ev.congr (Ev.bind (f := fun k (bt101 : Int × Bool) => ((impl_CountFromCell.f k s a).bind fun bt103 => (if bt103.1 = bt101.1 then (if (bt103.2 != bt101.2) = true then (some false) else (some true)) else (some false)))) (specCountFromCell_ev s a) (Ev.bind (f := fun _ (bt103 : Int × Bool) => (if bt103.1 = (CountFromCellR s a).1 then (if (bt103.2 != (CountFromCellR s a).2) = true then (some false) else (some true)) else (some false))) (implCountFromCell_ev s a hs) (Ev.const ?_))) fun k => by unfold laws_FnExactCountFromCell.f; rw [if_neg (by omega)]
 rw [if_pos rfl, bne_self_eq_false, if_neg Bool.false_ne_true]
end Go.Proofs.YtmefnfhghfemgaaDoor.Q
end
