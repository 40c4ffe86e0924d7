/- Texts of this claim, joined. -/
import Derived.Test.YtohfcmhidjaohaaDoorJCountStill01
import Derived.Test.YtohfcmhidjaohaaDoorJCountStill03
import Derived.Test.YtohfcmhidjaohaaDoorJCountStill02
set_option linter.unusedVariables false
set_option linter.unusedSimpArgs false
set_option linter.unusedSectionVars false
section
namespace Go.Proofs.YtohfcmhidjaohaaDoor.Q
open Go.RowKit Go.Proofs.YtohfcmhidjaohaaDoorW.PrintWords Go.Proofs.YtohfcmhidjaohaaDoorW.PrintLast Go.Proofs.YtohfcmhidjaohaaDoorW.PrintMore
attribute [local go_sem] max2_int min2_int max_two min_two max_three min_three max_four min_four
set_option linter.unusedVariables false
set_option linter.unusedSimpArgs false
mutual
def spec_CountStill.j0 : Nat → Int → Bool → Int → Int → List Int → Option (Int × Bool)
 | 0, _, _, _, _, _ => none
 | k + 1, x9, x26, x109000, x109001, x109002 => if x26 = true then (some (0, false)) else ((spec_tiStretches.f k x109000 x109001 x109002 x9).bind fun t110 => (spec_CountStill.l0 k 1 t110 (t110.length : Int) 0))
def spec_CountStill.l0 : Nat → Int → List (List Int) → Int → Int → Option (Int × Bool)
 | 0, _, _, _, _ => none
 | k + 1, x10, x29, x30, x31 => if x31 < x30 then (if 0 ≤ x31 then (if x31 < (x29.length : Int) then (spec_CountStill.l0 k (wrap64 (x10 * (wrap64 (((rd_Lii x29 x31).length : Int) + 1)))) x29 x30 (wrap64 (x31 + 1))) else (none)) else (none)) else (some (x10, true))
end
def spec_CountStill.f (k : Nat) (a0 : ByteArray) (a1 : ByteArray) : Option (Int × Bool) := (spec_cnBare.f k a0).bind fun bt101 => ((spec_tiDir.f k a1).bind fun t109 => (if bt101.2.2.2.2 = true then (spec_CountStill.j0 k t109 (decide (t109 < 0)) bt101.1 bt101.2.1 bt101.2.2.1) else (spec_CountStill.j0 k t109 true bt101.1 bt101.2.1 bt101.2.2.1)))
set_option maxHeartbeats 8000000 in
set_option maxRecDepth 100000 in
theorem spec_CountStill.calls (k : Nat) (a0 : ByteArray) (a1 : ByteArray) (r1 : Int) (r2 : Bool) (w : World) (h : spec_CountStill.f k a0 a1 = some (r1, r2)) :
  Calls Tryd.prog 15 #[.string a0, .string a1] w fun e w' => e = .returned (.tuple #[.int .i64 r1, .bool r2]) ∧ Below w.heap.size w w' := by
 have hu37 := Tryd.underlying37
 have HB := Aside0.mk (Below.refl w.heap.size w)
 have H : ((spec_cnBare.f k a0).bind fun bt101 => ((spec_tiDir.f k a1).bind fun t109 => (if bt101.2.2.2.2 = true then (spec_CountStill.j0 k t109 (decide (t109 < 0)) bt101.1 bt101.2.1 bt101.2.2.1) else (spec_CountStill.j0 k t109 true bt101.1 bt101.2.1 bt101.2.2.1)))) = some (r1, r2) := h
 clear h
 replace H := Option.bind_eq_some_iff.mp H
 obtain ⟨⟨t101, t102, t103, t106, t107⟩, A30, H⟩ := H
 replace H : ((spec_tiDir.f k a1).bind fun t109 => (if t107 = true then (spec_CountStill.j0 k t109 (decide (t109 < 0)) t101 t102 t103) else (spec_CountStill.j0 k t109 true t101 t102 t103))) = some (r1, r2) := H
 have A3 := Aside0.mk A30
 clear A30
 replace H := Option.bind_eq_some_iff.mp H
 obtain ⟨t109, A40, H⟩ := H
 replace H : (if t107 = true then (spec_CountStill.j0 k t109 (decide (t109 < 0)) t101 t102 t103) else (spec_CountStill.j0 k t109 true t101 t102 t103)) = some (r1, r2) := H
 have A4 := Aside0.mk A40
 clear A40
 have HC5 := Aside0.mk H
 clear H
 go_enter Tryd.func15, Tryd.ntmps15
 go_upto_region 3 with (first | ((with_reducible refine gate_callee (f := 35) rfl ?_); refine gcall (some 15) Tryd.func35 #[.string a0] rfl ?_; (with_reducible refine (spec_cnBare.calls k a0 t101 t102 t103 t106 t107 _ A3.out).mono ?_); rintro e w6 ⟨v104, rfl, ho0, hb⟩; refine ⟨_, rfl, ?_⟩; have n0_ := Aside0.mk (Kd.R_lower ho0 (below_size (bel HB))); have n1_ := Aside0.mk (below_step (bel HB) hb); clear HB; have HO105 := n0_; have HB := n1_; clear n0_ n1_; (try clear hb); (try clear hb2); (try clear hk); (try clear hi); (try clear ho0)) | ((with_reducible refine gate_dst (N := 6) rfl ?_); refine boxE (N := 6) (cs := #[.int .i64 0, .int .i64 0, .slice none 0 0]) (t := 37) ?_; intro gb108 hg w7 hbox hb; have n0_ := Aside0.mk (Kd.R_below (rch HO105) hb); have n1_ := Aside0.mk (below_step (bel HB) hb); have n2_ := Aside0.mk (hbox); have n3_ := Aside0.mk (gsz hg (bel HB)); have n4_ := Aside0.mk (gsz hg (bel HB)); clear HO105; clear HB; have HO105 := n0_; have HB := n1_; have BK108 := n2_; have GW108 := n3_; have GE108 := n4_; clear n0_ n1_ n2_ n3_ n4_; clear hb hbox hg; have hcz8_0 : w7.cell? ⟨gb108, 0, none⟩ = some (.int .i64 0) := (blk_cell BK108.out 0).trans rfl; have hcz8_1 : w7.cell? ⟨gb108, 1, none⟩ = some (.int .i64 0) := (blk_cell BK108.out 1).trans rfl; have hcz8_2 : w7.cell? ⟨gb108, 2, none⟩ = some (.slice none 0 0) := (blk_cell BK108.out 2).trans rfl; have hfz8_0 := blk_frozen BK108.out 0; have hfz8_1 := blk_frozen BK108.out 1; have hfz8_2 := blk_frozen BK108.out 2; obtain ⟨Ao9, co9, eo9⟩ := Kd.R_slice HO105.out; subst eo9) | ((with_reducible refine gate_callee (f := 36) rfl ?_); refine gcall (some 20) Tryd.func36 #[.string a1] rfl ?_; (with_reducible refine (spec_tiDir.calls k a1 t109 _ A4.out).mono ?_); rintro e w' ⟨rfl, ⟨nd, rfl⟩⟩; refine ⟨_, rfl, ?_⟩))
 (try simp only [Act.put, List.setIfInBounds_toArray, List.set_cons_zero, List.set_cons_succ])
 go_cut [26] (fun v26 wc => ∃ (kq : Nat) (x26_4 : Bool), v26 = .bool x26_4 ∧ Aside0 (spec_CountStill.j0 kq t109 x26_4 t101 t102 t103 = some (r1, r2)) ∧ Aside0 (kq ≤ k) ∧ Aside0 (Kd.R (Kd.int .u8) 5 wc w.heap.size (fun _ => True) (.slice Ao9 t103.length co9) t103) ∧ Aside0 (wc.heap[gb108]? = some (.cells #[.int .i64 t101, .int .i64 t102, (.slice Ao9 t103.length co9)] 37 (0, 0))) ∧ Aside0 (Below w.heap.size w wc))
 case first =>
  have H := HC5.out
  clear HC5
  by_cases c10 : t107 = true
  ·subst c10
   have H1 : (spec_CountStill.j0 k t109 (decide (t109 < 0)) t101 t102 t103) = some (r1, r2) := by rw [if_pos rfl] at H; exact H
   clear H
   have H := H1
   clear H1
   have H' := Aside0.mk H
   clear H
   go_wp2
   go_meet
   case rel => exact ⟨_, (decide (t109 < 0)), (by first | rfl | (simp; done) | (simp [*]; done)), H', ⟨by first | omega | exact Nat.le_refl _⟩, ⟨by (with_reducible repeat (first | apply Kd.R_alloc | apply Kd.R_drewN | apply Kd.R_drew)); exact Kd.R_mono (Kd.R_far (p := ⟨gb108, 2, none⟩) (Kd.R_far (p := ⟨gb108, 1, none⟩) (Kd.R_far (p := ⟨gb108, 0, none⟩) (Kd.R_types HO105.out BK108.out (by decide)) (fun _ hk => hk.2) (.int .i64 t101)) (fun _ hk => hk.2) (.int .i64 t102)) (fun _ hk => hk.2) (.slice Ao9 t103.length co9)) (fun _ hk => trivial)⟩, ⟨by (with_reducible repeat (first | refine blk_drewN ?_ _ | refine blk_drew ?_ | refine blk_alloc ?_ _)); refine blk_put (cs := #[.int .i64 t101, .int .i64 t102, .slice none 0 0]) ?_ 2 _ rfl; (with_reducible repeat (first | refine blk_drewN ?_ _ | refine blk_drew ?_ | refine blk_alloc ?_ _)); refine blk_put (cs := #[.int .i64 t101, .int .i64 0, .slice none 0 0]) ?_ 1 _ rfl; (with_reducible repeat (first | refine blk_drewN ?_ _ | refine blk_drew ?_ | refine blk_alloc ?_ _)); refine blk_put (cs := #[.int .i64 0, .int .i64 0, .slice none 0 0]) ?_ 0 _ rfl; exact blc⟩, ⟨bel HB⟩⟩
  ·replace c10 := Bool.eq_false_iff.mpr c10
   subst c10
   have H1 : (spec_CountStill.j0 k t109 true t101 t102 t103) = some (r1, r2) := by rw [if_neg (show ¬ (false = true) by decide)] at H; exact H
   clear H
   have H := H1
   clear H1
   have H' := Aside0.mk H
   clear H
   go_wp2
   go_meet
   case rel => exact ⟨_, (true), (by first | rfl | (simp; done) | (simp [*]; done)), H', ⟨by first | omega | exact Nat.le_refl _⟩, ⟨by (with_reducible repeat (first | apply Kd.R_alloc | apply Kd.R_drewN | apply Kd.R_drew)); exact Kd.R_mono (Kd.R_far (p := ⟨gb108, 2, none⟩) (Kd.R_far (p := ⟨gb108, 1, none⟩) (Kd.R_far (p := ⟨gb108, 0, none⟩) (Kd.R_types HO105.out BK108.out (by decide)) (fun _ hk => hk.2) (.int .i64 t101)) (fun _ hk => hk.2) (.int .i64 t102)) (fun _ hk => hk.2) (.slice Ao9 t103.length co9)) (fun _ hk => trivial)⟩, ⟨by (with_reducible repeat (first | refine blk_drewN ?_ _ | refine blk_drew ?_ | refine blk_alloc ?_ _)); refine blk_put (cs := #[.int .i64 t101, .int .i64 t102, .slice none 0 0]) ?_ 2 _ rfl; (with_reducible repeat (first | refine blk_drewN ?_ _ | refine blk_drew ?_ | refine blk_alloc ?_ _)); refine blk_put (cs := #[.int .i64 t101, .int .i64 0, .slice none 0 0]) ?_ 1 _ rfl; (with_reducible repeat (first | refine blk_drewN ?_ _ | refine blk_drew ?_ | refine blk_alloc ?_ _)); refine blk_put (cs := #[.int .i64 0, .int .i64 0, .slice none 0 0]) ?_ 0 _ rfl; exact blc⟩, ⟨bel HB⟩⟩
 case rest =>
  clear HC5
  try clear c1
  try clear p2
  try clear c3
  try clear c10
  try clear hcz8_0
  try clear hcz8_1
  try clear hcz8_2
  try clear hfz8_0
  try clear hfz8_1
  try clear hfz8_2
  obtain ⟨kq, x26_4, rfl, HA, HJ4, HO_109002, BK108, HB⟩ := hcut
  cases kq with
  | zero => exact absurd HA.out (by simp [spec_CountStill.j0])
  | succ kj4 =>
   have H := HA.out
   clear HA
   simp only [spec_CountStill.j0] at H
   by_cases c11 : x26_4 = true
   ·subst c11
    have H1 : (some (0, false)) = some (r1, r2) := by rw [if_pos rfl] at H; exact H
    clear H
    have H := H1
    clear H1
    simp only [Option.some.injEq, Prod.mk.injEq] at H
    obtain ⟨rfl, rfl⟩ := H
    go_wp2
    go_ret2
    exact ⟨by first | rfl | (simp [errW_none, errW_some] <;> rfl) | (simp [*, errW_none, errW_some] <;> rfl), bel HB⟩
   ·replace c11 := Bool.eq_false_iff.mpr c11
    subst c11
    have H1 : ((spec_tiStretches.f kj4 t101 t102 t103 t109).bind fun t110 => (spec_CountStill.l0 kj4 1 t110 (t110.length : Int) 0)) = some (r1, r2) := by rw [if_neg (show ¬ (false = true) by decide)] at H; exact H
    clear H
    have H := H1
    clear H1
    replace H := Option.bind_eq_some_iff.mp H
    obtain ⟨t110, A120, H⟩ := H
    replace H : (spec_CountStill.l0 kj4 1 t110 (t110.length : Int) 0) = some (r1, r2) := H
    have A12 := Aside0.mk A120
    clear A120
    have H' := Aside0.mk H
    clear H
    have hcz13_0 : wc.cell? ⟨gb108, 0, none⟩ = some (.int .i64 t101) := (blk_cell BK108.out 0).trans rfl
    have hcz13_1 : wc.cell? ⟨gb108, 1, none⟩ = some (.int .i64 t102) := (blk_cell BK108.out 1).trans rfl
    have hcz13_2 : wc.cell? ⟨gb108, 2, none⟩ = some (.slice Ao9 t103.length co9) := (blk_cell BK108.out 2).trans rfl
    have hfz13_0 := blk_frozen BK108.out 0
    have hfz13_1 := blk_frozen BK108.out 1
    have hfz13_2 := blk_frozen BK108.out 2
    go_wp2_with (first | ((with_reducible refine gate_callee (f := 28) rfl ?_); refine gcall (some 29) Tryd.func28 #[.agg #[.int .i64 t101, .int .i64 t102, .slice Ao9 t103.length co9], .int .i64 t109] rfl ?_; (with_reducible refine (spec_tiStretches.calls kj4 t101 t102 _ _ t103 t109 t110 _ ?side1 ?side2 A12.out).mono ?_); (case side1 => repeat (first | exact (Kd.R_reads' HO_109002.out).2.2 | (with_reducible refine Kd.C_alloc ?_ _) | (with_reducible refine Kd.C_drewN ?_ _) | (with_reducible refine Kd.C_drew ?_))); (case side2 => exact (Kd.R_reads' HO_109002.out).2.1); rintro e w14 ⟨v111, rfl, ho0, hb⟩; refine ⟨_, rfl, ?_⟩; have n0_ := Aside0.mk (Kd.R_below (rch HO_109002) hb); have n1_ := Aside0.mk (Kd.N_lower (Kd.N_mono (ok' := fun k_ => some k_ ≠ (.slice Ao9 t103.length co9 : Value).ownBlock ∧ k_ ≠ gb108) ho0 (fun k_ hk_ => ⟨(Kd.fresh' (Kd.R_lt (rch HO_109002)) k_ hk_), (Kd.freshB (g := gb108) (o := .cells #[.int .i64 t101, .int .i64 t102, .slice Ao9 t103.length co9] 37 (0, 0)) blc k_ hk_)⟩)) (below_size (bel HB))); have n2_ := Aside0.mk (blk_below (g := gb108) (o := .cells #[.int .i64 t101, .int .i64 t102, .slice Ao9 t103.length co9] 37 (0, 0)) blc hb); have n3_ := Aside0.mk (below_step (bel HB) hb); clear HO_109002; clear BK108; clear HB; have HO_109002 := n0_; have HO112 := n1_; have BK108 := n2_; have HB := n3_; clear n0_ n1_ n2_ n3_; (try clear hb); (try clear hb2); (try clear hk); (try clear hi); (try clear ho0); obtain ⟨Ao15, co15, eo15⟩ := Kd.N_slice HO112.out; subst eo15))
    go_loopg [10, 31] kj4 (fun kq v10 v31 w' => ∃ (x10_2 : Int) (x31_2 : Int), v10 = .int .i64 x10_2 ∧ v31 = .int .i64 x31_2 ∧ Aside0 (spec_CountStill.l0 kq x10_2 t110 (t110.length : Int) x31_2 = some (r1, r2)) ∧ Aside0 (kq ≤ kj4) ∧ Aside0 (Kd.N (Kd.slice 3 (Kd.int .i64)) 46 w' w.heap.size (fun k_ => some k_ ≠ ((.slice Ao9 t103.length co9) : Value).ownBlock ∧ k_ ≠ gb108) (.slice Ao15 t110.length co15) t110) ∧ Aside0 (Kd.R (Kd.int .u8) 5 w' w.heap.size (fun _ => True) (.slice Ao9 t103.length co9) t103) ∧ Aside0 (w'.heap[gb108]? = some (.cells #[.int .i64 t101, .int .i64 t102, (.slice Ao9 t103.length co9)] 37 (0, 0))) ∧ Aside0 (Below w.heap.size w w'))
    case atStart => exact ⟨(1), (0), (by first | rfl | (simp; done) | (simp [*]; done)), (by first | rfl | (simp; done) | (simp [*]; done)), H', ⟨Nat.le_refl _⟩, ⟨by (with_reducible repeat (first | apply Kd.N_alloc | apply Kd.N_drewN | apply Kd.N_drew)); (first | exact HO112.out | exact R_any HO112.out)⟩, ⟨rch HO_109002⟩, ⟨blc⟩, ⟨bel HB⟩⟩
    case round =>
     clear H'
     try clear c1
     try clear c2
     try clear p2
     try clear c3
     try clear c10
     try clear c11
     try clear c15
     try clear hcz13_0
     try clear hcz13_1
     try clear hcz13_2
     try clear hcz8_0
     try clear hcz8_1
     try clear hcz8_2
     try clear hfz13_0
     try clear hfz13_1
     try clear hfz13_2
     try clear hfz8_0
     try clear hfz8_1
     try clear hfz8_2
     try clear p2
     obtain ⟨x10_2, x31_2, rfl, rfl, HA, HK2, HO_29, HO_109002, BK108, HB⟩ := hrel
     cases gk with
     | zero => exact absurd HA.out (by simp [spec_CountStill.l0])
     | succ k2 =>
      have H := HA.out
      clear HA
      simp only [spec_CountStill.l0] at H
      by_cases c16 : x31_2 < (t110.length : Int)
      ·rw [if_pos c16] at H
       have c16b0 : decide (x31_2 < (t110.length : Int)) = true := decide_eq_true c16
       clear c16
       by_cases c17 : 0 ≤ x31_2
       ·rw [if_pos c17] at H
        have c17b0 : decide (0 ≤ x31_2) = true := decide_eq_true c17
        clear c17
        by_cases c18 : x31_2 < (t110.length : Int)
        ·rw [if_pos c18] at H
         have c18b0 : decide (x31_2 < (t110.length : Int)) = true := decide_eq_true c18
         clear c18
         have H' := Aside0.mk H
         clear H
         have p113 : 0 ≤ (x31_2 : Int) := of_decide_eq_true (by first | (with_reducible assumption) | assumption)
         have q113 : x31_2 < (t110.length : Int) := of_decide_eq_true (by first | (with_reducible assumption) | assumption)
         obtain ⟨ad113, A113_0, c113_0, e113, hx113_0, hl113_0, hi113_0⟩ := at_Lii (Kd.N_reads' HO_29.out).2.2 x31_2 p113 q113
         cases e113
         obtain ⟨ce113, hce113, hMe113, hcc113⟩ := Kd.N_get HO_29.out [] x31_2 p113 (by first | exact q113 | exact of_decide_eq_true (by first | (with_reducible assumption) | assumption) | (have e_ := (Kd.N_reads' HO_29.out).1; omega))
         obtain ⟨ua113_0, uc113_0, rfl, ul113_0, ge113_0⟩ := Kd.FK_slice_open hMe113
         have hv113_0 := hcc113 0 _ rfl
         rw [Nat.add_zero, show ((Kd.slice 3 (Kd.int .i64))).sz = 1 from rfl, Nat.mul_one] at hv113_0
         replace hv113_0 := Option.some.inj (hv113_0.symm.trans hx113_0)
         injection hv113_0 with hva_ hvn_ hvc_
         rw [hva_] at ge113_0
         rw [hvc_] at ul113_0
         have HL113_0 := Aside0.mk (show Kd.V (Kd.int .i64) 3 _ w.heap.size _ _ (rd_Lii t110 x31_2) from Kd.V_mk ul113_0 ge113_0)
         clear hva_ hvn_ hvc_ ge113_0 ul113_0
         clear hcc113 hce113
         have HR113_0 := Aside0.mk hi113_0
         have HC113_0 := Aside0.mk hl113_0
         clear hi113_0 hl113_0
         replace p113 := eq_true p113
         replace q113 := eq_true q113
         go_wp2
         go_roundg k2
         case measure => have := HJ4.out; have := HK2.out; omega
         case rel => exact ⟨(wrap64 (x10_2 * (wrap64 (((rd_Lii t110 x31_2).length : Int) + 1)))), (wrap64 (x31_2 + 1)), (by first | rfl | (simp; done) | (simp [*]; done)), (by first | rfl | (simp; done) | (simp [*]; done)), H', ⟨by have := HJ4.out; have := HK2.out; omega⟩, ⟨by (with_reducible repeat (first | apply Kd.N_alloc | apply Kd.N_drewN | apply Kd.N_drew)); (first | exact HO_29.out | exact R_any HO_29.out)⟩, ⟨rch HO_109002⟩, ⟨blc⟩, ⟨bel HB⟩⟩
        ·rw [if_neg c18] at H
         exact absurd H (by simp)
       ·rw [if_neg c17] at H
        exact absurd H (by simp)
      ·rw [if_neg c16] at H
       have c16b0 : decide (x31_2 < (t110.length : Int)) = false := decide_eq_false c16
       clear c16
       simp only [Option.some.injEq, Prod.mk.injEq] at H
       obtain ⟨rfl, rfl⟩ := H
       go_wp2
       go_ret2
       exact ⟨by first | rfl | (simp [errW_none, errW_some] <;> rfl) | (simp [*, errW_none, errW_some] <;> rfl), bel HB⟩
mutual
def impl_CountStill.j0 : Nat → ByteArray → ByteArray → Bool → Option (Int × Bool)
 | 0, _, _, _ => none
 | k + 1, x0, x1, x16 => if x16 = true then (some (0, false)) else ((impl_read.f x0).bind fun bt103 => (if 0 < (x1.size : Int) then ((impl_tray_stretches.f k bt103.1 bt103.2.1 bt103.2.2 (bt x1 0)).bind fun t108 => (impl_CountStill.l0 k 1 t108 (t108.length : Int) 0)) else (none)))
def impl_CountStill.l0 : Nat → Int → List (List Int) → Int → Int → Option (Int × Bool)
 | 0, _, _, _, _ => none
 | k + 1, x6, x21, x22, x23 => if x23 < x22 then (if 0 ≤ x23 then (if x23 < (x21.length : Int) then (impl_CountStill.l0 k (wrap64 (x6 * (wrap64 (((rd_Lii x21 x23).length : Int) + 1)))) x21 x22 (wrap64 (x23 + 1))) else (none)) else (none)) else (some (x6, true))
end
def impl_CountStill.f (k : Nat) (a0 : ByteArray) (a1 : ByteArray) : Option (Int × Bool) := (impl_isEmptied.f k a0).bind fun t101 => (if t101 = true then ((impl_isDir.f a1).bind fun t102 => (impl_CountStill.j0 k a0 a1 (!t102))) else (impl_CountStill.j0 k a0 a1 true))
set_option maxHeartbeats 8000000 in
set_option maxRecDepth 100000 in
theorem impl_CountStill.calls (k : Nat) (a0 : ByteArray) (a1 : ByteArray) (r1 : Int) (r2 : Bool) (w : World) (hG : GoodW w) (h : impl_CountStill.f k a0 a1 = some (r1, r2)) :
  Calls Tryd.prog 16 #[.string a0, .string a1] w fun e w' => e = .returned (.tuple #[.int .i64 r1, .bool r2]) ∧ Below w.heap.size w w' := by
 have HG := Aside0.mk hG
 clear hG
 have HB := Aside0.mk (Below.refl w.heap.size w)
 have H : ((impl_isEmptied.f k a0).bind fun t101 => (if t101 = true then ((impl_isDir.f a1).bind fun t102 => (impl_CountStill.j0 k a0 a1 (!t102))) else (impl_CountStill.j0 k a0 a1 true))) = some (r1, r2) := h
 clear h
 have HC3 := Aside0.mk H
 clear H
 go_enter Tryd.func16, Tryd.ntmps16
 go_upto_region 1 with (fail)
 go_cut [16] (fun v16 wc => ∃ (kq : Nat) (x16_2 : Bool), v16 = .bool x16_2 ∧ Aside0 (impl_CountStill.j0 kq a0 a1 x16_2 = some (r1, r2)) ∧ Aside0 (kq ≤ k) ∧ Aside0 (Below w.heap.size w wc))
 case first =>
  have H := HC3.out
  clear HC3
  replace H := Option.bind_eq_some_iff.mp H
  obtain ⟨t101, A40, H⟩ := H
  replace H : (if t101 = true then ((impl_isDir.f a1).bind fun t102 => (impl_CountStill.j0 k a0 a1 (!t102))) else (impl_CountStill.j0 k a0 a1 true)) = some (r1, r2) := H
  have A4 := Aside0.mk A40
  clear A40
  by_cases c5 : t101 = true
  ·subst c5
   have H1 : ((impl_isDir.f a1).bind fun t102 => (impl_CountStill.j0 k a0 a1 (!t102))) = some (r1, r2) := by rw [if_pos rfl] at H; exact H
   clear H
   have H := H1
   clear H1
   replace H := Option.bind_eq_some_iff.mp H
   obtain ⟨t102, A60, H⟩ := H
   replace H : (impl_CountStill.j0 k a0 a1 (!t102)) = some (r1, r2) := H
   have A6 := Aside0.mk A60
   clear A60
   have H' := Aside0.mk H
   clear H
   go_wp2_with (first | ((with_reducible refine gate_callee (f := 37) rfl ?_); refine gcall (some 10) Tryd.func37 #[.string a0] rfl ?_; (with_reducible refine (impl_isEmptied.calls k a0 true _ ?side1 A4.out).mono ?_); (case side1 => (refine GoodW.below HG.out ?_); exact bel HB); rintro e w7 ⟨rfl, hb⟩; refine ⟨_, rfl, ?_⟩; have n0_ := Aside0.mk (below_step (bel HB) hb); clear HB; have HB := n0_; clear n0_; (try clear hb); (try clear hb2); (try clear hk); (try clear hi)) | (go_at_call 38; (with_reducible refine (impl_isDir.calls a1 t102 _ A6.out).mono ?_); rintro e w' ⟨rfl, ⟨nd, rfl⟩⟩))
   go_meet
   case rel => exact ⟨_, (!t102), (by first | rfl | (simp; done) | (simp [*]; done)), H', ⟨by first | omega | exact Nat.le_refl _⟩, ⟨bel HB⟩⟩
  ·replace c5 := Bool.eq_false_iff.mpr c5
   subst c5
   have H1 : (impl_CountStill.j0 k a0 a1 true) = some (r1, r2) := by rw [if_neg (show ¬ (false = true) by decide)] at H; exact H
   clear H
   have H := H1
   clear H1
   have H' := Aside0.mk H
   clear H
   go_wp2_with (first | ((with_reducible refine gate_callee (f := 37) rfl ?_); refine gcall (some 10) Tryd.func37 #[.string a0] rfl ?_; (with_reducible refine (impl_isEmptied.calls k a0 false _ ?side1 A4.out).mono ?_); (case side1 => (refine GoodW.below HG.out ?_); exact bel HB); rintro e w8 ⟨rfl, hb⟩; refine ⟨_, rfl, ?_⟩; have n0_ := Aside0.mk (below_step (bel HB) hb); clear HB; have HB := n0_; clear n0_; (try clear hb); (try clear hb2); (try clear hk); (try clear hi)))
   go_meet
   case rel => exact ⟨_, (true), (by first | rfl | (simp; done) | (simp [*]; done)), H', ⟨by first | omega | exact Nat.le_refl _⟩, ⟨bel HB⟩⟩
 case rest =>
  clear HC3
  try clear c1
  try clear p2
  try clear c3
  try clear c5
  obtain ⟨kq, x16_2, rfl, HA, HJ2, HB⟩ := hcut
  cases kq with
  | zero => exact absurd HA.out (by simp [impl_CountStill.j0])
  | succ kj2 =>
   have H := HA.out
   clear HA
   simp only [impl_CountStill.j0] at H
   by_cases c9 : x16_2 = true
   ·subst c9
    have H1 : (some (0, false)) = some (r1, r2) := by rw [if_pos rfl] at H; exact H
    clear H
    have H := H1
    clear H1
    simp only [Option.some.injEq, Prod.mk.injEq] at H
    obtain ⟨rfl, rfl⟩ := H
    go_wp2
    go_ret2
    exact ⟨by first | rfl | (simp [errW_none, errW_some] <;> rfl) | (simp [*, errW_none, errW_some] <;> rfl), bel HB⟩
   ·replace c9 := Bool.eq_false_iff.mpr c9
    subst c9
    have H1 : ((impl_read.f a0).bind fun bt103 => (if 0 < (a1.size : Int) then ((impl_tray_stretches.f kj2 bt103.1 bt103.2.1 bt103.2.2 (bt a1 0)).bind fun t108 => (impl_CountStill.l0 kj2 1 t108 (t108.length : Int) 0)) else (none))) = some (r1, r2) := by rw [if_neg (show ¬ (false = true) by decide)] at H; exact H
    clear H
    have H := H1
    clear H1
    replace H := Option.bind_eq_some_iff.mp H
    obtain ⟨⟨t103, t104, t105⟩, A100, H⟩ := H
    replace H : (if 0 < (a1.size : Int) then ((impl_tray_stretches.f kj2 t103 t104 t105 (bt a1 0)).bind fun t108 => (impl_CountStill.l0 kj2 1 t108 (t108.length : Int) 0)) else (none)) = some (r1, r2) := H
    have A10 := Aside0.mk A100
    clear A100
    by_cases c11 : 0 < (a1.size : Int)
    ·rw [if_pos c11] at H
     have c11b0 : decide (0 < (a1.size : Int)) = true := decide_eq_true c11
     have c11b1 : decide (0 < a1.size) = true := decide_eq_true (by omega)
     clear c11
     replace H := Option.bind_eq_some_iff.mp H
     obtain ⟨t108, A130, H⟩ := H
     replace H : (impl_CountStill.l0 kj2 1 t108 (t108.length : Int) 0) = some (r1, r2) := H
     have A13 := Aside0.mk A130
     clear A130
     have H' := Aside0.mk H
     clear H
     try go_wp2
     have n0_ := Aside0.mk (below_drew1 HB.out)
     clear HB
     have HB := n0_
     clear n0_
     have p12 : 0 ≤ (0 : Int) := (by omega)
     have q12 : 0 < a1.size := (by have : (0 : Int) < (a1.size : Int) := of_decide_eq_true (by first | (with_reducible assumption) | assumption); omega)
     have hx12 : ∀ h : 0 < a1.size, ((a1[0]'h).toNat : Int) = bt a1 0 := bt_at a1 0
     clear p12
     have qi12 : (0 < (a1.size : Int)) = True := eq_true (of_decide_eq_true (by first | (with_reducible assumption) | assumption))
     replace q12 := eq_true q12
     refine start_ (n := 7) (S := fun w' => True) (ds := []) #[false, false, false, false, false, false, false] (by kernel_rfl) rfl rfl trivial (fun hHeld => ?_)
     generalize wc.drew = w14 at HB hHeld ⊢
     refine pure_ (i := 0) (N := some 17) (v := ?_) (a' := ?_) #[true, false, false, false, false, false, false] rfl rfl (by kernel_rfl) (fun _ _ _ h => h) (Or.inl ⟨by rfl, ?_⟩) ?_ ?_
     rotate_left
     ·intro w'
      go_simp
      with_reducible rfl
     rotate_left
     ·simp only [Act.put, List.setIfInBounds_toArray, List.set_cons_zero, List.set_cons_succ, i64_w, i32_w]
      rfl
     refine pure_ (i := 2) (N := some 19) (v := ?_) (a' := ?_) #[true, false, true, false, false, false, false] rfl rfl (by kernel_rfl) (fun _ _ _ h => h) (Or.inl ⟨by rfl, ?_⟩) ?_ ?_
     rotate_left
     ·intro w'
      go_simp
      with_reducible rfl
     rotate_left
     ·simp only [Act.put, List.setIfInBounds_toArray, List.set_cons_zero, List.set_cons_succ, i64_w, i32_w]
      rfl
     refine pure_ (i := 6) (N := some 23) (v := ?_) (a' := ?_) #[true, false, true, false, false, false, true] rfl rfl (by kernel_rfl) (fun _ _ _ h => h) (Or.inl ⟨by rfl, ?_⟩) ?_ ?_
     rotate_left
     ·intro w'
      go_simp
      with_reducible rfl
     rotate_left
     ·simp only [Act.put, List.setIfInBounds_toArray, List.set_cons_zero, List.set_cons_succ, i64_w, i32_w]
      rfl
     refine take_ (i := 3) (N := some 20) (v := ?_) (a' := ?_) #[true, false, true, true, false, false, true] rfl rfl (by kernel_rfl) (fun _ _ _ h => h) (Or.inl ⟨by rfl, ?_⟩) hHeld ?_ ?_
     rotate_left
     ·intro w' _
      go_simp
      with_reducible rfl
     rotate_left
     ·simp only [Act.put, List.setIfInBounds_toArray, List.set_cons_zero, List.set_cons_succ, i64_w, i32_w]
      rfl
     refine one_ (i := 1) (N := some 18) #[true, true, true, true, false, false, true] rfl rfl (by kernel_rfl) (by decide) (fun K hK => ?_)
     refine goes_ Tryd.func30 (by kernel_rfl) rfl #[.string a0] (by rfl) rfl rfl (by (try simp only [List.map_toArray, List.map_cons, List.map_nil]); first | done | rfl | (simp only [List.length_drop, List.length_take]; rfl)) ?_
     with_reducible refine (impl_read.calls a0 t103 t104 t105 _ ?side1 A10.out).mono ?_
     (case side1 => (refine GoodW.below HG.out ?_); exact bel HB)
     rintro e w15 ⟨v106, rfl, ho0, hb⟩
     refine ⟨_, rfl, ?_⟩
     have n0_ := Aside0.mk (Kd.V_lower (Kd.V_mono (ok' := fun k_ => True) ho0 (fun k_ hk_ => trivial)) (below_size (bel HB)))
     have n1_ := Aside0.mk (below_step (bel HB) hb)
     clear HB
     have HO107 := n0_
     have HB := n1_
     clear n0_ n1_
     (try clear hb)
     (try clear hb2)
     (try clear hk)
     (try clear hi)
     (try clear ho0)
     obtain ⟨Ao16, co16, eo16⟩ := Kd.V_slice HO107.out
     (first | subst eo16 | (injection eo16 with f1_ f2_ f3_; have f4_ := f1_.symm; have f5_ := f3_.symm; clear f1_ f2_ f3_; subst f4_; subst f5_))
     refine hK.out _ _ trivial (fun hHeld => ?_)
     clear hK K
     refine norm_ (a' := ?_) ?_ ?_
     rotate_left
     ·show Act.put _ (some 18) _ = _
      simp only [Act.put, List.setIfInBounds_toArray, List.set_cons_zero, List.set_cons_succ, i64_w, i32_w]
      rfl
     refine one_ (i := 4) (N := some 21) #[true, true, true, true, true, false, true] rfl rfl (by kernel_rfl) (by decide) (fun K hK => ?_)
     refine goes_ Tryd.func31 (by kernel_rfl) rfl #[.agg #[.int .i64 t103, .int .i64 t104, .slice Ao16 t105.length co16], .int .u8 (bt a1 0)] (by rfl) rfl rfl (by (try simp only [List.map_toArray, List.map_cons, List.map_nil]); first | done | rfl | (simp only [List.length_drop, List.length_take]; rfl)) ?_
     with_reducible refine (impl_tray_stretches.calls kj2 t103 t104 _ _ t105 (bt a1 0) t108 _ ?side1 ?side2 A13.out).mono ?_
     (case side1 => repeat (first | exact (Kd.V_reads' HO107.out).2.2 | (with_reducible refine Kd.C_alloc ?_ _) | (with_reducible refine Kd.C_drewN ?_ _) | (with_reducible refine Kd.C_drew ?_)))
     (case side2 => exact (Kd.V_reads' HO107.out).2.1)
     rintro e w17 ⟨v109, rfl, ho0, hb⟩
     refine ⟨_, rfl, ?_⟩
     have n0_ := Aside0.mk (Kd.V_elder' (by (with_reducible repeat (first | apply Kd.V_alloc | apply Kd.V_drewN | apply Kd.V_drew)); (first | exact HO107.out | exact R_any HO107.out)) (Kd.S_base ho0) hb)
     have n1_ := Aside0.mk (Kd.S_lower ho0 (below_size (bel HB)))
     have n2_ := Aside0.mk (below_step (bel HB) hb)
     clear HO107
     clear HB
     have HO107 := n0_
     have HO110 := n1_
     have HB := n2_
     clear n0_ n1_ n2_
     (try clear hb)
     (try clear hb2)
     (try clear hk)
     (try clear hi)
     (try clear ho0)
     obtain ⟨Ao18, co18, eo18⟩ := Kd.S_slice HO110.out
     (first | subst eo18 | (injection eo18 with f1_ f2_ f3_; have f4_ := f1_.symm; have f5_ := f3_.symm; clear f1_ f2_ f3_; subst f4_; subst f5_))
     refine hK.out _ _ trivial (fun hHeld => ?_)
     clear hK K
     refine norm_ (a' := ?_) ?_ ?_
     rotate_left
     ·show Act.put _ (some 21) _ = _
      simp only [Act.put, List.setIfInBounds_toArray, List.set_cons_zero, List.set_cons_succ, i64_w, i32_w]
      rfl
     refine pure_ (i := 5) (N := some 22) (v := ?_) (a' := ?_) #[true, true, true, true, true, true, true] rfl rfl (by kernel_rfl) (fun _ _ _ h => h) (Or.inl ⟨by rfl, ?_⟩) ?_ ?_
     rotate_left
     ·intro w'
      go_simp
      with_reducible rfl
     rotate_left
     ·simp only [Act.put, List.setIfInBounds_toArray, List.set_cons_zero, List.set_cons_succ, i64_w, i32_w]
      rfl
     refine done_ (by kernel_rfl) ?_
     try go_wp2
     go_loopg [6, 23] kj2 (fun kq v6 v23 w' => ∃ (x6_2 : Int) (x23_2 : Int), v6 = .int .i64 x6_2 ∧ v23 = .int .i64 x23_2 ∧ Aside0 (impl_CountStill.l0 kq x6_2 t108 (t108.length : Int) x23_2 = some (r1, r2)) ∧ Aside0 (kq ≤ kj2) ∧ Aside0 (Kd.S (Kd.slice 3 (Kd.int .i64)) 46 w' w.heap.size (fun _ => True) (.slice Ao18 t108.length co18) t108) ∧ Aside0 (Below w.heap.size w w'))
     case atStart => exact ⟨(1), (0), (by first | rfl | (simp; done) | (simp [*]; done)), (by first | rfl | (simp; done) | (simp [*]; done)), H', ⟨Nat.le_refl _⟩, ⟨by (with_reducible repeat (first | apply Kd.S_alloc | apply Kd.S_drewN | apply Kd.S_drew)); (first | exact HO110.out | exact R_any HO110.out)⟩, ⟨bel HB⟩⟩
     case round =>
      clear H'
      try clear c1
      try clear p1
      try clear q1
      try clear hx1
      try clear qi1
      try clear p2
      try clear c3
      try clear c5
      try clear c9
      try clear c11
      try clear c11b0
      try clear c11b0y
      try clear c11b1
      try clear p12
      try clear q12
      try clear hx12
      try clear qi12
      try clear c16
      try clear p12
      try clear p2
      try clear q12
      obtain ⟨x6_2, x23_2, rfl, rfl, HA, HK2, HO_21, HB⟩ := hrel
      cases gk with
      | zero => exact absurd HA.out (by simp [impl_CountStill.l0])
      | succ k2 =>
       have H := HA.out
       clear HA
       simp only [impl_CountStill.l0] at H
       by_cases c19 : x23_2 < (t108.length : Int)
       ·rw [if_pos c19] at H
        have c19b0 : decide (x23_2 < (t108.length : Int)) = true := decide_eq_true c19
        clear c19
        by_cases c20 : 0 ≤ x23_2
        ·rw [if_pos c20] at H
         have c20b0 : decide (0 ≤ x23_2) = true := decide_eq_true c20
         clear c20
         by_cases c21 : x23_2 < (t108.length : Int)
         ·rw [if_pos c21] at H
          have c21b0 : decide (x23_2 < (t108.length : Int)) = true := decide_eq_true c21
          clear c21
          have H' := Aside0.mk H
          clear H
          have p111 : 0 ≤ (x23_2 : Int) := of_decide_eq_true (by first | (with_reducible assumption) | assumption)
          have q111 : x23_2 < (t108.length : Int) := of_decide_eq_true (by first | (with_reducible assumption) | assumption)
          obtain ⟨ad111, A111_0, c111_0, e111, hx111_0, hl111_0, hi111_0⟩ := at_Lii (Kd.S_reads' HO_21.out).2.2 x23_2 p111 q111
          cases e111
          obtain ⟨ce111, hce111, hMe111, hcc111⟩ := Kd.S_get HO_21.out [] x23_2 p111 (by first | exact q111 | exact of_decide_eq_true (by first | (with_reducible assumption) | assumption) | (have e_ := (Kd.S_reads' HO_21.out).1; omega))
          obtain ⟨ve111_0, rfl, ge111_0⟩ := hMe111
          have hv111_0 := hcc111 0 _ rfl
          rw [Nat.add_zero, show ((Kd.slice 3 (Kd.int .i64))).sz = 1 from rfl, Nat.mul_one] at hv111_0
          replace hv111_0 := Option.some.inj (hv111_0.symm.trans hx111_0)
          rw [hv111_0] at ge111_0
          have HL111_0 := Aside0.mk (show Kd.R (Kd.int .i64) 3 _ _ _ _ (rd_Lii t108 x23_2) from ge111_0)
          clear hv111_0 ge111_0
          clear hcc111 hce111
          have HR111_0 := Aside0.mk hi111_0
          have HC111_0 := Aside0.mk hl111_0
          clear hi111_0 hl111_0
          replace p111 := eq_true p111
          replace q111 := eq_true q111
          go_wp2
          go_roundg k2
          case measure => have := HJ2.out; have := HK2.out; omega
          case rel => exact ⟨(wrap64 (x6_2 * (wrap64 (((rd_Lii t108 x23_2).length : Int) + 1)))), (wrap64 (x23_2 + 1)), (by first | rfl | (simp; done) | (simp [*]; done)), (by first | rfl | (simp; done) | (simp [*]; done)), H', ⟨by have := HJ2.out; have := HK2.out; omega⟩, ⟨by (with_reducible repeat (first | apply Kd.S_alloc | apply Kd.S_drewN | apply Kd.S_drew)); (first | exact HO_21.out | exact R_any HO_21.out)⟩, ⟨bel HB⟩⟩
         ·rw [if_neg c21] at H
          exact absurd H (by simp)
        ·rw [if_neg c20] at H
         exact absurd H (by simp)
       ·rw [if_neg c19] at H
        have c19b0 : decide (x23_2 < (t108.length : Int)) = false := decide_eq_false c19
        clear c19
        simp only [Option.some.injEq, Prod.mk.injEq] at H
        obtain ⟨rfl, rfl⟩ := H
        go_wp2
        go_ret2
        exact ⟨by first | rfl | (simp [errW_none, errW_some] <;> rfl) | (simp [*, errW_none, errW_some] <;> rfl), bel HB⟩
    ·rw [if_neg c11] at H
     exact absurd H (by simp)
def laws_FnExactCountStill.f (k : Nat) (a0 : ByteArray) (a1 : ByteArray) : Option (Bool) := if (a0.size : Int) > 1048576 then (some true) else (if (a1.size : Int) > 1048576 then (some true) else ((spec_CountStill.f k a0 a1).bind fun bt101 => ((impl_CountStill.f k a0 a1).bind fun bt103 => (if bt103.1 = bt101.1 then (if (bt103.2 != bt101.2) = true then (some false) else (some true)) else (some false)))))
set_option maxHeartbeats 8000000 in
set_option maxRecDepth 100000 in
theorem laws_FnExactCountStill.calls (k : Nat) (a0 : ByteArray) (a1 : ByteArray) (r : Bool) (w : World) (hG : GoodW w) (h : laws_FnExactCountStill.f k a0 a1 = some r) :
  Calls Tryd.prog 4 #[.string a0, .string a1] w fun e w' => e = .returned (.bool r) ∧ Below w.heap.size w w' := by
 have HG := Aside0.mk hG
 clear hG
 have HB := Aside0.mk (Below.refl w.heap.size w)
 have H : (if (a0.size : Int) > 1048576 then (some true) else (if (a1.size : Int) > 1048576 then (some true) else ((spec_CountStill.f k a0 a1).bind fun bt101 => ((impl_CountStill.f k a0 a1).bind fun bt103 => (if bt103.1 = bt101.1 then (if (bt103.2 != bt101.2) = true then (some false) else (some true)) else (some false)))))) = some r := h
 clear h
 by_cases c3 : (a0.size : Int) > 1048576
 ·rw [if_pos c3] at H
  have c3b0 : decide (1048576 < (a0.size : Int)) = true := decide_eq_true c3
  have c3b1 : decide (1048576 < a0.size) = true := decide_eq_true (by omega)
  clear c3
  obtain rfl := Option.some.inj H
  go_enter Tryd.func4, Tryd.ntmps4
  go_wp2
  go_ret
  exact ⟨by first | rfl | (simp [errW_none, errW_some] <;> rfl) | (simp [*, errW_none, errW_some] <;> rfl), bel HB⟩
 ·rw [if_neg c3] at H
  have c3b0 : decide (1048576 < (a0.size : Int)) = false := decide_eq_false c3
  have c3b1 : decide (1048576 < a0.size) = false := decide_eq_false (by omega)
  clear c3
  by_cases c4 : (a1.size : Int) > 1048576
  ·rw [if_pos c4] at H
   have c4b0 : decide (1048576 < (a1.size : Int)) = true := decide_eq_true c4
   have c4b1 : decide (1048576 < a1.size) = true := decide_eq_true (by omega)
   clear c4
   obtain rfl := Option.some.inj H
   go_enter Tryd.func4, Tryd.ntmps4
   go_wp2
   go_ret
   exact ⟨by first | rfl | (simp [errW_none, errW_some] <;> rfl) | (simp [*, errW_none, errW_some] <;> rfl), bel HB⟩
  ·rw [if_neg c4] at H
   have c4b0 : decide (1048576 < (a1.size : Int)) = false := decide_eq_false c4
   have c4b1 : decide (1048576 < a1.size) = false := decide_eq_false (by omega)
   clear c4
   replace H := Option.bind_eq_some_iff.mp H
   obtain ⟨⟨t101, t102⟩, A50, H⟩ := H
   replace H : ((impl_CountStill.f k a0 a1).bind fun bt103 => (if bt103.1 = t101 then (if (bt103.2 != t102) = true then (some false) else (some true)) else (some false))) = some r := H
   have A5 := Aside0.mk A50
   clear A50
   replace H := Option.bind_eq_some_iff.mp H
   obtain ⟨⟨t103, t104⟩, A60, H⟩ := H
   replace H : (if t103 = t101 then (if (t104 != t102) = true then (some false) else (some true)) else (some false)) = some r := H
   have A6 := Aside0.mk A60
   clear A60
   by_cases c7 : t103 = t101
   ·rw [if_pos c7] at H
    have c7b0 : (t103 == t101) = true := beq_iff_eq.mpr c7
    have c7b1 : (t103 != t101) = false := bne_eq_false_iff_eq.mpr c7
    clear c7
    by_cases c8 : (t104 != t102) = true
    ·rw [if_pos c8] at H
     have c8b0 : (t104 != t102) = true := c8
     (try (have c8b1 : decide (t104 = t102) = false := by simpa using c8))
     (try (have c8b2 : (t104 == t102) = false := by simpa using c8))
     (try (have c8b3 : ¬ (t104 = t102) := by simpa using c8))
     clear c8
     obtain rfl := Option.some.inj H
     go_enter Tryd.func4, Tryd.ntmps4
     go_wp2_with (first | ((with_reducible refine gate_callee (f := 15) rfl ?_); refine gcall (some 18) Tryd.func15 #[.string a0, .string a1] rfl ?_; (with_reducible refine (spec_CountStill.calls k a0 a1 t101 t102 _ A5.out).mono ?_); rintro e w9 ⟨rfl, hb⟩; refine ⟨_, rfl, ?_⟩; have n0_ := Aside0.mk (below_step (bel HB) hb); clear HB; have HB := n0_; clear n0_; (try clear hb); (try clear hb2); (try clear hk); (try clear hi)) | ((with_reducible refine gate_callee (f := 16) rfl ?_); refine gcall (some 24) Tryd.func16 #[.string a0, .string a1] rfl ?_; (with_reducible refine (impl_CountStill.calls k a0 a1 t103 t104 _ ?side1 A6.out).mono ?_); (case side1 => (refine GoodW.below HG.out ?_); exact bel HB); rintro e w10 ⟨rfl, hb⟩; refine ⟨_, rfl, ?_⟩; have n0_ := Aside0.mk (below_step (bel HB) hb); clear HB; have HB := n0_; clear n0_; (try clear hb); (try clear hb2); (try clear hk); (try clear hi)))
     go_ret
     exact ⟨by first | rfl | (simp [errW_none, errW_some] <;> rfl) | (simp [*, errW_none, errW_some] <;> rfl), bel HB⟩
    ·rw [if_neg c8] at H
     have c8b0 : (t104 != t102) = false := by simpa using c8
     (try (have c8b1 : decide (t104 = t102) = true := by simpa using c8))
     (try (have c8b2 : (t104 == t102) = true := by simpa using c8))
     clear c8
     obtain rfl := Option.some.inj H
     go_enter Tryd.func4, Tryd.ntmps4
     go_wp2_with (first | ((with_reducible refine gate_callee (f := 15) rfl ?_); refine gcall (some 18) Tryd.func15 #[.string a0, .string a1] rfl ?_; (with_reducible refine (spec_CountStill.calls k a0 a1 t101 t102 _ A5.out).mono ?_); rintro e w11 ⟨rfl, hb⟩; refine ⟨_, rfl, ?_⟩; have n0_ := Aside0.mk (below_step (bel HB) hb); clear HB; have HB := n0_; clear n0_; (try clear hb); (try clear hb2); (try clear hk); (try clear hi)) | ((with_reducible refine gate_callee (f := 16) rfl ?_); refine gcall (some 24) Tryd.func16 #[.string a0, .string a1] rfl ?_; (with_reducible refine (impl_CountStill.calls k a0 a1 t103 t104 _ ?side1 A6.out).mono ?_); (case side1 => (refine GoodW.below HG.out ?_); exact bel HB); rintro e w12 ⟨rfl, hb⟩; refine ⟨_, rfl, ?_⟩; have n0_ := Aside0.mk (below_step (bel HB) hb); clear HB; have HB := n0_; clear n0_; (try clear hb); (try clear hb2); (try clear hk); (try clear hi)))
     go_ret
     exact ⟨by first | rfl | (simp [errW_none, errW_some] <;> rfl) | (simp [*, errW_none, errW_some] <;> rfl), bel HB⟩
   ·rw [if_neg c7] at H
    have c7b0 : (t103 == t101) = false := beq_eq_false_iff_ne.mpr c7
    have c7b1 : (t103 != t101) = true := bne_iff_ne.mpr c7
    obtain rfl := Option.some.inj H
    go_enter Tryd.func4, Tryd.ntmps4
    go_wp2_with (first | ((with_reducible refine gate_callee (f := 15) rfl ?_); refine gcall (some 18) Tryd.func15 #[.string a0, .string a1] rfl ?_; (with_reducible refine (spec_CountStill.calls k a0 a1 t101 t102 _ A5.out).mono ?_); rintro e w13 ⟨rfl, hb⟩; refine ⟨_, rfl, ?_⟩; have n0_ := Aside0.mk (below_step (bel HB) hb); clear HB; have HB := n0_; clear n0_; (try clear hb); (try clear hb2); (try clear hk); (try clear hi)) | ((with_reducible refine gate_callee (f := 16) rfl ?_); refine gcall (some 24) Tryd.func16 #[.string a0, .string a1] rfl ?_; (with_reducible refine (impl_CountStill.calls k a0 a1 t103 t104 _ ?side1 A6.out).mono ?_); (case side1 => (refine GoodW.below HG.out ?_); exact bel HB); rintro e w14 ⟨rfl, hb⟩; refine ⟨_, rfl, ?_⟩; have n0_ := Aside0.mk (below_step (bel HB) hb); clear HB; have HB := n0_; clear n0_; (try clear hb); (try clear hb2); (try clear hk); (try clear hi)))
    go_ret
    exact ⟨by first | rfl | (simp [errW_none, errW_some] <;> rfl) | (simp [*, errW_none, errW_some] <;> rfl), bel HB⟩
end Go.Proofs.YtohfcmhidjaohaaDoor.Q
end
section
namespace Go.Proofs.YtohfcmhidjaohaaDoor.Q
set_option linter.unusedSectionVars false
open Go.RowKit Go.Proofs.YtohfcmhidjaohaaDoorW.PrintWords Go.Proofs.YtohfcmhidjaohaaDoorW.PrintLast Go.Proofs.YtohfcmhidjaohaaDoorW.PrintMore
open Classical
def prodS : List (List Int) → Int → Int
 | [], a => a
 | s :: L, a => prodS L (wrap64 (a * wrap64 ((s.length : Int) + 1)))
theorem rdLii_drop {L : List (List Int)} {u : Nat} {x : List Int} {l : List (List Int)} (h : L.drop u = x :: l) : u < L.length ∧ rd_Lii L (u : Int) = x ∧ L.drop (u + 1) = l := rdS_drop h
theorem specCS_l0 (P : List (List Int)) : ∀ (Ls : List (List Int)) (i : Nat) (a : Int), P.drop i = Ls → i ≤ P.length → i + Ls.length ≤ 100 → Ev (fun k => spec_CountStill.l0 k a P (P.length : Int) (i : Int)) (prodS Ls a, true)
 | [], i, a, hd, hi, _ => by
  have hL : i = P.length := by
   have := congrArg List.length hd
   simp at this
   omega
  subst hL
  refine Ev.step (Ev.const rfl) fun k => ?_
  rw [spec_CountStill.l0, if_neg (by omega)]
  rfl
 | s :: Ls, i, a, hd, _, hq => by
  obtain ⟨h1, h2, h3⟩ := rdLii_drop hd
  simp only [List.length_cons] at hq
  refine Ev.step (specCS_l0 P Ls (i + 1) _ h3 h1 (by omega)) fun k => ?_
  rw [spec_CountStill.l0, if_pos (by omega), if_pos (by omega), if_pos (by omega), h2, wr1 i (by omega)]
theorem implCS_l0 (P : List (List Int)) : ∀ (Ls : List (List Int)) (i : Nat) (a : Int), P.drop i = Ls → i ≤ P.length → i + Ls.length ≤ 100 → Ev (fun k => impl_CountStill.l0 k a P (P.length : Int) (i : Int)) (prodS Ls a, true)
 | [], i, a, hd, hi, _ => by
  have hL : i = P.length := by
   have := congrArg List.length hd
   simp at this
   omega
  subst hL
  refine Ev.step (Ev.const rfl) fun k => ?_
  rw [impl_CountStill.l0, if_neg (by omega)]
  rfl
 | s :: Ls, i, a, hd, _, hq => by
  obtain ⟨h1, h2, h3⟩ := rdLii_drop hd
  simp only [List.length_cons] at hq
  refine Ev.step (implCS_l0 P Ls (i + 1) _ h3 h1 (by omega)) fun k => ?_
  rw [impl_CountStill.l0, if_pos (by omega), if_pos (by omega), if_pos (by omega), h2, wr1 i (by omega)]
theorem str_many {w h : Nat} {cs : List Int} (hw : w ≤ 7) (hh : h ≤ 7) (hs : w * h ≤ 36) {d : Nat} (hd : d < 4) : (strL w h cs d).length ≤ 56 := by
 unfold strL
 rw [List.length_mergeSort]
 exact cuts_many hw hh hs hd
def CountStillR (t s : ByteArray) : Int × Bool := match trayOf t with
 | none => (0, false)
 | some (w, h, cs) => if noB cs = true ∧ 0 ≤ dirI s then (prodS (strL w.toNat h.toNat cs (dirI s).toNat) 1, true) else (0, false)
theorem specCountStill_ev (t s : ByteArray) : Ev (fun k => spec_CountStill.f k t s) (CountStillR t s) := by
 refine Ev.bind (f := fun k (bt101 : Int × Int × List Int × Int × Bool) => ((spec_tiDir.f k s).bind fun t109 => (if bt101.2.2.2.2 = true then (spec_CountStill.j0 k t109 (decide (t109 < 0)) bt101.1 bt101.2.1 bt101.2.2.1) else (spec_CountStill.j0 k t109 true bt101.1 bt101.2.1 bt101.2.2.1)))) (cnBare_ev t) ?_
 refine Ev.bind (f := fun k t109 => _) (tiDir_ev s) ?_
 have hno : ∀ w h cs, Ev (fun k => spec_CountStill.j0 k (dirI s) true w h cs) (0, false) := fun w h cs => by
  refine Ev.step (Ev.const (o := some (0, false)) rfl) fun k => ?_
  rw [spec_CountStill.j0, if_pos rfl]
 unfold CountStillR
 rcases ht : trayOf t with _ | ⟨w, h, cs⟩
 ·exact Ev.congr (hno 0 0 []) fun k => if_neg Bool.false_ne_true
 ·obtain ⟨w, h, cs, e, hw1, hw, hh1, hh, hs, hn⟩ := tray_parts ht
  injection e with e1 e2
  injection e2 with e2 e3
  subst e1 e2 e3
  have hz : 0 < w * h := Nat.mul_pos hw1 hh1
  by_cases hb : noB cs = true
  ·simp only [hb, if_true, true_and]
   by_cases hd : 0 ≤ dirI s
   ·obtain ⟨d, hd4, e, _⟩ := dirI_nat hd
    rw [if_pos hd, e]
    simp only [Int.toNat_natCast]
    have hm := str_many hw hh hs hd4 (cs := cs)
    refine Ev.step (Ev.bind (f := fun k t110 => spec_CountStill.l0 k 1 t110 (t110.length : Int) 0) (tiStretches_ev hw hh hs hd4 hn) (specCS_l0 _ (strL w h cs d) 0 1 rfl (Nat.zero_le _) (by omega))) fun k => ?_
    rw [spec_CountStill.j0, decide_eq_false (by omega), if_neg (by decide)]
   ·rw [if_neg hd]
    rw [decide_eq_true (show dirI s < 0 by omega)]
    exact hno _ _ _
  ·simp only [hb, false_and, if_false, Bool.false_eq_true]
   exact hno w h cs
theorem implCountStill_ev (t s : ByteArray) (ht0 : t.size ≤ 1048576) (_hs0 : s.size ≤ 1048576) : Ev (fun k => impl_CountStill.f k t s) (CountStillR t s) := by
 refine Ev.bind (f := fun k (t101 : Bool) => (if t101 = true then ((impl_isDir.f s).bind fun t102 => (impl_CountStill.j0 k t s (!t102))) else (impl_CountStill.j0 k t s true))) (isEmptied_ev t ht0) ?_
 have hno : Ev (fun k => impl_CountStill.j0 k t s true) (0, false) := by
  refine Ev.step (Ev.const (o := some (0, false)) rfl) fun k => ?_
  rw [impl_CountStill.j0, if_pos rfl]
 unfold CountStillR
 rcases ht : trayOf t with _ | ⟨w, h, cs⟩
 ·exact Ev.congr hno fun k => if_neg Bool.false_ne_true
 ·have hread := tray_read ht
  obtain ⟨w, h, cs, e, hw1, hw, hh1, hh, hs, hn⟩ := tray_parts ht
  injection e with e1 e2
  injection e2 with e2 e3
  subst e1 e2 e3
  have hz : 0 < w * h := Nat.mul_pos hw1 hh1
  by_cases hb : noB cs = true
  ·simp only [hb, if_true, true_and, isDir_eq, Option.bind_some]
   by_cases hd : 0 ≤ dirI s
   ·obtain ⟨d, hd4, e, rfl⟩ := dirI_nat hd
    rw [if_pos hd, decide_eq_true hd, e]
    simp only [Int.toNat_natCast]
    obtain ⟨b1, b2⟩ := bt_dir ⟨d, hd4⟩
    simp only at b1 b2
    have hm := str_many hw hh hs hd4 (cs := cs)
    refine Ev.step (Ev.bind (f := fun k t108 => impl_CountStill.l0 k 1 t108 (t108.length : Int) 0) (stretches_ev hw hh hs hd4 hw1 hh1 hn) (implCS_l0 _ (strL w h cs d) 0 1 rfl (Nat.zero_le _) (by omega))) fun k => ?_
    rw [impl_CountStill.j0, if_neg (by decide), hread, Option.bind_some, if_pos b1, b2]
   ·rw [if_neg hd, decide_eq_false hd]
    exact hno
  ·simp only [hb, false_and, if_false, Bool.false_eq_true]
   exact hno
theorem lawCountStill_ev (t : ByteArray) (s : ByteArray) : Ev (fun k => laws_FnExactCountStill.f k t s) true := by
 by_cases ht : t.size ≤ 1048576
 case neg =>
  refine Ev.congr (Ev.const (o := some true) rfl) fun k => ?_
  unfold laws_FnExactCountStill.f
  exact if_pos (by omega)
 by_cases hs : s.size ≤ 1048576
 case neg =>
  refine Ev.congr (Ev.const (o := some true) rfl) fun k => ?_
  unfold laws_FnExactCountStill.f
  rw [if_neg (by omega)]
  exact if_pos (by omega)
 have hsp := specCountStill_ev t s
 have him := implCountStill_ev t s ht hs
 refine Ev.congr (Ev.bind (f := fun k (bt101 : Int × Bool) => ((impl_CountStill.f k t s).bind fun bt103 => (if bt103.1 = bt101.1 then (if (bt103.2 != bt101.2) = true then (some false) else (some true)) else (some false)))) hsp (Ev.bind (f := fun _ (bt103 : Int × Bool) => (if bt103.1 = (CountStillR t s).1 then (if (bt103.2 != (CountStillR t s).2) = true then (some false) else (some true)) else (some false))) him (Ev.const ?_))) fun k => by unfold laws_FnExactCountStill.f; rw [if_neg (by omega), if_neg (by omega)]
 rw [if_pos rfl, bne_self_eq_false, if_neg (by decide)]
end Go.Proofs.YtohfcmhidjaohaaDoor.Q
end
