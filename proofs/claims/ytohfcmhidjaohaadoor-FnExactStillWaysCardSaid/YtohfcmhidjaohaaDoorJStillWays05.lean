/- Texts of this claim, joined. -/
import Derived.Test.YtohfcmhidjaohaaDoorJStillWays01
import Derived.Test.YtohfcmhidjaohaaDoorJStillWays04
set_option linter.unusedVariables false
set_option linter.unusedSimpArgs false
set_option linter.unusedSectionVars false
section
namespace Go.Proofs.YtohfcmhidjaohaaDoor.Q
open Go.RowKit Go.Proofs.YtohfcmhidjaohaaDoorW.PrintWords Go.Proofs.YtohfcmhidjaohaaDoorW.PrintLast Go.Proofs.YtohfcmhidjaohaaDoorW.PrintMore
attribute [local go_sem] max2_int min2_int max_two min_two max_three min_three max_four min_four
set_option linter.unusedVariables false
set_option linter.unusedSimpArgs false
def spec_StillWays.l0 : Nat → ByteArray → ByteArray → Int → Int → Int → List Int → Option (ByteArray × Bool)
 | 0, _, _, _, _, _, _ => none
 | k + 1, x0, x6, x7, x108000, x108001, x108002 => if x7 < 4 then ((spec_tiTilt.f k x108000 x108001 x108002 x7).bind fun bt108 => ((spec_tyText.f k bt108.1 bt108.2.1 bt108.2.2).bind fun t113 => (if t113.toList = x0.toList then ((spec_tiDirs.f).bind fun t114 => (if 0 ≤ x7 then (if x7 ≤ (wrap64 (x7 + 1)) then (if (wrap64 (x7 + 1)) ≤ (t114.size : Int) then (if x6.size + (t114.extract (x7 : Int).toNat ((wrap64 (x7 + 1)) : Int).toNat).size ≤ 9223372036854775807 then (spec_StillWays.l0 k x0 (x6 ++ (t114.extract (x7 : Int).toNat ((wrap64 (x7 + 1)) : Int).toNat)) (wrap64 (x7 + 1)) x108000 x108001 x108002) else (none)) else (none)) else (none)) else (none))) else (spec_StillWays.l0 k x0 x6 (wrap64 (x7 + 1)) x108000 x108001 x108002)))) else (some (x6, true))
def spec_StillWays.f (k : Nat) (a0 : ByteArray) : Option (ByteArray × Bool) := (spec_tyRead.f k a0).bind fun bt101 => (if bt101.2.2.2 = true then (spec_StillWays.l0 k a0 (⟨#[]⟩ : ByteArray) 0 bt101.1 bt101.2.1 bt101.2.2.1) else (some ((⟨#[]⟩ : ByteArray), false)))
set_option maxHeartbeats 8000000 in
set_option maxRecDepth 100000 in
theorem spec_StillWays.calls (k : Nat) (a0 : ByteArray) (r1 : ByteArray) (r2 : Bool) (w : World) (h : spec_StillWays.f k a0 = some (r1, r2)) :
  Calls Tryd.prog 21 #[.string a0] w fun e w' => e = .returned (.tuple #[.string r1, .bool r2]) ∧ Below w.heap.size w w' := by
 have hu37 := Tryd.underlying37
 have HB := Aside0.mk (Below.refl w.heap.size w)
 have H : ((spec_tyRead.f k a0).bind fun bt101 => (if bt101.2.2.2 = true then (spec_StillWays.l0 k a0 (⟨#[]⟩ : ByteArray) 0 bt101.1 bt101.2.1 bt101.2.2.1) else (some ((⟨#[]⟩ : ByteArray), false)))) = some (r1, r2) := h
 clear h
 replace H := Option.bind_eq_some_iff.mp H
 obtain ⟨⟨t101, t102, t103, t106⟩, A20, H⟩ := H
 replace H : (if t106 = true then (spec_StillWays.l0 k a0 (⟨#[]⟩ : ByteArray) 0 t101 t102 t103) else (some ((⟨#[]⟩ : ByteArray), false))) = some (r1, r2) := H
 have A2 := Aside0.mk A20
 clear A20
 by_cases c3 : t106 = true
 ·subst c3
  have H1 : (spec_StillWays.l0 k a0 (⟨#[]⟩ : ByteArray) 0 t101 t102 t103) = some (r1, r2) := by rw [if_pos rfl] at H; exact H
  clear H
  have H := H1
  clear H1
  have H' := Aside0.mk H
  clear H
  go_enter Tryd.func21, Tryd.ntmps21
  go_wp2_with (first | ((with_reducible refine gate_callee (f := 42) rfl ?_); refine gcall (some 10) Tryd.func42 #[.string a0] rfl ?_; (with_reducible refine (spec_tyRead.calls k a0 t101 t102 t103 true _ A2.out).mono ?_); rintro e w4 ⟨v104, rfl, ho0, hb⟩; refine ⟨_, rfl, ?_⟩; have n0_ := Aside0.mk (Kd.R_lower ho0 (below_size (bel HB))); have n1_ := Aside0.mk (below_step (bel HB) hb); clear HB; have HO105 := n0_; have HB := n1_; clear n0_ n1_; (try clear hb); (try clear hb2); (try clear hk); (try clear hi); (try clear ho0)) | ((with_reducible refine gate_dst (N := 4) rfl ?_); refine boxE (N := 4) (cs := #[.int .i64 0, .int .i64 0, .slice none 0 0]) (t := 37) ?_; intro gb107 hg w5 hbox hb; have n0_ := Aside0.mk (Kd.R_below (rch HO105) hb); have n1_ := Aside0.mk (below_step (bel HB) hb); have n2_ := Aside0.mk (hbox); have n3_ := Aside0.mk (gsz hg (bel HB)); have n4_ := Aside0.mk (gsz hg (bel HB)); clear HO105; clear HB; have HO105 := n0_; have HB := n1_; have BK107 := n2_; have GW107 := n3_; have GE107 := n4_; clear n0_ n1_ n2_ n3_ n4_; clear hb hbox hg; have hcz6_0 : w5.cell? ⟨gb107, 0, none⟩ = some (.int .i64 0) := (blk_cell BK107.out 0).trans rfl; have hcz6_1 : w5.cell? ⟨gb107, 1, none⟩ = some (.int .i64 0) := (blk_cell BK107.out 1).trans rfl; have hcz6_2 : w5.cell? ⟨gb107, 2, none⟩ = some (.slice none 0 0) := (blk_cell BK107.out 2).trans rfl; have hfz6_0 := blk_frozen BK107.out 0; have hfz6_1 := blk_frozen BK107.out 1; have hfz6_2 := blk_frozen BK107.out 2; obtain ⟨Ao7, co7, eo7⟩ := Kd.R_slice HO105.out; subst eo7))
  go_loopg [6, 7] k (fun kq v6 v7 w' => ∃ (x6_1 : ByteArray) (x7_1 : Int), v6 = .string x6_1 ∧ v7 = .int .i64 x7_1 ∧ Aside0 (spec_StillWays.l0 kq a0 x6_1 x7_1 t101 t102 t103 = some (r1, r2)) ∧ Aside0 (kq ≤ k) ∧ Aside0 (Kd.R (Kd.int .u8) 5 w' w.heap.size (fun _ => True) (.slice Ao7 t103.length co7) t103) ∧ Aside0 (w'.heap[gb107]? = some (.cells #[.int .i64 t101, .int .i64 t102, (.slice Ao7 t103.length co7)] 37 (0, 0))) ∧ Aside0 (Below w.heap.size w w'))
  case atStart => exact ⟨((⟨#[]⟩ : ByteArray)), (0), (by first | rfl | (simp; done) | (simp [*]; done)), (by first | rfl | (simp; done) | (simp [*]; done)), H', ⟨Nat.le_refl _⟩, ⟨by (with_reducible repeat (first | apply Kd.R_alloc | apply Kd.R_drewN | apply Kd.R_drew)); exact Kd.R_mono (Kd.R_far (p := ⟨gb107, 2, none⟩) (Kd.R_far (p := ⟨gb107, 1, none⟩) (Kd.R_far (p := ⟨gb107, 0, none⟩) (Kd.R_types HO105.out BK107.out (by decide)) (fun _ hk => hk.2) (.int .i64 t101)) (fun _ hk => hk.2) (.int .i64 t102)) (fun _ hk => hk.2) (.slice Ao7 t103.length co7)) (fun _ hk => trivial)⟩, ⟨by (with_reducible repeat (first | refine blk_drewN ?_ _ | refine blk_drew ?_ | refine blk_alloc ?_ _)); refine blk_put (cs := #[.int .i64 t101, .int .i64 t102, .slice none 0 0]) ?_ 2 _ rfl; (with_reducible repeat (first | refine blk_drewN ?_ _ | refine blk_drew ?_ | refine blk_alloc ?_ _)); refine blk_put (cs := #[.int .i64 t101, .int .i64 0, .slice none 0 0]) ?_ 1 _ rfl; (with_reducible repeat (first | refine blk_drewN ?_ _ | refine blk_drew ?_ | refine blk_alloc ?_ _)); refine blk_put (cs := #[.int .i64 0, .int .i64 0, .slice none 0 0]) ?_ 0 _ rfl; exact blc⟩, ⟨bel HB⟩⟩
  case round =>
   clear H'
   try clear c2
   try clear p2
   try clear c3
   try clear c4
   try clear hcz6_0
   try clear hcz6_1
   try clear hcz6_2
   try clear hfz6_0
   try clear hfz6_1
   try clear hfz6_2
   obtain ⟨x6_1, x7_1, rfl, rfl, HA, HK1, HO_108002, BK107, HB⟩ := hrel
   cases gk with
   | zero => exact absurd HA.out (by simp [spec_StillWays.l0])
   | succ k1 =>
    have H := HA.out
    clear HA
    simp only [spec_StillWays.l0] at H
    by_cases c8 : x7_1 < 4
    ·rw [if_pos c8] at H
     have c8b0 : decide (x7_1 < 4) = true := decide_eq_true c8
     clear c8
     replace H := Option.bind_eq_some_iff.mp H
     obtain ⟨⟨t108, t109, t110⟩, A90, H⟩ := H
     replace H : ((spec_tyText.f k1 t108 t109 t110).bind fun t113 => (if t113.toList = a0.toList then ((spec_tiDirs.f).bind fun t114 => (if 0 ≤ x7_1 then (if x7_1 ≤ (wrap64 (x7_1 + 1)) then (if (wrap64 (x7_1 + 1)) ≤ (t114.size : Int) then (if x6_1.size + (t114.extract (x7_1 : Int).toNat ((wrap64 (x7_1 + 1)) : Int).toNat).size ≤ 9223372036854775807 then (spec_StillWays.l0 k1 a0 (x6_1 ++ (t114.extract (x7_1 : Int).toNat ((wrap64 (x7_1 + 1)) : Int).toNat)) (wrap64 (x7_1 + 1)) t101 t102 t103) else (none)) else (none)) else (none)) else (none))) else (spec_StillWays.l0 k1 a0 x6_1 (wrap64 (x7_1 + 1)) t101 t102 t103))) = some (r1, r2) := H
     have A9 := Aside0.mk A90
     clear A90
     replace H := Option.bind_eq_some_iff.mp H
     obtain ⟨t113, A100, H⟩ := H
     replace H : (if t113.toList = a0.toList then ((spec_tiDirs.f).bind fun t114 => (if 0 ≤ x7_1 then (if x7_1 ≤ (wrap64 (x7_1 + 1)) then (if (wrap64 (x7_1 + 1)) ≤ (t114.size : Int) then (if x6_1.size + (t114.extract (x7_1 : Int).toNat ((wrap64 (x7_1 + 1)) : Int).toNat).size ≤ 9223372036854775807 then (spec_StillWays.l0 k1 a0 (x6_1 ++ (t114.extract (x7_1 : Int).toNat ((wrap64 (x7_1 + 1)) : Int).toNat)) (wrap64 (x7_1 + 1)) t101 t102 t103) else (none)) else (none)) else (none)) else (none))) else (spec_StillWays.l0 k1 a0 x6_1 (wrap64 (x7_1 + 1)) t101 t102 t103)) = some (r1, r2) := H
     have A10 := Aside0.mk A100
     clear A100
     by_cases c11 : t113.toList = a0.toList
     ·rw [if_pos c11] at H
      have c11b0 : (t113.toList == a0.toList) = true := beq_iff_eq.mpr c11
      have c11b1 : (t113.toList != a0.toList) = false := bne_eq_false_iff_eq.mpr c11
      clear c11
      replace H := Option.bind_eq_some_iff.mp H
      obtain ⟨t114, A120, H⟩ := H
      replace H : (if 0 ≤ x7_1 then (if x7_1 ≤ (wrap64 (x7_1 + 1)) then (if (wrap64 (x7_1 + 1)) ≤ (t114.size : Int) then (if x6_1.size + (t114.extract (x7_1 : Int).toNat ((wrap64 (x7_1 + 1)) : Int).toNat).size ≤ 9223372036854775807 then (spec_StillWays.l0 k1 a0 (x6_1 ++ (t114.extract (x7_1 : Int).toNat ((wrap64 (x7_1 + 1)) : Int).toNat)) (wrap64 (x7_1 + 1)) t101 t102 t103) else (none)) else (none)) else (none)) else (none)) = some (r1, r2) := H
      have A12 := Aside0.mk A120
      clear A120
      by_cases c13 : 0 ≤ x7_1
      ·rw [if_pos c13] at H
       have c13b0 := eq_true c13
       have c13b1 : decide (0 ≤ x7_1) = true := decide_eq_true c13
       clear c13
       by_cases c14 : x7_1 ≤ (wrap64 (x7_1 + 1))
       ·rw [if_pos c14] at H
        have c14b0 := eq_true c14
        have c14b1 : decide (x7_1 ≤ (wrap64 (x7_1 + 1))) = true := decide_eq_true c14
        by_cases c15 : (wrap64 (x7_1 + 1)) ≤ (t114.size : Int)
        ·rw [if_pos c15] at H
         have c15b0 := eq_true c15
         have c15b1 : decide ((wrap64 (x7_1 + 1)) ≤ (t114.size : Int)) = true := decide_eq_true c15
         by_cases c16 : x6_1.size + (t114.extract (x7_1 : Int).toNat ((wrap64 (x7_1 + 1)) : Int).toNat).size ≤ 9223372036854775807
         ·rw [if_pos c16] at H
          have c16b0 := eq_true c16
          have c16b1 : decide (x6_1.size + (t114.extract (x7_1 : Int).toNat ((wrap64 (x7_1 + 1)) : Int).toNat).size ≤ 9223372036854775807) = true := decide_eq_true c16
          try have c16b2 : (9223372036854775807 < x6_1.size + (t114.extract (x7_1 : Int).toNat ((wrap64 (x7_1 + 1)) : Int).toNat).size) = False := eq_false (Nat.not_lt.2 c16)
          have H' := Aside0.mk H
          clear H
          have hcz17_0 : wr.cell? ⟨gb107, 0, none⟩ = some (.int .i64 t101) := (blk_cell BK107.out 0).trans rfl
          have hcz17_1 : wr.cell? ⟨gb107, 1, none⟩ = some (.int .i64 t102) := (blk_cell BK107.out 1).trans rfl
          have hcz17_2 : wr.cell? ⟨gb107, 2, none⟩ = some (.slice Ao7 t103.length co7) := (blk_cell BK107.out 2).trans rfl
          have hfz17_0 := blk_frozen BK107.out 0
          have hfz17_1 := blk_frozen BK107.out 1
          have hfz17_2 := blk_frozen BK107.out 2
          go_wp2_with (first | ((with_reducible refine gate_callee (f := 44) rfl ?_); refine gcall (some 21) Tryd.func44 #[.agg #[.int .i64 t101, .int .i64 t102, .slice Ao7 t103.length co7], .int .i64 x7_1] rfl ?_; (with_reducible refine (spec_tiTilt.calls k1 t101 t102 _ _ t103 x7_1 t108 t109 t110 _ ?side1 ?side2 A9.out).mono ?_); (case side1 => repeat (first | exact (Kd.R_reads' HO_108002.out).2.2 | (with_reducible refine Kd.C_alloc ?_ _) | (with_reducible refine Kd.C_drewN ?_ _) | (with_reducible refine Kd.C_drew ?_))); (case side2 => exact (Kd.R_reads' HO_108002.out).2.1); rintro e w18 ⟨v111, rfl, ho0, hb⟩; refine ⟨_, rfl, ?_⟩; have n0_ := Aside0.mk (Kd.R_elder' (rch HO_108002) (Kd.R_base ho0) hb); have n1_ := Aside0.mk (Kd.R_lower (Kd.R_new' ho0 (Kd.R_lt (rch HO_108002))) (below_size (bel HB))); have n2_ := Aside0.mk (blk_below (g := gb107) (o := .cells #[.int .i64 t101, .int .i64 t102, .slice Ao7 t103.length co7] 37 (0, 0)) blc hb); have n3_ := Aside0.mk (below_step (bel HB) hb); clear HO_108002; clear BK107; clear HB; have HO_108002 := n0_; have HO112 := n1_; have BK107 := n2_; have HB := n3_; clear n0_ n1_ n2_ n3_; (try clear hb); (try clear hb2); (try clear hk); (try clear hi); (try clear ho0); obtain ⟨Ao19, co19, eo19⟩ := Kd.R_slice HO112.out; subst eo19) | ((with_reducible refine gate_callee (f := 43) rfl ?_); refine gcall (some 22) Tryd.func43 #[.agg #[.int .i64 t108, .int .i64 t109, .slice Ao19 t110.length co19]] rfl ?_; (with_reducible refine (spec_tyText.calls k1 t108 t109 _ _ t110 t113 _ ?side1 ?side2 A10.out).mono ?_); (case side1 => repeat (first | exact (Kd.R_reads' HO112.out).2.2 | (with_reducible refine Kd.C_alloc ?_ _) | (with_reducible refine Kd.C_drewN ?_ _) | (with_reducible refine Kd.C_drew ?_))); (case side2 => exact (Kd.R_reads' HO112.out).2.1); rintro e w20 ⟨rfl, hb⟩; refine ⟨_, rfl, ?_⟩; have n0_ := Aside0.mk (Kd.R_below (rch HO_108002) hb); have n1_ := Aside0.mk (Kd.R_below (rch HO112) hb); have n2_ := Aside0.mk (blk_below (g := gb107) (o := .cells #[.int .i64 t101, .int .i64 t102, .slice Ao7 t103.length co7] 37 (0, 0)) blc hb); have n3_ := Aside0.mk (below_step (bel HB) hb); clear HO_108002; clear HO112; clear BK107; clear HB; have HO_108002 := n0_; have HO112 := n1_; have BK107 := n2_; have HB := n3_; clear n0_ n1_ n2_ n3_; (try clear hb); (try clear hb2); (try clear hk); (try clear hi)) | ((with_reducible refine gate_callee (f := 45) rfl ?_); refine gcall (some 26) Tryd.func45 #[] rfl ?_; (with_reducible refine (spec_tiDirs.calls  t114 _ A12.out).mono ?_); rintro e w' ⟨rfl, ⟨nd, rfl⟩⟩; refine ⟨_, rfl, ?_⟩))
          go_roundg k1
          case measure => have := HK1.out; omega
          case rel => exact ⟨(x6_1 ++ (t114.extract (x7_1 : Int).toNat ((wrap64 (x7_1 + 1)) : Int).toNat)), (wrap64 (x7_1 + 1)), (by first | rfl | (simp; done) | (simp [*]; done)), (by first | rfl | (simp; done) | (simp [*]; done)), H', ⟨by have := HK1.out; omega⟩, ⟨by (with_reducible repeat (first | apply Kd.R_alloc | apply Kd.R_drewN | apply Kd.R_drew)); exact Kd.R_mono HO_108002.out (fun _ hk => trivial)⟩, ⟨blc⟩, ⟨bel HB⟩⟩
         ·rw [if_neg c16] at H
          exact absurd H (by simp)
        ·rw [if_neg c15] at H
         exact absurd H (by simp)
       ·rw [if_neg c14] at H
        exact absurd H (by simp)
      ·rw [if_neg c13] at H
       exact absurd H (by simp)
     ·rw [if_neg c11] at H
      have c11b0 : (t113.toList == a0.toList) = false := beq_eq_false_iff_ne.mpr c11
      have c11b1 : (t113.toList != a0.toList) = true := bne_iff_ne.mpr c11
      have H' := Aside0.mk H
      clear H
      have hcz21_0 : wr.cell? ⟨gb107, 0, none⟩ = some (.int .i64 t101) := (blk_cell BK107.out 0).trans rfl
      have hcz21_1 : wr.cell? ⟨gb107, 1, none⟩ = some (.int .i64 t102) := (blk_cell BK107.out 1).trans rfl
      have hcz21_2 : wr.cell? ⟨gb107, 2, none⟩ = some (.slice Ao7 t103.length co7) := (blk_cell BK107.out 2).trans rfl
      have hfz21_0 := blk_frozen BK107.out 0
      have hfz21_1 := blk_frozen BK107.out 1
      have hfz21_2 := blk_frozen BK107.out 2
      go_wp2_with (first | ((with_reducible refine gate_callee (f := 44) rfl ?_); refine gcall (some 21) Tryd.func44 #[.agg #[.int .i64 t101, .int .i64 t102, .slice Ao7 t103.length co7], .int .i64 x7_1] rfl ?_; (with_reducible refine (spec_tiTilt.calls k1 t101 t102 _ _ t103 x7_1 t108 t109 t110 _ ?side1 ?side2 A9.out).mono ?_); (case side1 => repeat (first | exact (Kd.R_reads' HO_108002.out).2.2 | (with_reducible refine Kd.C_alloc ?_ _) | (with_reducible refine Kd.C_drewN ?_ _) | (with_reducible refine Kd.C_drew ?_))); (case side2 => exact (Kd.R_reads' HO_108002.out).2.1); rintro e w22 ⟨v111, rfl, ho0, hb⟩; refine ⟨_, rfl, ?_⟩; have n0_ := Aside0.mk (Kd.R_elder' (rch HO_108002) (Kd.R_base ho0) hb); have n1_ := Aside0.mk (Kd.R_lower (Kd.R_new' ho0 (Kd.R_lt (rch HO_108002))) (below_size (bel HB))); have n2_ := Aside0.mk (blk_below (g := gb107) (o := .cells #[.int .i64 t101, .int .i64 t102, .slice Ao7 t103.length co7] 37 (0, 0)) blc hb); have n3_ := Aside0.mk (below_step (bel HB) hb); clear HO_108002; clear BK107; clear HB; have HO_108002 := n0_; have HO112 := n1_; have BK107 := n2_; have HB := n3_; clear n0_ n1_ n2_ n3_; (try clear hb); (try clear hb2); (try clear hk); (try clear hi); (try clear ho0); obtain ⟨Ao23, co23, eo23⟩ := Kd.R_slice HO112.out; subst eo23) | ((with_reducible refine gate_callee (f := 43) rfl ?_); refine gcall (some 22) Tryd.func43 #[.agg #[.int .i64 t108, .int .i64 t109, .slice Ao23 t110.length co23]] rfl ?_; (with_reducible refine (spec_tyText.calls k1 t108 t109 _ _ t110 t113 _ ?side1 ?side2 A10.out).mono ?_); (case side1 => repeat (first | exact (Kd.R_reads' HO112.out).2.2 | (with_reducible refine Kd.C_alloc ?_ _) | (with_reducible refine Kd.C_drewN ?_ _) | (with_reducible refine Kd.C_drew ?_))); (case side2 => exact (Kd.R_reads' HO112.out).2.1); rintro e w24 ⟨rfl, hb⟩; refine ⟨_, rfl, ?_⟩; have n0_ := Aside0.mk (Kd.R_below (rch HO_108002) hb); have n1_ := Aside0.mk (Kd.R_below (rch HO112) hb); have n2_ := Aside0.mk (blk_below (g := gb107) (o := .cells #[.int .i64 t101, .int .i64 t102, .slice Ao7 t103.length co7] 37 (0, 0)) blc hb); have n3_ := Aside0.mk (below_step (bel HB) hb); clear HO_108002; clear HO112; clear BK107; clear HB; have HO_108002 := n0_; have HO112 := n1_; have BK107 := n2_; have HB := n3_; clear n0_ n1_ n2_ n3_; (try clear hb); (try clear hb2); (try clear hk); (try clear hi)))
      go_roundg k1
      case measure => have := HK1.out; omega
      case rel => exact ⟨(x6_1), (wrap64 (x7_1 + 1)), (by first | rfl | (simp; done) | (simp [*]; done)), (by first | rfl | (simp; done) | (simp [*]; done)), H', ⟨by have := HK1.out; omega⟩, ⟨by (with_reducible repeat (first | apply Kd.R_alloc | apply Kd.R_drewN | apply Kd.R_drew)); exact Kd.R_mono HO_108002.out (fun _ hk => trivial)⟩, ⟨blc⟩, ⟨bel HB⟩⟩
    ·rw [if_neg c8] at H
     have c8b0 : decide (x7_1 < 4) = false := decide_eq_false c8
     clear c8
     simp only [Option.some.injEq, Prod.mk.injEq] at H
     obtain ⟨rfl, rfl⟩ := H
     go_wp2
     go_ret2
     exact ⟨by first | rfl | (simp [errW_none, errW_some] <;> rfl) | (simp [*, errW_none, errW_some] <;> rfl), bel HB⟩
 ·replace c3 := Bool.eq_false_iff.mpr c3
  subst c3
  have H1 : (some ((⟨#[]⟩ : ByteArray), false)) = some (r1, r2) := by rw [if_neg (show ¬ (false = true) by decide)] at H; exact H
  clear H
  have H := H1
  clear H1
  simp only [Option.some.injEq, Prod.mk.injEq] at H
  obtain ⟨rfl, rfl⟩ := H
  go_enter Tryd.func21, Tryd.ntmps21
  go_wp2_with (first | ((with_reducible refine gate_callee (f := 42) rfl ?_); refine gcall (some 10) Tryd.func42 #[.string a0] rfl ?_; (with_reducible refine (spec_tyRead.calls k a0 t101 t102 t103 false _ A2.out).mono ?_); rintro e w25 ⟨v104, rfl, ho0, hb⟩; refine ⟨_, rfl, ?_⟩; have n0_ := Aside0.mk (Kd.R_lower ho0 (below_size (bel HB))); have n1_ := Aside0.mk (below_step (bel HB) hb); clear HB; have HO105 := n0_; have HB := n1_; clear n0_ n1_; (try clear hb); (try clear hb2); (try clear hk); (try clear hi); (try clear ho0)) | ((with_reducible refine gate_dst (N := 4) rfl ?_); refine boxE (N := 4) (cs := #[.int .i64 0, .int .i64 0, .slice none 0 0]) (t := 37) ?_; intro gb107 hg w26 hbox hb; have n0_ := Aside0.mk (Kd.R_below (rch HO105) hb); have n1_ := Aside0.mk (below_step (bel HB) hb); have n2_ := Aside0.mk (hbox); have n3_ := Aside0.mk (gsz hg (bel HB)); have n4_ := Aside0.mk (gsz hg (bel HB)); clear HO105; clear HB; have HO105 := n0_; have HB := n1_; have BK107 := n2_; have GW107 := n3_; have GE107 := n4_; clear n0_ n1_ n2_ n3_ n4_; clear hb hbox hg; have hcz27_0 : w26.cell? ⟨gb107, 0, none⟩ = some (.int .i64 0) := (blk_cell BK107.out 0).trans rfl; have hcz27_1 : w26.cell? ⟨gb107, 1, none⟩ = some (.int .i64 0) := (blk_cell BK107.out 1).trans rfl; have hcz27_2 : w26.cell? ⟨gb107, 2, none⟩ = some (.slice none 0 0) := (blk_cell BK107.out 2).trans rfl; have hfz27_0 := blk_frozen BK107.out 0; have hfz27_1 := blk_frozen BK107.out 1; have hfz27_2 := blk_frozen BK107.out 2; obtain ⟨Ao28, co28, eo28⟩ := Kd.R_slice HO105.out; subst eo28))
  go_ret2
  exact ⟨by first | rfl | (simp [errW_none, errW_some] <;> rfl) | (simp [*, errW_none, errW_some] <;> rfl), bel HB⟩
def impl_StillWays.l0 : Nat → ByteArray → List Int → List Int → Int → Int → Option (ByteArray × Bool)
 | 0, _, _, _, _, _ => none
 | k + 1, x0, x4, x12, x13, x14 => if x14 < x13 then (if 0 ≤ x14 then (if x14 < (x12.length : Int) then ((impl_read.f x0).bind fun bt109 => ((impl_tray_isStill.f k bt109.1 bt109.2.1 bt109.2.2 (rd x12 x14)).bind fun t114 => (if t114 = true then (if x4.length < 140737488355328 then (impl_StillWays.l0 k x0 (x4 ++ [rd x12 x14]) x12 x13 (wrap64 (x14 + 1))) else (none)) else (impl_StillWays.l0 k x0 x4 x12 x13 (wrap64 (x14 + 1)))))) else (none)) else (none)) else (some (strOfNums x4, true))
def impl_StillWays.f (k : Nat) (a0 : ByteArray) : Option (ByteArray × Bool) := (impl_IsTray.f k a0).bind fun t101 => (if t101 = true then ((litB.f ([117, 114, 100, 108] : List Int)).bind fun t105 => (impl_StillWays.l0 k a0 (([] : List Int)) t105 (t105.length : Int) 0)) else (some ((⟨#[]⟩ : ByteArray), false)))
set_option maxHeartbeats 8000000 in
set_option maxRecDepth 100000 in
theorem impl_StillWays.calls (k : Nat) (a0 : ByteArray) (r1 : ByteArray) (r2 : Bool) (w : World) (hG : GoodW w) (h : impl_StillWays.f k a0 = some (r1, r2)) :
  Calls Tryd.prog 22 #[.string a0] w fun e w' => e = .returned (.tuple #[.string r1, .bool r2]) ∧ Below w.heap.size w w' := by
 have HG := Aside0.mk hG
 clear hG
 have HB := Aside0.mk (Below.refl w.heap.size w)
 have H : ((impl_IsTray.f k a0).bind fun t101 => (if t101 = true then ((litB.f ([117, 114, 100, 108] : List Int)).bind fun t105 => (impl_StillWays.l0 k a0 (([] : List Int)) t105 (t105.length : Int) 0)) else (some ((⟨#[]⟩ : ByteArray), false)))) = some (r1, r2) := h
 clear h
 replace H := Option.bind_eq_some_iff.mp H
 obtain ⟨t101, A20, H⟩ := H
 replace H : (if t101 = true then ((litB.f ([117, 114, 100, 108] : List Int)).bind fun t105 => (impl_StillWays.l0 k a0 (([] : List Int)) t105 (t105.length : Int) 0)) else (some ((⟨#[]⟩ : ByteArray), false))) = some (r1, r2) := H
 have A2 := Aside0.mk A20
 clear A20
 by_cases c3 : t101 = true
 ·subst c3
  have H1 : ((litB.f ([117, 114, 100, 108] : List Int)).bind fun t105 => (impl_StillWays.l0 k a0 (([] : List Int)) t105 (t105.length : Int) 0)) = some (r1, r2) := by rw [if_pos rfl] at H; exact H
  clear H
  have H := H1
  clear H1
  obtain ⟨y102, hy102⟩ : ∃ y_ : List Int, y_ = (([] : List Int)) := ⟨_, rfl⟩
  replace H : ((litB.f ([117, 114, 100, 108] : List Int)).bind fun t105 => (impl_StillWays.l0 k a0 y102 t105 (t105.length : Int) 0)) = some (r1, r2) := rH hy102 H
  have Ny102 := Aside0.mk hy102
  clear hy102
  replace H := Option.bind_eq_some_iff.mp H
  obtain ⟨t105, A40, H⟩ := H
  replace H : (impl_StillWays.l0 k a0 y102 t105 (t105.length : Int) 0) = some (r1, r2) := H
  have A4 := Aside0.mk A40
  clear A40
  have H' := Aside0.mk H
  clear H
  go_enter Tryd.func22, Tryd.ntmps22
  go_wp2_with (first | ((with_reducible refine gate_callee (f := 46) rfl ?_); refine gcall (some 8) Tryd.func46 #[.string a0] rfl ?_; (with_reducible refine (impl_IsTray.calls k a0 true _ ?side1 A2.out).mono ?_); (case side1 => (refine GoodW.below HG.out ?_); exact bel HB); rintro e w5 ⟨rfl, hb⟩; refine ⟨_, rfl, ?_⟩; have n0_ := Aside0.mk (below_step (bel HB) hb); clear HB; have HB := n0_; clear n0_; (try clear hb); (try clear hb2); (try clear hk); (try clear hi)) | ((with_reducible refine gate_dst (N := 10) rfl ?_); refine R_litG (Kd.int .u8) _ 5 ?hg (N := 10) ?hd (xs := ([] : List Int)) (inner := []) (ok := fun _ => True) (okp := fun _ => True) ?hr ?hp (fun _ hk => hk) trivial (Below.refl _ _) (Nat.le_refl _) (by simp) ?_; (case hd => rfl); (case hg => first | rfl | decide | (simp [Region.wanted, yielded]; done) | (go_simp; done)); (case hr => first | (go_simp; done) | (go_simp; rfl)); (case hp => exact (Reps.none _ _)); intro v103 w6 ho7 hb hg_ hnew_; clear hg_ hnew_; (first | rw [← Ny102.out] at ho7 | (simp only [Int.reduceToNat] at ho7; rw [← Ny102.out] at ho7)); have n0_ := Aside0.mk (Kd.R_lower ho7 (below_size (bel HB))); have n1_ := Aside0.mk (below_step (bel HB) hb); clear HB; have HO104 := n0_; have HB := n1_; clear n0_ n1_; clear hb ho7) | ((with_reducible refine gate_dst (N := 11) rfl ?_); refine litB.step rfl rfl (N1 := 11) (N2 := 12) rfl rfl 35 5 _ rfl Tryd.underlying35 Tryd.underlying5 ([117, 114, 100, 108] : List Int) (by decide) ?hr rfl A4.out ?_; (case hr => first | (go_simp; done) | (go_simp; rfl)); intro v106 w8 ho0 hb; have n0_ := Aside0.mk (Kd.R_below (rch HO104) hb); have n1_ := Aside0.mk (Kd.V_lower (Kd.V_mono (ok' := fun k_ => some k_ ≠ (v103 : Value).ownBlock) ho0 (fun k_ hk_ => (Kd.fresh' (Kd.R_lt (rch HO104)) k_ hk_))) (below_size (bel HB))); have n2_ := Aside0.mk (below_step (bel HB) hb); clear HO104; clear HB; have HO104 := n0_; have HO107 := n1_; have HB := n2_; clear n0_ n1_ n2_; (try clear hb); (try clear hb2); (try clear hk); (try clear hi); (try clear ho0); obtain ⟨Ao9, co9, eo9⟩ := Kd.V_slice HO107.out; subst eo9))
  go_loopg [4, 14] k (fun kq v4 v14 w' => ∃ (x4_1 : List Int) (x14_1 : Int), v14 = .int .i64 x14_1 ∧ Aside0 (impl_StillWays.l0 kq a0 x4_1 t105 (t105.length : Int) x14_1 = some (r1, r2)) ∧ Aside0 (kq ≤ k) ∧ Aside0 (Kd.R (Kd.int .u8) 5 w' w.heap.size (fun _ => True) v4 x4_1) ∧ Aside0 (Kd.V (Kd.int .u8) 5 w' w.heap.size (fun k_ => some k_ ≠ (v4 : Value).ownBlock) (.slice Ao9 t105.length co9) t105) ∧ Aside0 (Below w.heap.size w w'))
  case atStart => exact ⟨(y102), (0), (by first | rfl | (simp; done) | (simp [*]; done)), H', ⟨Nat.le_refl _⟩, ⟨rch HO104⟩, ⟨by (with_reducible repeat (first | apply Kd.V_alloc | apply Kd.V_drewN | apply Kd.V_drew)); (first | exact HO107.out | exact R_any HO107.out)⟩, ⟨bel HB⟩⟩
  case round =>
   clear H'
   try clear c2
   try clear p2
   try clear c3
   try clear c4
   obtain ⟨x4_1, x14_1, rfl, HA, HK1, HO_4, HO_12, HB⟩ := hrel
   cases gk with
   | zero => exact absurd HA.out (by simp [impl_StillWays.l0])
   | succ k1 =>
    have H := HA.out
    clear HA
    simp only [impl_StillWays.l0] at H
    by_cases c10 : x14_1 < (t105.length : Int)
    ·rw [if_pos c10] at H
     have c10b0 : decide (x14_1 < (t105.length : Int)) = true := decide_eq_true c10
     clear c10
     by_cases c11 : 0 ≤ x14_1
     ·rw [if_pos c11] at H
      have c11b0 : decide (0 ≤ x14_1) = true := decide_eq_true c11
      clear c11
      by_cases c12 : x14_1 < (t105.length : Int)
      ·rw [if_pos c12] at H
       have c12b0 : decide (x14_1 < (t105.length : Int)) = true := decide_eq_true c12
       clear c12
       replace H := Option.bind_eq_some_iff.mp H
       obtain ⟨⟨t109, t110, t111⟩, A130, H⟩ := H
       replace H : ((impl_tray_isStill.f k1 t109 t110 t111 (rd t105 x14_1)).bind fun t114 => (if t114 = true then (if x4_1.length < 140737488355328 then (impl_StillWays.l0 k1 a0 (x4_1 ++ [rd t105 x14_1]) t105 (t105.length : Int) (wrap64 (x14_1 + 1))) else (none)) else (impl_StillWays.l0 k1 a0 x4_1 t105 (t105.length : Int) (wrap64 (x14_1 + 1))))) = some (r1, r2) := H
       have A13 := Aside0.mk A130
       clear A130
       replace H := Option.bind_eq_some_iff.mp H
       obtain ⟨t114, A140, H⟩ := H
       replace H : (if t114 = true then (if x4_1.length < 140737488355328 then (impl_StillWays.l0 k1 a0 (x4_1 ++ [rd t105 x14_1]) t105 (t105.length : Int) (wrap64 (x14_1 + 1))) else (none)) else (impl_StillWays.l0 k1 a0 x4_1 t105 (t105.length : Int) (wrap64 (x14_1 + 1)))) = some (r1, r2) := H
       have A14 := Aside0.mk A140
       clear A140
       by_cases c15 : t114 = true
       ·subst c15
        have H1 : (if x4_1.length < 140737488355328 then (impl_StillWays.l0 k1 a0 (x4_1 ++ [rd t105 x14_1]) t105 (t105.length : Int) (wrap64 (x14_1 + 1))) else (none)) = some (r1, r2) := by rw [if_pos rfl] at H; exact H
        clear H
        have H := H1
        clear H1
        by_cases c16 : x4_1.length < 140737488355328
        ·rw [if_pos c16] at H
         have LMc16 := Aside0.mk c16
         clear c16
         obtain ⟨y115, hy115⟩ : ∃ y_ : List Int, y_ = (x4_1 ++ [rd t105 x14_1]) := ⟨_, rfl⟩
         replace H : (impl_StillWays.l0 k1 a0 y115 t105 (t105.length : Int) (wrap64 (x14_1 + 1))) = some (r1, r2) := rH hy115 H
         have Ny115 := Aside0.mk hy115
         clear hy115
         have H' := Aside0.mk H
         clear H
         have p108 : 0 ≤ (x14_1 : Int) := of_decide_eq_true (by first | (with_reducible assumption) | assumption)
         have q108 : x14_1 < (t105.length : Int) := of_decide_eq_true (by first | (with_reducible assumption) | assumption)
         obtain ⟨ad108, e108, hx108_0⟩ := Kd.at_int (Kd.V_reads' HO_12.out).2.2 x14_1 p108 q108
         cases e108
         replace p108 := eq_true p108
         replace q108 := eq_true q108
         go_wp2_with (first | ((with_reducible refine gate_callee (f := 30) rfl ?_); refine gcall (some 19) Tryd.func30 #[.string a0] rfl ?_; (with_reducible refine (impl_read.calls a0 t109 t110 t111 _ ?side1 A13.out).mono ?_); (case side1 => (refine GoodW.below HG.out ?_); exact bel HB); rintro e w17 ⟨v112, rfl, ho0, hb⟩; refine ⟨_, rfl, ?_⟩; have n0_ := Aside0.mk (Kd.R_below (rch HO_4) hb); have n1_ := Aside0.mk (Kd.V_below (by (with_reducible repeat (first | apply Kd.V_alloc | apply Kd.V_drewN | apply Kd.V_drew)); (first | exact HO_12.out | exact R_any HO_12.out)) hb); have n2_ := Aside0.mk (Kd.V_lower (Kd.V_mono (ok' := fun k_ => some k_ ≠ (u4 : Value).ownBlock) ho0 (fun k_ hk_ => (Kd.fresh' (Kd.R_lt (rch HO_4)) k_ hk_))) (below_size (bel HB))); have n3_ := Aside0.mk (below_step (bel HB) hb); clear HO_4; clear HO_12; clear HB; have HO_4 := n0_; have HO_12 := n1_; have HO113 := n2_; have HB := n3_; clear n0_ n1_ n2_ n3_; (try clear hb); (try clear hb2); (try clear hk); (try clear hi); (try clear ho0); obtain ⟨Ao18, co18, eo18⟩ := Kd.V_slice HO113.out; subst eo18) | ((with_reducible refine gate_callee (f := 47) rfl ?_); refine gcall (some 21) Tryd.func47 #[.agg #[.int .i64 t109, .int .i64 t110, .slice Ao18 t111.length co18], .int .u8 (rd t105 x14_1)] rfl ?_; (with_reducible refine (impl_tray_isStill.calls k1 t109 t110 _ _ t111 (rd t105 x14_1) true _ ?side1 ?side2 A14.out).mono ?_); (case side1 => repeat (first | exact (Kd.V_reads' HO113.out).2.2 | (with_reducible refine Kd.C_alloc ?_ _) | (with_reducible refine Kd.C_drewN ?_ _) | (with_reducible refine Kd.C_drew ?_))); (case side2 => exact (Kd.V_reads' HO113.out).2.1); rintro e w19 ⟨rfl, hb⟩; refine ⟨_, rfl, ?_⟩; have n0_ := Aside0.mk (Kd.R_below (rch HO_4) hb); have n1_ := Aside0.mk (Kd.V_below (by (with_reducible repeat (first | apply Kd.V_alloc | apply Kd.V_drewN | apply Kd.V_drew)); (first | exact HO_12.out | exact R_any HO_12.out)) hb); have n2_ := Aside0.mk (Kd.V_below (by (with_reducible repeat (first | apply Kd.V_alloc | apply Kd.V_drewN | apply Kd.V_drew)); (first | exact HO113.out | exact R_any HO113.out)) hb); have n3_ := Aside0.mk (below_step (bel HB) hb); clear HO_4; clear HO_12; clear HO113; clear HB; have HO_4 := n0_; have HO_12 := n1_; have HO113 := n2_; have HB := n3_; clear n0_ n1_ n2_ n3_; (try clear hb); (try clear hb2); (try clear hk); (try clear hi)) | ((with_reducible refine gate_builtin (b := .append) (xs := #[.tmp 22, .tmp 24]) rfl ?_); at_builtin; refine Kd.R_append (Kd.int .u8) (w0 := w) w.heap.size rfl (.tmp 22) (.tmp 24) 35 5 (.int .u8 0) 1 rfl Tryd.underlying35 info5 rfl (by decide) (by omega) u4 x4_1 (rd t105 x14_1) [.int .u8 (rd t105 x14_1)] (fun _ => True) (fun _ => False) rfl rfl ?aP (fun _ hk => hk.elim) ?aF ?aO ?aB ?aS ?aL ?_; (case aP => exact rfl); (case aB => exact (bel HB)); (case aF => exact (fun _ _ => trivial)); (case aO => exact (rch HO_4)); (case aS => exact (below_size (bel HB))); (case aL => have := LMc16.out; omega); intro v116 w20 ho hb hg hat; rw [← Ny115.out] at ho; have n0_ := Aside0.mk (Kd.V_afterv (ok := (fun _ => True)) (by (with_reducible repeat (first | apply Kd.V_alloc | apply Kd.V_drewN | apply Kd.V_drew)); exact Kd.V_mono HO_12.out (fun _ hk => ⟨trivial, hk⟩)) hg hat); have n1_ := Aside0.mk (Kd.V_afterv (ok := (fun _ => True)) (by (with_reducible repeat (first | apply Kd.V_alloc | apply Kd.V_drewN | apply Kd.V_drew)); exact Kd.V_mono HO113.out (fun _ hk => ⟨trivial, hk⟩)) hg hat); have n2_ := Aside0.mk (hb); have n3_ := Aside0.mk (ho); clear HO_12; clear HO113; clear HB; clear HO_4; have HO_12 := n0_; have HO113 := n1_; have HB := n2_; have HO117 := n3_; clear n0_ n1_ n2_ n3_; clear ho hb hg hat))
         go_roundg k1
         case measure => have := HK1.out; omega
         case rel => exact ⟨(y115), (wrap64 (x14_1 + 1)), (by first | rfl | (simp; done) | (simp [*]; done)), H', ⟨by have := HK1.out; omega⟩, ⟨rch HO117⟩, ⟨by (with_reducible repeat (first | apply Kd.V_alloc | apply Kd.V_drewN | apply Kd.V_drew)); exact Kd.V_mono HO_12.out (fun _ hk => hk.2)⟩, ⟨bel HB⟩⟩
        ·rw [if_neg c16] at H
         exact absurd H (by simp)
       ·replace c15 := Bool.eq_false_iff.mpr c15
        subst c15
        have H1 : (impl_StillWays.l0 k1 a0 x4_1 t105 (t105.length : Int) (wrap64 (x14_1 + 1))) = some (r1, r2) := by rw [if_neg (show ¬ (false = true) by decide)] at H; exact H
        clear H
        have H := H1
        clear H1
        have H' := Aside0.mk H
        clear H
        have p108 : 0 ≤ (x14_1 : Int) := of_decide_eq_true (by first | (with_reducible assumption) | assumption)
        have q108 : x14_1 < (t105.length : Int) := of_decide_eq_true (by first | (with_reducible assumption) | assumption)
        obtain ⟨ad108, e108, hx108_0⟩ := Kd.at_int (Kd.V_reads' HO_12.out).2.2 x14_1 p108 q108
        cases e108
        replace p108 := eq_true p108
        replace q108 := eq_true q108
        go_wp2_with (first | ((with_reducible refine gate_callee (f := 30) rfl ?_); refine gcall (some 19) Tryd.func30 #[.string a0] rfl ?_; (with_reducible refine (impl_read.calls a0 t109 t110 t111 _ ?side1 A13.out).mono ?_); (case side1 => (refine GoodW.below HG.out ?_); exact bel HB); rintro e w21 ⟨v112, rfl, ho0, hb⟩; refine ⟨_, rfl, ?_⟩; have n0_ := Aside0.mk (Kd.R_below (rch HO_4) hb); have n1_ := Aside0.mk (Kd.V_below (by (with_reducible repeat (first | apply Kd.V_alloc | apply Kd.V_drewN | apply Kd.V_drew)); (first | exact HO_12.out | exact R_any HO_12.out)) hb); have n2_ := Aside0.mk (Kd.V_lower (Kd.V_mono (ok' := fun k_ => some k_ ≠ (u4 : Value).ownBlock) ho0 (fun k_ hk_ => (Kd.fresh' (Kd.R_lt (rch HO_4)) k_ hk_))) (below_size (bel HB))); have n3_ := Aside0.mk (below_step (bel HB) hb); clear HO_4; clear HO_12; clear HB; have HO_4 := n0_; have HO_12 := n1_; have HO113 := n2_; have HB := n3_; clear n0_ n1_ n2_ n3_; (try clear hb); (try clear hb2); (try clear hk); (try clear hi); (try clear ho0); obtain ⟨Ao22, co22, eo22⟩ := Kd.V_slice HO113.out; subst eo22) | ((with_reducible refine gate_callee (f := 47) rfl ?_); refine gcall (some 21) Tryd.func47 #[.agg #[.int .i64 t109, .int .i64 t110, .slice Ao22 t111.length co22], .int .u8 (rd t105 x14_1)] rfl ?_; (with_reducible refine (impl_tray_isStill.calls k1 t109 t110 _ _ t111 (rd t105 x14_1) false _ ?side1 ?side2 A14.out).mono ?_); (case side1 => repeat (first | exact (Kd.V_reads' HO113.out).2.2 | (with_reducible refine Kd.C_alloc ?_ _) | (with_reducible refine Kd.C_drewN ?_ _) | (with_reducible refine Kd.C_drew ?_))); (case side2 => exact (Kd.V_reads' HO113.out).2.1); rintro e w23 ⟨rfl, hb⟩; refine ⟨_, rfl, ?_⟩; have n0_ := Aside0.mk (Kd.R_below (rch HO_4) hb); have n1_ := Aside0.mk (Kd.V_below (by (with_reducible repeat (first | apply Kd.V_alloc | apply Kd.V_drewN | apply Kd.V_drew)); (first | exact HO_12.out | exact R_any HO_12.out)) hb); have n2_ := Aside0.mk (Kd.V_below (by (with_reducible repeat (first | apply Kd.V_alloc | apply Kd.V_drewN | apply Kd.V_drew)); (first | exact HO113.out | exact R_any HO113.out)) hb); have n3_ := Aside0.mk (below_step (bel HB) hb); clear HO_4; clear HO_12; clear HO113; clear HB; have HO_4 := n0_; have HO_12 := n1_; have HO113 := n2_; have HB := n3_; clear n0_ n1_ n2_ n3_; (try clear hb); (try clear hb2); (try clear hk); (try clear hi)))
        go_roundg k1
        case measure => have := HK1.out; omega
        case rel => exact ⟨(x4_1), (wrap64 (x14_1 + 1)), (by first | rfl | (simp; done) | (simp [*]; done)), H', ⟨by have := HK1.out; omega⟩, ⟨rch HO_4⟩, ⟨by (with_reducible repeat (first | apply Kd.V_alloc | apply Kd.V_drewN | apply Kd.V_drew)); (first | exact HO_12.out | exact R_any HO_12.out)⟩, ⟨bel HB⟩⟩
      ·rw [if_neg c12] at H
       exact absurd H (by simp)
     ·rw [if_neg c11] at H
      exact absurd H (by simp)
    ·rw [if_neg c10] at H
     have c10b0 : decide (x14_1 < (t105.length : Int)) = false := decide_eq_false c10
     clear c10
     simp only [Option.some.injEq, Prod.mk.injEq] at H
     obtain ⟨rfl, rfl⟩ := H
     have hcv24 := own_string (P := Tryd.prog) Tryd.underlying35 Tryd.underlying5 Tryd.underlying9 (Kd.own_of_R HO_4.out)
     go_wp2
     go_ret2
     exact ⟨by first | rfl | (simp [errW_none, errW_some] <;> rfl) | (simp [*, errW_none, errW_some] <;> rfl), bel HB⟩
 ·replace c3 := Bool.eq_false_iff.mpr c3
  subst c3
  have H1 : (some ((⟨#[]⟩ : ByteArray), false)) = some (r1, r2) := by rw [if_neg (show ¬ (false = true) by decide)] at H; exact H
  clear H
  have H := H1
  clear H1
  simp only [Option.some.injEq, Prod.mk.injEq] at H
  obtain ⟨rfl, rfl⟩ := H
  go_enter Tryd.func22, Tryd.ntmps22
  go_wp2_with (first | ((with_reducible refine gate_callee (f := 46) rfl ?_); refine gcall (some 8) Tryd.func46 #[.string a0] rfl ?_; (with_reducible refine (impl_IsTray.calls k a0 false _ ?side1 A2.out).mono ?_); (case side1 => (refine GoodW.below HG.out ?_); exact bel HB); rintro e w25 ⟨rfl, hb⟩; refine ⟨_, rfl, ?_⟩; have n0_ := Aside0.mk (below_step (bel HB) hb); clear HB; have HB := n0_; clear n0_; (try clear hb); (try clear hb2); (try clear hk); (try clear hi)))
  go_ret2
  exact ⟨by first | rfl | (simp [errW_none, errW_some] <;> rfl) | (simp [*, errW_none, errW_some] <;> rfl), bel HB⟩
def laws_FnExactStillWays.f (k : Nat) (a0 : ByteArray) : Option (Bool) := if (a0.size : Int) > 1048576 then (some true) else ((spec_StillWays.f k a0).bind fun bt101 => ((impl_StillWays.f k a0).bind fun bt103 => (if bt103.1.toList = bt101.1.toList then (if (bt103.2 != bt101.2) = true then (some false) else (some true)) else (some false))))
set_option maxHeartbeats 8000000 in
set_option maxRecDepth 100000 in
theorem laws_FnExactStillWays.calls (k : Nat) (a0 : ByteArray) (r : Bool) (w : World) (hG : GoodW w) (h : laws_FnExactStillWays.f k a0 = some r) :
  Calls Tryd.prog 7 #[.string a0] w fun e w' => e = .returned (.bool r) ∧ Below w.heap.size w w' := by
 have HG := Aside0.mk hG
 clear hG
 have HB := Aside0.mk (Below.refl w.heap.size w)
 have H : (if (a0.size : Int) > 1048576 then (some true) else ((spec_StillWays.f k a0).bind fun bt101 => ((impl_StillWays.f k a0).bind fun bt103 => (if bt103.1.toList = bt101.1.toList then (if (bt103.2 != bt101.2) = true then (some false) else (some true)) else (some false))))) = some r := h
 clear h
 by_cases c2 : (a0.size : Int) > 1048576
 ·rw [if_pos c2] at H
  have c2b0 : decide (1048576 < (a0.size : Int)) = true := decide_eq_true c2
  have c2b1 : decide (1048576 < a0.size) = true := decide_eq_true (by omega)
  clear c2
  obtain rfl := Option.some.inj H
  go_enter Tryd.func7, Tryd.ntmps7
  go_wp2
  go_ret
  exact ⟨by first | rfl | (simp [errW_none, errW_some] <;> rfl) | (simp [*, errW_none, errW_some] <;> rfl), bel HB⟩
 ·rw [if_neg c2] at H
  have c2b0 : decide (1048576 < (a0.size : Int)) = false := decide_eq_false c2
  have c2b1 : decide (1048576 < a0.size) = false := decide_eq_false (by omega)
  clear c2
  replace H := Option.bind_eq_some_iff.mp H
  obtain ⟨⟨t101, t102⟩, A30, H⟩ := H
  replace H : ((impl_StillWays.f k a0).bind fun bt103 => (if bt103.1.toList = t101.toList then (if (bt103.2 != t102) = true then (some false) else (some true)) else (some false))) = some r := H
  have A3 := Aside0.mk A30
  clear A30
  replace H := Option.bind_eq_some_iff.mp H
  obtain ⟨⟨t103, t104⟩, A40, H⟩ := H
  replace H : (if t103.toList = t101.toList then (if (t104 != t102) = true then (some false) else (some true)) else (some false)) = some r := H
  have A4 := Aside0.mk A40
  clear A40
  by_cases c5 : t103.toList = t101.toList
  ·rw [if_pos c5] at H
   have c5b0 : (t103.toList == t101.toList) = true := beq_iff_eq.mpr c5
   have c5b1 : (t103.toList != t101.toList) = false := bne_eq_false_iff_eq.mpr c5
   clear c5
   by_cases c6 : (t104 != t102) = true
   ·rw [if_pos c6] at H
    have c6b0 : (t104 != t102) = true := c6
    (try (have c6b1 : decide (t104 = t102) = false := by simpa using c6))
    (try (have c6b2 : (t104 == t102) = false := by simpa using c6))
    (try (have c6b3 : ¬ (t104 = t102) := by simpa using c6))
    clear c6
    obtain rfl := Option.some.inj H
    go_enter Tryd.func7, Tryd.ntmps7
    go_wp2_with (first | ((with_reducible refine gate_callee (f := 21) rfl ?_); refine gcall (some 12) Tryd.func21 #[.string a0] rfl ?_; (with_reducible refine (spec_StillWays.calls k a0 t101 t102 _ A3.out).mono ?_); rintro e w7 ⟨rfl, hb⟩; refine ⟨_, rfl, ?_⟩; have n0_ := Aside0.mk (below_step (bel HB) hb); clear HB; have HB := n0_; clear n0_; (try clear hb); (try clear hb2); (try clear hk); (try clear hi)) | ((with_reducible refine gate_callee (f := 22) rfl ?_); refine gcall (some 17) Tryd.func22 #[.string a0] rfl ?_; (with_reducible refine (impl_StillWays.calls k a0 t103 t104 _ ?side1 A4.out).mono ?_); (case side1 => (refine GoodW.below HG.out ?_); exact bel HB); rintro e w8 ⟨rfl, hb⟩; refine ⟨_, rfl, ?_⟩; have n0_ := Aside0.mk (below_step (bel HB) hb); clear HB; have HB := n0_; clear n0_; (try clear hb); (try clear hb2); (try clear hk); (try clear hi)))
    go_ret
    exact ⟨by first | rfl | (simp [errW_none, errW_some] <;> rfl) | (simp [*, errW_none, errW_some] <;> rfl), bel HB⟩
   ·rw [if_neg c6] at H
    have c6b0 : (t104 != t102) = false := by simpa using c6
    (try (have c6b1 : decide (t104 = t102) = true := by simpa using c6))
    (try (have c6b2 : (t104 == t102) = true := by simpa using c6))
    clear c6
    obtain rfl := Option.some.inj H
    go_enter Tryd.func7, Tryd.ntmps7
    go_wp2_with (first | ((with_reducible refine gate_callee (f := 21) rfl ?_); refine gcall (some 12) Tryd.func21 #[.string a0] rfl ?_; (with_reducible refine (spec_StillWays.calls k a0 t101 t102 _ A3.out).mono ?_); rintro e w9 ⟨rfl, hb⟩; refine ⟨_, rfl, ?_⟩; have n0_ := Aside0.mk (below_step (bel HB) hb); clear HB; have HB := n0_; clear n0_; (try clear hb); (try clear hb2); (try clear hk); (try clear hi)) | ((with_reducible refine gate_callee (f := 22) rfl ?_); refine gcall (some 17) Tryd.func22 #[.string a0] rfl ?_; (with_reducible refine (impl_StillWays.calls k a0 t103 t104 _ ?side1 A4.out).mono ?_); (case side1 => (refine GoodW.below HG.out ?_); exact bel HB); rintro e w10 ⟨rfl, hb⟩; refine ⟨_, rfl, ?_⟩; have n0_ := Aside0.mk (below_step (bel HB) hb); clear HB; have HB := n0_; clear n0_; (try clear hb); (try clear hb2); (try clear hk); (try clear hi)))
    go_ret
    exact ⟨by first | rfl | (simp [errW_none, errW_some] <;> rfl) | (simp [*, errW_none, errW_some] <;> rfl), bel HB⟩
  ·rw [if_neg c5] at H
   have c5b0 : (t103.toList == t101.toList) = false := beq_eq_false_iff_ne.mpr c5
   have c5b1 : (t103.toList != t101.toList) = true := bne_iff_ne.mpr c5
   obtain rfl := Option.some.inj H
   go_enter Tryd.func7, Tryd.ntmps7
   go_wp2_with (first | ((with_reducible refine gate_callee (f := 21) rfl ?_); refine gcall (some 12) Tryd.func21 #[.string a0] rfl ?_; (with_reducible refine (spec_StillWays.calls k a0 t101 t102 _ A3.out).mono ?_); rintro e w11 ⟨rfl, hb⟩; refine ⟨_, rfl, ?_⟩; have n0_ := Aside0.mk (below_step (bel HB) hb); clear HB; have HB := n0_; clear n0_; (try clear hb); (try clear hb2); (try clear hk); (try clear hi)) | ((with_reducible refine gate_callee (f := 22) rfl ?_); refine gcall (some 17) Tryd.func22 #[.string a0] rfl ?_; (with_reducible refine (impl_StillWays.calls k a0 t103 t104 _ ?side1 A4.out).mono ?_); (case side1 => (refine GoodW.below HG.out ?_); exact bel HB); rintro e w12 ⟨rfl, hb⟩; refine ⟨_, rfl, ?_⟩; have n0_ := Aside0.mk (below_step (bel HB) hb); clear HB; have HB := n0_; clear n0_; (try clear hb); (try clear hb2); (try clear hk); (try clear hi)))
   go_ret
   exact ⟨by first | rfl | (simp [errW_none, errW_some] <;> rfl) | (simp [*, errW_none, errW_some] <;> rfl), bel HB⟩
end Go.Proofs.YtohfcmhidjaohaaDoor.Q
end
section
namespace Go.Proofs.YtohfcmhidjaohaaDoor.Q
set_option linter.unusedSectionVars false
open Go.RowKit Go.Proofs.YtohfcmhidjaohaaDoorW.PrintWords Go.Proofs.YtohfcmhidjaohaaDoorW.PrintLast Go.Proofs.YtohfcmhidjaohaaDoorW.PrintMore
open Classical
theorem same_l0 (a b : List Int) (hl : a.length = b.length) (hs : a.length ≤ 1000) : ∀ (m u : Nat), u + m = a.length → (∀ j, j < u → rd a (j : Int) = rd b (j : Int)) → Ev (fun k => slices_Equal_byte_byte.l0 k a b (a.length : Int) (u : Int)) (decide (a = b))
 | 0, u, hu, hp => by
  obtain rfl : u = a.length := by omega
  have : a = b := List.ext_getElem hl fun j h1 h2 => by
   have h3 := hp j h1
   rw [rd_nat a j h1, rd_nat b j h2] at h3
   exact h3
  rw [decide_eq_true this]
  refine Ev.step (Ev.const rfl) fun k => ?_
  rw [slices_Equal_byte_byte.l0, if_neg (by omega)]
 | m + 1, u, hu, hp => by
  by_cases h : rd a (u : Int) = rd b (u : Int)
  ·refine Ev.step (same_l0 a b hl hs m (u + 1) (by omega) fun j hj => ?_) fun k => ?_
   ·by_cases e : j = u
    ·rw [e]
     exact h
    ·exact hp j (by omega)
   ·rw [slices_Equal_byte_byte.l0, if_pos (by omega), if_pos (by omega), if_pos (by omega), if_pos (by omega), if_pos h, wr1 u (by omega)]
  ·have : a ≠ b := fun e => h (by rw [e])
   rw [decide_eq_false this]
   refine Ev.step (Ev.const rfl) fun k => ?_
   rw [slices_Equal_byte_byte.l0, if_pos (by omega), if_pos (by omega), if_pos (by omega), if_pos (by omega), if_neg h]
theorem same_ev (a b : List Int) (hl : a.length = b.length) (hs : a.length ≤ 1000) : Ev (fun k => slices_Equal_byte_byte.f k a b) (decide (a = b)) := by
 refine Ev.congr (same_l0 a b hl hs a.length 0 (by omega) fun j hj => absurd hj (Nat.not_lt_zero _)) fun k => ?_
 unfold slices_Equal_byte_byte.f
 rw [if_pos (by omega)]
 rfl
theorem laid_cells {cs em : List Int} {f : Int → Option Int} {ca : Int → Bool} (hc : cellsOK cs) (he : cellsOK em) (hl : em.length = cs.length) : cellsOK (laidCells cs em f ca) := by
 intro c hm
 unfold laidCells at hm
 obtain ⟨j, hj, rfl⟩ := List.mem_map.1 hm
 have hj := List.mem_range.1 hj
 split
 ·rename_i x hx
  have hxl : x < cs.length := by
   unfold comes at hx
   exact List.mem_range.1 (List.mem_of_find?_eq_some hx)
  rw [rd_nat cs x hxl]
  exact hc _ (List.getElem_mem hxl)
 ·rw [rd_nat em j (by omega)]
  exact he _ (List.getElem_mem _)
theorem empty_cells {cs : List Int} (hc : cellsOK cs) : cellsOK (emptyC cs) := by
 intro c hm
 unfold emptyC at hm
 obtain ⟨x, hx, rfl⟩ := List.mem_map.1 hm
 split
 ·exact ⟨46, rfl, by decide⟩
 ·exact hc x hx
def stillW (w h : Nat) (cs : List Int) (d : Nat) : Bool := decide (tiltC w h cs d = cs)
def StillWaysR (t : ByteArray) : ByteArray × Bool := match trayOf t with
 | none => (⟨#[]⟩, false)
 | some (w, h, cs) => (strOfNums (goodD (stillW w.toNat h.toNat cs) 4), true)
section
variable {w h : Nat} {cs : List Int} (hw1 : 1 ≤ w) (hw : w ≤ 7) (hh1 : 1 ≤ h) (hh : h ≤ 7) (hs : w * h ≤ 36) (hn : cs.length = w * h)
include hw1 hw hh1 hh hs hn
theorem swS_l0 (t : ByteArray) (ht : trayOf t = some ((w : Int), (h : Int), cs)) : ∀ (m j : Nat), j + m = 4 → Ev (fun k => spec_StillWays.l0 k t (strOfNums (goodD (stillW w h cs) j)) j w h cs) (strOfNums (goodD (stillW w h cs) 4), true)
 | 0, j, hj => by
  obtain rfl : j = 4 := by omega
  refine Ev.step (Ev.const (o := some (strOfNums (goodD (stillW w h cs) 4), true)) rfl) fun k => ?_
  rw [spec_StillWays.l0, if_neg (by decide)]
 | m + 1, j, hj => by
  have ih := swS_l0 t ht m (j + 1) (by omega)
  have hj4 : j < 4 := by omega
  have hcut := dcut ⟨j, hj4⟩
  simp only at hcut
  have hfl := goodD_len (stillW w h cs) j
  have hlen : (tiltC w h cs j).length = w * h := (tiltC_len hw hh hs hj4).trans hn
  have hsame := tx_same hw1 hw hh1 hh hs ht (show cellsOK (tiltC w h cs j) from laid_cells (tray_own ht).1 (empty_cells (tray_own ht).1) (by unfold emptyC; rw [List.length_map])) hlen
  obtain ⟨k1, e1⟩ := tiTilt_ev hw hh hs hj4 hw1 hh1 hn
  obtain ⟨k2, e2⟩ := tyText_ev (w := w) (h := h) (cs := tiltC w h cs j) hw1 hh1 hs hlen
  obtain ⟨k3, e3⟩ := ih
  have c6 : (strOfNums (goodD (stillW w h cs) j)).size + (strOfNums [dirC j]).size ≤ 9223372036854775807 := by
   rw [son_size, son_size]
   simp only [List.length_singleton]
   exact Nat.le_trans (Nat.add_le_add_right hfl 1) (Nat.le_trans (show j + 1 ≤ 5 by omega) (by decide))
  have hsz : ((⟨#[117, 114, 100, 108]⟩ : ByteArray).size : Int) = 4 := rfl
  refine ⟨k1 + k2 + k3 + 1, fun k hk => ?_⟩
  obtain ⟨k, rfl⟩ : ∃ k', k = k' + 1 := ⟨k - 1, by omega⟩
  have q3 : spec_StillWays.l0 k t (strOfNums (goodD (stillW w h cs) (j + 1))) ((j + 1 : Nat) : Int) w h cs = _ := e3 k (by omega)
  rw [goodD_succ] at q3
  show spec_StillWays.l0 (k + 1) t (strOfNums (goodD (stillW w h cs) j)) j w h cs = _
  rw [spec_StillWays.l0, if_pos (by omega), show spec_tiTilt.f k w h cs j = _ from e1 k (by omega), Option.bind_some]
  show (spec_tyText.f k w h (tiltC w h cs j)).bind _ = _
  rw [show spec_tyText.f k w h (tiltC w h cs j) = _ from e2 k (by omega), Option.bind_some, wr1 j (by omega)]
  by_cases hf : tiltC w h cs j = cs
  ·rw [if_pos (hsame.2 hf)]
   rw [if_pos (show stillW w h cs j = true from decide_eq_true hf)] at q3
   show (Option.some (⟨#[117, 114, 100, 108]⟩ : ByteArray)).bind _ = _
   rw [Option.bind_some, if_pos (by omega), if_pos (by omega), if_pos (by rw [hsz]; omega), hcut, if_pos c6, son_append]
   exact q3
  ·rw [if_neg fun e => hf (hsame.1 e)]
   rw [if_neg (by unfold stillW; simpa using hf)] at q3
   exact q3
theorem swI_l0 (t : ByteArray) (hread : impl_read.f t = some ((w : Int), (h : Int), cs)) : ∀ (m j : Nat), j + m = 4 → Ev (fun k => impl_StillWays.l0 k t (goodD (stillW w h cs) j) [117, 114, 100, 108] 4 j) (strOfNums (goodD (stillW w h cs) 4), true)
 | 0, j, hj => by
  obtain rfl : j = 4 := by omega
  refine Ev.step (Ev.const (o := some (strOfNums (goodD (stillW w h cs) 4), true)) rfl) fun k => ?_
  rw [impl_StillWays.l0, if_neg (by decide)]
 | m + 1, j, hj => by
  have ih := swI_l0 t hread m (j + 1) (by omega)
  have hj4 : j < 4 := by omega
  obtain ⟨o1, o2⟩ := dirOne ⟨j, hj4⟩
  simp only at o1 o2
  have hfl := goodD_len (stillW w h cs) j
  have c6 : (goodD (stillW w h cs) j).length < 140737488355328 := Nat.lt_of_le_of_lt hfl (Nat.lt_trans hj4 (by decide))
  have hlen : (tiltC w h cs j).length = cs.length := tiltC_len hw hh hs hj4
  obtain ⟨k1, e1⟩ := tilted_ev hw hh hs hj4 hw1 hh1 hn
  obtain ⟨k2, e2⟩ := same_ev (tiltC w h cs j) cs hlen (by omega)
  obtain ⟨k3, e3⟩ := ih
  refine ⟨k1 + k2 + k3 + 1, fun k hk => ?_⟩
  obtain ⟨k, rfl⟩ : ∃ k', k = k' + 1 := ⟨k - 1, by omega⟩
  have q3 : impl_StillWays.l0 k t (goodD (stillW w h cs) (j + 1)) [117, 114, 100, 108] 4 ((j + 1 : Nat) : Int) = _ := e3 k (by omega)
  have q1 : impl_tray_isStill.f k w h cs (dirC j) = some (decide (tiltC w h cs j = cs)) := by
   unfold impl_tray_isStill.f
   rw [show impl_tray_tilted.f k w h cs (dirC j) = _ from e1 k (by omega), Option.bind_some]
   show (slices_Equal_byte_byte.f k (tiltC w h cs j) cs).bind _ = _
   rw [show slices_Equal_byte_byte.f k (tiltC w h cs j) cs = _ from e2 k (by omega)]
   rfl
  rw [goodD_succ] at q3
  show impl_StillWays.l0 (k + 1) t (goodD (stillW w h cs) j) [117, 114, 100, 108] 4 j = _
  rw [impl_StillWays.l0, if_pos (by omega), if_pos (by omega), if_pos (by simp; omega), hread, Option.bind_some, o2]
  show (impl_tray_isStill.f k w h cs (dirC j)).bind _ = _
  rw [q1, Option.bind_some, wr1 j (by omega)]
  by_cases hf : tiltC w h cs j = cs
  ·rw [decide_eq_true hf, if_pos rfl, if_pos c6]
   rw [if_pos (show stillW w h cs j = true from decide_eq_true hf)] at q3
   exact q3
  ·rw [decide_eq_false hf, if_neg (by decide)]
   rw [if_neg (by unfold stillW; simpa using hf)] at q3
   exact q3
end
theorem specStillWays_ev (t : ByteArray) : Ev (fun k => spec_StillWays.f k t) (StillWaysR t) := by
 refine Ev.bind (f := fun k (bt101 : Int × Int × List Int × Bool) => (if bt101.2.2.2 = true then (spec_StillWays.l0 k t (⟨#[]⟩ : ByteArray) 0 bt101.1 bt101.2.1 bt101.2.2.1) else (some ((⟨#[]⟩ : ByteArray), false)))) (tyRead_ev t) ?_
 unfold StillWaysR
 rcases ht : trayOf t with _ | ⟨w, h, cs⟩
 ·exact Ev.congr (Ev.const rfl) fun k => if_neg Bool.false_ne_true
 ·obtain ⟨w, h, cs, e, hw1, hw, hh1, hh, hs, hn⟩ := tray_parts ht
  injection e with e1 e2
  injection e2 with e2 e3
  subst e1 e2 e3
  have hz : 0 < w * h := Nat.mul_pos hw1 hh1
  exact Ev.congr (swS_l0 hw1 hw hh1 hh hs hn t ht 4 0 (by omega)) fun k => if_pos rfl
theorem implStillWays_ev (t : ByteArray) (ht0 : t.size ≤ 1048576) : Ev (fun k => impl_StillWays.f k t) (StillWaysR t) := by
 refine Ev.bind (f := fun k (t101 : Bool) => (if t101 = true then ((litB.f ([117, 114, 100, 108] : List Int)).bind fun t105 => (impl_StillWays.l0 k t (([] : List Int)) t105 (t105.length : Int) 0)) else (some ((⟨#[]⟩ : ByteArray), false)))) (isTray_ev t ht0) ?_
 unfold StillWaysR
 rcases ht : trayOf t with _ | ⟨w, h, cs⟩
 ·exact Ev.congr (Ev.const rfl) fun k => if_neg (by simp)
 ·have hread := tray_read ht
  obtain ⟨w, h, cs, e, hw1, hw, hh1, hh, hs, hn⟩ := tray_parts ht
  injection e with e1 e2
  injection e2 with e2 e3
  subst e1 e2 e3
  have hz : 0 < w * h := Nat.mul_pos hw1 hh1
  refine Ev.congr (swI_l0 hw1 hw hh1 hh hs hn t hread 4 0 (by omega)) fun k => ?_
  show (if true = true then _ else _) = _
  rw [if_pos rfl]
  rfl
theorem lawStillWays_ev (t : ByteArray) : Ev (fun k => laws_FnExactStillWays.f k t) true := by
 by_cases ht : t.size ≤ 1048576
 case neg =>
  refine Ev.congr (Ev.const (o := some true) rfl) fun k => ?_
  unfold laws_FnExactStillWays.f
  exact if_pos (by omega)
 have hsp := specStillWays_ev t
 have him := implStillWays_ev t ht
 refine Ev.congr (Ev.bind (f := fun k (bt101 : ByteArray × Bool) => ((impl_StillWays.f k t).bind fun bt103 => (if bt103.1.toList = bt101.1.toList then (if (bt103.2 != bt101.2) = true then (some false) else (some true)) else (some false)))) hsp (Ev.bind (f := fun _ (bt103 : ByteArray × Bool) => (if bt103.1.toList = (StillWaysR t).1.toList then (if (bt103.2 != (StillWaysR t).2) = true then (some false) else (some true)) else (some false))) him (Ev.const ?_))) fun k => by unfold laws_FnExactStillWays.f; rw [if_neg (by omega)]
 rw [if_pos rfl, bne_self_eq_false, if_neg (by decide)]
end Go.Proofs.YtohfcmhidjaohaaDoor.Q
end
