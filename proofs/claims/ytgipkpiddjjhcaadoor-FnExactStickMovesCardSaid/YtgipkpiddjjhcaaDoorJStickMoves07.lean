/- Texts of this claim, joined. -/
import Derived.Test.YtgipkpiddjjhcaaDoorJStickMoves01
import Derived.Test.YtgipkpiddjjhcaaDoorJStickMoves06
set_option linter.unusedVariables false
set_option linter.unusedSimpArgs false
set_option linter.unusedSectionVars false
section
namespace Go.Proofs.YtgipkpiddjjhcaaDoor.Q
open Go.RowKit Go.Proofs.YtgipkpiddjjhcaaDoorW.PrintWords Go.Proofs.YtgipkpiddjjhcaaDoorW.PrintLast Go.Proofs.YtgipkpiddjjhcaaDoorW.PrintMore
attribute [local go_sem] max2_int min2_int max_two min_two max_three min_three max_four min_four
set_option linter.unusedVariables false
set_option linter.unusedSimpArgs false
def spec_StickMoves.f (k : Nat) (a0 : ByteArray) (a1 : ByteArray) : Option (List Int × Bool) := (spec_tiRead.f k a0 a1).bind fun bt101 => (if bt101.2.2.2.2 = true then ((spec_skTilt.f k bt101.1 bt101.2.1 bt101.2.2.1 bt101.2.2.2.1).bind fun bt109 => (some (bt109.2.2.2, true))) else (some (([] : List Int), false)))
set_option maxHeartbeats 8000000 in
set_option maxRecDepth 100000 in
theorem spec_StickMoves.calls (k : Nat) (a0 : ByteArray) (a1 : ByteArray) (r1 : List Int) (r2 : Bool) (w : World) (h : spec_StickMoves.f k a0 a1 = some (r1, r2)) :
  Calls Tryd.prog 12 #[.string a0, .string a1] w fun e w' => ∃ v0_ : Value, e = .returned (.tuple #[v0_, .bool r2]) ∧ Kd.R (Kd.int .i64) 3 w' w.heap.size (fun _ => True) v0_ r1 ∧ Below w.heap.size w w' := by
 have hu36 := Tryd.underlying36
 have HB := Aside0.mk (Below.refl w.heap.size w)
 have H : ((spec_tiRead.f k a0 a1).bind fun bt101 => (if bt101.2.2.2.2 = true then ((spec_skTilt.f k bt101.1 bt101.2.1 bt101.2.2.1 bt101.2.2.2.1).bind fun bt109 => (some (bt109.2.2.2, true))) else (some (([] : List Int), false)))) = some (r1, r2) := h
 clear h
 replace H := Option.bind_eq_some_iff.mp H
 obtain ⟨⟨t101, t102, t103, t106, t107⟩, A30, H⟩ := H
 replace H : (if t107 = true then ((spec_skTilt.f k t101 t102 t103 t106).bind fun bt109 => (some (bt109.2.2.2, true))) else (some (([] : List Int), false))) = some (r1, r2) := H
 have A3 := Aside0.mk A30
 clear A30
 by_cases c4 : t107 = true
 ·subst c4
  have H1 : ((spec_skTilt.f k t101 t102 t103 t106).bind fun bt109 => (some (bt109.2.2.2, true))) = some (r1, r2) := by rw [if_pos rfl] at H; exact H
  clear H
  have H := H1
  clear H1
  replace H := Option.bind_eq_some_iff.mp H
  obtain ⟨⟨t109, t110, t111, t114⟩, A50, H⟩ := H
  replace H : (some (t114, true)) = some (r1, r2) := H
  have A5 := Aside0.mk A50
  clear A50
  simp only [Option.some.injEq, Prod.mk.injEq] at H
  obtain ⟨rfl, rfl⟩ := H
  go_enter Tryd.func12, Tryd.ntmps12
  go_wp2_with (first | ((with_reducible refine gate_callee (f := 27) rfl ?_); refine gcall (some 14) Tryd.func27 #[.string a0, .string a1] rfl ?_; (with_reducible refine (spec_tiRead.calls k a0 a1 t101 t102 t103 t106 true _ A3.out).mono ?_); rintro e w6 ⟨v104, rfl, ho0, hb⟩; refine ⟨_, rfl, ?_⟩; have n0_ := Aside0.mk (Kd.R_lower ho0 (below_size (bel HB))); have n1_ := Aside0.mk (below_step (bel HB) hb); clear HB; have HO105 := n0_; have HB := n1_; clear n0_ n1_; (try clear hb); (try clear hb2); (try clear hk); (try clear hi); (try clear ho0)) | ((with_reducible refine gate_dst (N := 6) rfl ?_); refine boxE (N := 6) (cs := #[.int .i64 0, .int .i64 0, .slice none 0 0]) (t := 36) ?_; intro gb108 hg w7 hbox hb; have n0_ := Aside0.mk (Kd.R_below (rch HO105) hb); have n1_ := Aside0.mk (below_step (bel HB) hb); have n2_ := Aside0.mk (hbox); have n3_ := Aside0.mk (gsz hg (bel HB)); have n4_ := Aside0.mk (gsz hg (bel HB)); clear HO105; clear HB; have HO105 := n0_; have HB := n1_; have BK108 := n2_; have GW108 := n3_; have GE108 := n4_; clear n0_ n1_ n2_ n3_ n4_; clear hb hbox hg; have hcz8_0 : w7.cell? ⟨gb108, 0, none⟩ = some (.int .i64 0) := (blk_cell BK108.out 0).trans rfl; have hcz8_1 : w7.cell? ⟨gb108, 1, none⟩ = some (.int .i64 0) := (blk_cell BK108.out 1).trans rfl; have hcz8_2 : w7.cell? ⟨gb108, 2, none⟩ = some (.slice none 0 0) := (blk_cell BK108.out 2).trans rfl; have hfz8_0 := blk_frozen BK108.out 0; have hfz8_1 := blk_frozen BK108.out 1; have hfz8_2 := blk_frozen BK108.out 2; obtain ⟨Ao9, co9, eo9⟩ := Kd.R_slice HO105.out; subst eo9) | ((with_reducible refine gate_store (t := 36) (p := 6) rfl ?_); refine store_event (t := 36) (p := 6) (v := ?vo_w10) (w1 := (((w7.setCell ⟨gb108, 0, none⟩ (.int .i64 t101)).setCell ⟨gb108, 1, none⟩ (.int .i64 t102)).setCell ⟨gb108, 2, none⟩ (.slice Ao9 t103.length co9))) ?hg ?ho ?hn ?hr ?_; (case ho => rfl); (case hg => rfl); (case hn => rfl); (case hr => first | (go_simp; done) | (go_simp; rfl)); intro w10 hw; have n0_ : Aside0 (Kd.R (Kd.int .u8) 5 w10 w.heap.size (fun _ => True) (.slice Ao9 t103.length co9) t103) := ⟨(by rw [hw]; exact (by (with_reducible repeat (first | apply Kd.R_alloc | apply Kd.R_drewN | apply Kd.R_drew)); exact Kd.R_mono (Kd.R_far (p := ⟨gb108, 2, none⟩) (Kd.R_far (p := ⟨gb108, 1, none⟩) (Kd.R_far (p := ⟨gb108, 0, none⟩) (Kd.R_types HO105.out BK108.out (by decide)) (fun _ hk => hk.2) (.int .i64 t101)) (fun _ hk => hk.2) (.int .i64 t102)) (fun _ hk => hk.2) (.slice Ao9 t103.length co9)) (fun _ hk => trivial)))⟩; have n1_ : Aside0 (w10.heap[gb108]? = some (.cells #[.int .i64 t101, .int .i64 t102, .slice Ao9 t103.length co9] 36 (0, 0))) := ⟨(by rw [hw]; exact (by (with_reducible repeat (first | refine blk_drewN ?_ _ | refine blk_drew ?_ | refine blk_alloc ?_ _)); refine blk_put (cs := #[.int .i64 t101, .int .i64 t102, .slice none 0 0]) ?_ 2 _ rfl; (with_reducible repeat (first | refine blk_drewN ?_ _ | refine blk_drew ?_ | refine blk_alloc ?_ _)); refine blk_put (cs := #[.int .i64 t101, .int .i64 0, .slice none 0 0]) ?_ 1 _ rfl; (with_reducible repeat (first | refine blk_drewN ?_ _ | refine blk_drew ?_ | refine blk_alloc ?_ _)); refine blk_put (cs := #[.int .i64 0, .int .i64 0, .slice none 0 0]) ?_ 0 _ rfl; exact blc))⟩; have n2_ : Aside0 (Below w.heap.size w w10) := ⟨(by rw [hw]; exact (bel HB))⟩; clear hw; clear HO105; clear BK108; clear HB; have HO105 := n0_; have BK108 := n1_; have HB := n2_; clear n0_ n1_ n2_; have hcz11_0 : w10.cell? ⟨gb108, 0, none⟩ = some (.int .i64 t101) := (blk_cell BK108.out 0).trans rfl; have hcz11_1 : w10.cell? ⟨gb108, 1, none⟩ = some (.int .i64 t102) := (blk_cell BK108.out 1).trans rfl; have hcz11_2 : w10.cell? ⟨gb108, 2, none⟩ = some (.slice Ao9 t103.length co9) := (blk_cell BK108.out 2).trans rfl; have hfz11_0 := blk_frozen BK108.out 0; have hfz11_1 := blk_frozen BK108.out 1; have hfz11_2 := blk_frozen BK108.out 2) | ((with_reducible refine gate_callee (f := 36) rfl ?_); refine gcall (some 23) Tryd.func36 #[.agg #[.int .i64 t101, .int .i64 t102, .slice Ao9 t103.length co9], .int .i64 t106] rfl ?_; (with_reducible refine (spec_skTilt.calls k t101 t102 (fun k_ => some k_ = (.slice Ao9 t103.length co9 : Value).ownBlock) _ _ t103 t106 t109 t110 t111 t114 _ ?side1 A5.out).mono ?_); (case side1 => exact Kd.R_V (Kd.R_tight rfl (Kd.R_types (HO105.out) BK108.out (by decide)))); rintro e w12 ⟨v112, v115, rfl, ho0, ho1, hb⟩; refine ⟨_, rfl, ?_⟩; have n0_ := Aside0.mk (Kd.R_below (rch HO105) hb); have n1_ := Aside0.mk (Kd.V_lower (Kd.V_mono (ok' := fun k_ => some k_ ≠ (v115 : Value).ownBlock ∧ k_ ≠ gb108) ho0 (fun k_ hk_ => ⟨hk_.2, Or.elim hk_.1 (fun hs_ => ((Kd.R_types (HO105.out) BK108.out (by decide)).1 k_ hs_.symm).2) (fun hn_ => (Kd.freshB (g := gb108) (o := .cells #[.int .i64 t101, .int .i64 t102, .slice Ao9 t103.length co9] 36 (0, 0)) blc k_ hn_))⟩)) (below_size (bel HB))); have n2_ := Aside0.mk (Kd.R_lower (Kd.R_mono (ok' := fun k_ => True) ho1 (fun _ hk_ => trivial)) (below_size (bel HB))); have n3_ := Aside0.mk (blk_below (g := gb108) (o := .cells #[.int .i64 t101, .int .i64 t102, .slice Ao9 t103.length co9] 36 (0, 0)) blc hb); have n4_ := Aside0.mk (below_step (bel HB) hb); clear HO105; clear BK108; clear HB; have HO105 := n0_; have HO113 := n1_; have HO116 := n2_; have BK108 := n3_; have HB := n4_; clear n0_ n1_ n2_ n3_ n4_; (try clear hb); (try clear hb2); (try clear hk); (try clear hi); (try clear ho0); (try clear ho1)) | ((with_reducible refine gate_dst (N := 9) rfl ?_); refine boxE (N := 9) (cs := #[.int .i64 0, .int .i64 0, .slice none 0 0]) (t := 36) ?_; intro gb117 hg w13 hbox hb; have n0_ := Aside0.mk (Kd.R_below (rch HO105) hb); have n1_ := Aside0.mk (Kd.V_below (Kd.V_elderB (by (with_reducible repeat (first | apply Kd.V_alloc | apply Kd.V_drewN | apply Kd.V_drew)); (first | exact HO113.out | exact R_any HO113.out)) gb117 (Nat.le_of_eq hg.symm)) hb); have n2_ := Aside0.mk (Kd.R_below (rch HO116) hb); have n3_ := Aside0.mk (blk_below (g := gb108) (o := .cells #[.int .i64 t101, .int .i64 t102, .slice Ao9 t103.length co9] 36 (0, 0)) blc hb); have n4_ := Aside0.mk (below_step (bel HB) hb); have n5_ := Aside0.mk (hbox); have n6_ := Aside0.mk (gsz hg (bel HB)); have n7_ := Aside0.mk (gsz hg (bel HB)); have n8_ := Aside0.mk ((by rw [hg]; exact Nat.ne_of_lt (blk_lt (g := gb108) (o := .cells #[.int .i64 t101, .int .i64 t102, .slice Ao9 t103.length co9] 36 (0, 0)) blc) : gb108 ≠ gb117)); have n9_ := Aside0.mk ((by rw [hg]; exact Nat.ne_of_gt (blk_lt (g := gb108) (o := .cells #[.int .i64 t101, .int .i64 t102, .slice Ao9 t103.length co9] 36 (0, 0)) blc) : gb117 ≠ gb108)); clear HO105; clear HO113; clear HO116; clear BK108; clear HB; have HO105 := n0_; have HO113 := n1_; have HO116 := n2_; have BK108 := n3_; have HB := n4_; have BK117 := n5_; have GW117 := n6_; have GE117 := n7_; have NB108_117 := n8_; have NB117_108 := n9_; clear n0_ n1_ n2_ n3_ n4_ n5_ n6_ n7_ n8_ n9_; clear hb hbox hg; have hnb14 := NB117_108.out; have hnc14 := NB108_117.out; have hcz15_0 : w13.cell? ⟨gb117, 0, none⟩ = some (.int .i64 0) := (blk_cell BK117.out 0).trans rfl; have hcz15_1 : w13.cell? ⟨gb117, 1, none⟩ = some (.int .i64 0) := (blk_cell BK117.out 1).trans rfl; have hcz15_2 : w13.cell? ⟨gb117, 2, none⟩ = some (.slice none 0 0) := (blk_cell BK117.out 2).trans rfl; have hfz15_0 := blk_frozen BK117.out 0; have hfz15_1 := blk_frozen BK117.out 1; have hfz15_2 := blk_frozen BK117.out 2; obtain ⟨Ao16, co16, eo16⟩ := Kd.V_slice HO113.out; subst eo16))
  go_ret2
  exact ⟨_, by first | rfl | (simp [errW_none, errW_some] <;> rfl) | (simp [*, errW_none, errW_some] <;> rfl), by (with_reducible repeat (first | apply Kd.R_alloc | apply Kd.R_drewN | apply Kd.R_drew)); exact Kd.R_mono (Kd.R_far (p := ⟨gb117, 2, none⟩) (Kd.R_far (p := ⟨gb117, 1, none⟩) (Kd.R_far (p := ⟨gb117, 0, none⟩) (Kd.R_types HO116.out BK117.out (by decide)) (fun _ hk => hk.2) (.int .i64 t109)) (fun _ hk => hk.2) (.int .i64 t110)) (fun _ hk => hk.2) (.slice Ao16 t111.length co16)) (fun _ hk => trivial), bel HB⟩
 ·replace c4 := Bool.eq_false_iff.mpr c4
  subst c4
  have H1 : (some (([] : List Int), false)) = some (r1, r2) := by rw [if_neg (show ¬ (false = true) by decide)] at H; exact H
  clear H
  have H := H1
  clear H1
  simp only [Option.some.injEq, Prod.mk.injEq] at H
  obtain ⟨rfl, rfl⟩ := H
  go_enter Tryd.func12, Tryd.ntmps12
  go_wp2_with (first | ((with_reducible refine gate_callee (f := 27) rfl ?_); refine gcall (some 14) Tryd.func27 #[.string a0, .string a1] rfl ?_; (with_reducible refine (spec_tiRead.calls k a0 a1 t101 t102 t103 t106 false _ A3.out).mono ?_); rintro e w17 ⟨v104, rfl, ho0, hb⟩; refine ⟨_, rfl, ?_⟩; have n0_ := Aside0.mk (Kd.R_lower ho0 (below_size (bel HB))); have n1_ := Aside0.mk (below_step (bel HB) hb); clear HB; have HO105 := n0_; have HB := n1_; clear n0_ n1_; (try clear hb); (try clear hb2); (try clear hk); (try clear hi); (try clear ho0)) | ((with_reducible refine gate_dst (N := 6) rfl ?_); refine boxE (N := 6) (cs := #[.int .i64 0, .int .i64 0, .slice none 0 0]) (t := 36) ?_; intro gb108 hg w18 hbox hb; have n0_ := Aside0.mk (Kd.R_below (rch HO105) hb); have n1_ := Aside0.mk (below_step (bel HB) hb); have n2_ := Aside0.mk (hbox); have n3_ := Aside0.mk (gsz hg (bel HB)); have n4_ := Aside0.mk (gsz hg (bel HB)); clear HO105; clear HB; have HO105 := n0_; have HB := n1_; have BK108 := n2_; have GW108 := n3_; have GE108 := n4_; clear n0_ n1_ n2_ n3_ n4_; clear hb hbox hg; have hcz19_0 : w18.cell? ⟨gb108, 0, none⟩ = some (.int .i64 0) := (blk_cell BK108.out 0).trans rfl; have hcz19_1 : w18.cell? ⟨gb108, 1, none⟩ = some (.int .i64 0) := (blk_cell BK108.out 1).trans rfl; have hcz19_2 : w18.cell? ⟨gb108, 2, none⟩ = some (.slice none 0 0) := (blk_cell BK108.out 2).trans rfl; have hfz19_0 := blk_frozen BK108.out 0; have hfz19_1 := blk_frozen BK108.out 1; have hfz19_2 := blk_frozen BK108.out 2; obtain ⟨Ao20, co20, eo20⟩ := Kd.R_slice HO105.out; subst eo20))
  go_ret2
  exact ⟨_, by first | rfl | (simp [errW_none, errW_some] <;> rfl) | (simp [*, errW_none, errW_some] <;> rfl), by first | exact Kd.R_nil _ _ _ _ _ | exact Kd.N_nil _ _ _ _ _ | exact Kd.V_nil _ _ _ _ _ | exact Kd.Q_nil _ _ _ _ _ | exact Kd.S_nil _ _ _ _ _, bel HB⟩
def impl_StickMoves.f (k : Nat) (a0 : ByteArray) (a1 : ByteArray) : Option (List Int × Bool) := (impl_isTilted.f k a0 a1).bind fun t101 => (if t101 = true then ((impl_read.f a0).bind fun bt102 => (if 0 < (a1.size : Int) then ((impl_tray_stuck.f k bt102.1 bt102.2.1 bt102.2.2 (bt a1 0)).bind fun bt107 => (some (bt107.2.2.2, true))) else (none))) else (some (([] : List Int), false)))
def impl_StickMoves.T3 : Bool × List (List Nat × List Nat) := (true, [([], []), ([0], [0]), ([], []), ([2], [2]), ([1, 3, 1], [1, 3]), ([4], [4]), ([5], [5]), ([5], [5]), ([], []), ([8, 6, 4, 0, 1, 2, 3, 4, 5, 6, 8], [6, 8]), ([7, 9, 0, 1, 2, 3, 4, 5, 6, 7, 8, 9], [7])])
def impl_StickMoves.B3 : List Nat := [0, 1, 0, 4, 15, 31, 63, 63, 0, 383, 1023]
theorem impl_StickMoves.tab3 : rtab .any (opsOf Tryd.f13 3) = impl_StickMoves.T3 := by kernel_rfl
theorem impl_StickMoves.bits3 : waitsOk impl_StickMoves.T3.2 impl_StickMoves.B3 = true := by kernel_rfl
set_option maxHeartbeats 8000000 in
set_option maxRecDepth 100000 in
theorem impl_StickMoves.calls (k : Nat) (a0 : ByteArray) (a1 : ByteArray) (r1 : List Int) (r2 : Bool) (w : World) (hG : GoodW w) (h : impl_StickMoves.f k a0 a1 = some (r1, r2)) :
  Calls Tryd.prog 13 #[.string a0, .string a1] w fun e w' => ∃ v0_ : Value, e = .returned (.tuple #[v0_, .bool r2]) ∧ Kd.R (Kd.int .i64) 3 w' w.heap.size (fun _ => True) v0_ r1 ∧ Below w.heap.size w w' := by
 have hu46 := Tryd.underlying46
 have HG := Aside0.mk hG
 clear hG
 have HB := Aside0.mk (Below.refl w.heap.size w)
 have H : ((impl_isTilted.f k a0 a1).bind fun t101 => (if t101 = true then ((impl_read.f a0).bind fun bt102 => (if 0 < (a1.size : Int) then ((impl_tray_stuck.f k bt102.1 bt102.2.1 bt102.2.2 (bt a1 0)).bind fun bt107 => (some (bt107.2.2.2, true))) else (none))) else (some (([] : List Int), false)))) = some (r1, r2) := h
 clear h
 replace H := Option.bind_eq_some_iff.mp H
 obtain ⟨t101, A30, H⟩ := H
 replace H : (if t101 = true then ((impl_read.f a0).bind fun bt102 => (if 0 < (a1.size : Int) then ((impl_tray_stuck.f k bt102.1 bt102.2.1 bt102.2.2 (bt a1 0)).bind fun bt107 => (some (bt107.2.2.2, true))) else (none))) else (some (([] : List Int), false))) = some (r1, r2) := H
 have A3 := Aside0.mk A30
 clear A30
 by_cases c4 : t101 = true
 ·subst c4
  have H1 : ((impl_read.f a0).bind fun bt102 => (if 0 < (a1.size : Int) then ((impl_tray_stuck.f k bt102.1 bt102.2.1 bt102.2.2 (bt a1 0)).bind fun bt107 => (some (bt107.2.2.2, true))) else (none))) = some (r1, r2) := by rw [if_pos rfl] at H; exact H
  clear H
  have H := H1
  clear H1
  replace H := Option.bind_eq_some_iff.mp H
  obtain ⟨⟨t102, t103, t104⟩, A50, H⟩ := H
  replace H : (if 0 < (a1.size : Int) then ((impl_tray_stuck.f k t102 t103 t104 (bt a1 0)).bind fun bt107 => (some (bt107.2.2.2, true))) else (none)) = some (r1, r2) := H
  have A5 := Aside0.mk A50
  clear A50
  by_cases c6 : 0 < (a1.size : Int)
  ·rw [if_pos c6] at H
   have c6b0 : decide (0 < (a1.size : Int)) = true := decide_eq_true c6
   have c6b1 : decide (0 < a1.size) = true := decide_eq_true (by omega)
   clear c6
   replace H := Option.bind_eq_some_iff.mp H
   obtain ⟨⟨t107, t108, t109, t112⟩, A80, H⟩ := H
   replace H : (some (t112, true)) = some (r1, r2) := H
   have A8 := Aside0.mk A80
   clear A80
   simp only [Option.some.injEq, Prod.mk.injEq] at H
   obtain ⟨rfl, rfl⟩ := H
   go_enter Tryd.func13, Tryd.ntmps13
   try go_wp2_with (first | ((with_reducible refine gate_callee (f := 31) rfl ?_); refine gcall (some 10) Tryd.func31 #[.string a0, .string a1] rfl ?_; (with_reducible refine (impl_isTilted.calls k a0 a1 true _ ?side1 A3.out).mono ?_); (case side1 => (refine GoodW.below HG.out ?_); exact bel HB); rintro e w9 ⟨rfl, hb⟩; refine ⟨_, rfl, ?_⟩; have n0_ := Aside0.mk (below_step (bel HB) hb); clear HB; have HB := n0_; clear n0_; (try clear hb); (try clear hb2); (try clear hk); (try clear hi)))
   have n0_ := Aside0.mk (below_drew1 HB.out)
   clear HB
   have HB := n0_
   clear n0_
   have p7 : 0 ≤ (0 : Int) := (by omega)
   have q7 : 0 < a1.size := (by have : (0 : Int) < (a1.size : Int) := of_decide_eq_true (by first | (with_reducible assumption) | assumption); omega)
   have hx7 : ∀ h : 0 < a1.size, ((a1[0]'h).toNat : Int) = bt a1 0 := bt_at a1 0
   clear p7
   have qi7 : (0 < (a1.size : Int)) = True := eq_true (of_decide_eq_true (by first | (with_reducible assumption) | assumption))
   replace q7 := eq_true q7
   refine start_ (n := 11) (S := fun w' => True) (ds := []) #[false, false, false, false, false, false, false, false, false, false, false] (by kernel_rfl) rfl rfl trivial (fun hHeld => ?_); refine with_tabW impl_StickMoves.tab3 impl_StickMoves.bits3 (fun HT_ HW_ => ?_)
   generalize w9.drew = w10 at HB hHeld ⊢
   refine pure_ (i := 0) (N := some 13) (v := ?_) (a' := ?_) #[true, false, false, false, false, false, false, false, false, false, false] rfl rfl (any_of HT_.out (by kernel_rfl)) (fun _ _ _ h => h) (Or.inl ⟨by rfl, ?_⟩) ?_ ?_
   rotate_left
   ·intro w'
    go_simp
    with_reducible rfl
   rotate_left
   ·simp only [Act.put, List.setIfInBounds_toArray, List.set_cons_zero, List.set_cons_succ, i64_w, i32_w]
    rfl
   refine pure_ (i := 2) (N := some 15) (v := ?_) (a' := ?_) #[true, false, true, false, false, false, false, false, false, false, false] rfl rfl (any_of HT_.out (by kernel_rfl)) (fun _ _ _ h => h) (Or.inl ⟨by rfl, ?_⟩) ?_ ?_
   rotate_left
   ·intro w'
    go_simp
    with_reducible rfl
   rotate_left
   ·simp only [Act.put, List.setIfInBounds_toArray, List.set_cons_zero, List.set_cons_succ, i64_w, i32_w]
    rfl
   refine take_ (i := 3) (N := some 16) (v := ?_) (a' := ?_) #[true, false, true, true, false, false, false, false, false, false, false] rfl rfl (take_ofW HT_.out HW_.out (by kernel_rfl)) (fun _ _ _ h => h) (Or.inl ⟨by rfl, ?_⟩) hHeld ?_ ?_
   rotate_left
   ·intro w' _
    go_simp
    with_reducible rfl
   rotate_left
   ·simp only [Act.put, List.setIfInBounds_toArray, List.set_cons_zero, List.set_cons_succ, i64_w, i32_w]
    rfl
   refine join_ (σ := Value × Value × Value × Nat) 2 #[true, true, true, true, true, true, true, true, true, false, false] (fun s_ => [(14, .agg #[.int .i64 t102, .int .i64 t103, s_.1]), (17, .tuple #[.agg #[.int .i64 t107, .int .i64 t108, s_.2.1], s_.2.2.1]), (6, .pointer (some ⟨s_.2.2.2, 0, none⟩)), (12, .tuple #[.agg #[.int .i64 t107, .int .i64 t108, s_.2.1], s_.2.2.1]), (18, .agg #[.int .i64 t107, .int .i64 t108, s_.2.1]), (19, s_.2.2.1)]) (fun s_ w' => (Kd.V (Kd.int .u8) 5 w' w.heap.size (fun k_ => some k_ ≠ (s_.2.2.1 : Value).ownBlock ∧ k_ ≠ s_.2.2.2) s_.1 t104) ∧ (Kd.V (Kd.int .u8) 5 w' w.heap.size (fun k_ => some k_ ≠ (s_.2.2.1 : Value).ownBlock ∧ k_ ≠ s_.2.2.2) s_.2.1 t109) ∧ (Kd.R (Kd.int .i64) 3 w' w.heap.size (fun _ => True) s_.2.2.1 t112) ∧ (w'.heap[s_.2.2.2]? = some (.cells #[.int .i64 0, .int .i64 0, .slice none 0 0] 46 (0, 0))) ∧ (w.heap.size ≤ s_.2.2.2) ∧ (w.heap.size ≤ s_.2.2.2) ∧ (Below w.heap.size w w')) ?_ ?_
   rotate_left
   ·intro hCont
    refine two_ (i := 1) (j := 8) (Ni := some 14) (Nj := some 6) #[true, true, true, true, false, false, false, false, false, false, false] #[true, false, true, true, false, false, false, false, true, false, false] rfl rfl rfl rfl (two_of HT_.out (by kernel_rfl)) (by decide) (by decide) (fun K hK => ?_) (fun K hK => ?_)
    ·skip
     refine goes_ Tryd.func32 (by kernel_rfl) rfl #[.string a0] (by rfl) rfl rfl (by (try simp only [List.map_toArray, List.map_cons, List.map_nil]); first | done | rfl | (simp only [List.length_drop, List.length_take]; rfl)) ?_
     with_reducible refine (impl_read.calls a0 t102 t103 t104 _ ?side1 A5.out).mono ?_
     (case side1 => (refine GoodW.below HG.out ?_); exact bel HB)
     rintro e w11 ⟨v105, rfl, ho0, hb⟩
     refine ⟨_, rfl, ?_⟩
     have n0_ := Aside0.mk (Kd.V_lower (Kd.V_mono (ok' := fun k_ => True) ho0 (fun k_ hk_ => trivial)) (below_size (bel HB)))
     have n1_ := Aside0.mk (below_step (bel HB) hb)
     clear HB
     have HO106 := n0_
     have HB := n1_
     clear n0_ n1_
     (try clear hb)
     (try clear hb2)
     (try clear hk)
     (try clear hi)
     (try clear ho0)
     obtain ⟨Ao12, co12, eo12⟩ := Kd.V_slice HO106.out
     (first | subst eo12 | (injection eo12 with f1_ f2_ f3_; have f4_ := f1_.symm; have f5_ := f3_.symm; clear f1_ f2_ f3_; subst f4_; subst f5_))
     refine hK.out _ _ trivial (fun hHeld => ?_)
     clear hK K
     refine norm_ (a' := ?_) ?_ ?_
     rotate_left
     ·show Act.put _ (some 14) _ = _
      simp only [Act.put, List.setIfInBounds_toArray, List.set_cons_zero, List.set_cons_succ, i64_w, i32_w]
      rfl
     refine two_ (i := 4) (j := 8) (Ni := some 17) (Nj := some 6) #[true, true, true, true, true, false, false, false, false, false, false] #[true, true, true, true, false, false, false, false, true, false, false] rfl rfl rfl rfl (two_of HT_.out (by kernel_rfl)) (by decide) (by decide) (fun K hK => ?_) (fun K hK => ?_)
     ·skip
      refine goes_ Tryd.func37 (by kernel_rfl) rfl #[.agg #[.int .i64 t102, .int .i64 t103, .slice Ao12 t104.length co12], .int .u8 (bt a1 0)] (by rfl) rfl rfl (by (try simp only [List.map_toArray, List.map_cons, List.map_nil]); first | done | rfl | (simp only [List.length_drop, List.length_take]; rfl)) ?_
      with_reducible refine (impl_tray_stuck.calls k t102 t103 (fun k_ => True) _ _ t104 (bt a1 0) t107 t108 t109 t112 _ ?side1 A8.out).mono ?_
      (case side1 => (first | exact HO106.out | exact R_any HO106.out))
      rintro e w13 ⟨v110, v113, rfl, ho0, ho1, hb⟩
      refine ⟨_, rfl, ?_⟩
      have n0_ := Aside0.mk (Kd.V_elder' (by (with_reducible repeat (first | apply Kd.V_alloc | apply Kd.V_drewN | apply Kd.V_drew)); (first | exact HO106.out | exact R_any HO106.out)) (Kd.R_base ho1) hb)
      have n1_ := Aside0.mk (Kd.V_lower (Kd.V_mono (ok' := fun k_ => some k_ ≠ (v113 : Value).ownBlock) ho0 (fun k_ hk_ => hk_.2)) (below_size (bel HB)))
      have n2_ := Aside0.mk (Kd.R_lower (Kd.R_mono (ok' := fun k_ => True) ho1 (fun _ hk_ => trivial)) (below_size (bel HB)))
      have n3_ := Aside0.mk (below_step (bel HB) hb)
      clear HO106
      clear HB
      have HO106 := n0_
      have HO111 := n1_
      have HO114 := n2_
      have HB := n3_
      clear n0_ n1_ n2_ n3_
      (try clear hb)
      (try clear hb2)
      (try clear hk)
      (try clear hi)
      (try clear ho0)
      (try clear ho1)
      refine hK.out _ _ trivial (fun hHeld => ?_)
      clear hK K
      refine norm_ (a' := ?_) ?_ ?_
      rotate_left
      ·show Act.put _ (some 17) _ = _
       simp only [Act.put, List.setIfInBounds_toArray, List.set_cons_zero, List.set_cons_succ, i64_w, i32_w]
       rfl
      refine pure_ (i := 5) (N := some 12) (v := ?_) (a' := ?_) #[true, true, true, true, true, true, false, false, false, false, false] rfl rfl (any_of HT_.out (by kernel_rfl)) (fun _ _ _ h => h) (Or.inl ⟨by rfl, ?_⟩) ?_ ?_
      rotate_left
      ·intro w'
       go_simp
       with_reducible rfl
      rotate_left
      ·simp only [Act.put, List.setIfInBounds_toArray, List.set_cons_zero, List.set_cons_succ, i64_w, i32_w]
       rfl
      refine pure_ (i := 6) (N := some 18) (v := ?_) (a' := ?_) #[true, true, true, true, true, true, true, false, false, false, false] rfl rfl (any_of HT_.out (by kernel_rfl)) (fun _ _ _ h => h) (Or.inl ⟨by rfl, ?_⟩) ?_ ?_
      rotate_left
      ·intro w'
       go_simp
       with_reducible rfl
      rotate_left
      ·simp only [Act.put, List.setIfInBounds_toArray, List.set_cons_zero, List.set_cons_succ, i64_w, i32_w]
       rfl
      refine pure_ (i := 7) (N := some 19) (v := ?_) (a' := ?_) #[true, true, true, true, true, true, true, true, false, false, false] rfl rfl (any_of HT_.out (by kernel_rfl)) (fun _ _ _ h => h) (Or.inl ⟨by rfl, ?_⟩) ?_ ?_
      rotate_left
      ·intro w'
       go_simp
       with_reducible rfl
      rotate_left
      ·simp only [Act.put, List.setIfInBounds_toArray, List.set_cons_zero, List.set_cons_succ, i64_w, i32_w]
       rfl
      refine one_ (i := 8) (N := some 6) #[true, true, true, true, true, true, true, true, true, false, false] rfl rfl (one_of HT_.out (by kernel_rfl)) (by decide) (fun K hK => ?_)
      refine box_step ?hg (N := 6) ?hd (cs := #[.int .i64 0, .int .i64 0, .slice none 0 0]) (t := 46) ?hr ?_; (case hd => rfl); (case hg => rfl); (case hr => first | (go_simp; done) | (go_simp; rfl))
      intro gb115 hg w14 hbox hb
      have n0_ := Aside0.mk (Kd.V_below (Kd.V_elderB (by (with_reducible repeat (first | apply Kd.V_alloc | apply Kd.V_drewN | apply Kd.V_drew)); (first | exact HO106.out | exact R_any HO106.out)) gb115 (Nat.le_of_eq hg.symm)) hb)
      have n1_ := Aside0.mk (Kd.V_below (Kd.V_elderB (by (with_reducible repeat (first | apply Kd.V_alloc | apply Kd.V_drewN | apply Kd.V_drew)); (first | exact HO111.out | exact R_any HO111.out)) gb115 (Nat.le_of_eq hg.symm)) hb)
      have n2_ := Aside0.mk (Kd.R_below (rch HO114) hb)
      have n3_ := Aside0.mk (below_step (bel HB) hb)
      have n4_ := Aside0.mk (hbox)
      have n5_ := Aside0.mk (gsz hg (bel HB))
      have n6_ := Aside0.mk (gsz hg (bel HB))
      clear HO106
      clear HO111
      clear HO114
      clear HB
      have HO106 := n0_
      have HO111 := n1_
      have HO114 := n2_
      have HB := n3_
      have BK115 := n4_
      have GW115 := n5_
      have GE115 := n6_
      clear n0_ n1_ n2_ n3_ n4_ n5_ n6_
      clear hb hbox hg
      refine hK.out _ _ trivial (fun hHeld => ?_)
      clear hK K
      refine norm_ (a' := ?_) ?_ ?_
      rotate_left
      ·show Act.put _ (some 6) _ = _
       simp only [Act.put, List.setIfInBounds_toArray, List.set_cons_zero, List.set_cons_succ, i64_w, i32_w]
       rfl
      exact norm_ (by simp only [putAll, Act.put, List.setIfInBounds_toArray, List.set_cons_zero, List.set_cons_succ]) (hCont (.slice Ao12 t104.length co12, v110, v113, gb115) _ ⟨(by (with_reducible repeat (first | apply Kd.V_alloc | apply Kd.V_drewN | apply Kd.V_drew)); exact Kd.V_mono HO106.out (fun _ hk => ⟨hk.1.2, hk.2⟩)), (by (with_reducible repeat (first | apply Kd.V_alloc | apply Kd.V_drewN | apply Kd.V_drew)); (first | exact HO111.out | exact R_any HO111.out)), (rch HO114), blc, GW115.out, GE115.out, (bel HB)⟩)
     ·skip
      refine box_step ?hg (N := 6) ?hd (cs := #[.int .i64 0, .int .i64 0, .slice none 0 0]) (t := 46) ?hr ?_; (case hd => rfl); (case hg => rfl); (case hr => first | (go_simp; done) | (go_simp; rfl))
      intro gb115 hg w12 hbox hb
      have n0_ := Aside0.mk (Kd.V_below (Kd.V_elderB (by (with_reducible repeat (first | apply Kd.V_alloc | apply Kd.V_drewN | apply Kd.V_drew)); (first | exact HO106.out | exact R_any HO106.out)) gb115 (Nat.le_of_eq hg.symm)) hb)
      have n1_ := Aside0.mk (below_step (bel HB) hb)
      have n2_ := Aside0.mk (hbox)
      have n3_ := Aside0.mk (gsz hg (bel HB))
      have n4_ := Aside0.mk (gsz hg (bel HB))
      clear HO106
      clear HB
      have HO106 := n0_
      have HB := n1_
      have BK115 := n2_
      have GW115 := n3_
      have GE115 := n4_
      clear n0_ n1_ n2_ n3_ n4_
      clear hb hbox hg
      obtain ⟨Ao13, co13, eo13⟩ := Kd.V_slice HO106.out
      (first | subst eo13 | (injection eo13 with f1_ f2_ f3_; have f4_ := f1_.symm; have f5_ := f3_.symm; clear f1_ f2_ f3_; subst f4_; subst f5_))
      refine hK.out _ _ trivial (fun hHeld => ?_)
      clear hK K
      refine norm_ (a' := ?_) ?_ ?_
      rotate_left
      ·show Act.put _ (some 6) _ = _
       simp only [Act.put, List.setIfInBounds_toArray, List.set_cons_zero, List.set_cons_succ, i64_w, i32_w]
       rfl
      refine one_ (i := 4) (N := some 17) #[true, true, true, true, true, false, false, false, true, false, false] rfl rfl (one_of HT_.out (by kernel_rfl)) (by decide) (fun K hK => ?_)
      refine goes_ Tryd.func37 (by kernel_rfl) rfl #[.agg #[.int .i64 t102, .int .i64 t103, .slice Ao13 t104.length co13], .int .u8 (bt a1 0)] (by rfl) rfl rfl (by (try simp only [List.map_toArray, List.map_cons, List.map_nil]); first | done | rfl | (simp only [List.length_drop, List.length_take]; rfl)) ?_
      with_reducible refine (impl_tray_stuck.calls k t102 t103 (fun k_ => (True ∧ k_ ≠ gb115)) _ _ t104 (bt a1 0) t107 t108 t109 t112 _ ?side1 A8.out).mono ?_
      (case side1 => (first | exact HO106.out | exact R_any HO106.out))
      rintro e w14 ⟨v110, v113, rfl, ho0, ho1, hb⟩
      refine ⟨_, rfl, ?_⟩
      have n0_ := Aside0.mk (Kd.V_elder' (by (with_reducible repeat (first | apply Kd.V_alloc | apply Kd.V_drewN | apply Kd.V_drew)); (first | exact HO106.out | exact R_any HO106.out)) (Kd.R_base ho1) hb)
      have n1_ := Aside0.mk (Kd.V_lower (Kd.V_mono (ok' := fun k_ => some k_ ≠ (v113 : Value).ownBlock ∧ k_ ≠ gb115) ho0 (fun k_ hk_ => ⟨hk_.2, Or.elim hk_.1 (fun hs_ => hs_.2) (fun hn_ => (Kd.freshB (g := gb115) (o := .cells #[.int .i64 0, .int .i64 0, .slice none 0 0] 46 (0, 0)) blc k_ hn_))⟩)) (below_size (bel HB)))
      have n2_ := Aside0.mk (Kd.R_lower (Kd.R_mono (ok' := fun k_ => True) ho1 (fun _ hk_ => trivial)) (below_size (bel HB)))
      have n3_ := Aside0.mk (blk_below (g := gb115) (o := .cells #[.int .i64 0, .int .i64 0, .slice none 0 0] 46 (0, 0)) blc hb)
      have n4_ := Aside0.mk (below_step (bel HB) hb)
      clear HO106
      clear BK115
      clear HB
      have HO106 := n0_
      have HO111 := n1_
      have HO114 := n2_
      have BK115 := n3_
      have HB := n4_
      clear n0_ n1_ n2_ n3_ n4_
      (try clear hb)
      (try clear hb2)
      (try clear hk)
      (try clear hi)
      (try clear ho0)
      (try clear ho1)
      refine hK.out _ _ trivial (fun hHeld => ?_)
      clear hK K
      refine norm_ (a' := ?_) ?_ ?_
      rotate_left
      ·show Act.put _ (some 17) _ = _
       simp only [Act.put, List.setIfInBounds_toArray, List.set_cons_zero, List.set_cons_succ, i64_w, i32_w]
       rfl
      refine pure_ (i := 5) (N := some 12) (v := ?_) (a' := ?_) #[true, true, true, true, true, true, false, false, true, false, false] rfl rfl (any_of HT_.out (by kernel_rfl)) (fun _ _ _ h => h) (Or.inl ⟨by rfl, ?_⟩) ?_ ?_
      rotate_left
      ·intro w'
       go_simp
       with_reducible rfl
      rotate_left
      ·simp only [Act.put, List.setIfInBounds_toArray, List.set_cons_zero, List.set_cons_succ, i64_w, i32_w]
       rfl
      refine pure_ (i := 6) (N := some 18) (v := ?_) (a' := ?_) #[true, true, true, true, true, true, true, false, true, false, false] rfl rfl (any_of HT_.out (by kernel_rfl)) (fun _ _ _ h => h) (Or.inl ⟨by rfl, ?_⟩) ?_ ?_
      rotate_left
      ·intro w'
       go_simp
       with_reducible rfl
      rotate_left
      ·simp only [Act.put, List.setIfInBounds_toArray, List.set_cons_zero, List.set_cons_succ, i64_w, i32_w]
       rfl
      refine pure_ (i := 7) (N := some 19) (v := ?_) (a' := ?_) #[true, true, true, true, true, true, true, true, true, false, false] rfl rfl (any_of HT_.out (by kernel_rfl)) (fun _ _ _ h => h) (Or.inl ⟨by rfl, ?_⟩) ?_ ?_
      rotate_left
      ·intro w'
       go_simp
       with_reducible rfl
      rotate_left
      ·simp only [Act.put, List.setIfInBounds_toArray, List.set_cons_zero, List.set_cons_succ, i64_w, i32_w]
       rfl
      exact norm_ (by simp only [putAll, Act.put, List.setIfInBounds_toArray, List.set_cons_zero, List.set_cons_succ]) (hCont (.slice Ao13 t104.length co13, v110, v113, gb115) _ ⟨(by (with_reducible repeat (first | apply Kd.V_alloc | apply Kd.V_drewN | apply Kd.V_drew)); exact Kd.V_mono HO106.out (fun _ hk => ⟨hk.2, hk.1.2⟩)), (by (with_reducible repeat (first | apply Kd.V_alloc | apply Kd.V_drewN | apply Kd.V_drew)); (first | exact HO111.out | exact R_any HO111.out)), (rch HO114), blc, GW115.out, GE115.out, (bel HB)⟩)
    ·skip
     refine box_step ?hg (N := 6) ?hd (cs := #[.int .i64 0, .int .i64 0, .slice none 0 0]) (t := 46) ?hr ?_; (case hd => rfl); (case hg => rfl); (case hr => first | (go_simp; done) | (go_simp; rfl))
     intro gb115 hg w11 hbox hb
     have n0_ := Aside0.mk (below_step (bel HB) hb)
     have n1_ := Aside0.mk (hbox)
     have n2_ := Aside0.mk (gsz hg (bel HB))
     have n3_ := Aside0.mk (gsz hg (bel HB))
     clear HB
     have HB := n0_
     have BK115 := n1_
     have GW115 := n2_
     have GE115 := n3_
     clear n0_ n1_ n2_ n3_
     clear hb hbox hg
     refine hK.out _ _ trivial (fun hHeld => ?_)
     clear hK K
     refine norm_ (a' := ?_) ?_ ?_
     rotate_left
     ·show Act.put _ (some 6) _ = _
      simp only [Act.put, List.setIfInBounds_toArray, List.set_cons_zero, List.set_cons_succ, i64_w, i32_w]
      rfl
     refine one_ (i := 1) (N := some 14) #[true, true, true, true, false, false, false, false, true, false, false] rfl rfl (one_of HT_.out (by kernel_rfl)) (by decide) (fun K hK => ?_)
     refine goes_ Tryd.func32 (by kernel_rfl) rfl #[.string a0] (by rfl) rfl rfl (by (try simp only [List.map_toArray, List.map_cons, List.map_nil]); first | done | rfl | (simp only [List.length_drop, List.length_take]; rfl)) ?_
     with_reducible refine (impl_read.calls a0 t102 t103 t104 _ ?side1 A5.out).mono ?_
     (case side1 => (refine GoodW.below HG.out ?_); exact bel HB)
     rintro e w12 ⟨v105, rfl, ho0, hb⟩
     refine ⟨_, rfl, ?_⟩
     have n0_ := Aside0.mk (Kd.V_lower (Kd.V_mono (ok' := fun k_ => k_ ≠ gb115) ho0 (fun k_ hk_ => (Kd.freshB (g := gb115) (o := .cells #[.int .i64 0, .int .i64 0, .slice none 0 0] 46 (0, 0)) blc k_ hk_))) (below_size (bel HB)))
     have n1_ := Aside0.mk (blk_below (g := gb115) (o := .cells #[.int .i64 0, .int .i64 0, .slice none 0 0] 46 (0, 0)) blc hb)
     have n2_ := Aside0.mk (below_step (bel HB) hb)
     clear BK115
     clear HB
     have HO106 := n0_
     have BK115 := n1_
     have HB := n2_
     clear n0_ n1_ n2_
     (try clear hb)
     (try clear hb2)
     (try clear hk)
     (try clear hi)
     (try clear ho0)
     obtain ⟨Ao13, co13, eo13⟩ := Kd.V_slice HO106.out
     (first | subst eo13 | (injection eo13 with f1_ f2_ f3_; have f4_ := f1_.symm; have f5_ := f3_.symm; clear f1_ f2_ f3_; subst f4_; subst f5_))
     refine hK.out _ _ trivial (fun hHeld => ?_)
     clear hK K
     refine norm_ (a' := ?_) ?_ ?_
     rotate_left
     ·show Act.put _ (some 14) _ = _
      simp only [Act.put, List.setIfInBounds_toArray, List.set_cons_zero, List.set_cons_succ, i64_w, i32_w]
      rfl
     refine one_ (i := 4) (N := some 17) #[true, true, true, true, true, false, false, false, true, false, false] rfl rfl (one_of HT_.out (by kernel_rfl)) (by decide) (fun K hK => ?_)
     refine goes_ Tryd.func37 (by kernel_rfl) rfl #[.agg #[.int .i64 t102, .int .i64 t103, .slice Ao13 t104.length co13], .int .u8 (bt a1 0)] (by rfl) rfl rfl (by (try simp only [List.map_toArray, List.map_cons, List.map_nil]); first | done | rfl | (simp only [List.length_drop, List.length_take]; rfl)) ?_
     with_reducible refine (impl_tray_stuck.calls k t102 t103 (fun k_ => k_ ≠ gb115) _ _ t104 (bt a1 0) t107 t108 t109 t112 _ ?side1 A8.out).mono ?_
     (case side1 => (first | exact HO106.out | exact R_any HO106.out))
     rintro e w14 ⟨v110, v113, rfl, ho0, ho1, hb⟩
     refine ⟨_, rfl, ?_⟩
     have n0_ := Aside0.mk (Kd.V_elder' (by (with_reducible repeat (first | apply Kd.V_alloc | apply Kd.V_drewN | apply Kd.V_drew)); (first | exact HO106.out | exact R_any HO106.out)) (Kd.R_base ho1) hb)
     have n1_ := Aside0.mk (Kd.V_lower (Kd.V_mono (ok' := fun k_ => some k_ ≠ (v113 : Value).ownBlock ∧ k_ ≠ gb115) ho0 (fun k_ hk_ => ⟨hk_.2, Or.elim hk_.1 (fun hs_ => hs_) (fun hn_ => (Kd.freshB (g := gb115) (o := .cells #[.int .i64 0, .int .i64 0, .slice none 0 0] 46 (0, 0)) blc k_ hn_))⟩)) (below_size (bel HB)))
     have n2_ := Aside0.mk (Kd.R_lower (Kd.R_mono (ok' := fun k_ => True) ho1 (fun _ hk_ => trivial)) (below_size (bel HB)))
     have n3_ := Aside0.mk (blk_below (g := gb115) (o := .cells #[.int .i64 0, .int .i64 0, .slice none 0 0] 46 (0, 0)) blc hb)
     have n4_ := Aside0.mk (below_step (bel HB) hb)
     clear HO106
     clear BK115
     clear HB
     have HO106 := n0_
     have HO111 := n1_
     have HO114 := n2_
     have BK115 := n3_
     have HB := n4_
     clear n0_ n1_ n2_ n3_ n4_
     (try clear hb)
     (try clear hb2)
     (try clear hk)
     (try clear hi)
     (try clear ho0)
     (try clear ho1)
     refine hK.out _ _ trivial (fun hHeld => ?_)
     clear hK K
     refine norm_ (a' := ?_) ?_ ?_
     rotate_left
     ·show Act.put _ (some 17) _ = _
      simp only [Act.put, List.setIfInBounds_toArray, List.set_cons_zero, List.set_cons_succ, i64_w, i32_w]
      rfl
     refine pure_ (i := 5) (N := some 12) (v := ?_) (a' := ?_) #[true, true, true, true, true, true, false, false, true, false, false] rfl rfl (any_of HT_.out (by kernel_rfl)) (fun _ _ _ h => h) (Or.inl ⟨by rfl, ?_⟩) ?_ ?_
     rotate_left
     ·intro w'
      go_simp
      with_reducible rfl
     rotate_left
     ·simp only [Act.put, List.setIfInBounds_toArray, List.set_cons_zero, List.set_cons_succ, i64_w, i32_w]
      rfl
     refine pure_ (i := 6) (N := some 18) (v := ?_) (a' := ?_) #[true, true, true, true, true, true, true, false, true, false, false] rfl rfl (any_of HT_.out (by kernel_rfl)) (fun _ _ _ h => h) (Or.inl ⟨by rfl, ?_⟩) ?_ ?_
     rotate_left
     ·intro w'
      go_simp
      with_reducible rfl
     rotate_left
     ·simp only [Act.put, List.setIfInBounds_toArray, List.set_cons_zero, List.set_cons_succ, i64_w, i32_w]
      rfl
     refine pure_ (i := 7) (N := some 19) (v := ?_) (a' := ?_) #[true, true, true, true, true, true, true, true, true, false, false] rfl rfl (any_of HT_.out (by kernel_rfl)) (fun _ _ _ h => h) (Or.inl ⟨by rfl, ?_⟩) ?_ ?_
     rotate_left
     ·intro w'
      go_simp
      with_reducible rfl
     rotate_left
     ·simp only [Act.put, List.setIfInBounds_toArray, List.set_cons_zero, List.set_cons_succ, i64_w, i32_w]
      rfl
     exact norm_ (by simp only [putAll, Act.put, List.setIfInBounds_toArray, List.set_cons_zero, List.set_cons_succ]) (hCont (.slice Ao13 t104.length co13, v110, v113, gb115) _ ⟨(by (with_reducible repeat (first | apply Kd.V_alloc | apply Kd.V_drewN | apply Kd.V_drew)); exact Kd.V_mono HO106.out (fun _ hk => ⟨hk.2, hk.1⟩)), (by (with_reducible repeat (first | apply Kd.V_alloc | apply Kd.V_drewN | apply Kd.V_drew)); (first | exact HO111.out | exact R_any HO111.out)), (rch HO114), blc, GW115.out, GE115.out, (bel HB)⟩)
   rintro ⟨v105, v110, v113, gb115⟩ w15 ⟨h0_, h1_, h2_, h3_, h4_, h5_, h6_⟩
   have n0_ : Aside0 (Kd.V (Kd.int .u8) 5 w15 w.heap.size (fun k_ => some k_ ≠ (v113 : Value).ownBlock ∧ k_ ≠ gb115) v105 t104) := ⟨h0_⟩
   have n1_ : Aside0 (Kd.V (Kd.int .u8) 5 w15 w.heap.size (fun k_ => some k_ ≠ (v113 : Value).ownBlock ∧ k_ ≠ gb115) v110 t109) := ⟨h1_⟩
   have n2_ : Aside0 (Kd.R (Kd.int .i64) 3 w15 w.heap.size (fun _ => True) v113 t112) := ⟨h2_⟩
   have n3_ : Aside0 (w15.heap[gb115]? = some (.cells #[.int .i64 0, .int .i64 0, .slice none 0 0] 46 (0, 0))) := ⟨h3_⟩
   have n4_ : Aside0 (w.heap.size ≤ gb115) := ⟨h4_⟩
   have n5_ : Aside0 (w.heap.size ≤ gb115) := ⟨h5_⟩
   have n6_ : Aside0 (Below w.heap.size w w15) := ⟨h6_⟩
   clear HB
   clear h0_ h1_ h2_ h3_ h4_ h5_ h6_
   have HO106 := n0_
   have HO111 := n1_
   have HO114 := n2_
   have BK115 := n3_
   have GW115 := n4_
   have GE115 := n5_
   have HB := n6_
   clear n0_ n1_ n2_ n3_ n4_ n5_ n6_
   have hHeld := trivial
   obtain ⟨Ao18, co18, eo18⟩ := Kd.V_slice HO111.out
   (first | subst eo18 | (injection eo18 with f1_ f2_ f3_; have f4_ := f1_.symm; have f5_ := f3_.symm; clear f1_ f2_ f3_; subst f4_; subst f5_))
   refine norm_ (a' := ?_) ?_ ?_
   rotate_left
   ·simp only [putAll, Act.put, List.setIfInBounds_toArray, List.set_cons_zero, List.set_cons_succ]
    rfl
   refine one_ (i := 9) (N := none) #[true, true, true, true, true, true, true, true, true, true, false] rfl rfl (one_of HT_.out (by kernel_rfl)) (by decide) (fun K hK => ?_)
   have hs16 : w15.cell? ⟨gb115, 0, none⟩ = some (.int .i64 0) := (blk_cell BK115.out 0).trans rfl
   have hfs16 := blk_frozen BK115.out 0
   have hs17 : w15.cell? ⟨gb115, 1, none⟩ = some (.int .i64 0) := (blk_cell BK115.out 1).trans rfl
   have hfs17 := blk_frozen BK115.out 1
   have hs19 : w15.cell? ⟨gb115, 2, none⟩ = some (.slice none 0 0) := (blk_cell BK115.out 2).trans rfl
   have hfs19 := blk_frozen BK115.out 2
   refine skip_ (w1 := ?_) (by rfl) rfl ?_ ?_
   rotate_left
   ·go_simp
    rfl
   refine hK.out _ _ trivial (fun hHeld => ?_)
   clear hK K
   refine pure_ (i := 10) (N := some 7) (v := ?_) (a' := ?_) #[true, true, true, true, true, true, true, true, true, true, true] rfl rfl (any_of HT_.out (by kernel_rfl)) (fun _ _ _ h => h) (Or.inl ⟨by rfl, ?_⟩) ?_ ?_
   rotate_left
   ·intro w'
    go_simp
    with_reducible rfl
   rotate_left
   ·simp only [Act.put, List.setIfInBounds_toArray, List.set_cons_zero, List.set_cons_succ, i64_w, i32_w]
    rfl
   refine done_ (done_of HT_.out (by kernel_rfl)) ?_
   try go_wp2
   go_ret2
   exact ⟨_, by first | rfl | (simp [errW_none, errW_some] <;> rfl) | (simp [*, errW_none, errW_some] <;> rfl), by (with_reducible repeat (first | apply Kd.R_alloc | apply Kd.R_drewN | apply Kd.R_drew)); exact Kd.R_mono (Kd.R_far (p := ⟨gb115, 2, none⟩) (Kd.R_far (p := ⟨gb115, 1, none⟩) (Kd.R_far (p := ⟨gb115, 0, none⟩) (Kd.R_types HO114.out BK115.out (by decide)) (fun _ hk => hk.2) (.int .i64 t107)) (fun _ hk => hk.2) (.int .i64 t108)) (fun _ hk => hk.2) (.slice Ao18 t109.length co18)) (fun _ hk => trivial), bel HB⟩
  ·rw [if_neg c6] at H
   exact absurd H (by simp)
 ·replace c4 := Bool.eq_false_iff.mpr c4
  subst c4
  have H1 : (some (([] : List Int), false)) = some (r1, r2) := by rw [if_neg (show ¬ (false = true) by decide)] at H; exact H
  clear H
  have H := H1
  clear H1
  simp only [Option.some.injEq, Prod.mk.injEq] at H
  obtain ⟨rfl, rfl⟩ := H
  go_enter Tryd.func13, Tryd.ntmps13
  go_wp2_with (first | ((with_reducible refine gate_callee (f := 31) rfl ?_); refine gcall (some 10) Tryd.func31 #[.string a0, .string a1] rfl ?_; (with_reducible refine (impl_isTilted.calls k a0 a1 false _ ?side1 A3.out).mono ?_); (case side1 => (refine GoodW.below HG.out ?_); exact bel HB); rintro e w20 ⟨rfl, hb⟩; refine ⟨_, rfl, ?_⟩; have n0_ := Aside0.mk (below_step (bel HB) hb); clear HB; have HB := n0_; clear n0_; (try clear hb); (try clear hb2); (try clear hk); (try clear hi)))
  go_ret2
  exact ⟨_, by first | rfl | (simp [errW_none, errW_some] <;> rfl) | (simp [*, errW_none, errW_some] <;> rfl), by first | exact Kd.R_nil _ _ _ _ _ | exact Kd.N_nil _ _ _ _ _ | exact Kd.V_nil _ _ _ _ _ | exact Kd.Q_nil _ _ _ _ _ | exact Kd.S_nil _ _ _ _ _, bel HB⟩
mutual
def laws_FnExactStickMoves.j0 : Nat → ByteArray → ByteArray → List Int → Bool → List Int → Bool → Option (Bool)
 | 0, _, _, _, _, _, _ => none
 | k + 1, x0, x1, x5, x6, x7, x39 => if x39 = true then (some false) else ((laws_markIntS.f k x7 1).bind fun bt110 => ((laws_heldIntS.f k bt110.2 1).bind fun t112 => (if t112 < 0 then (some false) else (if t112 = bt110.1 then ((impl_StickMoves.f k x0 x1).bind fun bt113 => ((laws_eqIntS.f k bt113.1 x5).bind fun t117 => (if t117 = true then (laws_FnExactStickMoves.j1 k bt110.2 bt110.1 (bt113.2 != x6)) else (laws_FnExactStickMoves.j1 k bt110.2 bt110.1 true)))) else (some false)))))
def laws_FnExactStickMoves.j1 : Nat → List Int → Int → Bool → Option (Bool)
 | 0, _, _, _ => none
 | k + 1, x7, x9, x65 => if x65 = true then (some false) else ((laws_heldIntS.f k x7 1).bind fun t118 => (if t118 < 0 then (some false) else (if t118 = x9 then (some true) else (some false))))
end
def laws_FnExactStickMoves.f (k : Nat) (a0 : ByteArray) (a1 : ByteArray) : Option (Bool) := if (a0.size : Int) > 1048576 then (some true) else (if (a1.size : Int) > 1048576 then (some true) else ((spec_StickMoves.f k a0 a1).bind fun bt101 => ((impl_StickMoves.f k a0 a1).bind fun bt105 => ((laws_eqIntS.f k bt105.1 bt101.1).bind fun t109 => (if t109 = true then (laws_FnExactStickMoves.j0 k a0 a1 bt101.1 bt101.2 bt105.1 (bt105.2 != bt101.2)) else (laws_FnExactStickMoves.j0 k a0 a1 bt101.1 bt101.2 bt105.1 true))))))
set_option maxHeartbeats 8000000 in
set_option maxRecDepth 100000 in
theorem laws_FnExactStickMoves.calls (k : Nat) (a0 : ByteArray) (a1 : ByteArray) (r : Bool) (w : World) (hG : GoodW w) (h : laws_FnExactStickMoves.f k a0 a1 = some r) :
  Calls Tryd.prog 4 #[.string a0, .string a1] w fun e w' => e = .returned (.bool r) ∧ Below w.heap.size w w' := by
 have HG := Aside0.mk hG
 clear hG
 have HB := Aside0.mk (Below.refl w.heap.size w)
 have H : (if (a0.size : Int) > 1048576 then (some true) else (if (a1.size : Int) > 1048576 then (some true) else ((spec_StickMoves.f k a0 a1).bind fun bt101 => ((impl_StickMoves.f k a0 a1).bind fun bt105 => ((laws_eqIntS.f k bt105.1 bt101.1).bind fun t109 => (if t109 = true then (laws_FnExactStickMoves.j0 k a0 a1 bt101.1 bt101.2 bt105.1 (bt105.2 != bt101.2)) else (laws_FnExactStickMoves.j0 k a0 a1 bt101.1 bt101.2 bt105.1 true))))))) = some r := h
 clear h
 by_cases c3 : (a0.size : Int) > 1048576
 ·rw [if_pos c3] at H
  have c3b0 : decide (1048576 < (a0.size : Int)) = true := decide_eq_true c3
  have c3b1 : decide (1048576 < a0.size) = true := decide_eq_true (by omega)
  clear c3
  obtain rfl := Option.some.inj H
  go_enter Tryd.func4, Tryd.ntmps4
  go_wp2
  go_ret
  exact ⟨by first | rfl | (simp [errW_none, errW_some] <;> rfl) | (simp [*, errW_none, errW_some] <;> rfl), bel HB⟩
 ·rw [if_neg c3] at H
  have c3b0 : decide (1048576 < (a0.size : Int)) = false := decide_eq_false c3
  have c3b1 : decide (1048576 < a0.size) = false := decide_eq_false (by omega)
  clear c3
  by_cases c4 : (a1.size : Int) > 1048576
  ·rw [if_pos c4] at H
   have c4b0 : decide (1048576 < (a1.size : Int)) = true := decide_eq_true c4
   have c4b1 : decide (1048576 < a1.size) = true := decide_eq_true (by omega)
   clear c4
   obtain rfl := Option.some.inj H
   go_enter Tryd.func4, Tryd.ntmps4
   go_wp2
   go_ret
   exact ⟨by first | rfl | (simp [errW_none, errW_some] <;> rfl) | (simp [*, errW_none, errW_some] <;> rfl), bel HB⟩
  ·rw [if_neg c4] at H
   have c4b0 : decide (1048576 < (a1.size : Int)) = false := decide_eq_false c4
   have c4b1 : decide (1048576 < a1.size) = false := decide_eq_false (by omega)
   clear c4
   replace H := Option.bind_eq_some_iff.mp H
   obtain ⟨⟨t101, t102⟩, A50, H⟩ := H
   replace H : ((impl_StickMoves.f k a0 a1).bind fun bt105 => ((laws_eqIntS.f k bt105.1 t101).bind fun t109 => (if t109 = true then (laws_FnExactStickMoves.j0 k a0 a1 t101 t102 bt105.1 (bt105.2 != t102)) else (laws_FnExactStickMoves.j0 k a0 a1 t101 t102 bt105.1 true)))) = some r := H
   have A5 := Aside0.mk A50
   clear A50
   replace H := Option.bind_eq_some_iff.mp H
   obtain ⟨⟨t105, t106⟩, A60, H⟩ := H
   replace H : ((laws_eqIntS.f k t105 t101).bind fun t109 => (if t109 = true then (laws_FnExactStickMoves.j0 k a0 a1 t101 t102 t105 (t106 != t102)) else (laws_FnExactStickMoves.j0 k a0 a1 t101 t102 t105 true))) = some r := H
   have A6 := Aside0.mk A60
   clear A60
   have HC7 := Aside0.mk H
   clear H
   go_enter Tryd.func4, Tryd.ntmps4
   go_upto_region 7 with (first | ((with_reducible refine gate_callee (f := 12) rfl ?_); refine gcall (some 22) Tryd.func12 #[.string a0, .string a1] rfl ?_; (with_reducible refine (spec_StickMoves.calls k a0 a1 t101 t102 _ A5.out).mono ?_); rintro e w8 ⟨v103, rfl, ho0, hb⟩; refine ⟨_, rfl, ?_⟩; have n0_ := Aside0.mk (Kd.R_lower ho0 (below_size (bel HB))); have n1_ := Aside0.mk (below_step (bel HB) hb); clear HB; have HO104 := n0_; have HB := n1_; clear n0_ n1_; (try clear hb); (try clear hb2); (try clear hk); (try clear hi); (try clear ho0)) | ((with_reducible refine gate_callee (f := 13) rfl ?_); refine gcall (some 28) Tryd.func13 #[.string a0, .string a1] rfl ?_; (with_reducible refine (impl_StickMoves.calls k a0 a1 t105 t106 _ ?side1 A6.out).mono ?_); (case side1 => (refine GoodW.below HG.out ?_); exact bel HB); rintro e w9 ⟨v107, rfl, ho0, hb⟩; refine ⟨_, rfl, ?_⟩; have n0_ := Aside0.mk (Kd.R_elder' (rch HO104) (Kd.R_base ho0) hb); have n1_ := Aside0.mk (Kd.R_lower (Kd.R_new' ho0 (Kd.R_lt (rch HO104))) (below_size (bel HB))); have n2_ := Aside0.mk (below_step (bel HB) hb); clear HO104; clear HB; have HO104 := n0_; have HO108 := n1_; have HB := n2_; clear n0_ n1_ n2_; (try clear hb); (try clear hb2); (try clear hk); (try clear hi); (try clear ho0)))
   (try simp only [Act.put, List.setIfInBounds_toArray, List.set_cons_zero, List.set_cons_succ])
   go_cut [39] (fun v39 wc => ∃ (kq : Nat) (x39_6 : Bool), v39 = .bool x39_6 ∧ Aside0 (laws_FnExactStickMoves.j0 kq a0 a1 t101 t102 t105 x39_6 = some r) ∧ Aside0 (kq ≤ k) ∧ Aside0 (Kd.R (Kd.int .i64) 3 wc w.heap.size (fun k_ => some k_ ≠ (v107 : Value).ownBlock) v103 t101) ∧ Aside0 (Kd.R (Kd.int .i64) 3 wc w.heap.size (fun k_ => some k_ ≠ (v103 : Value).ownBlock) v107 t105) ∧ Aside0 (Below w.heap.size w wc))
   case first =>
    have H := HC7.out
    clear HC7
    replace H := Option.bind_eq_some_iff.mp H
    obtain ⟨t109, A100, H⟩ := H
    replace H : (if t109 = true then (laws_FnExactStickMoves.j0 k a0 a1 t101 t102 t105 (t106 != t102)) else (laws_FnExactStickMoves.j0 k a0 a1 t101 t102 t105 true)) = some r := H
    have A10 := Aside0.mk A100
    clear A100
    by_cases c11 : t109 = true
    ·subst c11
     have H1 : (laws_FnExactStickMoves.j0 k a0 a1 t101 t102 t105 (t106 != t102)) = some r := by rw [if_pos rfl] at H; exact H
     clear H
     have H := H1
     clear H1
     have H' := Aside0.mk H
     clear H
     obtain ⟨Ao12, co12, eo12⟩ := Kd.R_slice HO108.out
     subst eo12
     obtain ⟨Ao13, co13, eo13⟩ := Kd.R_slice HO104.out
     subst eo13
     go_wp2_with (first | ((with_reducible refine gate_callee (f := 14) rfl ?_); refine gcall (some 33) Tryd.func14 #[.slice Ao12 t105.length co12, .slice Ao13 t101.length co13] rfl ?_; (with_reducible refine (laws_eqIntS.calls k _ _ t105 _ _ t101 true _ ?side1 ?side2 ?side3 ?side4 A10.out).mono ?_); (case side1 => repeat (first | exact (Kd.R_reads' HO108.out).2.2 | (with_reducible refine Kd.C_alloc ?_ _) | (with_reducible refine Kd.C_drewN ?_ _) | (with_reducible refine Kd.C_drew ?_))); (case side2 => exact (Kd.R_reads' HO108.out).2.1); (case side3 => repeat (first | exact (Kd.R_reads' HO104.out).2.2 | (with_reducible refine Kd.C_alloc ?_ _) | (with_reducible refine Kd.C_drewN ?_ _) | (with_reducible refine Kd.C_drew ?_))); (case side4 => exact (Kd.R_reads' HO104.out).2.1); rintro e w' ⟨rfl, ⟨nd, rfl⟩⟩; refine ⟨_, rfl, ?_⟩))
     go_meet
     case rel => exact ⟨_, ((t106 != t102)), (by first | rfl | (simp; done) | (simp [*]; done)), H', ⟨by first | omega | exact Nat.le_refl _⟩, ⟨by (with_reducible repeat (first | apply Kd.R_alloc | apply Kd.R_drewN | apply Kd.R_drew)); (first | exact Kd.R_mono HO104.out (fun _ hk => hk.2) | exact HO104.out | exact R_any HO104.out)⟩, ⟨by (with_reducible repeat (first | apply Kd.R_alloc | apply Kd.R_drewN | apply Kd.R_drew)); (first | exact Kd.R_mono HO108.out (fun _ hk => hk.2) | exact HO108.out | exact R_any HO108.out)⟩, ⟨bel HB⟩⟩
    ·replace c11 := Bool.eq_false_iff.mpr c11
     subst c11
     have H1 : (laws_FnExactStickMoves.j0 k a0 a1 t101 t102 t105 true) = some r := by rw [if_neg (show ¬ (false = true) by decide)] at H; exact H
     clear H
     have H := H1
     clear H1
     have H' := Aside0.mk H
     clear H
     obtain ⟨Ao14, co14, eo14⟩ := Kd.R_slice HO108.out
     subst eo14
     obtain ⟨Ao15, co15, eo15⟩ := Kd.R_slice HO104.out
     subst eo15
     go_wp2_with (first | ((with_reducible refine gate_callee (f := 14) rfl ?_); refine gcall (some 33) Tryd.func14 #[.slice Ao14 t105.length co14, .slice Ao15 t101.length co15] rfl ?_; (with_reducible refine (laws_eqIntS.calls k _ _ t105 _ _ t101 false _ ?side1 ?side2 ?side3 ?side4 A10.out).mono ?_); (case side1 => repeat (first | exact (Kd.R_reads' HO108.out).2.2 | (with_reducible refine Kd.C_alloc ?_ _) | (with_reducible refine Kd.C_drewN ?_ _) | (with_reducible refine Kd.C_drew ?_))); (case side2 => exact (Kd.R_reads' HO108.out).2.1); (case side3 => repeat (first | exact (Kd.R_reads' HO104.out).2.2 | (with_reducible refine Kd.C_alloc ?_ _) | (with_reducible refine Kd.C_drewN ?_ _) | (with_reducible refine Kd.C_drew ?_))); (case side4 => exact (Kd.R_reads' HO104.out).2.1); rintro e w' ⟨rfl, ⟨nd, rfl⟩⟩; refine ⟨_, rfl, ?_⟩))
     go_meet
     case rel => exact ⟨_, (true), (by first | rfl | (simp; done) | (simp [*]; done)), H', ⟨by first | omega | exact Nat.le_refl _⟩, ⟨by (with_reducible repeat (first | apply Kd.R_alloc | apply Kd.R_drewN | apply Kd.R_drew)); (first | exact Kd.R_mono HO104.out (fun _ hk => hk.2) | exact HO104.out | exact R_any HO104.out)⟩, ⟨by (with_reducible repeat (first | apply Kd.R_alloc | apply Kd.R_drewN | apply Kd.R_drew)); (first | exact Kd.R_mono HO108.out (fun _ hk => hk.2) | exact HO108.out | exact R_any HO108.out)⟩, ⟨bel HB⟩⟩
   case rest =>
    clear HC7
    try clear c1
    try clear p2
    try clear c3
    try clear c3b0
    try clear c3b0y
    try clear c3b1
    try clear c4
    try clear c4b0
    try clear c4b0y
    try clear c4b1
    try clear c11
    try clear c12
    try clear c13
    try clear c14
    obtain ⟨kq, x39_6, rfl, HA, HJ6, HO_5, HO_7, HB⟩ := hcut
    cases kq with
    | zero => exact absurd HA.out (by simp [laws_FnExactStickMoves.j0])
    | succ kj6 =>
     have H := HA.out
     clear HA
     simp only [laws_FnExactStickMoves.j0] at H
     by_cases c16 : x39_6 = true
     ·subst c16
      have H1 : (some false) = some r := by rw [if_pos rfl] at H; exact H
      clear H
      have H := H1
      clear H1
      obtain rfl := Option.some.inj H
      go_wp2
      go_ret
      exact ⟨by first | rfl | (simp [errW_none, errW_some] <;> rfl) | (simp [*, errW_none, errW_some] <;> rfl), bel HB⟩
     ·replace c16 := Bool.eq_false_iff.mpr c16
      subst c16
      have H1 : ((laws_markIntS.f kj6 t105 1).bind fun bt110 => ((laws_heldIntS.f kj6 bt110.2 1).bind fun t112 => (if t112 < 0 then (some false) else (if t112 = bt110.1 then ((impl_StickMoves.f kj6 a0 a1).bind fun bt113 => ((laws_eqIntS.f kj6 bt113.1 t101).bind fun t117 => (if t117 = true then (laws_FnExactStickMoves.j1 kj6 bt110.2 bt110.1 (bt113.2 != t102)) else (laws_FnExactStickMoves.j1 kj6 bt110.2 bt110.1 true)))) else (some false))))) = some r := by rw [if_neg (show ¬ (false = true) by decide)] at H; exact H
      clear H
      have H := H1
      clear H1
      replace H := Option.bind_eq_some_iff.mp H
      obtain ⟨⟨t110, t111⟩, A170, H⟩ := H
      replace H : ((laws_heldIntS.f kj6 t111 1).bind fun t112 => (if t112 < 0 then (some false) else (if t112 = t110 then ((impl_StickMoves.f kj6 a0 a1).bind fun bt113 => ((laws_eqIntS.f kj6 bt113.1 t101).bind fun t117 => (if t117 = true then (laws_FnExactStickMoves.j1 kj6 t111 t110 (bt113.2 != t102)) else (laws_FnExactStickMoves.j1 kj6 t111 t110 true)))) else (some false)))) = some r := H
      have A17 := Aside0.mk A170
      clear A170
      replace H := Option.bind_eq_some_iff.mp H
      obtain ⟨t112, A180, H⟩ := H
      replace H : (if t112 < 0 then (some false) else (if t112 = t110 then ((impl_StickMoves.f kj6 a0 a1).bind fun bt113 => ((laws_eqIntS.f kj6 bt113.1 t101).bind fun t117 => (if t117 = true then (laws_FnExactStickMoves.j1 kj6 t111 t110 (bt113.2 != t102)) else (laws_FnExactStickMoves.j1 kj6 t111 t110 true)))) else (some false))) = some r := H
      have A18 := Aside0.mk A180
      clear A180
      by_cases c19 : t112 < 0
      ·rw [if_pos c19] at H
       have c19b0 : decide (t112 < 0) = true := decide_eq_true c19
       clear c19
       obtain rfl := Option.some.inj H
       obtain ⟨Ao20, co20, eo20⟩ := Kd.R_slice HO_7.out
       subst eo20
       go_wp2_with (first | ((with_reducible refine gate_callee (f := 15) rfl ?_); refine gcall (some 42) Tryd.func15 #[.slice Ao20 t105.length co20, .int .i64 1] rfl ?_; (with_reducible refine (laws_markIntS.calls kj6 (fun k_ => some k_ = (.slice Ao20 t105.length co20 : Value).ownBlock) (.slice Ao20 t105.length co20) t105 1 t110 t111 w _ ?side1 ?side2 A17.out).mono ?_); (case side1 => repeat (first | (with_reducible first | exact HB.out | apply below_alloc | apply pw_below_drewN | apply below_drew1) | exact HB.out)); (case side2 => exact Kd.R_tight rfl HO_7.out); rintro e w21 ⟨rfl, hy0, hb, hkp⟩; refine ⟨_, rfl, ?_⟩; have n0_ := Aside0.mk (Kd.R_mono (ok' := fun k_ => some k_ ≠ (.slice Ao20 t105.length co20 : Value).ownBlock) (Kd.R_keptB (HO_5.out) hkp (fun k_ hk_ hs_ => (hk_) hs_)) (fun k_ hk_ => hk_.1)); have n1_ := Aside0.mk (Kd.R_reok rfl hy0 (fun k_ e_ => HO_7.out.1 k_ e_)); have n2_ := Aside0.mk (hb); clear HO_5; clear HO_7; clear HB; have HO_5 := n0_; have HO_7 := n1_; have HB := n2_; clear n0_ n1_ n2_; (try clear hb); (try clear hkp); (try clear hy0)) | ((with_reducible refine gate_callee (f := 16) rfl ?_); refine goesL_ (some 45) rfl rfl Tryd.func16 (by kernel_rfl) rfl #[.slice Ao20 t111.length co20, .int .i64 1] rfl (by (try simp only [List.map_toArray, List.map_cons, List.map_nil]); first | done | (rw [show t111.length = t105.length from (Kd.R_reads' HO_7.out).1.symm] <;> rfl) | rfl | (simp only [List.length_drop, List.length_take]; rfl)) ?_; (with_reducible refine (laws_heldIntS.calls kj6 _ _ t111 1 t112 _ ?side1 ?side2 A18.out).mono ?_); (case side1 => repeat (first | exact (Kd.R_reads' HO_7.out).2.2 | (with_reducible refine Kd.C_alloc ?_ _) | (with_reducible refine Kd.C_drewN ?_ _) | (with_reducible refine Kd.C_drew ?_))); (case side2 => rw [show t111.length = t105.length from (Kd.R_reads' HO_7.out).1.symm]; exact (Kd.R_reads' HO_7.out).2.1); rintro e w' ⟨rfl, ⟨nd, rfl⟩⟩; refine ⟨_, rfl, ?_⟩))
       go_ret
       exact ⟨by first | rfl | (simp [errW_none, errW_some] <;> rfl) | (simp [*, errW_none, errW_some] <;> rfl), bel HB⟩
      ·rw [if_neg c19] at H
       have c19b0 : decide (t112 < 0) = false := decide_eq_false c19
       clear c19
       by_cases c22 : t112 = t110
       ·rw [if_pos c22] at H
        have c22b0 : (t112 == t110) = true := beq_iff_eq.mpr c22
        have c22b1 : (t112 != t110) = false := bne_eq_false_iff_eq.mpr c22
        clear c22
        replace H := Option.bind_eq_some_iff.mp H
        obtain ⟨⟨t113, t114⟩, A230, H⟩ := H
        replace H : ((laws_eqIntS.f kj6 t113 t101).bind fun t117 => (if t117 = true then (laws_FnExactStickMoves.j1 kj6 t111 t110 (t114 != t102)) else (laws_FnExactStickMoves.j1 kj6 t111 t110 true))) = some r := H
        have A23 := Aside0.mk A230
        clear A230
        have HC24 := Aside0.mk H
        clear H
        obtain ⟨Ao25, co25, eo25⟩ := Kd.R_slice HO_7.out
        subst eo25
        go_upto_region 18 with (first | ((with_reducible refine gate_callee (f := 15) rfl ?_); refine gcall (some 42) Tryd.func15 #[.slice Ao25 t105.length co25, .int .i64 1] rfl ?_; (with_reducible refine (laws_markIntS.calls kj6 (fun k_ => some k_ = (.slice Ao25 t105.length co25 : Value).ownBlock) (.slice Ao25 t105.length co25) t105 1 t110 t111 w _ ?side1 ?side2 A17.out).mono ?_); (case side1 => repeat (first | (with_reducible first | exact HB.out | apply below_alloc | apply pw_below_drewN | apply below_drew1) | exact HB.out)); (case side2 => exact Kd.R_tight rfl HO_7.out); rintro e w26 ⟨rfl, hy0, hb, hkp⟩; refine ⟨_, rfl, ?_⟩; have n0_ := Aside0.mk (Kd.R_mono (ok' := fun k_ => some k_ ≠ (.slice Ao25 t105.length co25 : Value).ownBlock) (Kd.R_keptB (HO_5.out) hkp (fun k_ hk_ hs_ => (hk_) hs_)) (fun k_ hk_ => hk_.1)); have n1_ := Aside0.mk (Kd.R_reok rfl hy0 (fun k_ e_ => HO_7.out.1 k_ e_)); have n2_ := Aside0.mk (hb); clear HO_5; clear HO_7; clear HB; have HO_5 := n0_; have HO_7 := n1_; have HB := n2_; clear n0_ n1_ n2_; (try clear hb); (try clear hkp); (try clear hy0)) | ((with_reducible refine gate_callee (f := 16) rfl ?_); refine goesL_ (some 45) rfl rfl Tryd.func16 (by kernel_rfl) rfl #[.slice Ao25 t111.length co25, .int .i64 1] rfl (by (try simp only [List.map_toArray, List.map_cons, List.map_nil]); first | done | (rw [show t111.length = t105.length from (Kd.R_reads' HO_7.out).1.symm] <;> rfl) | rfl | (simp only [List.length_drop, List.length_take]; rfl)) ?_; (with_reducible refine (laws_heldIntS.calls kj6 _ _ t111 1 t112 _ ?side1 ?side2 A18.out).mono ?_); (case side1 => repeat (first | exact (Kd.R_reads' HO_7.out).2.2 | (with_reducible refine Kd.C_alloc ?_ _) | (with_reducible refine Kd.C_drewN ?_ _) | (with_reducible refine Kd.C_drew ?_))); (case side2 => rw [show t111.length = t105.length from (Kd.R_reads' HO_7.out).1.symm]; exact (Kd.R_reads' HO_7.out).2.1); rintro e w' ⟨rfl, ⟨nd, rfl⟩⟩; refine ⟨_, rfl, ?_⟩) | ((with_reducible refine gate_callee (f := 13) rfl ?_); refine gcall (some 54) Tryd.func13 #[.string a0, .string a1] rfl ?_; (with_reducible refine (impl_StickMoves.calls kj6 a0 a1 t113 t114 _ ?side1 A23.out).mono ?_); (case side1 => (refine GoodW.below HG.out ?_); exact bel HB); rintro e w27 ⟨v115, rfl, ho0, hb⟩; refine ⟨_, rfl, ?_⟩; have n0_ := Aside0.mk (Kd.R_elder' (rch HO_5) (Kd.R_base ho0) hb); have n1_ := Aside0.mk (Kd.R_elder' (rch HO_7) (Kd.R_base ho0) hb); have n2_ := Aside0.mk (Kd.R_lower (Kd.R_new' (Kd.R_new' ho0 (Kd.R_lt (rch HO_5))) (Kd.R_lt (rch HO_7))) (below_size (bel HB))); have n3_ := Aside0.mk (below_step (bel HB) hb); clear HO_5; clear HO_7; clear HB; have HO_5 := n0_; have HO_7 := n1_; have HO116 := n2_; have HB := n3_; clear n0_ n1_ n2_ n3_; (try clear hb); (try clear hb2); (try clear hk); (try clear hi); (try clear ho0)))
        (try simp only [Act.put, List.setIfInBounds_toArray, List.set_cons_zero, List.set_cons_succ])
        go_cut [65] (fun v65 wc => ∃ (kq : Nat) (x65_23 : Bool), v65 = .bool x65_23 ∧ Aside0 (laws_FnExactStickMoves.j1 kq t111 t110 x65_23 = some r) ∧ Aside0 (kq ≤ kj6) ∧ Aside0 (Kd.R (Kd.int .i64) 3 wc w.heap.size (fun _ => True) (.slice Ao25 t105.length co25) t111) ∧ Aside0 (Below w.heap.size w wc))
        case first =>
         have H := HC24.out
         clear HC24
         replace H := Option.bind_eq_some_iff.mp H
         obtain ⟨t117, A280, H⟩ := H
         replace H : (if t117 = true then (laws_FnExactStickMoves.j1 kj6 t111 t110 (t114 != t102)) else (laws_FnExactStickMoves.j1 kj6 t111 t110 true)) = some r := H
         have A28 := Aside0.mk A280
         clear A280
         by_cases c29 : t117 = true
         ·subst c29
          have H1 : (laws_FnExactStickMoves.j1 kj6 t111 t110 (t114 != t102)) = some r := by rw [if_pos rfl] at H; exact H
          clear H
          have H := H1
          clear H1
          have H' := Aside0.mk H
          clear H
          obtain ⟨Ao30, co30, eo30⟩ := Kd.R_slice HO116.out
          subst eo30
          obtain ⟨Ao31, co31, eo31⟩ := Kd.R_slice HO_5.out
          subst eo31
          go_wp2_with (first | ((with_reducible refine gate_callee (f := 14) rfl ?_); refine gcall (some 59) Tryd.func14 #[.slice Ao30 t113.length co30, .slice Ao31 t101.length co31] rfl ?_; (with_reducible refine (laws_eqIntS.calls kj6 _ _ t113 _ _ t101 true _ ?side1 ?side2 ?side3 ?side4 A28.out).mono ?_); (case side1 => repeat (first | exact (Kd.R_reads' HO116.out).2.2 | (with_reducible refine Kd.C_alloc ?_ _) | (with_reducible refine Kd.C_drewN ?_ _) | (with_reducible refine Kd.C_drew ?_))); (case side2 => exact (Kd.R_reads' HO116.out).2.1); (case side3 => repeat (first | exact (Kd.R_reads' HO_5.out).2.2 | (with_reducible refine Kd.C_alloc ?_ _) | (with_reducible refine Kd.C_drewN ?_ _) | (with_reducible refine Kd.C_drew ?_))); (case side4 => exact (Kd.R_reads' HO_5.out).2.1); rintro e w' ⟨rfl, ⟨nd, rfl⟩⟩; refine ⟨_, rfl, ?_⟩))
          go_meet
          case rel => exact ⟨_, ((t114 != t102)), (by first | rfl | (simp; done) | (simp [*]; done)), H', ⟨by have := HJ6.out; first | omega | exact Nat.le_refl _⟩, ⟨by (with_reducible repeat (first | apply Kd.R_alloc | apply Kd.R_drewN | apply Kd.R_drew)); exact Kd.R_mono HO_7.out (fun _ hk => trivial)⟩, ⟨bel HB⟩⟩
         ·replace c29 := Bool.eq_false_iff.mpr c29
          subst c29
          have H1 : (laws_FnExactStickMoves.j1 kj6 t111 t110 true) = some r := by rw [if_neg (show ¬ (false = true) by decide)] at H; exact H
          clear H
          have H := H1
          clear H1
          have H' := Aside0.mk H
          clear H
          obtain ⟨Ao32, co32, eo32⟩ := Kd.R_slice HO116.out
          subst eo32
          obtain ⟨Ao33, co33, eo33⟩ := Kd.R_slice HO_5.out
          subst eo33
          go_wp2_with (first | ((with_reducible refine gate_callee (f := 14) rfl ?_); refine gcall (some 59) Tryd.func14 #[.slice Ao32 t113.length co32, .slice Ao33 t101.length co33] rfl ?_; (with_reducible refine (laws_eqIntS.calls kj6 _ _ t113 _ _ t101 false _ ?side1 ?side2 ?side3 ?side4 A28.out).mono ?_); (case side1 => repeat (first | exact (Kd.R_reads' HO116.out).2.2 | (with_reducible refine Kd.C_alloc ?_ _) | (with_reducible refine Kd.C_drewN ?_ _) | (with_reducible refine Kd.C_drew ?_))); (case side2 => exact (Kd.R_reads' HO116.out).2.1); (case side3 => repeat (first | exact (Kd.R_reads' HO_5.out).2.2 | (with_reducible refine Kd.C_alloc ?_ _) | (with_reducible refine Kd.C_drewN ?_ _) | (with_reducible refine Kd.C_drew ?_))); (case side4 => exact (Kd.R_reads' HO_5.out).2.1); rintro e w' ⟨rfl, ⟨nd, rfl⟩⟩; refine ⟨_, rfl, ?_⟩))
          go_meet
          case rel => exact ⟨_, (true), (by first | rfl | (simp; done) | (simp [*]; done)), H', ⟨by have := HJ6.out; first | omega | exact Nat.le_refl _⟩, ⟨by (with_reducible repeat (first | apply Kd.R_alloc | apply Kd.R_drewN | apply Kd.R_drew)); exact Kd.R_mono HO_7.out (fun _ hk => trivial)⟩, ⟨bel HB⟩⟩
        case rest =>
         clear HC24
         try clear c1
         try clear c2
         try clear p2
         try clear c3
         try clear c3b0
         try clear c3b0y
         try clear c3b1
         try clear c4
         try clear c4b0
         try clear c4b0y
         try clear c4b1
         try clear c11
         try clear c12
         try clear c13
         try clear c14
         try clear c15
         try clear c16
         try clear c19
         try clear c19b0
         try clear c19b0y
         try clear c22
         try clear c22b0
         try clear c22b0y
         try clear c22b1
         try clear c29
         try clear p2
         obtain ⟨kq, x65_23, rfl, HA, HJ23, HO_7, HB⟩ := hcut
         have hl7_23 := (Kd.R_reads' HO_7.out).1
         rw [hl7_23] at HO_7
         (try simp only [hl7_23])
         cases kq with
         | zero => exact absurd HA.out (by simp [laws_FnExactStickMoves.j1])
         | succ kj23 =>
          have H := HA.out
          clear HA
          simp only [laws_FnExactStickMoves.j1] at H
          by_cases c34 : x65_23 = true
          ·subst c34
           have H1 : (some false) = some r := by rw [if_pos rfl] at H; exact H
           clear H
           have H := H1
           clear H1
           obtain rfl := Option.some.inj H
           go_wp2
           go_ret
           exact ⟨by first | rfl | (simp [errW_none, errW_some] <;> rfl) | (simp [*, errW_none, errW_some] <;> rfl), bel HB⟩
          ·replace c34 := Bool.eq_false_iff.mpr c34
           subst c34
           have H1 : ((laws_heldIntS.f kj23 t111 1).bind fun t118 => (if t118 < 0 then (some false) else (if t118 = t110 then (some true) else (some false)))) = some r := by rw [if_neg (show ¬ (false = true) by decide)] at H; exact H
           clear H
           have H := H1
           clear H1
           replace H := Option.bind_eq_some_iff.mp H
           obtain ⟨t118, A350, H⟩ := H
           replace H : (if t118 < 0 then (some false) else (if t118 = t110 then (some true) else (some false))) = some r := H
           have A35 := Aside0.mk A350
           clear A350
           by_cases c36 : t118 < 0
           ·rw [if_pos c36] at H
            have c36b0 : decide (t118 < 0) = true := decide_eq_true c36
            clear c36
            obtain rfl := Option.some.inj H
            go_wp2_with (first | ((with_reducible refine gate_callee (f := 16) rfl ?_); refine gcall (some 68) Tryd.func16 #[.slice Ao25 t111.length co25, .int .i64 1] rfl ?_; (with_reducible refine (laws_heldIntS.calls kj23 _ _ t111 1 t118 _ ?side1 ?side2 A35.out).mono ?_); (case side1 => repeat (first | exact (Kd.R_reads' HO_7.out).2.2 | (with_reducible refine Kd.C_alloc ?_ _) | (with_reducible refine Kd.C_drewN ?_ _) | (with_reducible refine Kd.C_drew ?_))); (case side2 => exact (Kd.R_reads' HO_7.out).2.1); rintro e w' ⟨rfl, ⟨nd, rfl⟩⟩; refine ⟨_, rfl, ?_⟩))
            go_ret
            exact ⟨by first | rfl | (simp [errW_none, errW_some] <;> rfl) | (simp [*, errW_none, errW_some] <;> rfl), bel HB⟩
           ·rw [if_neg c36] at H
            have c36b0 : decide (t118 < 0) = false := decide_eq_false c36
            clear c36
            by_cases c37 : t118 = t110
            ·rw [if_pos c37] at H
             have c37b0 : (t118 == t110) = true := beq_iff_eq.mpr c37
             have c37b1 : (t118 != t110) = false := bne_eq_false_iff_eq.mpr c37
             clear c37
             obtain rfl := Option.some.inj H
             go_wp2_with (first | ((with_reducible refine gate_callee (f := 16) rfl ?_); refine gcall (some 68) Tryd.func16 #[.slice Ao25 t111.length co25, .int .i64 1] rfl ?_; (with_reducible refine (laws_heldIntS.calls kj23 _ _ t111 1 t118 _ ?side1 ?side2 A35.out).mono ?_); (case side1 => repeat (first | exact (Kd.R_reads' HO_7.out).2.2 | (with_reducible refine Kd.C_alloc ?_ _) | (with_reducible refine Kd.C_drewN ?_ _) | (with_reducible refine Kd.C_drew ?_))); (case side2 => exact (Kd.R_reads' HO_7.out).2.1); rintro e w' ⟨rfl, ⟨nd, rfl⟩⟩; refine ⟨_, rfl, ?_⟩))
             go_ret
             exact ⟨by first | rfl | (simp [errW_none, errW_some] <;> rfl) | (simp [*, errW_none, errW_some] <;> rfl), bel HB⟩
            ·rw [if_neg c37] at H
             have c37b0 : (t118 == t110) = false := beq_eq_false_iff_ne.mpr c37
             have c37b1 : (t118 != t110) = true := bne_iff_ne.mpr c37
             obtain rfl := Option.some.inj H
             go_wp2_with (first | ((with_reducible refine gate_callee (f := 16) rfl ?_); refine gcall (some 68) Tryd.func16 #[.slice Ao25 t111.length co25, .int .i64 1] rfl ?_; (with_reducible refine (laws_heldIntS.calls kj23 _ _ t111 1 t118 _ ?side1 ?side2 A35.out).mono ?_); (case side1 => repeat (first | exact (Kd.R_reads' HO_7.out).2.2 | (with_reducible refine Kd.C_alloc ?_ _) | (with_reducible refine Kd.C_drewN ?_ _) | (with_reducible refine Kd.C_drew ?_))); (case side2 => exact (Kd.R_reads' HO_7.out).2.1); rintro e w' ⟨rfl, ⟨nd, rfl⟩⟩; refine ⟨_, rfl, ?_⟩))
             go_ret
             exact ⟨by first | rfl | (simp [errW_none, errW_some] <;> rfl) | (simp [*, errW_none, errW_some] <;> rfl), bel HB⟩
       ·rw [if_neg c22] at H
        have c22b0 : (t112 == t110) = false := beq_eq_false_iff_ne.mpr c22
        have c22b1 : (t112 != t110) = true := bne_iff_ne.mpr c22
        obtain rfl := Option.some.inj H
        obtain ⟨Ao38, co38, eo38⟩ := Kd.R_slice HO_7.out
        subst eo38
        go_wp2_with (first | ((with_reducible refine gate_callee (f := 15) rfl ?_); refine gcall (some 42) Tryd.func15 #[.slice Ao38 t105.length co38, .int .i64 1] rfl ?_; (with_reducible refine (laws_markIntS.calls kj6 (fun k_ => some k_ = (.slice Ao38 t105.length co38 : Value).ownBlock) (.slice Ao38 t105.length co38) t105 1 t110 t111 w _ ?side1 ?side2 A17.out).mono ?_); (case side1 => repeat (first | (with_reducible first | exact HB.out | apply below_alloc | apply pw_below_drewN | apply below_drew1) | exact HB.out)); (case side2 => exact Kd.R_tight rfl HO_7.out); rintro e w39 ⟨rfl, hy0, hb, hkp⟩; refine ⟨_, rfl, ?_⟩; have n0_ := Aside0.mk (Kd.R_mono (ok' := fun k_ => some k_ ≠ (.slice Ao38 t105.length co38 : Value).ownBlock) (Kd.R_keptB (HO_5.out) hkp (fun k_ hk_ hs_ => (hk_) hs_)) (fun k_ hk_ => hk_.1)); have n1_ := Aside0.mk (Kd.R_reok rfl hy0 (fun k_ e_ => HO_7.out.1 k_ e_)); have n2_ := Aside0.mk (hb); clear HO_5; clear HO_7; clear HB; have HO_5 := n0_; have HO_7 := n1_; have HB := n2_; clear n0_ n1_ n2_; (try clear hb); (try clear hkp); (try clear hy0)) | ((with_reducible refine gate_callee (f := 16) rfl ?_); refine goesL_ (some 45) rfl rfl Tryd.func16 (by kernel_rfl) rfl #[.slice Ao38 t111.length co38, .int .i64 1] rfl (by (try simp only [List.map_toArray, List.map_cons, List.map_nil]); first | done | (rw [show t111.length = t105.length from (Kd.R_reads' HO_7.out).1.symm] <;> rfl) | rfl | (simp only [List.length_drop, List.length_take]; rfl)) ?_; (with_reducible refine (laws_heldIntS.calls kj6 _ _ t111 1 t112 _ ?side1 ?side2 A18.out).mono ?_); (case side1 => repeat (first | exact (Kd.R_reads' HO_7.out).2.2 | (with_reducible refine Kd.C_alloc ?_ _) | (with_reducible refine Kd.C_drewN ?_ _) | (with_reducible refine Kd.C_drew ?_))); (case side2 => rw [show t111.length = t105.length from (Kd.R_reads' HO_7.out).1.symm]; exact (Kd.R_reads' HO_7.out).2.1); rintro e w' ⟨rfl, ⟨nd, rfl⟩⟩; refine ⟨_, rfl, ?_⟩))
        go_ret
        exact ⟨by first | rfl | (simp [errW_none, errW_some] <;> rfl) | (simp [*, errW_none, errW_some] <;> rfl), bel HB⟩
end Go.Proofs.YtgipkpiddjjhcaaDoor.Q
end
section
namespace Go.Proofs.YtgipkpiddjjhcaaDoor.Q
set_option linter.unusedSectionVars false
open Go.RowKit Go.Proofs.YtgipkpiddjjhcaaDoorW.PrintWords Go.Proofs.YtgipkpiddjjhcaaDoorW.PrintLast Go.Proofs.YtgipkpiddjjhcaaDoorW.PrintMore
open Classical
noncomputable def StickMovesR (t s : ByteArray) : List Int × Bool := match trayOf t with
 | none => ([], false)
 | some (w, h, cs) => if 0 ≤ dirI s then ((skR w.toNat h.toNat cs (dirI s).toNat).2, true) else ([], false)
theorem StickMovesR_len (t s : ByteArray) : (StickMovesR t s).1.length ≤ 36 := by
 unfold StickMovesR
 rcases ht : trayOf t with _ | ⟨w, h, cs⟩
 ·simp
 ·obtain ⟨w, h, cs, e, hw1, hw, hh1, hh, hs, hn⟩ := tray_parts ht
  injection e with e1 e2
  injection e2 with e2 e3
  subst e1 e2 e3
  have hz : 0 < w * h := Nat.mul_pos hw1 hh1
  show (if 0 ≤ dirI s then _ else _ : List Int × Bool).1.length ≤ 36
  by_cases hd : 0 ≤ dirI s
  ·rw [if_pos hd]
   obtain ⟨d, hd4, e, _⟩ := dirI_nat hd
   rw [e]
   exact (skR_ok hw hh hs hz hn hd4).far
  ·rw [if_neg hd]
   simp
theorem specStickMoves_ev (t s : ByteArray) : Ev (fun k => spec_StickMoves.f k t s) (StickMovesR t s) := by
 refine Ev.bind (f := fun k (bt101 : Int × Int × List Int × Int × Bool) => (if bt101.2.2.2.2 = true then ((spec_skTilt.f k bt101.1 bt101.2.1 bt101.2.2.1 bt101.2.2.2.1).bind fun bt109 => (some (bt109.2.2.2, true))) else (some (([] : List Int), false)))) (tiRead_ev t s) ?_
 unfold StickMovesR
 rcases ht : trayOf t with _ | ⟨w, h, cs⟩
 ·exact Ev.congr (Ev.const rfl) fun k => if_neg Bool.false_ne_true
 ·obtain ⟨w, h, cs, e, hw1, hw, hh1, hh, hs, hn⟩ := tray_parts ht
  injection e with e1 e2
  injection e2 with e2 e3
  subst e1 e2 e3
  have hz : 0 < w * h := Nat.mul_pos hw1 hh1
  show Ev _ (if 0 ≤ dirI s then _ else _)
  by_cases hd : 0 ≤ dirI s
  ·obtain ⟨d, hd4, e, _⟩ := dirI_nat hd
   rw [if_pos hd, e]
   simp only [Int.toNat_natCast]
   refine Ev.congr (Ev.bind (f := fun _ (bt109 : Int × Int × List Int × List Int) => some (bt109.2.2.2, true)) (skR_ok hw hh hs hz hn hd4).spec (Ev.const rfl)) fun k => ?_
   exact if_pos (decide_eq_true (show (0 : Int) ≤ (d : Int) by omega))
  ·rw [if_neg hd]
   exact Ev.congr (Ev.const rfl) fun k => if_neg (by simpa using hd)
theorem implStickMoves_ev (t s : ByteArray) (ht0 : t.size ≤ 1048576) (_hs0 : s.size ≤ 1048576) : Ev (fun k => impl_StickMoves.f k t s) (StickMovesR t s) := by
 refine Ev.bind (f := fun k (t101 : Bool) => (if t101 = true then ((impl_read.f t).bind fun bt102 => (if 0 < (s.size : Int) then ((impl_tray_stuck.f k bt102.1 bt102.2.1 bt102.2.2 (bt s 0)).bind fun bt107 => (some (bt107.2.2.2, true))) else (none))) else (some (([] : List Int), false)))) (isTilted_ev t s ht0) ?_
 unfold StickMovesR
 rcases ht : trayOf t with _ | ⟨w, h, cs⟩
 ·exact Ev.congr (Ev.const rfl) fun k => if_neg (by simp)
 ·have hread := tray_read ht
  obtain ⟨w, h, cs, e, hw1, hw, hh1, hh, hs, hn⟩ := tray_parts ht
  injection e with e1 e2
  injection e2 with e2 e3
  subst e1 e2 e3
  have hz : 0 < w * h := Nat.mul_pos hw1 hh1
  show Ev _ (if 0 ≤ dirI s then _ else _)
  by_cases hd : 0 ≤ dirI s
  ·obtain ⟨d, hd4, e, rfl⟩ := dirI_nat hd
   rw [if_pos hd, e]
   simp only [Int.toNat_natCast]
   obtain ⟨b1, b2⟩ := bt_dir ⟨d, hd4⟩
   simp only at b1 b2
   refine Ev.congr (Ev.bind (f := fun _ (bt107 : Int × Int × List Int × List Int) => some (bt107.2.2.2, true)) (skR_ok hw hh hs hz hn hd4).impl (Ev.const rfl)) fun k => ?_
   rw [if_pos (show ((some ((w : Int), (h : Int), cs)).isSome && decide (0 ≤ (d : Int))) = true by rw [decide_eq_true (show (0 : Int) ≤ (d : Int) by omega)]; rfl), hread, Option.bind_some, if_pos b1, b2]
  ·rw [if_neg hd]
   exact Ev.congr (Ev.const rfl) fun k => if_neg (by simpa using hd)
theorem lawStickMoves_ev (t : ByteArray) (s : ByteArray) : Ev (fun k => laws_FnExactStickMoves.f k t s) true := by
 by_cases ht : t.size ≤ 1048576
 case neg =>
  refine Ev.congr (Ev.const (o := some true) rfl) fun k => ?_
  unfold laws_FnExactStickMoves.f
  exact if_pos (by omega)
 by_cases hs : s.size ≤ 1048576
 case neg =>
  refine Ev.congr (Ev.const (o := some true) rfl) fun k => ?_
  unfold laws_FnExactStickMoves.f
  rw [if_neg (by omega)]
  exact if_pos (by omega)
 have hsp := specStickMoves_ev t s
 have him := implStickMoves_ev t s ht hs
 have hl := StickMovesR_len t s
 obtain ⟨l, hl1, hl2, hmk⟩ := mark_ev (StickMovesR t s).1 1 (by omega) (by omega) (by omega)
 have hhd := held_ev l 1 (by omega) (by omega) (by omega) (by rw [hl1]; exact hl2)
 have heq := eqInts_ev (StickMovesR t s).1 (by omega)
 have e0 : (1 : Int) + l.length = 1 + (StickMovesR t s).1.length := by rw [hl1]
 rw [e0] at hhd
 have c1 : ¬ (1 : Int) + (StickMovesR t s).1.length < 0 := by omega
 have hj1 : Ev (fun k => laws_FnExactStickMoves.j1 k l (1 + (StickMovesR t s).1.length) false) true := by
  refine Ev.step (Ev.bind (f := fun _ t118 => (if t118 < 0 then (some false) else (if t118 = (1 : Int) + (StickMovesR t s).1.length then (some true) else (some false)))) hhd (Ev.const ?_)) fun k => ?_
  ·rw [if_neg c1, if_pos rfl]
  ·rw [laws_FnExactStickMoves.j1, if_neg (by decide)]
 have hj0 : Ev (fun k => laws_FnExactStickMoves.j0 k t s (StickMovesR t s).1 (StickMovesR t s).2 (StickMovesR t s).1 false) true := by
  refine Ev.step (Ev.bind (f := fun k bt110 => ((laws_heldIntS.f k bt110.2 1).bind fun t112 => (if t112 < 0 then (some false) else (if t112 = bt110.1 then ((impl_StickMoves.f k t s).bind fun bt113 => ((laws_eqIntS.f k bt113.1 (StickMovesR t s).1).bind fun t117 => (if t117 = true then (laws_FnExactStickMoves.j1 k bt110.2 bt110.1 (bt113.2 != (StickMovesR t s).2)) else (laws_FnExactStickMoves.j1 k bt110.2 bt110.1 true)))) else (some false))))) hmk ?_) fun k => ?_
  ·refine Ev.bind (f := fun k t112 => (if t112 < 0 then (some false) else (if t112 = (1 : Int) + (StickMovesR t s).1.length then ((impl_StickMoves.f k t s).bind fun bt113 => ((laws_eqIntS.f k bt113.1 (StickMovesR t s).1).bind fun t117 => (if t117 = true then (laws_FnExactStickMoves.j1 k l (1 + (StickMovesR t s).1.length) (bt113.2 != (StickMovesR t s).2)) else (laws_FnExactStickMoves.j1 k l (1 + (StickMovesR t s).1.length) true)))) else (some false)))) hhd ?_
   refine Ev.congr (Ev.bind (f := fun k bt113 => ((laws_eqIntS.f k bt113.1 (StickMovesR t s).1).bind fun t117 => (if t117 = true then (laws_FnExactStickMoves.j1 k l (1 + (StickMovesR t s).1.length) (bt113.2 != (StickMovesR t s).2)) else (laws_FnExactStickMoves.j1 k l (1 + (StickMovesR t s).1.length) true)))) him ?_) fun k => ?_
   ·refine Ev.bind (f := fun k t117 => (if t117 = true then (laws_FnExactStickMoves.j1 k l (1 + (StickMovesR t s).1.length) ((StickMovesR t s).2 != (StickMovesR t s).2)) else (laws_FnExactStickMoves.j1 k l (1 + (StickMovesR t s).1.length) true))) heq ?_
    refine Ev.congr hj1 fun k => ?_
    rw [if_pos rfl, bne_self_eq_false]
   ·rw [if_neg c1, if_pos rfl]
  ·rw [laws_FnExactStickMoves.j0, if_neg (by decide)]
 refine Ev.congr (Ev.bind (f := fun k (bt101 : List Int × Bool) => ((impl_StickMoves.f k t s).bind fun bt105 => ((laws_eqIntS.f k bt105.1 bt101.1).bind fun t109 => (if t109 = true then (laws_FnExactStickMoves.j0 k t s bt101.1 bt101.2 bt105.1 (bt105.2 != bt101.2)) else (laws_FnExactStickMoves.j0 k t s bt101.1 bt101.2 bt105.1 true))))) hsp ?_) fun k => by unfold laws_FnExactStickMoves.f; rw [if_neg (by omega), if_neg (by omega)]
 refine Ev.bind (f := fun k bt105 => ((laws_eqIntS.f k bt105.1 (StickMovesR t s).1).bind fun t109 => (if t109 = true then (laws_FnExactStickMoves.j0 k t s (StickMovesR t s).1 (StickMovesR t s).2 bt105.1 (bt105.2 != (StickMovesR t s).2)) else (laws_FnExactStickMoves.j0 k t s (StickMovesR t s).1 (StickMovesR t s).2 bt105.1 true)))) him ?_
 refine Ev.bind (f := fun k t109 => (if t109 = true then (laws_FnExactStickMoves.j0 k t s (StickMovesR t s).1 (StickMovesR t s).2 (StickMovesR t s).1 ((StickMovesR t s).2 != (StickMovesR t s).2)) else (laws_FnExactStickMoves.j0 k t s (StickMovesR t s).1 (StickMovesR t s).2 (StickMovesR t s).1 true))) heq ?_
 refine Ev.congr hj0 fun k => ?_
 rw [if_pos rfl, bne_self_eq_false]
end Go.Proofs.YtgipkpiddjjhcaaDoor.Q
end
