/- Texts of this claim, joined. -/
import Derived.Test.YtbplbbialcbceaaDoorJTakeCell01
import Derived.Test.YtbplbbialcbceaaDoorJTakeCell05
import Derived.Test.YtbplbbialcbceaaDoorJTakeCell06
import Derived.Test.YtbplbbialcbceaaDoorJTakeCell07
set_option linter.unusedVariables false
set_option linter.unusedSimpArgs false
set_option linter.unusedSectionVars false
section
namespace Go.Proofs.YtbplbbialcbceaaDoor.Q
open Go.RowKit Go.Proofs.YtbplbbialcbceaaDoorW.PrintWords Go.Proofs.YtbplbbialcbceaaDoorW.PrintLast Go.Proofs.YtbplbbialcbceaaDoorW.PrintMore
attribute [local go_sem] max2_int min2_int max_two min_two max_three min_three max_four min_four
set_option linter.unusedVariables false
set_option linter.unusedSimpArgs false
def spec_TakeCell.f (k : Nat) (a0 : ByteArray) (a1 : Int) : Option (ByteArray × Bool) := (spec_buCell.f k a0 a1).bind fun bt101 => (if bt101.2.2.2 = true then ((spec_buTake.f k bt101.1 bt101.2.1 bt101.2.2.1 a1).bind fun bt108 => (if bt108.2.2.2 = true then ((spec_tyText.f k bt108.1 bt108.2.1 bt108.2.2.1).bind fun t115 => (some (t115, true))) else (some ((⟨#[]⟩ : ByteArray), false)))) else (some ((⟨#[]⟩ : ByteArray), false)))
theorem spec_TakeCell.mono : ∀ a0 a1 k, LeO (spec_TakeCell.f k a0 a1) (spec_TakeCell.f (k + 1) a0 a1) := by
 intro a0 a1 k
 unfold spec_TakeCell.f
 repeat' first
   | (with_reducible exact spec_buCell.mono _ _ _)
   | (with_reducible exact spec_buTake.mono _ _ _ _ _)
   | (with_reducible exact spec_tyText.mono _ _ _ _)
   | (with_reducible exact LeO.refl _)
   | (with_reducible exact LeO.none _)
   | (with_reducible refine LeO.ite ?_ ?_)
   | (with_reducible refine LeO.bind ?_ (fun _ => ?_))
   | exact spec_buCell.mono _ _ _
   | exact spec_buTake.mono _ _ _ _ _
   | exact spec_tyText.mono _ _ _ _
   | exact LeO.none _
   | refine LeO.ite ?_ ?_
   | refine LeO.bind ?_ (fun _ => ?_)
set_option maxHeartbeats 8000000 in
set_option maxRecDepth 100000 in
theorem spec_TakeCell.calls (k : Nat) (a0 : ByteArray) (a1 : Int) (r1 : ByteArray) (r2 : Bool) (w : World) (h : spec_TakeCell.f k a0 a1 = some (r1, r2)) :
  Calls Tryd.prog 25 #[.string a0, .int .i64 a1] w fun e w' => e = .returned (.tuple #[.string r1, .bool r2]) ∧ Below w.heap.size w w' := by
 have hu39 := Tryd.underlying39
 have HB := Aside0.mk (Below.refl w.heap.size w)
 have H : ((spec_buCell.f k a0 a1).bind fun bt101 => (if bt101.2.2.2 = true then ((spec_buTake.f k bt101.1 bt101.2.1 bt101.2.2.1 a1).bind fun bt108 => (if bt108.2.2.2 = true then ((spec_tyText.f k bt108.1 bt108.2.1 bt108.2.2.1).bind fun t115 => (some (t115, true))) else (some ((⟨#[]⟩ : ByteArray), false)))) else (some ((⟨#[]⟩ : ByteArray), false)))) = some (r1, r2) := h
 clear h
 replace H := Option.bind_eq_some_iff.mp H
 obtain ⟨⟨t101, t102, t103, t106⟩, A30, H⟩ := H
 replace H : (if t106 = true then ((spec_buTake.f k t101 t102 t103 a1).bind fun bt108 => (if bt108.2.2.2 = true then ((spec_tyText.f k bt108.1 bt108.2.1 bt108.2.2.1).bind fun t115 => (some (t115, true))) else (some ((⟨#[]⟩ : ByteArray), false)))) else (some ((⟨#[]⟩ : ByteArray), false))) = some (r1, r2) := H
 have A3 := Aside0.mk A30
 clear A30
 by_cases c4 : t106 = true
 ·subst c4
  have H1 : ((spec_buTake.f k t101 t102 t103 a1).bind fun bt108 => (if bt108.2.2.2 = true then ((spec_tyText.f k bt108.1 bt108.2.1 bt108.2.2.1).bind fun t115 => (some (t115, true))) else (some ((⟨#[]⟩ : ByteArray), false)))) = some (r1, r2) := by rw [if_pos rfl] at H; exact H
  clear H
  have H := H1
  clear H1
  replace H := Option.bind_eq_some_iff.mp H
  obtain ⟨⟨t108, t109, t110, t113⟩, A50, H⟩ := H
  replace H : (if t113 = true then ((spec_tyText.f k t108 t109 t110).bind fun t115 => (some (t115, true))) else (some ((⟨#[]⟩ : ByteArray), false))) = some (r1, r2) := H
  have A5 := Aside0.mk A50
  clear A50
  by_cases c6 : t113 = true
  ·subst c6
   have H1 : ((spec_tyText.f k t108 t109 t110).bind fun t115 => (some (t115, true))) = some (r1, r2) := by rw [if_pos rfl] at H; exact H
   clear H
   have H := H1
   clear H1
   replace H := Option.bind_eq_some_iff.mp H
   obtain ⟨t115, A70, H⟩ := H
   replace H : (some (t115, true)) = some (r1, r2) := H
   have A7 := Aside0.mk A70
   clear A70
   simp only [Option.some.injEq, Prod.mk.injEq] at H
   obtain ⟨rfl, rfl⟩ := H
   go_enter Tryd.func25, Tryd.ntmps25
   go_wp2_with (first | ((with_reducible refine gate_callee (f := 37) rfl ?_); refine goesL_ (some 13) rfl rfl Tryd.func37 (by kernel_rfl) rfl #[.string a0, .int .i64 a1] rfl (by (try simp only [List.map_toArray, List.map_cons, List.map_nil]); first | done | rfl | (simp only [List.length_drop, List.length_take]; rfl)) ?_; (with_reducible refine (spec_buCell.calls k a0 a1 t101 t102 t103 true _ A3.out).mono ?_); rintro e w8 ⟨v104, rfl, ho0, hb⟩; refine ⟨_, rfl, ?_⟩; have n0_ := Aside0.mk (Kd.R_lower ho0 (below_size (bel HB))); have n1_ := Aside0.mk (below_step (bel HB) hb); clear HB; have HO105 := n0_; have HB := n1_; clear n0_ n1_; (try clear hb); (try clear hb2); (try clear hk); (try clear hi); (try clear ho0)) | ((with_reducible refine gate_dst (N := 6) rfl ?_); refine box_event ?hg (N := 6) ?hd (cs := #[.int .i64 0, .int .i64 0, .slice none 0 0]) (t := 39) ?hr ?_; (case hd => rfl); (case hg => rfl); (case hr => first | (go_simp; done) | (go_simp; rfl)); intro gb107 hg w9 hbox hb; have n0_ := Aside0.mk (Kd.R_below (rch HO105) hb); have n1_ := Aside0.mk (below_step (bel HB) hb); have n2_ := Aside0.mk (hbox); have n3_ := Aside0.mk ((by rw [hg]; exact (below_size (bel HB)) : w.heap.size ≤ gb107)); have n4_ := Aside0.mk ((by rw [hg]; exact (below_size (bel HB)) : w.heap.size ≤ gb107)); clear HO105; clear HB; have HO105 := n0_; have HB := n1_; have BK107 := n2_; have GW107 := n3_; have GE107 := n4_; clear n0_ n1_ n2_ n3_ n4_; clear hb hbox hg; have hcz10_0 : w9.cell? ⟨gb107, 0, none⟩ = some (.int .i64 0) := (blk_cell BK107.out 0).trans rfl; have hcz10_1 : w9.cell? ⟨gb107, 1, none⟩ = some (.int .i64 0) := (blk_cell BK107.out 1).trans rfl; have hcz10_2 : w9.cell? ⟨gb107, 2, none⟩ = some (.slice none 0 0) := (blk_cell BK107.out 2).trans rfl; have hfz10_0 := blk_frozen BK107.out 0; have hfz10_1 := blk_frozen BK107.out 1; have hfz10_2 := blk_frozen BK107.out 2; obtain ⟨Ao11, co11, eo11⟩ := Kd.R_slice HO105.out; subst eo11) | ((with_reducible refine gate_callee (f := 56) rfl ?_); refine goesL_ (some 21) rfl rfl Tryd.func56 (by kernel_rfl) rfl #[.agg #[.int .i64 t101, .int .i64 t102, .slice Ao11 t103.length co11], .int .i64 a1] rfl (by (try simp only [List.map_toArray, List.map_cons, List.map_nil]); first | done | rfl | (simp only [List.length_drop, List.length_take]; rfl)) ?_; (with_reducible refine (spec_buTake.calls k t101 t102 _ _ t103 a1 t108 t109 t110 true _ ?side1 ?side2 A5.out).mono ?_); (case side1 => refine (Kd.R_reads' (e := 5) (base := w.heap.size) (ok := fun k_ => True) (n := t103.length) (c := co11) ?_).2.2; exact (by (with_reducible repeat (first | apply Kd.R_alloc | apply Kd.R_drewN | apply Kd.R_drew)); exact (Kd.R_mono (Kd.R_far (p := ⟨gb107, 2, none⟩) (Kd.R_far (p := ⟨gb107, 1, none⟩) (Kd.R_far (p := ⟨gb107, 0, none⟩) (Kd.R_types HO105.out BK107.out (by decide)) (fun _ hk => hk.2) (.int .i64 t101)) (fun _ hk => hk.2) (.int .i64 t102)) (fun _ hk => hk.2) (.slice Ao11 t103.length co11)) (fun _ h_ => h_.1)))); (case side2 => exact (Kd.R_reads' HO105.out).2.1); rintro e w12 ⟨v111, rfl, ho0, hb⟩; refine ⟨_, rfl, ?_⟩; have n0_ := Aside0.mk (Kd.R_elder' (by (with_reducible repeat (first | apply Kd.R_alloc | apply Kd.R_drewN | apply Kd.R_drew)); exact (Kd.R_mono (Kd.R_far (p := ⟨gb107, 2, none⟩) (Kd.R_far (p := ⟨gb107, 1, none⟩) (Kd.R_far (p := ⟨gb107, 0, none⟩) (Kd.R_types HO105.out BK107.out (by decide)) (fun _ hk => hk.2) (.int .i64 t101)) (fun _ hk => hk.2) (.int .i64 t102)) (fun _ hk => hk.2) (.slice Ao11 t103.length co11)) (fun _ h_ => h_.1))) (Kd.R_base ho0) hb); have n1_ := Aside0.mk (Kd.R_lower (Kd.R_new' ho0 (Kd.R_lt (by (with_reducible repeat (first | apply Kd.R_alloc | apply Kd.R_drewN | apply Kd.R_drew)); exact (Kd.R_mono (Kd.R_far (p := ⟨gb107, 2, none⟩) (Kd.R_far (p := ⟨gb107, 1, none⟩) (Kd.R_far (p := ⟨gb107, 0, none⟩) (Kd.R_types HO105.out BK107.out (by decide)) (fun _ hk => hk.2) (.int .i64 t101)) (fun _ hk => hk.2) (.int .i64 t102)) (fun _ hk => hk.2) (.slice Ao11 t103.length co11)) (fun _ h_ => h_.1))))) (below_size (bel HB))); have n2_ := Aside0.mk (blk_below (g := gb107) (o := .cells #[.int .i64 t101, .int .i64 t102, .slice Ao11 t103.length co11] 39 (0, 0)) (by (with_reducible repeat (first | refine blk_drewN ?_ _ | refine blk_drew ?_ | refine blk_alloc ?_ _)); refine blk_put (cs := #[.int .i64 t101, .int .i64 t102, .slice none 0 0]) ?_ 2 _ rfl; (with_reducible repeat (first | refine blk_drewN ?_ _ | refine blk_drew ?_ | refine blk_alloc ?_ _)); refine blk_put (cs := #[.int .i64 t101, .int .i64 0, .slice none 0 0]) ?_ 1 _ rfl; (with_reducible repeat (first | refine blk_drewN ?_ _ | refine blk_drew ?_ | refine blk_alloc ?_ _)); refine blk_put (cs := #[.int .i64 0, .int .i64 0, .slice none 0 0]) ?_ 0 _ rfl; exact blc) hb); have n3_ := Aside0.mk (below_step (bel HB) hb); clear HO105; clear BK107; clear HB; have HO105 := n0_; have HO112 := n1_; have BK107 := n2_; have HB := n3_; clear n0_ n1_ n2_ n3_; (try clear hb); (try clear hb2); (try clear hk); (try clear hi); (try clear ho0)) | ((with_reducible refine gate_dst (N := 8) rfl ?_); refine box_event ?hg (N := 8) ?hd (cs := #[.int .i64 0, .int .i64 0, .slice none 0 0]) (t := 39) ?hr ?_; (case hd => rfl); (case hg => rfl); (case hr => first | (go_simp; done) | (go_simp; rfl)); intro gb114 hg w13 hbox hb; have n0_ := Aside0.mk (Kd.R_below (rch HO105) hb); have n1_ := Aside0.mk (Kd.R_below (rch HO112) hb); have n2_ := Aside0.mk (blk_below (g := gb107) (o := .cells #[.int .i64 t101, .int .i64 t102, .slice Ao11 t103.length co11] 39 (0, 0)) blc hb); have n3_ := Aside0.mk (below_step (bel HB) hb); have n4_ := Aside0.mk (hbox); have n5_ := Aside0.mk ((by rw [hg]; exact (below_size (bel HB)) : w.heap.size ≤ gb114)); have n6_ := Aside0.mk ((by rw [hg]; exact (below_size (bel HB)) : w.heap.size ≤ gb114)); have n7_ := Aside0.mk ((by rw [hg]; exact Nat.ne_of_lt (blk_lt (g := gb107) (o := .cells #[.int .i64 t101, .int .i64 t102, .slice Ao11 t103.length co11] 39 (0, 0)) blc) : gb107 ≠ gb114)); have n8_ := Aside0.mk ((by rw [hg]; exact Nat.ne_of_gt (blk_lt (g := gb107) (o := .cells #[.int .i64 t101, .int .i64 t102, .slice Ao11 t103.length co11] 39 (0, 0)) blc) : gb114 ≠ gb107)); clear HO105; clear HO112; clear BK107; clear HB; have HO105 := n0_; have HO112 := n1_; have BK107 := n2_; have HB := n3_; have BK114 := n4_; have GW114 := n5_; have GE114 := n6_; have NB107_114 := n7_; have NB114_107 := n8_; clear n0_ n1_ n2_ n3_ n4_ n5_ n6_ n7_ n8_; clear hb hbox hg; have hnb14 := NB114_107.out; have hnc14 := NB107_114.out; have hcz15_0 : w13.cell? ⟨gb114, 0, none⟩ = some (.int .i64 0) := (blk_cell BK114.out 0).trans rfl; have hcz15_1 : w13.cell? ⟨gb114, 1, none⟩ = some (.int .i64 0) := (blk_cell BK114.out 1).trans rfl; have hcz15_2 : w13.cell? ⟨gb114, 2, none⟩ = some (.slice none 0 0) := (blk_cell BK114.out 2).trans rfl; have hfz15_0 := blk_frozen BK114.out 0; have hfz15_1 := blk_frozen BK114.out 1; have hfz15_2 := blk_frozen BK114.out 2; obtain ⟨Ao16, co16, eo16⟩ := Kd.R_slice HO112.out; subst eo16) | ((with_reducible refine gate_callee (f := 33) rfl ?_); refine goesL_ (some 27) rfl rfl Tryd.func33 (by kernel_rfl) rfl #[.agg #[.int .i64 t108, .int .i64 t109, .slice Ao16 t110.length co16]] rfl (by (try simp only [List.map_toArray, List.map_cons, List.map_nil]); first | done | rfl | (simp only [List.length_drop, List.length_take]; rfl)) ?_; (with_reducible refine (spec_tyText.calls k t108 t109 _ _ t110 t115 _ ?side1 ?side2 A7.out).mono ?_); (case side1 => refine (Kd.R_reads' (e := 5) (base := w.heap.size) (ok := fun k_ => (True ∧ some k_ ≠ (.slice Ao11 t103.length co11 : Value).ownBlock)) (n := t110.length) (c := co16) ?_).2.2; exact (by (with_reducible repeat (first | apply Kd.R_alloc | apply Kd.R_drewN | apply Kd.R_drew)); exact (Kd.R_mono (Kd.R_far (p := ⟨gb114, 2, none⟩) (Kd.R_far (p := ⟨gb114, 1, none⟩) (Kd.R_far (p := ⟨gb114, 0, none⟩) (Kd.R_types HO112.out BK114.out (by decide)) (fun _ hk => hk.2) (.int .i64 t108)) (fun _ hk => hk.2) (.int .i64 t109)) (fun _ hk => hk.2) (.slice Ao16 t110.length co16)) (fun _ h_ => h_.1)))); (case side2 => exact (Kd.R_reads' HO112.out).2.1); rintro e w17 ⟨rfl, hb⟩; refine ⟨_, rfl, ?_⟩; have n0_ := Aside0.mk (Kd.R_below (by (with_reducible repeat (first | apply Kd.R_alloc | apply Kd.R_drewN | apply Kd.R_drew)); exact (Kd.R_mono (Kd.R_far (p := ⟨gb114, 2, none⟩) (Kd.R_far (p := ⟨gb114, 1, none⟩) (Kd.R_far (p := ⟨gb114, 0, none⟩) (Kd.R_types HO105.out BK114.out (by decide)) (fun _ hk => hk.2) (.int .i64 t108)) (fun _ hk => hk.2) (.int .i64 t109)) (fun _ hk => hk.2) (.slice Ao16 t110.length co16)) (fun _ h_ => h_.1))) hb); have n1_ := Aside0.mk (Kd.R_below (by (with_reducible repeat (first | apply Kd.R_alloc | apply Kd.R_drewN | apply Kd.R_drew)); exact (Kd.R_mono (Kd.R_far (p := ⟨gb114, 2, none⟩) (Kd.R_far (p := ⟨gb114, 1, none⟩) (Kd.R_far (p := ⟨gb114, 0, none⟩) (Kd.R_types HO112.out BK114.out (by decide)) (fun _ hk => hk.2) (.int .i64 t108)) (fun _ hk => hk.2) (.int .i64 t109)) (fun _ hk => hk.2) (.slice Ao16 t110.length co16)) (fun _ h_ => h_.1))) hb); have n2_ := Aside0.mk (blk_below (g := gb107) (o := .cells #[.int .i64 t101, .int .i64 t102, .slice Ao11 t103.length co11] 39 (0, 0)) (by (with_reducible repeat (first | refine blk_drewN ?_ _ | refine blk_drew ?_ | refine blk_alloc ?_ _)); refine blk_far ?_ NB107_114.out _; (with_reducible repeat (first | refine blk_drewN ?_ _ | refine blk_drew ?_ | refine blk_alloc ?_ _)); refine blk_far ?_ NB107_114.out _; (with_reducible repeat (first | refine blk_drewN ?_ _ | refine blk_drew ?_ | refine blk_alloc ?_ _)); refine blk_far ?_ NB107_114.out _; exact blc) hb); have n3_ := Aside0.mk (blk_below (g := gb114) (o := .cells #[.int .i64 t108, .int .i64 t109, .slice Ao16 t110.length co16] 39 (0, 0)) (by (with_reducible repeat (first | refine blk_drewN ?_ _ | refine blk_drew ?_ | refine blk_alloc ?_ _)); refine blk_put (cs := #[.int .i64 t108, .int .i64 t109, .slice none 0 0]) ?_ 2 _ rfl; (with_reducible repeat (first | refine blk_drewN ?_ _ | refine blk_drew ?_ | refine blk_alloc ?_ _)); refine blk_put (cs := #[.int .i64 t108, .int .i64 0, .slice none 0 0]) ?_ 1 _ rfl; (with_reducible repeat (first | refine blk_drewN ?_ _ | refine blk_drew ?_ | refine blk_alloc ?_ _)); refine blk_put (cs := #[.int .i64 0, .int .i64 0, .slice none 0 0]) ?_ 0 _ rfl; exact blc) hb); have n4_ := Aside0.mk (below_step (bel HB) hb); clear HO105; clear HO112; clear BK107; clear BK114; clear HB; have HO105 := n0_; have HO112 := n1_; have BK107 := n2_; have BK114 := n3_; have HB := n4_; clear n0_ n1_ n2_ n3_ n4_; (try clear hb); (try clear hb2); (try clear hk); (try clear hi)))
   go_ret2
   exact ⟨by first | rfl | (simp [errW_none, errW_some] <;> rfl) | (simp [*, errW_none, errW_some] <;> rfl), bel HB⟩
  ·replace c6 := Bool.eq_false_iff.mpr c6
   subst c6
   have H1 : (some ((⟨#[]⟩ : ByteArray), false)) = some (r1, r2) := by rw [if_neg (show ¬ (false = true) by decide)] at H; exact H
   clear H
   have H := H1
   clear H1
   simp only [Option.some.injEq, Prod.mk.injEq] at H
   obtain ⟨rfl, rfl⟩ := H
   go_enter Tryd.func25, Tryd.ntmps25
   go_wp2_with (first | ((with_reducible refine gate_callee (f := 37) rfl ?_); refine goesL_ (some 13) rfl rfl Tryd.func37 (by kernel_rfl) rfl #[.string a0, .int .i64 a1] rfl (by (try simp only [List.map_toArray, List.map_cons, List.map_nil]); first | done | rfl | (simp only [List.length_drop, List.length_take]; rfl)) ?_; (with_reducible refine (spec_buCell.calls k a0 a1 t101 t102 t103 true _ A3.out).mono ?_); rintro e w18 ⟨v104, rfl, ho0, hb⟩; refine ⟨_, rfl, ?_⟩; have n0_ := Aside0.mk (Kd.R_lower ho0 (below_size (bel HB))); have n1_ := Aside0.mk (below_step (bel HB) hb); clear HB; have HO105 := n0_; have HB := n1_; clear n0_ n1_; (try clear hb); (try clear hb2); (try clear hk); (try clear hi); (try clear ho0)) | ((with_reducible refine gate_dst (N := 6) rfl ?_); refine box_event ?hg (N := 6) ?hd (cs := #[.int .i64 0, .int .i64 0, .slice none 0 0]) (t := 39) ?hr ?_; (case hd => rfl); (case hg => rfl); (case hr => first | (go_simp; done) | (go_simp; rfl)); intro gb107 hg w19 hbox hb; have n0_ := Aside0.mk (Kd.R_below (rch HO105) hb); have n1_ := Aside0.mk (below_step (bel HB) hb); have n2_ := Aside0.mk (hbox); have n3_ := Aside0.mk ((by rw [hg]; exact (below_size (bel HB)) : w.heap.size ≤ gb107)); have n4_ := Aside0.mk ((by rw [hg]; exact (below_size (bel HB)) : w.heap.size ≤ gb107)); clear HO105; clear HB; have HO105 := n0_; have HB := n1_; have BK107 := n2_; have GW107 := n3_; have GE107 := n4_; clear n0_ n1_ n2_ n3_ n4_; clear hb hbox hg; have hcz20_0 : w19.cell? ⟨gb107, 0, none⟩ = some (.int .i64 0) := (blk_cell BK107.out 0).trans rfl; have hcz20_1 : w19.cell? ⟨gb107, 1, none⟩ = some (.int .i64 0) := (blk_cell BK107.out 1).trans rfl; have hcz20_2 : w19.cell? ⟨gb107, 2, none⟩ = some (.slice none 0 0) := (blk_cell BK107.out 2).trans rfl; have hfz20_0 := blk_frozen BK107.out 0; have hfz20_1 := blk_frozen BK107.out 1; have hfz20_2 := blk_frozen BK107.out 2; obtain ⟨Ao21, co21, eo21⟩ := Kd.R_slice HO105.out; subst eo21) | ((with_reducible refine gate_callee (f := 56) rfl ?_); refine goesL_ (some 21) rfl rfl Tryd.func56 (by kernel_rfl) rfl #[.agg #[.int .i64 t101, .int .i64 t102, .slice Ao21 t103.length co21], .int .i64 a1] rfl (by (try simp only [List.map_toArray, List.map_cons, List.map_nil]); first | done | rfl | (simp only [List.length_drop, List.length_take]; rfl)) ?_; (with_reducible refine (spec_buTake.calls k t101 t102 _ _ t103 a1 t108 t109 t110 false _ ?side1 ?side2 A5.out).mono ?_); (case side1 => refine (Kd.R_reads' (e := 5) (base := w.heap.size) (ok := fun k_ => True) (n := t103.length) (c := co21) ?_).2.2; exact (by (with_reducible repeat (first | apply Kd.R_alloc | apply Kd.R_drewN | apply Kd.R_drew)); exact (Kd.R_mono (Kd.R_far (p := ⟨gb107, 2, none⟩) (Kd.R_far (p := ⟨gb107, 1, none⟩) (Kd.R_far (p := ⟨gb107, 0, none⟩) (Kd.R_types HO105.out BK107.out (by decide)) (fun _ hk => hk.2) (.int .i64 t101)) (fun _ hk => hk.2) (.int .i64 t102)) (fun _ hk => hk.2) (.slice Ao21 t103.length co21)) (fun _ h_ => h_.1)))); (case side2 => exact (Kd.R_reads' HO105.out).2.1); rintro e w22 ⟨v111, rfl, ho0, hb⟩; refine ⟨_, rfl, ?_⟩; have n0_ := Aside0.mk (Kd.R_elder' (by (with_reducible repeat (first | apply Kd.R_alloc | apply Kd.R_drewN | apply Kd.R_drew)); exact (Kd.R_mono (Kd.R_far (p := ⟨gb107, 2, none⟩) (Kd.R_far (p := ⟨gb107, 1, none⟩) (Kd.R_far (p := ⟨gb107, 0, none⟩) (Kd.R_types HO105.out BK107.out (by decide)) (fun _ hk => hk.2) (.int .i64 t101)) (fun _ hk => hk.2) (.int .i64 t102)) (fun _ hk => hk.2) (.slice Ao21 t103.length co21)) (fun _ h_ => h_.1))) (Kd.R_base ho0) hb); have n1_ := Aside0.mk (Kd.R_lower (Kd.R_new' ho0 (Kd.R_lt (by (with_reducible repeat (first | apply Kd.R_alloc | apply Kd.R_drewN | apply Kd.R_drew)); exact (Kd.R_mono (Kd.R_far (p := ⟨gb107, 2, none⟩) (Kd.R_far (p := ⟨gb107, 1, none⟩) (Kd.R_far (p := ⟨gb107, 0, none⟩) (Kd.R_types HO105.out BK107.out (by decide)) (fun _ hk => hk.2) (.int .i64 t101)) (fun _ hk => hk.2) (.int .i64 t102)) (fun _ hk => hk.2) (.slice Ao21 t103.length co21)) (fun _ h_ => h_.1))))) (below_size (bel HB))); have n2_ := Aside0.mk (blk_below (g := gb107) (o := .cells #[.int .i64 t101, .int .i64 t102, .slice Ao21 t103.length co21] 39 (0, 0)) (by (with_reducible repeat (first | refine blk_drewN ?_ _ | refine blk_drew ?_ | refine blk_alloc ?_ _)); refine blk_put (cs := #[.int .i64 t101, .int .i64 t102, .slice none 0 0]) ?_ 2 _ rfl; (with_reducible repeat (first | refine blk_drewN ?_ _ | refine blk_drew ?_ | refine blk_alloc ?_ _)); refine blk_put (cs := #[.int .i64 t101, .int .i64 0, .slice none 0 0]) ?_ 1 _ rfl; (with_reducible repeat (first | refine blk_drewN ?_ _ | refine blk_drew ?_ | refine blk_alloc ?_ _)); refine blk_put (cs := #[.int .i64 0, .int .i64 0, .slice none 0 0]) ?_ 0 _ rfl; exact blc) hb); have n3_ := Aside0.mk (below_step (bel HB) hb); clear HO105; clear BK107; clear HB; have HO105 := n0_; have HO112 := n1_; have BK107 := n2_; have HB := n3_; clear n0_ n1_ n2_ n3_; (try clear hb); (try clear hb2); (try clear hk); (try clear hi); (try clear ho0)) | ((with_reducible refine gate_dst (N := 8) rfl ?_); refine box_event ?hg (N := 8) ?hd (cs := #[.int .i64 0, .int .i64 0, .slice none 0 0]) (t := 39) ?hr ?_; (case hd => rfl); (case hg => rfl); (case hr => first | (go_simp; done) | (go_simp; rfl)); intro gb114 hg w23 hbox hb; have n0_ := Aside0.mk (Kd.R_below (rch HO105) hb); have n1_ := Aside0.mk (Kd.R_below (rch HO112) hb); have n2_ := Aside0.mk (blk_below (g := gb107) (o := .cells #[.int .i64 t101, .int .i64 t102, .slice Ao21 t103.length co21] 39 (0, 0)) blc hb); have n3_ := Aside0.mk (below_step (bel HB) hb); have n4_ := Aside0.mk (hbox); have n5_ := Aside0.mk ((by rw [hg]; exact (below_size (bel HB)) : w.heap.size ≤ gb114)); have n6_ := Aside0.mk ((by rw [hg]; exact (below_size (bel HB)) : w.heap.size ≤ gb114)); have n7_ := Aside0.mk ((by rw [hg]; exact Nat.ne_of_lt (blk_lt (g := gb107) (o := .cells #[.int .i64 t101, .int .i64 t102, .slice Ao21 t103.length co21] 39 (0, 0)) blc) : gb107 ≠ gb114)); have n8_ := Aside0.mk ((by rw [hg]; exact Nat.ne_of_gt (blk_lt (g := gb107) (o := .cells #[.int .i64 t101, .int .i64 t102, .slice Ao21 t103.length co21] 39 (0, 0)) blc) : gb114 ≠ gb107)); clear HO105; clear HO112; clear BK107; clear HB; have HO105 := n0_; have HO112 := n1_; have BK107 := n2_; have HB := n3_; have BK114 := n4_; have GW114 := n5_; have GE114 := n6_; have NB107_114 := n7_; have NB114_107 := n8_; clear n0_ n1_ n2_ n3_ n4_ n5_ n6_ n7_ n8_; clear hb hbox hg; have hnb24 := NB114_107.out; have hnc24 := NB107_114.out; have hcz25_0 : w23.cell? ⟨gb114, 0, none⟩ = some (.int .i64 0) := (blk_cell BK114.out 0).trans rfl; have hcz25_1 : w23.cell? ⟨gb114, 1, none⟩ = some (.int .i64 0) := (blk_cell BK114.out 1).trans rfl; have hcz25_2 : w23.cell? ⟨gb114, 2, none⟩ = some (.slice none 0 0) := (blk_cell BK114.out 2).trans rfl; have hfz25_0 := blk_frozen BK114.out 0; have hfz25_1 := blk_frozen BK114.out 1; have hfz25_2 := blk_frozen BK114.out 2; obtain ⟨Ao26, co26, eo26⟩ := Kd.R_slice HO112.out; subst eo26))
   go_ret2
   exact ⟨by first | rfl | (simp [errW_none, errW_some] <;> rfl) | (simp [*, errW_none, errW_some] <;> rfl), bel HB⟩
 ·replace c4 := Bool.eq_false_iff.mpr c4
  subst c4
  have H1 : (some ((⟨#[]⟩ : ByteArray), false)) = some (r1, r2) := by rw [if_neg (show ¬ (false = true) by decide)] at H; exact H
  clear H
  have H := H1
  clear H1
  simp only [Option.some.injEq, Prod.mk.injEq] at H
  obtain ⟨rfl, rfl⟩ := H
  go_enter Tryd.func25, Tryd.ntmps25
  go_wp2_with (first | ((with_reducible refine gate_callee (f := 37) rfl ?_); refine goesL_ (some 13) rfl rfl Tryd.func37 (by kernel_rfl) rfl #[.string a0, .int .i64 a1] rfl (by (try simp only [List.map_toArray, List.map_cons, List.map_nil]); first | done | rfl | (simp only [List.length_drop, List.length_take]; rfl)) ?_; (with_reducible refine (spec_buCell.calls k a0 a1 t101 t102 t103 false _ A3.out).mono ?_); rintro e w27 ⟨v104, rfl, ho0, hb⟩; refine ⟨_, rfl, ?_⟩; have n0_ := Aside0.mk (Kd.R_lower ho0 (below_size (bel HB))); have n1_ := Aside0.mk (below_step (bel HB) hb); clear HB; have HO105 := n0_; have HB := n1_; clear n0_ n1_; (try clear hb); (try clear hb2); (try clear hk); (try clear hi); (try clear ho0)) | ((with_reducible refine gate_dst (N := 6) rfl ?_); refine box_event ?hg (N := 6) ?hd (cs := #[.int .i64 0, .int .i64 0, .slice none 0 0]) (t := 39) ?hr ?_; (case hd => rfl); (case hg => rfl); (case hr => first | (go_simp; done) | (go_simp; rfl)); intro gb107 hg w28 hbox hb; have n0_ := Aside0.mk (Kd.R_below (rch HO105) hb); have n1_ := Aside0.mk (below_step (bel HB) hb); have n2_ := Aside0.mk (hbox); have n3_ := Aside0.mk ((by rw [hg]; exact (below_size (bel HB)) : w.heap.size ≤ gb107)); have n4_ := Aside0.mk ((by rw [hg]; exact (below_size (bel HB)) : w.heap.size ≤ gb107)); clear HO105; clear HB; have HO105 := n0_; have HB := n1_; have BK107 := n2_; have GW107 := n3_; have GE107 := n4_; clear n0_ n1_ n2_ n3_ n4_; clear hb hbox hg; have hcz29_0 : w28.cell? ⟨gb107, 0, none⟩ = some (.int .i64 0) := (blk_cell BK107.out 0).trans rfl; have hcz29_1 : w28.cell? ⟨gb107, 1, none⟩ = some (.int .i64 0) := (blk_cell BK107.out 1).trans rfl; have hcz29_2 : w28.cell? ⟨gb107, 2, none⟩ = some (.slice none 0 0) := (blk_cell BK107.out 2).trans rfl; have hfz29_0 := blk_frozen BK107.out 0; have hfz29_1 := blk_frozen BK107.out 1; have hfz29_2 := blk_frozen BK107.out 2; obtain ⟨Ao30, co30, eo30⟩ := Kd.R_slice HO105.out; subst eo30))
  go_ret2
  exact ⟨by first | rfl | (simp [errW_none, errW_some] <;> rfl) | (simp [*, errW_none, errW_some] <;> rfl), bel HB⟩
def impl_TakeCell.j0 : Nat → ByteArray → Int → Bool → Option (ByteArray × Bool)
 | 0, _, _, _ => none
 | k + 1, x0, x1, x19 => if x19 = true then (some ((⟨#[]⟩ : ByteArray), false)) else ((impl_read.f x0).bind fun bt108 => ((impl_tray_with.f bt108.1 bt108.2.1 bt108.2.2 x1 46).bind fun bt113 => ((impl_tray_text.f bt113.1 bt113.2.1 bt113.2.2).bind fun t119 => ((impl_IsForm.f k t119).bind fun t120 => (if t120 = true then ((impl_tray_added.f k bt113.1 bt113.2.1 bt113.2.2 x1).bind fun t121 => (if t121.toList = ([] : List UInt8) then (some ((⟨#[]⟩ : ByteArray), false)) else ((impl_tray_text.f bt113.1 bt113.2.1 bt113.2.2).bind fun t122 => (some (t122, true))))) else (some ((⟨#[]⟩ : ByteArray), false)))))))
def impl_TakeCell.f (k : Nat) (a0 : ByteArray) (a1 : Int) : Option (ByteArray × Bool) := (impl_isFormCell.f k a0 a1).bind fun t101 => (if t101 = true then ((impl_read.f a0).bind fun bt102 => (if 0 ≤ a1 then (if a1 < (bt102.2.2.length : Int) then (impl_TakeCell.j0 k a0 a1 ((rd bt102.2.2 a1) != 111)) else (none)) else (none))) else (impl_TakeCell.j0 k a0 a1 true))
theorem impl_TakeCell.mono_l : ∀ k, (∀ y0 y1 y2, LeO (impl_TakeCell.j0 k y0 y1 y2) (impl_TakeCell.j0 (k + 1) y0 y1 y2))
 | 0 => fun _ _ _ r h => by simp [impl_TakeCell.j0] at h
 | k + 1 => by
  have ih0 := impl_TakeCell.mono_l k
  ·intro y0 y1 y2
   unfold impl_TakeCell.j0
   repeat' first
   | (with_reducible exact ih0 _ _ _)
   | (with_reducible exact impl_IsForm.mono _ _)
   | (with_reducible exact impl_isFormCell.mono _ _ _)
   | (with_reducible exact impl_tray_added.mono _ _ _ _ _)
   | (with_reducible exact LeO.refl _)
   | (with_reducible exact LeO.none _)
   | (with_reducible refine LeO.ite ?_ ?_)
   | (with_reducible refine LeO.bind ?_ (fun _ => ?_))
   | exact ih0 _ _ _
   | exact impl_IsForm.mono _ _
   | exact impl_isFormCell.mono _ _ _
   | exact impl_tray_added.mono _ _ _ _ _
   | exact LeO.none _
   | refine LeO.ite ?_ ?_
   | refine LeO.bind ?_ (fun _ => ?_)
theorem impl_TakeCell.mono : ∀ a0 a1 k, LeO (impl_TakeCell.f k a0 a1) (impl_TakeCell.f (k + 1) a0 a1) := by
 intro a0 a1 k
 have ih0 := impl_TakeCell.mono_l k
 unfold impl_TakeCell.f
 repeat' first
   | (with_reducible exact ih0 _ _ _)
   | (with_reducible exact impl_IsForm.mono _ _)
   | (with_reducible exact impl_isFormCell.mono _ _ _)
   | (with_reducible exact impl_tray_added.mono _ _ _ _ _)
   | (with_reducible exact LeO.refl _)
   | (with_reducible exact LeO.none _)
   | (with_reducible refine LeO.ite ?_ ?_)
   | (with_reducible refine LeO.bind ?_ (fun _ => ?_))
   | exact ih0 _ _ _
   | exact impl_IsForm.mono _ _
   | exact impl_isFormCell.mono _ _ _
   | exact impl_tray_added.mono _ _ _ _ _
   | exact LeO.none _
   | refine LeO.ite ?_ ?_
   | refine LeO.bind ?_ (fun _ => ?_)
set_option maxHeartbeats 8000000 in
set_option maxRecDepth 100000 in
theorem impl_TakeCell.calls (k : Nat) (a0 : ByteArray) (a1 : Int) (r1 : ByteArray) (r2 : Bool) (w : World) (hG : GoodW w) (h : impl_TakeCell.f k a0 a1 = some (r1, r2)) :
  Calls Tryd.prog 26 #[.string a0, .int .i64 a1] w fun e w' => e = .returned (.tuple #[.string r1, .bool r2]) ∧ Below w.heap.size w w' := by
 have hu45 := Tryd.underlying45
 have hfd45_2 : ∀ (a0 : Int) (a1 : Int) (A2 : Option Addr) (n2 c2 : Nat) (W : World), (Instr.field 45 (.agg #[.int .i64 a0, .int .i64 a1, .slice A2 n2 c2]) 2).run Tryd.prog W = .ok (.slice A2 n2 c2) W := fun _ _ _ _ _ _ => by kernel_rfl
 have HG := Aside0.mk hG
 clear hG
 have HB := Aside0.mk (Below.refl w.heap.size w)
 have H : ((impl_isFormCell.f k a0 a1).bind fun t101 => (if t101 = true then ((impl_read.f a0).bind fun bt102 => (if 0 ≤ a1 then (if a1 < (bt102.2.2.length : Int) then (impl_TakeCell.j0 k a0 a1 ((rd bt102.2.2 a1) != 111)) else (none)) else (none))) else (impl_TakeCell.j0 k a0 a1 true))) = some (r1, r2) := h
 clear h
 have HC3 := Aside0.mk H
 clear H
 go_enter Tryd.func26, Tryd.ntmps26
 go_upto_region 1 with (fail)
 go_cut [19] (fun v19 wc => ∃ (kq : Nat) (x19_2 : Bool), v19 = .bool x19_2 ∧ Aside0 (impl_TakeCell.j0 kq a0 a1 x19_2 = some (r1, r2)) ∧ Aside0 (kq ≤ k) ∧ Aside0 (Below w.heap.size w wc))
 case first =>
  have H := HC3.out
  clear HC3
  replace H := Option.bind_eq_some_iff.mp H
  obtain ⟨t101, A40, H⟩ := H
  replace H : (if t101 = true then ((impl_read.f a0).bind fun bt102 => (if 0 ≤ a1 then (if a1 < (bt102.2.2.length : Int) then (impl_TakeCell.j0 k a0 a1 ((rd bt102.2.2 a1) != 111)) else (none)) else (none))) else (impl_TakeCell.j0 k a0 a1 true)) = some (r1, r2) := H
  have A4 := Aside0.mk A40
  clear A40
  by_cases c5 : t101 = true
  ·subst c5
   have H1 : ((impl_read.f a0).bind fun bt102 => (if 0 ≤ a1 then (if a1 < (bt102.2.2.length : Int) then (impl_TakeCell.j0 k a0 a1 ((rd bt102.2.2 a1) != 111)) else (none)) else (none))) = some (r1, r2) := by rw [if_pos rfl] at H; exact H
   clear H
   have H := H1
   clear H1
   replace H := Option.bind_eq_some_iff.mp H
   obtain ⟨⟨t102, t103, t104⟩, A60, H⟩ := H
   replace H : (if 0 ≤ a1 then (if a1 < (t104.length : Int) then (impl_TakeCell.j0 k a0 a1 ((rd t104 a1) != 111)) else (none)) else (none)) = some (r1, r2) := H
   have A6 := Aside0.mk A60
   clear A60
   by_cases c7 : 0 ≤ a1
   ·rw [if_pos c7] at H
    have c7b0 : decide (0 ≤ a1) = true := decide_eq_true c7
    clear c7
    (first | rw [c7b0] | (simp only [i64_w, i32_w]; rw [c7b0]) | skip)
    by_cases c8 : a1 < (t104.length : Int)
    ·rw [if_pos c8] at H
     have c8b0 : decide (a1 < (t104.length : Int)) = true := decide_eq_true c8
     clear c8
     have H' := Aside0.mk H
     clear H
     go_wp2_with (first | ((with_reducible refine gate_callee (f := 40) rfl ?_); refine goesL_ (some 9) rfl rfl Tryd.func40 (by kernel_rfl) rfl #[.string a0, .int .i64 a1] rfl (by (try simp only [List.map_toArray, List.map_cons, List.map_nil]); first | done | rfl | (simp only [List.length_drop, List.length_take]; rfl)) ?_; (with_reducible refine (impl_isFormCell.calls k a0 a1 true _ ?side1 A4.out).mono ?_); (case side1 => (refine GoodW.below HG.out ?_); exact bel HB); rintro e w9 ⟨rfl, hb⟩; refine ⟨_, rfl, ?_⟩; have n0_ := Aside0.mk (below_step (bel HB) hb); clear HB; have HB := n0_; clear n0_; (try clear hb); (try clear hb2); (try clear hk); (try clear hi)) | (go_at_call 29; (with_reducible refine (impl_read.calls a0 t102 t103 t104 _ ?side1 A6.out).mono ?_); (case side1 => (refine GoodW.below HG.out ?_); exact bel HB); rintro e w10 ⟨v105, rfl, ho0, hb⟩; have n0_ := Aside0.mk (Kd.V_lower (Kd.V_mono (ok' := fun k_ => True) ho0 (fun k_ hk_ => trivial)) (below_size (bel HB))); have n1_ := Aside0.mk (below_step (bel HB) hb); clear HB; have HO106 := n0_; have HB := n1_; clear n0_ n1_; (try clear hb); (try clear hb2); (try clear hk); (try clear hi); (try clear ho0); obtain ⟨Ao11, co11, eo11⟩ := Kd.V_slice HO106.out; subst eo11; have p107 : 0 ≤ (a1 : Int) := of_decide_eq_true (by first | (with_reducible assumption) | assumption); have q107 : a1 < (t104.length : Int) := of_decide_eq_true (by first | (with_reducible assumption) | assumption); obtain ⟨ad107, e107, hx107_0⟩ := Kd.at_int (Kd.V_reads' HO106.out).2.2 a1 p107 q107; cases e107; replace p107 := eq_true p107; replace q107 := eq_true q107))
     go_meet
     case rel => exact ⟨_, (((rd t104 a1) != 111)), (by first | rfl | (simp; done) | (simp [*]; done) | (simp [nil_bool]; done)), H', ⟨by first | omega | exact Nat.le_refl _⟩, ⟨bel HB⟩⟩
    ·rw [if_neg c8] at H
     exact absurd H (by simp)
   ·rw [if_neg c7] at H
    exact absurd H (by simp)
  ·replace c5 := Bool.eq_false_iff.mpr c5
   subst c5
   have H1 : (impl_TakeCell.j0 k a0 a1 true) = some (r1, r2) := by rw [if_neg (show ¬ (false = true) by decide)] at H; exact H
   clear H
   have H := H1
   clear H1
   have H' := Aside0.mk H
   clear H
   go_wp2_with (first | ((with_reducible refine gate_callee (f := 40) rfl ?_); refine goesL_ (some 9) rfl rfl Tryd.func40 (by kernel_rfl) rfl #[.string a0, .int .i64 a1] rfl (by (try simp only [List.map_toArray, List.map_cons, List.map_nil]); first | done | rfl | (simp only [List.length_drop, List.length_take]; rfl)) ?_; (with_reducible refine (impl_isFormCell.calls k a0 a1 false _ ?side1 A4.out).mono ?_); (case side1 => (refine GoodW.below HG.out ?_); exact bel HB); rintro e w12 ⟨rfl, hb⟩; refine ⟨_, rfl, ?_⟩; have n0_ := Aside0.mk (below_step (bel HB) hb); clear HB; have HB := n0_; clear n0_; (try clear hb); (try clear hb2); (try clear hk); (try clear hi)))
   go_meet
   case rel => exact ⟨_, (true), (by first | rfl | (simp; done) | (simp [*]; done) | (simp [nil_bool]; done)), H', ⟨by first | omega | exact Nat.le_refl _⟩, ⟨bel HB⟩⟩
 case rest =>
  clear HC3
  try clear p1
  try clear q1
  try clear hx1
  try clear c2
  try clear p2
  try clear c4
  try clear c5
  try clear c7
  try clear c7b0
  try clear c7b0y
  try clear c8
  try clear c8b0
  try clear c8b0y
  try clear p10
  try clear q10
  try clear hx10
  try clear hx107_0
  try clear p107
  try clear q107
  obtain ⟨kq, x19_2, rfl, HA, HJ2, HB⟩ := hcut
  cases kq with
  | zero => exact absurd HA.out (by simp [impl_TakeCell.j0])
  | succ kj2 =>
   have H := HA.out
   clear HA
   simp only [impl_TakeCell.j0] at H
   by_cases c13 : x19_2 = true
   ·subst c13
    have H1 : (some ((⟨#[]⟩ : ByteArray), false)) = some (r1, r2) := by rw [if_pos rfl] at H; exact H
    clear H
    have H := H1
    clear H1
    simp only [Option.some.injEq, Prod.mk.injEq] at H
    obtain ⟨rfl, rfl⟩ := H
    go_wp2
    go_ret2
    exact ⟨by first | rfl | (simp [errW_none, errW_some] <;> rfl) | (simp [*, errW_none, errW_some] <;> rfl), bel HB⟩
   ·replace c13 := Bool.eq_false_iff.mpr c13
    subst c13
    have H1 : ((impl_read.f a0).bind fun bt108 => ((impl_tray_with.f bt108.1 bt108.2.1 bt108.2.2 a1 46).bind fun bt113 => ((impl_tray_text.f bt113.1 bt113.2.1 bt113.2.2).bind fun t119 => ((impl_IsForm.f kj2 t119).bind fun t120 => (if t120 = true then ((impl_tray_added.f kj2 bt113.1 bt113.2.1 bt113.2.2 a1).bind fun t121 => (if t121.toList = ([] : List UInt8) then (some ((⟨#[]⟩ : ByteArray), false)) else ((impl_tray_text.f bt113.1 bt113.2.1 bt113.2.2).bind fun t122 => (some (t122, true))))) else (some ((⟨#[]⟩ : ByteArray), false))))))) = some (r1, r2) := by rw [if_neg (show ¬ (false = true) by decide)] at H; exact H
    clear H
    have H := H1
    clear H1
    replace H := Option.bind_eq_some_iff.mp H
    obtain ⟨⟨t108, t109, t110⟩, A140, H⟩ := H
    replace H : ((impl_tray_with.f t108 t109 t110 a1 46).bind fun bt113 => ((impl_tray_text.f bt113.1 bt113.2.1 bt113.2.2).bind fun t119 => ((impl_IsForm.f kj2 t119).bind fun t120 => (if t120 = true then ((impl_tray_added.f kj2 bt113.1 bt113.2.1 bt113.2.2 a1).bind fun t121 => (if t121.toList = ([] : List UInt8) then (some ((⟨#[]⟩ : ByteArray), false)) else ((impl_tray_text.f bt113.1 bt113.2.1 bt113.2.2).bind fun t122 => (some (t122, true))))) else (some ((⟨#[]⟩ : ByteArray), false)))))) = some (r1, r2) := H
    have A14 := Aside0.mk A140
    clear A140
    replace H := Option.bind_eq_some_iff.mp H
    obtain ⟨⟨t113, t114, t115⟩, A150, H⟩ := H
    replace H : ((impl_tray_text.f t113 t114 t115).bind fun t119 => ((impl_IsForm.f kj2 t119).bind fun t120 => (if t120 = true then ((impl_tray_added.f kj2 t113 t114 t115 a1).bind fun t121 => (if t121.toList = ([] : List UInt8) then (some ((⟨#[]⟩ : ByteArray), false)) else ((impl_tray_text.f t113 t114 t115).bind fun t122 => (some (t122, true))))) else (some ((⟨#[]⟩ : ByteArray), false))))) = some (r1, r2) := H
    have A15 := Aside0.mk A150
    clear A150
    replace H := Option.bind_eq_some_iff.mp H
    obtain ⟨t119, A160, H⟩ := H
    replace H : ((impl_IsForm.f kj2 t119).bind fun t120 => (if t120 = true then ((impl_tray_added.f kj2 t113 t114 t115 a1).bind fun t121 => (if t121.toList = ([] : List UInt8) then (some ((⟨#[]⟩ : ByteArray), false)) else ((impl_tray_text.f t113 t114 t115).bind fun t122 => (some (t122, true))))) else (some ((⟨#[]⟩ : ByteArray), false)))) = some (r1, r2) := H
    have A16 := Aside0.mk A160
    clear A160
    replace H := Option.bind_eq_some_iff.mp H
    obtain ⟨t120, A170, H⟩ := H
    replace H : (if t120 = true then ((impl_tray_added.f kj2 t113 t114 t115 a1).bind fun t121 => (if t121.toList = ([] : List UInt8) then (some ((⟨#[]⟩ : ByteArray), false)) else ((impl_tray_text.f t113 t114 t115).bind fun t122 => (some (t122, true))))) else (some ((⟨#[]⟩ : ByteArray), false))) = some (r1, r2) := H
    have A17 := Aside0.mk A170
    clear A170
    by_cases c18 : t120 = true
    ·subst c18
     have H1 : ((impl_tray_added.f kj2 t113 t114 t115 a1).bind fun t121 => (if t121.toList = ([] : List UInt8) then (some ((⟨#[]⟩ : ByteArray), false)) else ((impl_tray_text.f t113 t114 t115).bind fun t122 => (some (t122, true))))) = some (r1, r2) := by rw [if_pos rfl] at H; exact H
     clear H
     have H := H1
     clear H1
     replace H := Option.bind_eq_some_iff.mp H
     obtain ⟨t121, A190, H⟩ := H
     replace H : (if t121.toList = ([] : List UInt8) then (some ((⟨#[]⟩ : ByteArray), false)) else ((impl_tray_text.f t113 t114 t115).bind fun t122 => (some (t122, true)))) = some (r1, r2) := H
     have A19 := Aside0.mk A190
     clear A190
     by_cases c20 : t121.toList = ([] : List UInt8)
     ·rw [if_pos c20] at H
      have c20b0 : (t121.toList == ([] : List UInt8)) = true := beq_iff_eq.mpr c20
      have c20b1 : (t121.toList != ([] : List UInt8)) = false := bne_eq_false_iff_eq.mpr c20
      clear c20
      simp only [Option.some.injEq, Prod.mk.injEq] at H
      obtain ⟨rfl, rfl⟩ := H
      go_wp2_with (first | ((with_reducible refine gate_callee (f := 29) rfl ?_); refine goesL_ (some 21) rfl rfl Tryd.func29 (by kernel_rfl) rfl #[.string a0] rfl (by (try simp only [List.map_toArray, List.map_cons, List.map_nil]); first | done | rfl | (simp only [List.length_drop, List.length_take]; rfl)) ?_; (with_reducible refine (impl_read.calls a0 t108 t109 t110 _ ?side1 A14.out).mono ?_); (case side1 => (refine GoodW.below HG.out ?_); exact bel HB); rintro e w21 ⟨v111, rfl, ho0, hb⟩; refine ⟨_, rfl, ?_⟩; have n0_ := Aside0.mk (Kd.V_lower (Kd.V_mono (ok' := fun k_ => True) ho0 (fun k_ hk_ => trivial)) (below_size (bel HB))); have n1_ := Aside0.mk (below_step (bel HB) hb); clear HB; have HO112 := n0_; have HB := n1_; clear n0_ n1_; (try clear hb); (try clear hb2); (try clear hk); (try clear hi); (try clear ho0); obtain ⟨Ao22, co22, eo22⟩ := Kd.V_slice HO112.out; subst eo22) | ((with_reducible refine gate_callee (f := 54) rfl ?_); refine goesL_ (some 23) rfl rfl Tryd.func54 (by kernel_rfl) rfl #[.agg #[.int .i64 t108, .int .i64 t109, .slice Ao22 t110.length co22], .int .i64 a1, .int .u8 46] rfl (by (try simp only [List.map_toArray, List.map_cons, List.map_nil]); first | done | rfl | (simp only [List.length_drop, List.length_take]; rfl)) ?_; (with_reducible refine (impl_tray_with.calls t108 t109 _ _ t110 a1 46 t113 t114 t115 _ ?side1 ?side2 A15.out).mono ?_); (case side1 => repeat (first | exact (Kd.V_reads' HO112.out).2.2 | (with_reducible refine Kd.C_alloc ?_ _) | (with_reducible refine Kd.C_drewN ?_ _) | (with_reducible refine Kd.C_drew ?_))); (case side2 => exact (Kd.V_reads' HO112.out).2.1); rintro e w23 ⟨v116, rfl, ho0, hb⟩; refine ⟨_, rfl, ?_⟩; have n0_ := Aside0.mk (Kd.V_elder' (by (with_reducible repeat (first | apply Kd.V_alloc | apply Kd.V_drewN | apply Kd.V_drew)); (first | exact HO112.out | exact R_any HO112.out)) (Kd.R_base ho0) hb); have n1_ := Aside0.mk (Kd.R_lower ho0 (below_size (bel HB))); have n2_ := Aside0.mk (below_step (bel HB) hb); clear HO112; clear HB; have HO112 := n0_; have HO117 := n1_; have HB := n2_; clear n0_ n1_ n2_; (try clear hb); (try clear hb2); (try clear hk); (try clear hi); (try clear ho0)) | ((with_reducible refine gate_dst (N := 6) rfl ?_); refine box_event ?hg (N := 6) ?hd (cs := #[.int .i64 0, .int .i64 0, .slice none 0 0]) (t := 45) ?hr ?_; (case hd => rfl); (case hg => rfl); (case hr => first | (go_simp; done) | (go_simp; rfl)); intro gb118 hg w24 hbox hb; have n0_ := Aside0.mk (Kd.V_below (Kd.V_elderB (by (with_reducible repeat (first | apply Kd.V_alloc | apply Kd.V_drewN | apply Kd.V_drew)); (first | exact HO112.out | exact R_any HO112.out)) gb118 (Nat.le_of_eq hg.symm)) hb); have n1_ := Aside0.mk (Kd.R_below (rch HO117) hb); have n2_ := Aside0.mk (below_step (bel HB) hb); have n3_ := Aside0.mk (hbox); have n4_ := Aside0.mk ((by rw [hg]; exact (below_size (bel HB)) : w.heap.size ≤ gb118)); have n5_ := Aside0.mk ((by rw [hg]; exact (below_size (bel HB)) : w.heap.size ≤ gb118)); clear HO112; clear HO117; clear HB; have HO112 := n0_; have HO117 := n1_; have HB := n2_; have BK118 := n3_; have GW118 := n4_; have GE118 := n5_; clear n0_ n1_ n2_ n3_ n4_ n5_; clear hb hbox hg; have hcz25_0 : w24.cell? ⟨gb118, 0, none⟩ = some (.int .i64 0) := (blk_cell BK118.out 0).trans rfl; have hcz25_1 : w24.cell? ⟨gb118, 1, none⟩ = some (.int .i64 0) := (blk_cell BK118.out 1).trans rfl; have hcz25_2 : w24.cell? ⟨gb118, 2, none⟩ = some (.slice none 0 0) := (blk_cell BK118.out 2).trans rfl; have hfz25_0 := blk_frozen BK118.out 0; have hfz25_1 := blk_frozen BK118.out 1; have hfz25_2 := blk_frozen BK118.out 2; obtain ⟨Ao26, co26, eo26⟩ := Kd.R_slice HO117.out; subst eo26) | ((with_reducible refine gate_callee (f := 55) rfl ?_); refine goesL_ (some 25) rfl rfl Tryd.func55 (by kernel_rfl) rfl #[.agg #[.int .i64 t113, .int .i64 t114, .slice Ao26 t115.length co26]] rfl (by (try simp only [List.map_toArray, List.map_cons, List.map_nil]); first | done | rfl | (simp only [List.length_drop, List.length_take]; rfl)) ?_; (with_reducible refine (impl_tray_text.calls t113 t114 _ _ t115 t119 _ ?side1 ?side2 A16.out).mono ?_); (case side1 => refine (Kd.R_reads' (e := 5) (base := w.heap.size) (ok := fun k_ => True) (n := t115.length) (c := co26) ?_).2.2; exact (by (with_reducible repeat (first | apply Kd.R_alloc | apply Kd.R_drewN | apply Kd.R_drew)); exact (Kd.R_mono (Kd.R_far (p := ⟨gb118, 2, none⟩) (Kd.R_far (p := ⟨gb118, 1, none⟩) (Kd.R_far (p := ⟨gb118, 0, none⟩) (Kd.R_types HO117.out BK118.out (by decide)) (fun _ hk => hk.2) (.int .i64 t113)) (fun _ hk => hk.2) (.int .i64 t114)) (fun _ hk => hk.2) (.slice Ao26 t115.length co26)) (fun _ h_ => h_.1)))); (case side2 => exact (Kd.R_reads' HO117.out).2.1); rintro e w27 ⟨rfl, hb⟩; refine ⟨_, rfl, ?_⟩; have n0_ := Aside0.mk (Kd.V_below (by (with_reducible repeat (first | apply Kd.V_alloc | apply Kd.V_drewN | apply Kd.V_drew)); exact (Kd.V_mono (Kd.V_far (p := ⟨gb118, 2, none⟩) (Kd.V_far (p := ⟨gb118, 1, none⟩) (Kd.V_far (p := ⟨gb118, 0, none⟩) (Kd.V_mono HO112.out (fun k_ hk => (⟨hk, hk.2⟩ : _ ∧ k_ ≠ gb118))) (fun _ hk => hk.2) (.int .i64 t113)) (fun _ hk => hk.2) (.int .i64 t114)) (fun _ hk => hk.2) (.slice Ao26 t115.length co26)) (fun _ h_ => h_.1))) hb); have n1_ := Aside0.mk (Kd.R_below (by (with_reducible repeat (first | apply Kd.R_alloc | apply Kd.R_drewN | apply Kd.R_drew)); exact (Kd.R_mono (Kd.R_far (p := ⟨gb118, 2, none⟩) (Kd.R_far (p := ⟨gb118, 1, none⟩) (Kd.R_far (p := ⟨gb118, 0, none⟩) (Kd.R_types HO117.out BK118.out (by decide)) (fun _ hk => hk.2) (.int .i64 t113)) (fun _ hk => hk.2) (.int .i64 t114)) (fun _ hk => hk.2) (.slice Ao26 t115.length co26)) (fun _ h_ => h_.1))) hb); have n2_ := Aside0.mk (blk_below (g := gb118) (o := .cells #[.int .i64 t113, .int .i64 t114, .slice Ao26 t115.length co26] 45 (0, 0)) (by (with_reducible repeat (first | refine blk_drewN ?_ _ | refine blk_drew ?_ | refine blk_alloc ?_ _)); refine blk_put (cs := #[.int .i64 t113, .int .i64 t114, .slice none 0 0]) ?_ 2 _ rfl; (with_reducible repeat (first | refine blk_drewN ?_ _ | refine blk_drew ?_ | refine blk_alloc ?_ _)); refine blk_put (cs := #[.int .i64 t113, .int .i64 0, .slice none 0 0]) ?_ 1 _ rfl; (with_reducible repeat (first | refine blk_drewN ?_ _ | refine blk_drew ?_ | refine blk_alloc ?_ _)); refine blk_put (cs := #[.int .i64 0, .int .i64 0, .slice none 0 0]) ?_ 0 _ rfl; exact blc) hb); have n3_ := Aside0.mk (below_step (bel HB) hb); clear HO112; clear HO117; clear BK118; clear HB; have HO112 := n0_; have HO117 := n1_; have BK118 := n2_; have HB := n3_; clear n0_ n1_ n2_ n3_; (try clear hb); (try clear hb2); (try clear hk); (try clear hi)) | ((with_reducible refine gate_callee (f := 35) rfl ?_); refine goesL_ (some 26) rfl rfl Tryd.func35 (by kernel_rfl) rfl #[.string t119] rfl (by (try simp only [List.map_toArray, List.map_cons, List.map_nil]); first | done | rfl | (simp only [List.length_drop, List.length_take]; rfl)) ?_; (with_reducible refine (impl_IsForm.calls kj2 t119 true _ ?side1 A17.out).mono ?_); (case side1 => (refine GoodW.below HG.out ?_); exact bel HB); rintro e w28 ⟨rfl, hb⟩; refine ⟨_, rfl, ?_⟩; have n0_ := Aside0.mk (Kd.V_below (by (with_reducible repeat (first | apply Kd.V_alloc | apply Kd.V_drewN | apply Kd.V_drew)); (first | exact HO112.out | exact R_any HO112.out)) hb); have n1_ := Aside0.mk (Kd.R_below (rch HO117) hb); have n2_ := Aside0.mk (blk_below (g := gb118) (o := .cells #[.int .i64 t113, .int .i64 t114, .slice Ao26 t115.length co26] 45 (0, 0)) blc hb); have n3_ := Aside0.mk (below_step (bel HB) hb); clear HO112; clear HO117; clear BK118; clear HB; have HO112 := n0_; have HO117 := n1_; have BK118 := n2_; have HB := n3_; clear n0_ n1_ n2_ n3_; (try clear hb); (try clear hb2); (try clear hk); (try clear hi); have hcz29_0 : w28.cell? ⟨gb118, 0, none⟩ = some (.int .i64 t113) := (blk_cell BK118.out 0).trans rfl; have hcz29_1 : w28.cell? ⟨gb118, 1, none⟩ = some (.int .i64 t114) := (blk_cell BK118.out 1).trans rfl; have hcz29_2 : w28.cell? ⟨gb118, 2, none⟩ = some (.slice Ao26 t115.length co26) := (blk_cell BK118.out 2).trans rfl; have hfz29_0 := blk_frozen BK118.out 0; have hfz29_1 := blk_frozen BK118.out 1; have hfz29_2 := blk_frozen BK118.out 2) | (go_at_call 51; (with_reducible refine (impl_tray_added.calls kj2 t113 t114 _ _ t115 a1 t121 _ ?side1 ?side2 A19.out).mono ?_); (case side1 => repeat (first | exact (Kd.R_reads' HO117.out).2.2 | (with_reducible refine Kd.C_alloc ?_ _) | (with_reducible refine Kd.C_drewN ?_ _) | (with_reducible refine Kd.C_drew ?_))); (case side2 => exact (Kd.R_reads' HO117.out).2.1); rintro e w30 ⟨rfl, hb⟩; have n0_ := Aside0.mk (Kd.V_below (by (with_reducible repeat (first | apply Kd.V_alloc | apply Kd.V_drewN | apply Kd.V_drew)); (first | exact HO112.out | exact R_any HO112.out)) hb); have n1_ := Aside0.mk (Kd.R_below (rch HO117) hb); have n2_ := Aside0.mk (blk_below (g := gb118) (o := .cells #[.int .i64 t113, .int .i64 t114, .slice Ao26 t115.length co26] 45 (0, 0)) blc hb); have n3_ := Aside0.mk (below_step (bel HB) hb); clear HO112; clear HO117; clear BK118; clear HB; have HO112 := n0_; have HO117 := n1_; have BK118 := n2_; have HB := n3_; clear n0_ n1_ n2_ n3_; (try clear hb); (try clear hb2); (try clear hk); (try clear hi)))
      go_ret2
      exact ⟨by first | rfl | (simp [errW_none, errW_some] <;> rfl) | (simp [*, errW_none, errW_some] <;> rfl), bel HB⟩
     ·rw [if_neg c20] at H
      have c20b0 : (t121.toList == ([] : List UInt8)) = false := beq_eq_false_iff_ne.mpr c20
      have c20b1 : (t121.toList != ([] : List UInt8)) = true := bne_iff_ne.mpr c20
      replace H := Option.bind_eq_some_iff.mp H
      obtain ⟨t122, A310, H⟩ := H
      replace H : (some (t122, true)) = some (r1, r2) := H
      have A31 := Aside0.mk A310
      clear A310
      simp only [Option.some.injEq, Prod.mk.injEq] at H
      obtain ⟨rfl, rfl⟩ := H
      go_wp2_with (first | ((with_reducible refine gate_callee (f := 29) rfl ?_); refine goesL_ (some 21) rfl rfl Tryd.func29 (by kernel_rfl) rfl #[.string a0] rfl (by (try simp only [List.map_toArray, List.map_cons, List.map_nil]); first | done | rfl | (simp only [List.length_drop, List.length_take]; rfl)) ?_; (with_reducible refine (impl_read.calls a0 t108 t109 t110 _ ?side1 A14.out).mono ?_); (case side1 => (refine GoodW.below HG.out ?_); exact bel HB); rintro e w32 ⟨v111, rfl, ho0, hb⟩; refine ⟨_, rfl, ?_⟩; have n0_ := Aside0.mk (Kd.V_lower (Kd.V_mono (ok' := fun k_ => True) ho0 (fun k_ hk_ => trivial)) (below_size (bel HB))); have n1_ := Aside0.mk (below_step (bel HB) hb); clear HB; have HO112 := n0_; have HB := n1_; clear n0_ n1_; (try clear hb); (try clear hb2); (try clear hk); (try clear hi); (try clear ho0); obtain ⟨Ao33, co33, eo33⟩ := Kd.V_slice HO112.out; subst eo33) | ((with_reducible refine gate_callee (f := 54) rfl ?_); refine goesL_ (some 23) rfl rfl Tryd.func54 (by kernel_rfl) rfl #[.agg #[.int .i64 t108, .int .i64 t109, .slice Ao33 t110.length co33], .int .i64 a1, .int .u8 46] rfl (by (try simp only [List.map_toArray, List.map_cons, List.map_nil]); first | done | rfl | (simp only [List.length_drop, List.length_take]; rfl)) ?_; (with_reducible refine (impl_tray_with.calls t108 t109 _ _ t110 a1 46 t113 t114 t115 _ ?side1 ?side2 A15.out).mono ?_); (case side1 => repeat (first | exact (Kd.V_reads' HO112.out).2.2 | (with_reducible refine Kd.C_alloc ?_ _) | (with_reducible refine Kd.C_drewN ?_ _) | (with_reducible refine Kd.C_drew ?_))); (case side2 => exact (Kd.V_reads' HO112.out).2.1); rintro e w34 ⟨v116, rfl, ho0, hb⟩; refine ⟨_, rfl, ?_⟩; have n0_ := Aside0.mk (Kd.V_elder' (by (with_reducible repeat (first | apply Kd.V_alloc | apply Kd.V_drewN | apply Kd.V_drew)); (first | exact HO112.out | exact R_any HO112.out)) (Kd.R_base ho0) hb); have n1_ := Aside0.mk (Kd.R_lower ho0 (below_size (bel HB))); have n2_ := Aside0.mk (below_step (bel HB) hb); clear HO112; clear HB; have HO112 := n0_; have HO117 := n1_; have HB := n2_; clear n0_ n1_ n2_; (try clear hb); (try clear hb2); (try clear hk); (try clear hi); (try clear ho0)) | ((with_reducible refine gate_dst (N := 6) rfl ?_); refine box_event ?hg (N := 6) ?hd (cs := #[.int .i64 0, .int .i64 0, .slice none 0 0]) (t := 45) ?hr ?_; (case hd => rfl); (case hg => rfl); (case hr => first | (go_simp; done) | (go_simp; rfl)); intro gb118 hg w35 hbox hb; have n0_ := Aside0.mk (Kd.V_below (Kd.V_elderB (by (with_reducible repeat (first | apply Kd.V_alloc | apply Kd.V_drewN | apply Kd.V_drew)); (first | exact HO112.out | exact R_any HO112.out)) gb118 (Nat.le_of_eq hg.symm)) hb); have n1_ := Aside0.mk (Kd.R_below (rch HO117) hb); have n2_ := Aside0.mk (below_step (bel HB) hb); have n3_ := Aside0.mk (hbox); have n4_ := Aside0.mk ((by rw [hg]; exact (below_size (bel HB)) : w.heap.size ≤ gb118)); have n5_ := Aside0.mk ((by rw [hg]; exact (below_size (bel HB)) : w.heap.size ≤ gb118)); clear HO112; clear HO117; clear HB; have HO112 := n0_; have HO117 := n1_; have HB := n2_; have BK118 := n3_; have GW118 := n4_; have GE118 := n5_; clear n0_ n1_ n2_ n3_ n4_ n5_; clear hb hbox hg; have hcz36_0 : w35.cell? ⟨gb118, 0, none⟩ = some (.int .i64 0) := (blk_cell BK118.out 0).trans rfl; have hcz36_1 : w35.cell? ⟨gb118, 1, none⟩ = some (.int .i64 0) := (blk_cell BK118.out 1).trans rfl; have hcz36_2 : w35.cell? ⟨gb118, 2, none⟩ = some (.slice none 0 0) := (blk_cell BK118.out 2).trans rfl; have hfz36_0 := blk_frozen BK118.out 0; have hfz36_1 := blk_frozen BK118.out 1; have hfz36_2 := blk_frozen BK118.out 2; obtain ⟨Ao37, co37, eo37⟩ := Kd.R_slice HO117.out; subst eo37) | ((with_reducible refine gate_callee (f := 55) rfl ?_); refine goesL_ (some 25) rfl rfl Tryd.func55 (by kernel_rfl) rfl #[.agg #[.int .i64 t113, .int .i64 t114, .slice Ao37 t115.length co37]] rfl (by (try simp only [List.map_toArray, List.map_cons, List.map_nil]); first | done | rfl | (simp only [List.length_drop, List.length_take]; rfl)) ?_; (with_reducible refine (impl_tray_text.calls t113 t114 _ _ t115 t119 _ ?side1 ?side2 A16.out).mono ?_); (case side1 => refine (Kd.R_reads' (e := 5) (base := w.heap.size) (ok := fun k_ => True) (n := t115.length) (c := co37) ?_).2.2; exact (by (with_reducible repeat (first | apply Kd.R_alloc | apply Kd.R_drewN | apply Kd.R_drew)); exact (Kd.R_mono (Kd.R_far (p := ⟨gb118, 2, none⟩) (Kd.R_far (p := ⟨gb118, 1, none⟩) (Kd.R_far (p := ⟨gb118, 0, none⟩) (Kd.R_types HO117.out BK118.out (by decide)) (fun _ hk => hk.2) (.int .i64 t113)) (fun _ hk => hk.2) (.int .i64 t114)) (fun _ hk => hk.2) (.slice Ao37 t115.length co37)) (fun _ h_ => h_.1)))); (case side2 => exact (Kd.R_reads' HO117.out).2.1); rintro e w38 ⟨rfl, hb⟩; refine ⟨_, rfl, ?_⟩; have n0_ := Aside0.mk (Kd.V_below (by (with_reducible repeat (first | apply Kd.V_alloc | apply Kd.V_drewN | apply Kd.V_drew)); exact (Kd.V_mono (Kd.V_far (p := ⟨gb118, 2, none⟩) (Kd.V_far (p := ⟨gb118, 1, none⟩) (Kd.V_far (p := ⟨gb118, 0, none⟩) (Kd.V_mono HO112.out (fun k_ hk => (⟨hk, hk.2⟩ : _ ∧ k_ ≠ gb118))) (fun _ hk => hk.2) (.int .i64 t113)) (fun _ hk => hk.2) (.int .i64 t114)) (fun _ hk => hk.2) (.slice Ao37 t115.length co37)) (fun _ h_ => h_.1))) hb); have n1_ := Aside0.mk (Kd.R_below (by (with_reducible repeat (first | apply Kd.R_alloc | apply Kd.R_drewN | apply Kd.R_drew)); exact (Kd.R_mono (Kd.R_far (p := ⟨gb118, 2, none⟩) (Kd.R_far (p := ⟨gb118, 1, none⟩) (Kd.R_far (p := ⟨gb118, 0, none⟩) (Kd.R_types HO117.out BK118.out (by decide)) (fun _ hk => hk.2) (.int .i64 t113)) (fun _ hk => hk.2) (.int .i64 t114)) (fun _ hk => hk.2) (.slice Ao37 t115.length co37)) (fun _ h_ => h_.1))) hb); have n2_ := Aside0.mk (blk_below (g := gb118) (o := .cells #[.int .i64 t113, .int .i64 t114, .slice Ao37 t115.length co37] 45 (0, 0)) (by (with_reducible repeat (first | refine blk_drewN ?_ _ | refine blk_drew ?_ | refine blk_alloc ?_ _)); refine blk_put (cs := #[.int .i64 t113, .int .i64 t114, .slice none 0 0]) ?_ 2 _ rfl; (with_reducible repeat (first | refine blk_drewN ?_ _ | refine blk_drew ?_ | refine blk_alloc ?_ _)); refine blk_put (cs := #[.int .i64 t113, .int .i64 0, .slice none 0 0]) ?_ 1 _ rfl; (with_reducible repeat (first | refine blk_drewN ?_ _ | refine blk_drew ?_ | refine blk_alloc ?_ _)); refine blk_put (cs := #[.int .i64 0, .int .i64 0, .slice none 0 0]) ?_ 0 _ rfl; exact blc) hb); have n3_ := Aside0.mk (below_step (bel HB) hb); clear HO112; clear HO117; clear BK118; clear HB; have HO112 := n0_; have HO117 := n1_; have BK118 := n2_; have HB := n3_; clear n0_ n1_ n2_ n3_; (try clear hb); (try clear hb2); (try clear hk); (try clear hi)) | ((with_reducible refine gate_callee (f := 35) rfl ?_); refine goesL_ (some 26) rfl rfl Tryd.func35 (by kernel_rfl) rfl #[.string t119] rfl (by (try simp only [List.map_toArray, List.map_cons, List.map_nil]); first | done | rfl | (simp only [List.length_drop, List.length_take]; rfl)) ?_; (with_reducible refine (impl_IsForm.calls kj2 t119 true _ ?side1 A17.out).mono ?_); (case side1 => (refine GoodW.below HG.out ?_); exact bel HB); rintro e w39 ⟨rfl, hb⟩; refine ⟨_, rfl, ?_⟩; have n0_ := Aside0.mk (Kd.V_below (by (with_reducible repeat (first | apply Kd.V_alloc | apply Kd.V_drewN | apply Kd.V_drew)); (first | exact HO112.out | exact R_any HO112.out)) hb); have n1_ := Aside0.mk (Kd.R_below (rch HO117) hb); have n2_ := Aside0.mk (blk_below (g := gb118) (o := .cells #[.int .i64 t113, .int .i64 t114, .slice Ao37 t115.length co37] 45 (0, 0)) blc hb); have n3_ := Aside0.mk (below_step (bel HB) hb); clear HO112; clear HO117; clear BK118; clear HB; have HO112 := n0_; have HO117 := n1_; have BK118 := n2_; have HB := n3_; clear n0_ n1_ n2_ n3_; (try clear hb); (try clear hb2); (try clear hk); (try clear hi); have hcz40_0 : w39.cell? ⟨gb118, 0, none⟩ = some (.int .i64 t113) := (blk_cell BK118.out 0).trans rfl; have hcz40_1 : w39.cell? ⟨gb118, 1, none⟩ = some (.int .i64 t114) := (blk_cell BK118.out 1).trans rfl; have hcz40_2 : w39.cell? ⟨gb118, 2, none⟩ = some (.slice Ao37 t115.length co37) := (blk_cell BK118.out 2).trans rfl; have hfz40_0 := blk_frozen BK118.out 0; have hfz40_1 := blk_frozen BK118.out 1; have hfz40_2 := blk_frozen BK118.out 2) | (go_at_call 51; (with_reducible refine (impl_tray_added.calls kj2 t113 t114 _ _ t115 a1 t121 _ ?side1 ?side2 A19.out).mono ?_); (case side1 => repeat (first | exact (Kd.R_reads' HO117.out).2.2 | (with_reducible refine Kd.C_alloc ?_ _) | (with_reducible refine Kd.C_drewN ?_ _) | (with_reducible refine Kd.C_drew ?_))); (case side2 => exact (Kd.R_reads' HO117.out).2.1); rintro e w41 ⟨rfl, hb⟩; have n0_ := Aside0.mk (Kd.V_below (by (with_reducible repeat (first | apply Kd.V_alloc | apply Kd.V_drewN | apply Kd.V_drew)); (first | exact HO112.out | exact R_any HO112.out)) hb); have n1_ := Aside0.mk (Kd.R_below (rch HO117) hb); have n2_ := Aside0.mk (blk_below (g := gb118) (o := .cells #[.int .i64 t113, .int .i64 t114, .slice Ao37 t115.length co37] 45 (0, 0)) blc hb); have n3_ := Aside0.mk (below_step (bel HB) hb); clear HO112; clear HO117; clear BK118; clear HB; have HO112 := n0_; have HO117 := n1_; have BK118 := n2_; have HB := n3_; clear n0_ n1_ n2_ n3_; (try clear hb); (try clear hb2); (try clear hk); (try clear hi); have hcz42_0 : w41.cell? ⟨gb118, 0, none⟩ = some (.int .i64 t113) := (blk_cell BK118.out 0).trans rfl; have hcz42_1 : w41.cell? ⟨gb118, 1, none⟩ = some (.int .i64 t114) := (blk_cell BK118.out 1).trans rfl; have hcz42_2 : w41.cell? ⟨gb118, 2, none⟩ = some (.slice Ao37 t115.length co37) := (blk_cell BK118.out 2).trans rfl; have hfz42_0 := blk_frozen BK118.out 0; have hfz42_1 := blk_frozen BK118.out 1; have hfz42_2 := blk_frozen BK118.out 2) | ((with_reducible refine gate_callee (f := 55) rfl ?_); refine goesL_ (some 35) rfl rfl Tryd.func55 (by kernel_rfl) rfl #[.agg #[.int .i64 t113, .int .i64 t114, .slice Ao37 t115.length co37]] rfl (by (try simp only [List.map_toArray, List.map_cons, List.map_nil]); first | done | rfl | (simp only [List.length_drop, List.length_take]; rfl)) ?_; (with_reducible refine (impl_tray_text.calls t113 t114 _ _ t115 t122 _ ?side1 ?side2 A31.out).mono ?_); (case side1 => repeat (first | exact (Kd.R_reads' HO117.out).2.2 | (with_reducible refine Kd.C_alloc ?_ _) | (with_reducible refine Kd.C_drewN ?_ _) | (with_reducible refine Kd.C_drew ?_))); (case side2 => exact (Kd.R_reads' HO117.out).2.1); rintro e w43 ⟨rfl, hb⟩; refine ⟨_, rfl, ?_⟩; have n0_ := Aside0.mk (Kd.V_below (by (with_reducible repeat (first | apply Kd.V_alloc | apply Kd.V_drewN | apply Kd.V_drew)); (first | exact HO112.out | exact R_any HO112.out)) hb); have n1_ := Aside0.mk (Kd.R_below (rch HO117) hb); have n2_ := Aside0.mk (blk_below (g := gb118) (o := .cells #[.int .i64 t113, .int .i64 t114, .slice Ao37 t115.length co37] 45 (0, 0)) blc hb); have n3_ := Aside0.mk (below_step (bel HB) hb); clear HO112; clear HO117; clear BK118; clear HB; have HO112 := n0_; have HO117 := n1_; have BK118 := n2_; have HB := n3_; clear n0_ n1_ n2_ n3_; (try clear hb); (try clear hb2); (try clear hk); (try clear hi)))
      go_ret2
      exact ⟨by first | rfl | (simp [errW_none, errW_some] <;> rfl) | (simp [*, errW_none, errW_some] <;> rfl), bel HB⟩
    ·replace c18 := Bool.eq_false_iff.mpr c18
     subst c18
     have H1 : (some ((⟨#[]⟩ : ByteArray), false)) = some (r1, r2) := by rw [if_neg (show ¬ (false = true) by decide)] at H; exact H
     clear H
     have H := H1
     clear H1
     simp only [Option.some.injEq, Prod.mk.injEq] at H
     obtain ⟨rfl, rfl⟩ := H
     go_wp2_with (first | ((with_reducible refine gate_callee (f := 29) rfl ?_); refine goesL_ (some 21) rfl rfl Tryd.func29 (by kernel_rfl) rfl #[.string a0] rfl (by (try simp only [List.map_toArray, List.map_cons, List.map_nil]); first | done | rfl | (simp only [List.length_drop, List.length_take]; rfl)) ?_; (with_reducible refine (impl_read.calls a0 t108 t109 t110 _ ?side1 A14.out).mono ?_); (case side1 => (refine GoodW.below HG.out ?_); exact bel HB); rintro e w44 ⟨v111, rfl, ho0, hb⟩; refine ⟨_, rfl, ?_⟩; have n0_ := Aside0.mk (Kd.V_lower (Kd.V_mono (ok' := fun k_ => True) ho0 (fun k_ hk_ => trivial)) (below_size (bel HB))); have n1_ := Aside0.mk (below_step (bel HB) hb); clear HB; have HO112 := n0_; have HB := n1_; clear n0_ n1_; (try clear hb); (try clear hb2); (try clear hk); (try clear hi); (try clear ho0); obtain ⟨Ao45, co45, eo45⟩ := Kd.V_slice HO112.out; subst eo45) | ((with_reducible refine gate_callee (f := 54) rfl ?_); refine goesL_ (some 23) rfl rfl Tryd.func54 (by kernel_rfl) rfl #[.agg #[.int .i64 t108, .int .i64 t109, .slice Ao45 t110.length co45], .int .i64 a1, .int .u8 46] rfl (by (try simp only [List.map_toArray, List.map_cons, List.map_nil]); first | done | rfl | (simp only [List.length_drop, List.length_take]; rfl)) ?_; (with_reducible refine (impl_tray_with.calls t108 t109 _ _ t110 a1 46 t113 t114 t115 _ ?side1 ?side2 A15.out).mono ?_); (case side1 => repeat (first | exact (Kd.V_reads' HO112.out).2.2 | (with_reducible refine Kd.C_alloc ?_ _) | (with_reducible refine Kd.C_drewN ?_ _) | (with_reducible refine Kd.C_drew ?_))); (case side2 => exact (Kd.V_reads' HO112.out).2.1); rintro e w46 ⟨v116, rfl, ho0, hb⟩; refine ⟨_, rfl, ?_⟩; have n0_ := Aside0.mk (Kd.V_elder' (by (with_reducible repeat (first | apply Kd.V_alloc | apply Kd.V_drewN | apply Kd.V_drew)); (first | exact HO112.out | exact R_any HO112.out)) (Kd.R_base ho0) hb); have n1_ := Aside0.mk (Kd.R_lower ho0 (below_size (bel HB))); have n2_ := Aside0.mk (below_step (bel HB) hb); clear HO112; clear HB; have HO112 := n0_; have HO117 := n1_; have HB := n2_; clear n0_ n1_ n2_; (try clear hb); (try clear hb2); (try clear hk); (try clear hi); (try clear ho0)) | ((with_reducible refine gate_dst (N := 6) rfl ?_); refine box_event ?hg (N := 6) ?hd (cs := #[.int .i64 0, .int .i64 0, .slice none 0 0]) (t := 45) ?hr ?_; (case hd => rfl); (case hg => rfl); (case hr => first | (go_simp; done) | (go_simp; rfl)); intro gb118 hg w47 hbox hb; have n0_ := Aside0.mk (Kd.V_below (Kd.V_elderB (by (with_reducible repeat (first | apply Kd.V_alloc | apply Kd.V_drewN | apply Kd.V_drew)); (first | exact HO112.out | exact R_any HO112.out)) gb118 (Nat.le_of_eq hg.symm)) hb); have n1_ := Aside0.mk (Kd.R_below (rch HO117) hb); have n2_ := Aside0.mk (below_step (bel HB) hb); have n3_ := Aside0.mk (hbox); have n4_ := Aside0.mk ((by rw [hg]; exact (below_size (bel HB)) : w.heap.size ≤ gb118)); have n5_ := Aside0.mk ((by rw [hg]; exact (below_size (bel HB)) : w.heap.size ≤ gb118)); clear HO112; clear HO117; clear HB; have HO112 := n0_; have HO117 := n1_; have HB := n2_; have BK118 := n3_; have GW118 := n4_; have GE118 := n5_; clear n0_ n1_ n2_ n3_ n4_ n5_; clear hb hbox hg; have hcz48_0 : w47.cell? ⟨gb118, 0, none⟩ = some (.int .i64 0) := (blk_cell BK118.out 0).trans rfl; have hcz48_1 : w47.cell? ⟨gb118, 1, none⟩ = some (.int .i64 0) := (blk_cell BK118.out 1).trans rfl; have hcz48_2 : w47.cell? ⟨gb118, 2, none⟩ = some (.slice none 0 0) := (blk_cell BK118.out 2).trans rfl; have hfz48_0 := blk_frozen BK118.out 0; have hfz48_1 := blk_frozen BK118.out 1; have hfz48_2 := blk_frozen BK118.out 2; obtain ⟨Ao49, co49, eo49⟩ := Kd.R_slice HO117.out; subst eo49) | ((with_reducible refine gate_callee (f := 55) rfl ?_); refine goesL_ (some 25) rfl rfl Tryd.func55 (by kernel_rfl) rfl #[.agg #[.int .i64 t113, .int .i64 t114, .slice Ao49 t115.length co49]] rfl (by (try simp only [List.map_toArray, List.map_cons, List.map_nil]); first | done | rfl | (simp only [List.length_drop, List.length_take]; rfl)) ?_; (with_reducible refine (impl_tray_text.calls t113 t114 _ _ t115 t119 _ ?side1 ?side2 A16.out).mono ?_); (case side1 => refine (Kd.R_reads' (e := 5) (base := w.heap.size) (ok := fun k_ => True) (n := t115.length) (c := co49) ?_).2.2; exact (by (with_reducible repeat (first | apply Kd.R_alloc | apply Kd.R_drewN | apply Kd.R_drew)); exact (Kd.R_mono (Kd.R_far (p := ⟨gb118, 2, none⟩) (Kd.R_far (p := ⟨gb118, 1, none⟩) (Kd.R_far (p := ⟨gb118, 0, none⟩) (Kd.R_types HO117.out BK118.out (by decide)) (fun _ hk => hk.2) (.int .i64 t113)) (fun _ hk => hk.2) (.int .i64 t114)) (fun _ hk => hk.2) (.slice Ao49 t115.length co49)) (fun _ h_ => h_.1)))); (case side2 => exact (Kd.R_reads' HO117.out).2.1); rintro e w50 ⟨rfl, hb⟩; refine ⟨_, rfl, ?_⟩; have n0_ := Aside0.mk (Kd.V_below (by (with_reducible repeat (first | apply Kd.V_alloc | apply Kd.V_drewN | apply Kd.V_drew)); exact (Kd.V_mono (Kd.V_far (p := ⟨gb118, 2, none⟩) (Kd.V_far (p := ⟨gb118, 1, none⟩) (Kd.V_far (p := ⟨gb118, 0, none⟩) (Kd.V_mono HO112.out (fun k_ hk => (⟨hk, hk.2⟩ : _ ∧ k_ ≠ gb118))) (fun _ hk => hk.2) (.int .i64 t113)) (fun _ hk => hk.2) (.int .i64 t114)) (fun _ hk => hk.2) (.slice Ao49 t115.length co49)) (fun _ h_ => h_.1))) hb); have n1_ := Aside0.mk (Kd.R_below (by (with_reducible repeat (first | apply Kd.R_alloc | apply Kd.R_drewN | apply Kd.R_drew)); exact (Kd.R_mono (Kd.R_far (p := ⟨gb118, 2, none⟩) (Kd.R_far (p := ⟨gb118, 1, none⟩) (Kd.R_far (p := ⟨gb118, 0, none⟩) (Kd.R_types HO117.out BK118.out (by decide)) (fun _ hk => hk.2) (.int .i64 t113)) (fun _ hk => hk.2) (.int .i64 t114)) (fun _ hk => hk.2) (.slice Ao49 t115.length co49)) (fun _ h_ => h_.1))) hb); have n2_ := Aside0.mk (blk_below (g := gb118) (o := .cells #[.int .i64 t113, .int .i64 t114, .slice Ao49 t115.length co49] 45 (0, 0)) (by (with_reducible repeat (first | refine blk_drewN ?_ _ | refine blk_drew ?_ | refine blk_alloc ?_ _)); refine blk_put (cs := #[.int .i64 t113, .int .i64 t114, .slice none 0 0]) ?_ 2 _ rfl; (with_reducible repeat (first | refine blk_drewN ?_ _ | refine blk_drew ?_ | refine blk_alloc ?_ _)); refine blk_put (cs := #[.int .i64 t113, .int .i64 0, .slice none 0 0]) ?_ 1 _ rfl; (with_reducible repeat (first | refine blk_drewN ?_ _ | refine blk_drew ?_ | refine blk_alloc ?_ _)); refine blk_put (cs := #[.int .i64 0, .int .i64 0, .slice none 0 0]) ?_ 0 _ rfl; exact blc) hb); have n3_ := Aside0.mk (below_step (bel HB) hb); clear HO112; clear HO117; clear BK118; clear HB; have HO112 := n0_; have HO117 := n1_; have BK118 := n2_; have HB := n3_; clear n0_ n1_ n2_ n3_; (try clear hb); (try clear hb2); (try clear hk); (try clear hi)) | ((with_reducible refine gate_callee (f := 35) rfl ?_); refine goesL_ (some 26) rfl rfl Tryd.func35 (by kernel_rfl) rfl #[.string t119] rfl (by (try simp only [List.map_toArray, List.map_cons, List.map_nil]); first | done | rfl | (simp only [List.length_drop, List.length_take]; rfl)) ?_; (with_reducible refine (impl_IsForm.calls kj2 t119 false _ ?side1 A17.out).mono ?_); (case side1 => (refine GoodW.below HG.out ?_); exact bel HB); rintro e w51 ⟨rfl, hb⟩; refine ⟨_, rfl, ?_⟩; have n0_ := Aside0.mk (Kd.V_below (by (with_reducible repeat (first | apply Kd.V_alloc | apply Kd.V_drewN | apply Kd.V_drew)); (first | exact HO112.out | exact R_any HO112.out)) hb); have n1_ := Aside0.mk (Kd.R_below (rch HO117) hb); have n2_ := Aside0.mk (blk_below (g := gb118) (o := .cells #[.int .i64 t113, .int .i64 t114, .slice Ao49 t115.length co49] 45 (0, 0)) blc hb); have n3_ := Aside0.mk (below_step (bel HB) hb); clear HO112; clear HO117; clear BK118; clear HB; have HO112 := n0_; have HO117 := n1_; have BK118 := n2_; have HB := n3_; clear n0_ n1_ n2_ n3_; (try clear hb); (try clear hb2); (try clear hk); (try clear hi)))
     go_ret2
     exact ⟨by first | rfl | (simp [errW_none, errW_some] <;> rfl) | (simp [*, errW_none, errW_some] <;> rfl), bel HB⟩
def laws_FnExactTakeCell.f (k : Nat) (a0 : ByteArray) (a1 : Int) : Option (Bool) := if (a0.size : Int) > 1048576 then (some true) else ((spec_TakeCell.f k a0 a1).bind fun bt101 => ((impl_TakeCell.f k a0 a1).bind fun bt103 => (if bt103.1.toList = bt101.1.toList then (if (bt103.2 != bt101.2) = true then (some false) else (some true)) else (some false))))
theorem laws_FnExactTakeCell.mono : ∀ a0 a1 k, LeO (laws_FnExactTakeCell.f k a0 a1) (laws_FnExactTakeCell.f (k + 1) a0 a1) := by
 intro a0 a1 k
 unfold laws_FnExactTakeCell.f
 repeat' first
   | (with_reducible exact impl_TakeCell.mono _ _ _)
   | (with_reducible exact spec_TakeCell.mono _ _ _)
   | (with_reducible exact LeO.refl _)
   | (with_reducible exact LeO.none _)
   | (with_reducible refine LeO.ite ?_ ?_)
   | (with_reducible refine LeO.bind ?_ (fun _ => ?_))
   | exact impl_TakeCell.mono _ _ _
   | exact spec_TakeCell.mono _ _ _
   | exact LeO.none _
   | refine LeO.ite ?_ ?_
   | refine LeO.bind ?_ (fun _ => ?_)
set_option maxHeartbeats 8000000 in
set_option maxRecDepth 100000 in
theorem laws_FnExactTakeCell.calls (k : Nat) (a0 : ByteArray) (a1 : Int) (r : Bool) (w : World) (hG : GoodW w) (h : laws_FnExactTakeCell.f k a0 a1 = some r) :
  Calls Tryd.prog 9 #[.string a0, .int .i64 a1] w fun e w' => e = .returned (.bool r) ∧ Below w.heap.size w w' := by
 have HG := Aside0.mk hG
 clear hG
 have HB := Aside0.mk (Below.refl w.heap.size w)
 have H : (if (a0.size : Int) > 1048576 then (some true) else ((spec_TakeCell.f k a0 a1).bind fun bt101 => ((impl_TakeCell.f k a0 a1).bind fun bt103 => (if bt103.1.toList = bt101.1.toList then (if (bt103.2 != bt101.2) = true then (some false) else (some true)) else (some false))))) = some r := h
 clear h
 by_cases c3 : (a0.size : Int) > 1048576
 ·rw [if_pos c3] at H
  have c3b0 : decide (1048576 < (a0.size : Int)) = true := decide_eq_true c3
  have c3b1 : decide (1048576 < a0.size) = true := decide_eq_true (by omega)
  clear c3
  obtain rfl := Option.some.inj H
  go_enter Tryd.func9, Tryd.ntmps9
  go_wp2
  go_ret
  exact ⟨by first | rfl | (simp [errW_none, errW_some] <;> rfl) | (simp [*, errW_none, errW_some] <;> rfl), bel HB⟩
 ·rw [if_neg c3] at H
  have c3b0 : decide (1048576 < (a0.size : Int)) = false := decide_eq_false c3
  have c3b1 : decide (1048576 < a0.size) = false := decide_eq_false (by omega)
  clear c3
  replace H := Option.bind_eq_some_iff.mp H
  obtain ⟨⟨t101, t102⟩, A40, H⟩ := H
  replace H : ((impl_TakeCell.f k a0 a1).bind fun bt103 => (if bt103.1.toList = t101.toList then (if (bt103.2 != t102) = true then (some false) else (some true)) else (some false))) = some r := H
  have A4 := Aside0.mk A40
  clear A40
  replace H := Option.bind_eq_some_iff.mp H
  obtain ⟨⟨t103, t104⟩, A50, H⟩ := H
  replace H : (if t103.toList = t101.toList then (if (t104 != t102) = true then (some false) else (some true)) else (some false)) = some r := H
  have A5 := Aside0.mk A50
  clear A50
  by_cases c6 : t103.toList = t101.toList
  ·rw [if_pos c6] at H
   have c6b0 : (t103.toList == t101.toList) = true := beq_iff_eq.mpr c6
   have c6b1 : (t103.toList != t101.toList) = false := bne_eq_false_iff_eq.mpr c6
   clear c6
   by_cases c7 : (t104 != t102) = true
   ·rw [if_pos c7] at H
    have c7b0 : (t104 != t102) = true := c7
    (try (have c7b1 : decide (t104 = t102) = false := by simpa using c7))
    (try (have c7b2 : (t104 == t102) = false := by simpa using c7))
    (try (have c7b3 : ¬ (t104 = t102) := by simpa using c7))
    clear c7
    obtain rfl := Option.some.inj H
    go_enter Tryd.func9, Tryd.ntmps9
    go_wp2_with (first | ((with_reducible refine gate_callee (f := 25) rfl ?_); refine goesL_ (some 15) rfl rfl Tryd.func25 (by kernel_rfl) rfl #[.string a0, .int .i64 a1] rfl (by (try simp only [List.map_toArray, List.map_cons, List.map_nil]); first | done | rfl | (simp only [List.length_drop, List.length_take]; rfl)) ?_; (with_reducible refine (spec_TakeCell.calls k a0 a1 t101 t102 _ A4.out).mono ?_); rintro e w8 ⟨rfl, hb⟩; refine ⟨_, rfl, ?_⟩; have n0_ := Aside0.mk (below_step (bel HB) hb); clear HB; have HB := n0_; clear n0_; (try clear hb); (try clear hb2); (try clear hk); (try clear hi)) | ((with_reducible refine gate_callee (f := 26) rfl ?_); refine goesL_ (some 21) rfl rfl Tryd.func26 (by kernel_rfl) rfl #[.string a0, .int .i64 a1] rfl (by (try simp only [List.map_toArray, List.map_cons, List.map_nil]); first | done | rfl | (simp only [List.length_drop, List.length_take]; rfl)) ?_; (with_reducible refine (impl_TakeCell.calls k a0 a1 t103 t104 _ ?side1 A5.out).mono ?_); (case side1 => (refine GoodW.below HG.out ?_); exact bel HB); rintro e w9 ⟨rfl, hb⟩; refine ⟨_, rfl, ?_⟩; have n0_ := Aside0.mk (below_step (bel HB) hb); clear HB; have HB := n0_; clear n0_; (try clear hb); (try clear hb2); (try clear hk); (try clear hi)))
    go_ret
    exact ⟨by first | rfl | (simp [errW_none, errW_some] <;> rfl) | (simp [*, errW_none, errW_some] <;> rfl), bel HB⟩
   ·rw [if_neg c7] at H
    have c7b0 : (t104 != t102) = false := by simpa using c7
    (try (have c7b1 : decide (t104 = t102) = true := by simpa using c7))
    (try (have c7b2 : (t104 == t102) = true := by simpa using c7))
    clear c7
    obtain rfl := Option.some.inj H
    go_enter Tryd.func9, Tryd.ntmps9
    go_wp2_with (first | ((with_reducible refine gate_callee (f := 25) rfl ?_); refine goesL_ (some 15) rfl rfl Tryd.func25 (by kernel_rfl) rfl #[.string a0, .int .i64 a1] rfl (by (try simp only [List.map_toArray, List.map_cons, List.map_nil]); first | done | rfl | (simp only [List.length_drop, List.length_take]; rfl)) ?_; (with_reducible refine (spec_TakeCell.calls k a0 a1 t101 t102 _ A4.out).mono ?_); rintro e w10 ⟨rfl, hb⟩; refine ⟨_, rfl, ?_⟩; have n0_ := Aside0.mk (below_step (bel HB) hb); clear HB; have HB := n0_; clear n0_; (try clear hb); (try clear hb2); (try clear hk); (try clear hi)) | ((with_reducible refine gate_callee (f := 26) rfl ?_); refine goesL_ (some 21) rfl rfl Tryd.func26 (by kernel_rfl) rfl #[.string a0, .int .i64 a1] rfl (by (try simp only [List.map_toArray, List.map_cons, List.map_nil]); first | done | rfl | (simp only [List.length_drop, List.length_take]; rfl)) ?_; (with_reducible refine (impl_TakeCell.calls k a0 a1 t103 t104 _ ?side1 A5.out).mono ?_); (case side1 => (refine GoodW.below HG.out ?_); exact bel HB); rintro e w11 ⟨rfl, hb⟩; refine ⟨_, rfl, ?_⟩; have n0_ := Aside0.mk (below_step (bel HB) hb); clear HB; have HB := n0_; clear n0_; (try clear hb); (try clear hb2); (try clear hk); (try clear hi)))
    go_ret
    exact ⟨by first | rfl | (simp [errW_none, errW_some] <;> rfl) | (simp [*, errW_none, errW_some] <;> rfl), bel HB⟩
  ·rw [if_neg c6] at H
   have c6b0 : (t103.toList == t101.toList) = false := beq_eq_false_iff_ne.mpr c6
   have c6b1 : (t103.toList != t101.toList) = true := bne_iff_ne.mpr c6
   obtain rfl := Option.some.inj H
   go_enter Tryd.func9, Tryd.ntmps9
   go_wp2_with (first | ((with_reducible refine gate_callee (f := 25) rfl ?_); refine goesL_ (some 15) rfl rfl Tryd.func25 (by kernel_rfl) rfl #[.string a0, .int .i64 a1] rfl (by (try simp only [List.map_toArray, List.map_cons, List.map_nil]); first | done | rfl | (simp only [List.length_drop, List.length_take]; rfl)) ?_; (with_reducible refine (spec_TakeCell.calls k a0 a1 t101 t102 _ A4.out).mono ?_); rintro e w12 ⟨rfl, hb⟩; refine ⟨_, rfl, ?_⟩; have n0_ := Aside0.mk (below_step (bel HB) hb); clear HB; have HB := n0_; clear n0_; (try clear hb); (try clear hb2); (try clear hk); (try clear hi)) | ((with_reducible refine gate_callee (f := 26) rfl ?_); refine goesL_ (some 21) rfl rfl Tryd.func26 (by kernel_rfl) rfl #[.string a0, .int .i64 a1] rfl (by (try simp only [List.map_toArray, List.map_cons, List.map_nil]); first | done | rfl | (simp only [List.length_drop, List.length_take]; rfl)) ?_; (with_reducible refine (impl_TakeCell.calls k a0 a1 t103 t104 _ ?side1 A5.out).mono ?_); (case side1 => (refine GoodW.below HG.out ?_); exact bel HB); rintro e w13 ⟨rfl, hb⟩; refine ⟨_, rfl, ?_⟩; have n0_ := Aside0.mk (below_step (bel HB) hb); clear HB; have HB := n0_; clear n0_; (try clear hb); (try clear hb2); (try clear hk); (try clear hi)))
   go_ret
   exact ⟨by first | rfl | (simp [errW_none, errW_some] <;> rfl) | (simp [*, errW_none, errW_some] <;> rfl), bel HB⟩
end Go.Proofs.YtbplbbialcbceaaDoor.Q
end
section
namespace Go.Proofs.YtbplbbialcbceaaDoor.Q
set_option linter.unusedSectionVars false
open Go.RowKit Go.Proofs.YtbplbbialcbceaaDoorW.PrintWords Go.Proofs.YtbplbbialcbceaaDoorW.PrintLast Go.Proofs.YtbplbbialcbceaaDoorW.PrintMore
theorem tyCopy_eq (w h : Int) (l : List Int) (h2 : l.length ≤ 36) : spec_tyCopy.f w h l = some (w, h, l) := by
 unfold spec_tyCopy.f
 rw [Option.bind_some, List.nil_append, if_pos]
 show 0 + l.length < 140737488355328
 rw [Nat.zero_add]
 exact Nat.lt_of_le_of_lt h2 (by decide)
open Classical
def takeOK (w h : Nat) (cs : List Int) (a : Int) : Prop := rd cs a = 111 ∧ isB3 w h (cs.set a.toNat 46) ∧ wayB w h (cs.set a.toNat 46) a = true
noncomputable def TakeCellR (s : ByteArray) (a : Int) : ByteArray × Bool := match formOf s with
 | none => (⟨#[]⟩, false)
 | some (w, h, cs) => if inCells cs a ∧ takeOK w.toNat h.toNat cs a then (tx (cs.set a.toNat 46) w.toNat h.toNat, true) else (⟨#[]⟩, false)
section
variable {w h : Nat} {cs : List Int} (hw1 : 1 ≤ w) (hw : w ≤ 7) (hh1 : 1 ≤ h) (hh : h ≤ 7) (hs : w * h ≤ 36) (hn : cs.length = w * h)
include hw1 hw hh1 hh hs hn
theorem buTake_ev (hopen : ∀ c ∈ cs, c = 46 ∨ c = 111) (a : Int) (hc : inCells cs a) : Ev (fun k => spec_buTake.f k w h cs a) ((w : Int), (h : Int), cs.set a.toNat 46, decide (takeOK w h cs a)) := by
 have hin := hc
 unfold inCells at hin
 have ho2 := set_open hopen a.toNat 46 (Or.inl rfl)
 have hn2 : (cs.set a.toNat 46).length = w * h := by rw [List.length_set]; exact hn
 have hc2 : inCells (cs.set a.toNat 46) a := by unfold inCells; rw [List.length_set]; exact hin
 have hb := buIs3_ev (cs := cs.set a.toNat 46) hw1 hw hh1 hh hs hn2
 obtain ⟨r, hr, hr2⟩ := buWay_ev (cs := cs.set a.toNat 46) hw hh hs hn2 (fun c hm e => by rcases ho2 c hm with h | h <;> omega) a hc2
 have hf : ∀ k, spec_buTake.f k w h cs a = if rd cs a = 111 then ((spec_buIs.f k w h (cs.set a.toNat 46)).bind fun t111 => (if t111 = true then ((spec_buWay.f k w h (cs.set a.toNat 46) a).bind fun t112 => (some ((w : Int), (h : Int), cs.set a.toNat 46, decide (t112 ≥ 0)))) else (some ((w : Int), (h : Int), cs.set a.toNat 46, false)))) else (some ((w : Int), (h : Int), cs.set a.toNat 46, false)) := by
  intro k
  unfold spec_buTake.f
  rw [tyCopy_eq w h cs (by rw [hn]; exact hs), Option.bind_some, if_pos hin.1, if_pos hin.2, Option.bind_some, if_pos hin.2]
 by_cases h111 : rd cs a = 111
 ·refine Ev.congr (Ev.bind (f := fun k (t111 : Bool) => (if t111 = true then ((spec_buWay.f k w h (cs.set a.toNat 46) a).bind fun t112 => (some ((w : Int), (h : Int), cs.set a.toNat 46, decide (t112 ≥ 0)))) else (some ((w : Int), (h : Int), cs.set a.toNat 46, false)))) hb ?_) fun k => by rw [hf, if_pos h111]
  by_cases hb3 : isB3 w h (cs.set a.toNat 46)
  ·refine Ev.congr (Ev.bind (f := fun _ (t112 : Int) => some ((w : Int), (h : Int), cs.set a.toNat 46, decide (t112 ≥ 0))) hr (Ev.const ?_)) fun k => if_pos (decide_eq_true hb3)
   rw [decide_eq_decide.2 (show r ≥ 0 ↔ takeOK w h cs a from ⟨fun h1 => ⟨h111, hb3, hr2.1 h1⟩, fun h1 => hr2.2 h1.2.2⟩)]
  ·rw [decide_eq_false fun h1 : takeOK w h cs a => hb3 h1.2.1]
   exact Ev.congr (Ev.const (o := some ((w : Int), (h : Int), cs.set a.toNat 46, false)) rfl) fun k => if_neg (by rw [decide_eq_true_eq]; exact hb3)
 ·rw [decide_eq_false fun h1 : takeOK w h cs a => h111 h1.1]
  exact Ev.congr (Ev.const (o := some ((w : Int), (h : Int), cs.set a.toNat 46, false)) rfl) fun k => by rw [hf, if_neg h111]
end
theorem specTakeCell_ev (s : ByteArray) (a : Int) : Ev (fun k => spec_TakeCell.f k s a) (TakeCellR s a) := by
 obtain ⟨g, h1, h2⟩ := buCell_ev s a
 refine Ev.bind (f := fun k (bt101 : Int × Int × List Int × Bool) => (if bt101.2.2.2 = true then ((spec_buTake.f k bt101.1 bt101.2.1 bt101.2.2.1 a).bind fun bt108 => (if bt108.2.2.2 = true then ((spec_tyText.f k bt108.1 bt108.2.1 bt108.2.2.1).bind fun t115 => (some (t115, true))) else (some ((⟨#[]⟩ : ByteArray), false)))) else (some ((⟨#[]⟩ : ByteArray), false)))) h1 ?_
 unfold TakeCellR
 rcases hf : formOf s with _ | u
 ·exact Ev.congr (Ev.const (o := some ((⟨#[]⟩ : ByteArray), false)) rfl) fun k => if_neg Bool.false_ne_true
 ·obtain rfl := h2 u hf
  obtain ⟨w, h, cs, rfl, hw1, hw, hh1, hh, hs, hn, hk, ht⟩ := form_parts hf
  show Ev (fun k => if decide (inCells cs a) = true then ((spec_buTake.f k w h cs a).bind fun bt108 => (if bt108.2.2.2 = true then ((spec_tyText.f k bt108.1 bt108.2.1 bt108.2.2.1).bind fun t115 => (some (t115, true))) else (some ((⟨#[]⟩ : ByteArray), false)))) else (some ((⟨#[]⟩ : ByteArray), false))) (if _ then _ else _)
  simp only [Int.toNat_natCast]
  by_cases hc : inCells cs a
  ·have hb := buTake_ev hw1 hw hh1 hh hs hn (form_open hk) a hc
   have htx := tyText_ev (cs := cs.set a.toNat 46) hw1 hh1 hs (by rw [List.length_set]; exact hn)
   refine Ev.congr (Ev.bind (f := fun k (bt108 : Int × Int × List Int × Bool) => (if bt108.2.2.2 = true then ((spec_tyText.f k bt108.1 bt108.2.1 bt108.2.2.1).bind fun t115 => (some (t115, true))) else (some ((⟨#[]⟩ : ByteArray), false)))) hb ?_) fun k => if_pos (decide_eq_true hc)
   by_cases hk2 : takeOK w h cs a
   ·rw [if_pos ⟨hc, hk2⟩]
    exact Ev.congr (Ev.bind (f := fun _ t115 => some (t115, true)) htx (Ev.const rfl)) fun k => if_pos (decide_eq_true hk2)
   ·rw [if_neg fun h => hk2 h.2]
    exact Ev.congr (Ev.const (o := some ((⟨#[]⟩ : ByteArray), false)) rfl) fun k => if_neg (by simpa using hk2)
  ·rw [if_neg fun h => hc h.1]
   exact Ev.congr (Ev.const (o := some ((⟨#[]⟩ : ByteArray), false)) rfl) fun k => if_neg (by simpa using hc)
theorem implTakeCell_ev (s : ByteArray) (a : Int) (hs : s.size ≤ 1048576) : Ev (fun k => impl_TakeCell.f k s a) (TakeCellR s a) := by
 refine Ev.bind (f := fun k (t101 : Bool) => (if t101 = true then ((impl_read.f s).bind fun bt102 => (if 0 ≤ a then (if a < (bt102.2.2.length : Int) then (impl_TakeCell.j0 k s a ((rd bt102.2.2 a) != 111)) else (none)) else (none))) else (impl_TakeCell.j0 k s a true))) (isFormCell_ev s hs a) ?_
 have hno : Ev (fun k => impl_TakeCell.j0 k s a true) ((⟨#[]⟩ : ByteArray), false) := Ev.step (Ev.const (o := some ((⟨#[]⟩ : ByteArray), false)) rfl) fun k => by rw [impl_TakeCell.j0, if_pos rfl]
 unfold TakeCellR
 rcases hf : formOf s with _ | u
 ·exact Ev.congr hno fun k => if_neg Bool.false_ne_true
 ·obtain ⟨w, h, cs, rfl, hw1, hw, hh1, hh, hs2, hn, hk, ht⟩ := form_parts hf
  have hread := tray_read ht
  show Ev (fun k => if decide (inCells cs a) = true then _ else _) (if _ then _ else _)
  simp only [Int.toNat_natCast]
  by_cases hc : inCells cs a
  ·have hin := hc
   unfold inCells at hin
   refine Ev.congr (g' := fun k => impl_TakeCell.j0 k s a ((rd cs a) != 111)) ?_ fun k => by rw [if_pos (decide_eq_true hc), hread, Option.bind_some, if_pos hin.1, if_pos hin.2]
   by_cases h111 : rd cs a = 111
   ·rw [show (rd cs a != 111) = false from by rw [h111]; rfl]
    have ho2 := set_open (form_open hk) a.toNat 46 (Or.inl rfl)
    have hn2 : (cs.set a.toNat 46).length = w * h := by rw [List.length_set]; exact hn
    have hc2 : inCells (cs.set a.toNat 46) a := by unfold inCells; rw [List.length_set]; exact hin
    have hif := isForm_tx (cs := cs.set a.toNat 46) hw1 hw hh1 hh hs2 hn2 ho2
    have htv := text_val w h (cs.set a.toNat 46) hw1 hh1 hs2 hn2
    have hadd := added_ev (cs := cs.set a.toNat 46) hw hh hs2 hn2 a hc2
    refine Ev.step (g' := fun k => (impl_IsForm.f k (tx (cs.set a.toNat 46) w h)).bind fun t120 => (if t120 = true then ((impl_tray_added.f k w h (cs.set a.toNat 46) a).bind fun t121 => (if t121.toList = ([] : List UInt8) then (some ((⟨#[]⟩ : ByteArray), false)) else (some (tx (cs.set a.toNat 46) w h, true)))) else (some ((⟨#[]⟩ : ByteArray), false)))) ?_ fun k => ?_
    ·refine Ev.bind (f := fun k (t120 : Bool) => (if t120 = true then ((impl_tray_added.f k w h (cs.set a.toNat 46) a).bind fun t121 => (if t121.toList = ([] : List UInt8) then (some ((⟨#[]⟩ : ByteArray), false)) else (some (tx (cs.set a.toNat 46) w h, true)))) else (some ((⟨#[]⟩ : ByteArray), false)))) hif ?_
     by_cases hb3 : isB3 w h (cs.set a.toNat 46)
     ·refine Ev.congr (Ev.bind (f := fun _ (t121 : ByteArray) => (if t121.toList = ([] : List UInt8) then (some ((⟨#[]⟩ : ByteArray), false)) else (some (tx (cs.set a.toNat 46) w h, true)))) hadd (Ev.const ?_)) fun k => if_pos (decide_eq_true hb3)
      by_cases hway : wayB w h (cs.set a.toNat 46) a = true
      ·rw [if_pos (show inCells cs a ∧ takeOK w h cs a from ⟨hc, h111, hb3, hway⟩), if_neg fun e : (strOfNums (addedR w h (cs.set a.toNat 46) a)).toList = [] => (wayB_added hin.1).1 hway ((added_empty _).1 e)]
      ·rw [if_neg fun q : inCells cs a ∧ takeOK w h cs a => hway q.2.2.2, if_pos (show (strOfNums (addedR w h (cs.set a.toNat 46) a)).toList = [] from (added_empty _).2 (Classical.byContradiction fun q => hway ((wayB_added hin.1).2 q)))]
     ·rw [if_neg fun h => hb3 h.2.2.1]
      exact Ev.congr (Ev.const (o := some ((⟨#[]⟩ : ByteArray), false)) rfl) fun k => if_neg (by rw [decide_eq_true_eq]; exact hb3)
    ·rw [impl_TakeCell.j0, if_neg Bool.false_ne_true, hread, Option.bind_some]
     show (impl_tray_with.f w h cs a 46).bind _ = _
     rw [with_eq w h cs a 46 hc (by rw [hn]; exact hs2), Option.bind_some]
     show (impl_tray_text.f w h (cs.set a.toNat 46)).bind _ = _
     rw [htv, Option.bind_some]
     rfl
   ·rw [if_neg fun h => h111 h.2.1, show (rd cs a != 111) = true from bne_iff_ne.2 h111]
    exact hno
  ·rw [if_neg fun h => hc h.1]
   exact Ev.congr hno fun k => if_neg (by simpa using hc)
theorem lawTakeCell_ev (s : ByteArray) (a : Int) : Ev (fun k => laws_FnExactTakeCell.f k s a) true := by
 by_cases hs : s.size ≤ 1048576
 case neg =>
  refine Ev.congr (Ev.const (o := some true) rfl) fun k => ?_
  unfold laws_FnExactTakeCell.f
  exact if_pos (by omega)
 have hsp := specTakeCell_ev s a
 have him := implTakeCell_ev s a hs
 refine Ev.congr (Ev.bind (f := fun k (bt101 : ByteArray × Bool) => ((impl_TakeCell.f k s a).bind fun bt103 => (if bt103.1.toList = bt101.1.toList then (if (bt103.2 != bt101.2) = true then (some false) else (some true)) else (some false)))) hsp (Ev.bind (f := fun _ (bt103 : ByteArray × Bool) => (if bt103.1.toList = (TakeCellR s a).1.toList then (if (bt103.2 != (TakeCellR s a).2) = true then (some false) else (some true)) else (some false))) him (Ev.const ?_))) fun k => by unfold laws_FnExactTakeCell.f; rw [if_neg (by omega)]
 rw [if_pos rfl, bne_self_eq_false, if_neg (by decide)]
end Go.Proofs.YtbplbbialcbceaaDoor.Q
end
