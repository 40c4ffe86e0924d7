/- Texts of this claim, joined. -/
import Derived.Test.YtchkmhbngbgjnaaGreatDoorJShortestWord01
import Derived.Test.YtchkmhbngbgjnaaGreatDoorJShortestWord05
import Derived.Test.YtchkmhbngbgjnaaGreatDoorJShortestWord07
set_option linter.unusedVariables false
set_option linter.unusedSimpArgs false
set_option linter.unusedSectionVars false
section
namespace Go.Proofs.YtchkmhbngbgjnaaGreatDoor.Q
open Go.RowKit Go.Proofs.YtchkmhbngbgjnaaGreatDoorW.PrintWords Go.Proofs.YtchkmhbngbgjnaaGreatDoorW.PrintLast Go.Proofs.YtchkmhbngbgjnaaGreatDoorW.PrintMore
attribute [local go_sem] max2_int min2_int max_two min_two max_three min_three max_four min_four
set_option linter.unusedVariables false
set_option linter.unusedSimpArgs false
def impl_IsReached.f (k : Nat) (a0 : ByteArray) (a1 : ByteArray) : Option (Bool × Bool) := (impl_reachOf.f k a0).bind fun bt101 => (if bt101.2.2.2.2 = true then ((impl_IsTray.f k a1).bind fun t115 => (if t115 = true then ((impl_reach_to.f k bt101.1 bt101.2.1 bt101.2.2.1 bt101.2.2.2.1 a1).bind fun t116 => (some (decide (t116 ≥ 0), true))) else (some (false, false)))) else (some (false, false)))
set_option maxHeartbeats 8000000 in
set_option maxRecDepth 100000 in
theorem impl_IsReached.calls (k : Nat) (a0 : ByteArray) (a1 : ByteArray) (r1 : Bool) (r2 : Bool) (w : World) (hG : GoodW w) (h : impl_IsReached.f k a0 a1 = some (r1, r2)) :
  Calls Tryz.prog 17 #[.string a0, .string a1] w fun e w' => e = .returned (.tuple #[.bool r1, .bool r2]) ∧ Below w.heap.size w w' := by
 have hu51 := Tryz.underlying51
 have HG := Aside0.mk hG
 clear hG
 have HB := Aside0.mk (Below.refl w.heap.size w)
 have H : ((impl_reachOf.f k a0).bind fun bt101 => (if bt101.2.2.2.2 = true then ((impl_IsTray.f k a1).bind fun t115 => (if t115 = true then ((impl_reach_to.f k bt101.1 bt101.2.1 bt101.2.2.1 bt101.2.2.2.1 a1).bind fun t116 => (some (decide (t116 ≥ 0), true))) else (some (false, false)))) else (some (false, false)))) = some (r1, r2) := h
 clear h
 replace H := Option.bind_eq_some_iff.mp H
 obtain ⟨⟨t101, t104, t107, t110, t113⟩, A30, H⟩ := H
 replace H : (if t113 = true then ((impl_IsTray.f k a1).bind fun t115 => (if t115 = true then ((impl_reach_to.f k t101 t104 t107 t110 a1).bind fun t116 => (some (decide (t116 ≥ 0), true))) else (some (false, false)))) else (some (false, false))) = some (r1, r2) := H
 have A3 := Aside0.mk A30
 clear A30
 by_cases c4 : t113 = true
 ·subst c4
  have H1 : ((impl_IsTray.f k a1).bind fun t115 => (if t115 = true then ((impl_reach_to.f k t101 t104 t107 t110 a1).bind fun t116 => (some (decide (t116 ≥ 0), true))) else (some (false, false)))) = some (r1, r2) := by rw [if_pos rfl] at H; exact H
  clear H
  have H := H1
  clear H1
  replace H := Option.bind_eq_some_iff.mp H
  obtain ⟨t115, A50, H⟩ := H
  replace H : (if t115 = true then ((impl_reach_to.f k t101 t104 t107 t110 a1).bind fun t116 => (some (decide (t116 ≥ 0), true))) else (some (false, false))) = some (r1, r2) := H
  have A5 := Aside0.mk A50
  clear A50
  by_cases c6 : t115 = true
  ·subst c6
   have H1 : ((impl_reach_to.f k t101 t104 t107 t110 a1).bind fun t116 => (some (decide (t116 ≥ 0), true))) = some (r1, r2) := by rw [if_pos rfl] at H; exact H
   clear H
   have H := H1
   clear H1
   replace H := Option.bind_eq_some_iff.mp H
   obtain ⟨t116, A70, H⟩ := H
   replace H : (some (decide (t116 ≥ 0), true)) = some (r1, r2) := H
   have A7 := Aside0.mk A70
   clear A70
   simp only [Option.some.injEq, Prod.mk.injEq] at H
   obtain ⟨rfl, rfl⟩ := H
   go_enter Tryz.func17, Tryz.ntmps17
   go_wp2_with (first | ((with_reducible refine gate_callee (f := 31) rfl ?_); refine gcall (some 10) Tryz.func31 #[.string a0] rfl ?_; (with_reducible refine (impl_reachOf.calls k a0 t101 t104 t107 t110 true _ ?side1 A3.out).mono ?_); (case side1 => (refine GoodW.below HG.out ?_); exact bel HB); rintro e w8 ⟨v102, v105, v108, v111, rfl, ho0, ho1, ho2, ho3, hb⟩; refine ⟨_, rfl, ?_⟩; have n0_ := Aside0.mk (Kd.R_lower ho0 (below_size (bel HB))); have n1_ := Aside0.mk (Kd.R_lower ho1 (below_size (bel HB))); have n2_ := Aside0.mk (Kd.S_lower ho2 (below_size (bel HB))); have n3_ := Aside0.mk (Kd.R_lower ho3 (below_size (bel HB))); have n4_ := Aside0.mk (below_step (bel HB) hb); clear HB; have HO103 := n0_; have HO106 := n1_; have HO109 := n2_; have HO112 := n3_; have HB := n4_; clear n0_ n1_ n2_ n3_ n4_; (try clear hb); (try clear hb2); (try clear hk); (try clear hi); (try clear ho0); (try clear ho1); (try clear ho2); (try clear ho3)) | ((with_reducible refine gate_dst (N := 6) rfl ?_); refine boxE (N := 6) (cs := #[.slice none 0 0, .slice none 0 0, .slice none 0 0, .slice none 0 0]) (t := 51) ?_; intro gb114 hg w9 hbox hb; have n0_ := Aside0.mk (Kd.R_below (rch HO103) hb); have n1_ := Aside0.mk (Kd.R_below (rch HO106) hb); have n2_ := Aside0.mk (Kd.S_below (by (with_reducible repeat (first | apply Kd.S_alloc | apply Kd.S_drewN | apply Kd.S_drew)); (first | exact HO109.out | exact R_any HO109.out)) hb); have n3_ := Aside0.mk (Kd.R_below (rch HO112) hb); have n4_ := Aside0.mk (below_step (bel HB) hb); have n5_ := Aside0.mk (hbox); have n6_ := Aside0.mk (gsz hg (bel HB)); have n7_ := Aside0.mk (gsz hg (bel HB)); clear HO103; clear HO106; clear HO109; clear HO112; clear HB; have HO103 := n0_; have HO106 := n1_; have HO109 := n2_; have HO112 := n3_; have HB := n4_; have BK114 := n5_; have GW114 := n6_; have GE114 := n7_; clear n0_ n1_ n2_ n3_ n4_ n5_ n6_ n7_; clear hb hbox hg; obtain ⟨Ao10, co10, eo10⟩ := Kd.R_slice HO103.out; subst eo10; have hcz11_0 : w9.cell? ⟨gb114, 0, none⟩ = some (.slice none 0 0) := (blk_cell BK114.out 0).trans rfl; have hcz11_1 : w9.cell? ⟨gb114, 1, none⟩ = some (.slice none 0 0) := (blk_cell BK114.out 1).trans rfl; have hcz11_2 : w9.cell? ⟨gb114, 2, none⟩ = some (.slice none 0 0) := (blk_cell BK114.out 2).trans rfl; have hcz11_3 : w9.cell? ⟨gb114, 3, none⟩ = some (.slice none 0 0) := (blk_cell BK114.out 3).trans rfl; have hfz11_0 := blk_frozen BK114.out 0; have hfz11_1 := blk_frozen BK114.out 1; have hfz11_2 := blk_frozen BK114.out 2; have hfz11_3 := blk_frozen BK114.out 3; obtain ⟨Ao12, co12, eo12⟩ := Kd.R_slice HO106.out; subst eo12; obtain ⟨Ao13, co13, eo13⟩ := Kd.S_slice HO109.out; subst eo13; obtain ⟨Ao14, co14, eo14⟩ := Kd.R_slice HO112.out; subst eo14) | (go_at_call 34; (with_reducible refine (impl_IsTray.calls k a1 true _ ?side1 A5.out).mono ?_); (case side1 => (refine GoodW.below HG.out ?_); exact bel HB); rintro e w15 ⟨rfl, hb⟩; have n0_ := Aside0.mk (Kd.R_below (by (with_reducible repeat (first | apply Kd.R_alloc | apply Kd.R_drewN | apply Kd.R_drew)); exact (Kd.R_mono (Kd.R_far (p := ⟨gb114, 3, none⟩) (Kd.R_far (p := ⟨gb114, 2, none⟩) (Kd.R_far (p := ⟨gb114, 1, none⟩) (Kd.R_far (p := ⟨gb114, 0, none⟩) (Kd.R_types HO103.out BK114.out (by decide)) (fun _ hk => hk.2) (.slice Ao10 t101.length co10)) (fun _ hk => hk.2) (.slice Ao12 t104.length co12)) (fun _ hk => hk.2) (.slice Ao13 t107.length co13)) (fun _ hk => hk.2) (.slice Ao14 t110.length co14)) (fun _ h_ => h_.1))) hb); have n1_ := Aside0.mk (Kd.R_below (by (with_reducible repeat (first | apply Kd.R_alloc | apply Kd.R_drewN | apply Kd.R_drew)); exact (Kd.R_mono (Kd.R_far (p := ⟨gb114, 3, none⟩) (Kd.R_far (p := ⟨gb114, 2, none⟩) (Kd.R_far (p := ⟨gb114, 1, none⟩) (Kd.R_far (p := ⟨gb114, 0, none⟩) (Kd.R_types HO106.out BK114.out (by decide)) (fun _ hk => hk.2) (.slice Ao10 t101.length co10)) (fun _ hk => hk.2) (.slice Ao12 t104.length co12)) (fun _ hk => hk.2) (.slice Ao13 t107.length co13)) (fun _ hk => hk.2) (.slice Ao14 t110.length co14)) (fun _ h_ => h_.1))) hb); have n2_ := Aside0.mk (Kd.S_below (by (with_reducible repeat (first | apply Kd.S_alloc | apply Kd.S_drewN | apply Kd.S_drew)); exact (Kd.S_mono (Kd.S_far (p := ⟨gb114, 3, none⟩) (Kd.S_far (p := ⟨gb114, 2, none⟩) (Kd.S_far (p := ⟨gb114, 1, none⟩) (Kd.S_far (p := ⟨gb114, 0, none⟩) (Kd.S_types HO109.out BK114.out (by decide)) (fun _ hk => hk.2) (.slice Ao10 t101.length co10)) (fun _ hk => hk.2) (.slice Ao12 t104.length co12)) (fun _ hk => hk.2) (.slice Ao13 t107.length co13)) (fun _ hk => hk.2) (.slice Ao14 t110.length co14)) (fun _ h_ => h_.1))) hb); have n3_ := Aside0.mk (Kd.R_below (by (with_reducible repeat (first | apply Kd.R_alloc | apply Kd.R_drewN | apply Kd.R_drew)); exact (Kd.R_mono (Kd.R_far (p := ⟨gb114, 3, none⟩) (Kd.R_far (p := ⟨gb114, 2, none⟩) (Kd.R_far (p := ⟨gb114, 1, none⟩) (Kd.R_far (p := ⟨gb114, 0, none⟩) (Kd.R_types HO112.out BK114.out (by decide)) (fun _ hk => hk.2) (.slice Ao10 t101.length co10)) (fun _ hk => hk.2) (.slice Ao12 t104.length co12)) (fun _ hk => hk.2) (.slice Ao13 t107.length co13)) (fun _ hk => hk.2) (.slice Ao14 t110.length co14)) (fun _ h_ => h_.1))) hb); have n4_ := Aside0.mk (blk_below (g := gb114) (o := .cells #[.slice Ao10 t101.length co10, .slice Ao12 t104.length co12, .slice Ao13 t107.length co13, .slice Ao14 t110.length co14] 51 (0, 0)) (by (with_reducible repeat (first | refine blk_drewN ?_ _ | refine blk_drew ?_ | refine blk_alloc ?_ _)); refine blk_put (cs := #[.slice Ao10 t101.length co10, .slice Ao12 t104.length co12, .slice Ao13 t107.length co13, .slice none 0 0]) ?_ 3 _ rfl; (with_reducible repeat (first | refine blk_drewN ?_ _ | refine blk_drew ?_ | refine blk_alloc ?_ _)); refine blk_put (cs := #[.slice Ao10 t101.length co10, .slice Ao12 t104.length co12, .slice none 0 0, .slice none 0 0]) ?_ 2 _ rfl; (with_reducible repeat (first | refine blk_drewN ?_ _ | refine blk_drew ?_ | refine blk_alloc ?_ _)); refine blk_put (cs := #[.slice Ao10 t101.length co10, .slice none 0 0, .slice none 0 0, .slice none 0 0]) ?_ 1 _ rfl; (with_reducible repeat (first | refine blk_drewN ?_ _ | refine blk_drew ?_ | refine blk_alloc ?_ _)); refine blk_put (cs := #[.slice none 0 0, .slice none 0 0, .slice none 0 0, .slice none 0 0]) ?_ 0 _ rfl; exact blc) hb); have n5_ := Aside0.mk (below_step (bel HB) hb); clear HO103; clear HO106; clear HO109; clear HO112; clear BK114; clear HB; have HO103 := n0_; have HO106 := n1_; have HO109 := n2_; have HO112 := n3_; have BK114 := n4_; have HB := n5_; clear n0_ n1_ n2_ n3_ n4_ n5_; (try clear hb); (try clear hb2); (try clear hk); (try clear hi); have hcz16_0 : w15.cell? ⟨gb114, 0, none⟩ = some (.slice Ao10 t101.length co10) := (blk_cell BK114.out 0).trans rfl; have hcz16_1 : w15.cell? ⟨gb114, 1, none⟩ = some (.slice Ao12 t104.length co12) := (blk_cell BK114.out 1).trans rfl; have hcz16_2 : w15.cell? ⟨gb114, 2, none⟩ = some (.slice Ao13 t107.length co13) := (blk_cell BK114.out 2).trans rfl; have hcz16_3 : w15.cell? ⟨gb114, 3, none⟩ = some (.slice Ao14 t110.length co14) := (blk_cell BK114.out 3).trans rfl; have hfz16_0 := blk_frozen BK114.out 0; have hfz16_1 := blk_frozen BK114.out 1; have hfz16_2 := blk_frozen BK114.out 2; have hfz16_3 := blk_frozen BK114.out 3) | ((with_reducible refine gate_callee (f := 35) rfl ?_); refine gcall (some 22) Tryz.func35 #[.agg #[.slice Ao10 t101.length co10, .slice Ao12 t104.length co12, .slice Ao13 t107.length co13, .slice Ao14 t110.length co14], .string a1] rfl ?_; (with_reducible refine (impl_reach_to.calls k _ _ t101 _ _ t104 _ _ t107 _ _ t110 a1 t116 _ ?side1 ?side2 ?side3 ?side4 ?side5 ?side6 ?side7 ?side8 A7.out).mono ?_); (case side1 => repeat (first | exact (Kd.R_reads' HO103.out).2.2 | (with_reducible refine Kd.C_alloc ?_ _) | (with_reducible refine Kd.C_drewN ?_ _) | (with_reducible refine Kd.C_drew ?_))); (case side2 => exact (Kd.R_reads' HO103.out).2.1); (case side3 => repeat (first | exact (Kd.R_reads' HO106.out).2.2 | (with_reducible refine Kd.C_alloc ?_ _) | (with_reducible refine Kd.C_drewN ?_ _) | (with_reducible refine Kd.C_drew ?_))); (case side4 => exact (Kd.R_reads' HO106.out).2.1); (case side5 => repeat (first | exact (Kd.S_reads' HO109.out).2.2 | (with_reducible refine Kd.C_alloc ?_ _) | (with_reducible refine Kd.C_drewN ?_ _) | (with_reducible refine Kd.C_drew ?_))); (case side6 => exact (Kd.S_reads' HO109.out).2.1); (case side7 => repeat (first | exact (Kd.R_reads' HO112.out).2.2 | (with_reducible refine Kd.C_alloc ?_ _) | (with_reducible refine Kd.C_drewN ?_ _) | (with_reducible refine Kd.C_drew ?_))); (case side8 => exact (Kd.R_reads' HO112.out).2.1); rintro e w17 ⟨rfl, hb⟩; refine ⟨_, rfl, ?_⟩; have n0_ := Aside0.mk (Kd.R_below (rch HO103) hb); have n1_ := Aside0.mk (Kd.R_below (rch HO106) hb); have n2_ := Aside0.mk (Kd.S_below (by (with_reducible repeat (first | apply Kd.S_alloc | apply Kd.S_drewN | apply Kd.S_drew)); (first | exact HO109.out | exact R_any HO109.out)) hb); have n3_ := Aside0.mk (Kd.R_below (rch HO112) hb); have n4_ := Aside0.mk (blk_below (g := gb114) (o := .cells #[.slice Ao10 t101.length co10, .slice Ao12 t104.length co12, .slice Ao13 t107.length co13, .slice Ao14 t110.length co14] 51 (0, 0)) blc hb); have n5_ := Aside0.mk (below_step (bel HB) hb); clear HO103; clear HO106; clear HO109; clear HO112; clear BK114; clear HB; have HO103 := n0_; have HO106 := n1_; have HO109 := n2_; have HO112 := n3_; have BK114 := n4_; have HB := n5_; clear n0_ n1_ n2_ n3_ n4_ n5_; (try clear hb); (try clear hb2); (try clear hk); (try clear hi)))
   go_ret2
   exact ⟨by first | rfl | (simp [errW_none, errW_some] <;> rfl) | (simp [*, errW_none, errW_some] <;> rfl), bel HB⟩
  ·replace c6 := Bool.eq_false_iff.mpr c6
   subst c6
   have H1 : (some (false, false)) = some (r1, r2) := by rw [if_neg (show ¬ (false = true) by decide)] at H; exact H
   clear H
   have H := H1
   clear H1
   simp only [Option.some.injEq, Prod.mk.injEq] at H
   obtain ⟨rfl, rfl⟩ := H
   go_enter Tryz.func17, Tryz.ntmps17
   go_wp2_with (first | ((with_reducible refine gate_callee (f := 31) rfl ?_); refine gcall (some 10) Tryz.func31 #[.string a0] rfl ?_; (with_reducible refine (impl_reachOf.calls k a0 t101 t104 t107 t110 true _ ?side1 A3.out).mono ?_); (case side1 => (refine GoodW.below HG.out ?_); exact bel HB); rintro e w18 ⟨v102, v105, v108, v111, rfl, ho0, ho1, ho2, ho3, hb⟩; refine ⟨_, rfl, ?_⟩; have n0_ := Aside0.mk (Kd.R_lower ho0 (below_size (bel HB))); have n1_ := Aside0.mk (Kd.R_lower ho1 (below_size (bel HB))); have n2_ := Aside0.mk (Kd.S_lower ho2 (below_size (bel HB))); have n3_ := Aside0.mk (Kd.R_lower ho3 (below_size (bel HB))); have n4_ := Aside0.mk (below_step (bel HB) hb); clear HB; have HO103 := n0_; have HO106 := n1_; have HO109 := n2_; have HO112 := n3_; have HB := n4_; clear n0_ n1_ n2_ n3_ n4_; (try clear hb); (try clear hb2); (try clear hk); (try clear hi); (try clear ho0); (try clear ho1); (try clear ho2); (try clear ho3)) | ((with_reducible refine gate_dst (N := 6) rfl ?_); refine boxE (N := 6) (cs := #[.slice none 0 0, .slice none 0 0, .slice none 0 0, .slice none 0 0]) (t := 51) ?_; intro gb114 hg w19 hbox hb; have n0_ := Aside0.mk (Kd.R_below (rch HO103) hb); have n1_ := Aside0.mk (Kd.R_below (rch HO106) hb); have n2_ := Aside0.mk (Kd.S_below (by (with_reducible repeat (first | apply Kd.S_alloc | apply Kd.S_drewN | apply Kd.S_drew)); (first | exact HO109.out | exact R_any HO109.out)) hb); have n3_ := Aside0.mk (Kd.R_below (rch HO112) hb); have n4_ := Aside0.mk (below_step (bel HB) hb); have n5_ := Aside0.mk (hbox); have n6_ := Aside0.mk (gsz hg (bel HB)); have n7_ := Aside0.mk (gsz hg (bel HB)); clear HO103; clear HO106; clear HO109; clear HO112; clear HB; have HO103 := n0_; have HO106 := n1_; have HO109 := n2_; have HO112 := n3_; have HB := n4_; have BK114 := n5_; have GW114 := n6_; have GE114 := n7_; clear n0_ n1_ n2_ n3_ n4_ n5_ n6_ n7_; clear hb hbox hg; obtain ⟨Ao20, co20, eo20⟩ := Kd.R_slice HO103.out; subst eo20; have hcz21_0 : w19.cell? ⟨gb114, 0, none⟩ = some (.slice none 0 0) := (blk_cell BK114.out 0).trans rfl; have hcz21_1 : w19.cell? ⟨gb114, 1, none⟩ = some (.slice none 0 0) := (blk_cell BK114.out 1).trans rfl; have hcz21_2 : w19.cell? ⟨gb114, 2, none⟩ = some (.slice none 0 0) := (blk_cell BK114.out 2).trans rfl; have hcz21_3 : w19.cell? ⟨gb114, 3, none⟩ = some (.slice none 0 0) := (blk_cell BK114.out 3).trans rfl; have hfz21_0 := blk_frozen BK114.out 0; have hfz21_1 := blk_frozen BK114.out 1; have hfz21_2 := blk_frozen BK114.out 2; have hfz21_3 := blk_frozen BK114.out 3; obtain ⟨Ao22, co22, eo22⟩ := Kd.R_slice HO106.out; subst eo22; obtain ⟨Ao23, co23, eo23⟩ := Kd.S_slice HO109.out; subst eo23; obtain ⟨Ao24, co24, eo24⟩ := Kd.R_slice HO112.out; subst eo24) | (go_at_call 34; (with_reducible refine (impl_IsTray.calls k a1 false _ ?side1 A5.out).mono ?_); (case side1 => (refine GoodW.below HG.out ?_); exact bel HB); rintro e w25 ⟨rfl, hb⟩; have n0_ := Aside0.mk (Kd.R_below (by (with_reducible repeat (first | apply Kd.R_alloc | apply Kd.R_drewN | apply Kd.R_drew)); exact (Kd.R_mono (Kd.R_far (p := ⟨gb114, 3, none⟩) (Kd.R_far (p := ⟨gb114, 2, none⟩) (Kd.R_far (p := ⟨gb114, 1, none⟩) (Kd.R_far (p := ⟨gb114, 0, none⟩) (Kd.R_types HO103.out BK114.out (by decide)) (fun _ hk => hk.2) (.slice Ao20 t101.length co20)) (fun _ hk => hk.2) (.slice Ao22 t104.length co22)) (fun _ hk => hk.2) (.slice Ao23 t107.length co23)) (fun _ hk => hk.2) (.slice Ao24 t110.length co24)) (fun _ h_ => h_.1))) hb); have n1_ := Aside0.mk (Kd.R_below (by (with_reducible repeat (first | apply Kd.R_alloc | apply Kd.R_drewN | apply Kd.R_drew)); exact (Kd.R_mono (Kd.R_far (p := ⟨gb114, 3, none⟩) (Kd.R_far (p := ⟨gb114, 2, none⟩) (Kd.R_far (p := ⟨gb114, 1, none⟩) (Kd.R_far (p := ⟨gb114, 0, none⟩) (Kd.R_types HO106.out BK114.out (by decide)) (fun _ hk => hk.2) (.slice Ao20 t101.length co20)) (fun _ hk => hk.2) (.slice Ao22 t104.length co22)) (fun _ hk => hk.2) (.slice Ao23 t107.length co23)) (fun _ hk => hk.2) (.slice Ao24 t110.length co24)) (fun _ h_ => h_.1))) hb); have n2_ := Aside0.mk (Kd.S_below (by (with_reducible repeat (first | apply Kd.S_alloc | apply Kd.S_drewN | apply Kd.S_drew)); exact (Kd.S_mono (Kd.S_far (p := ⟨gb114, 3, none⟩) (Kd.S_far (p := ⟨gb114, 2, none⟩) (Kd.S_far (p := ⟨gb114, 1, none⟩) (Kd.S_far (p := ⟨gb114, 0, none⟩) (Kd.S_types HO109.out BK114.out (by decide)) (fun _ hk => hk.2) (.slice Ao20 t101.length co20)) (fun _ hk => hk.2) (.slice Ao22 t104.length co22)) (fun _ hk => hk.2) (.slice Ao23 t107.length co23)) (fun _ hk => hk.2) (.slice Ao24 t110.length co24)) (fun _ h_ => h_.1))) hb); have n3_ := Aside0.mk (Kd.R_below (by (with_reducible repeat (first | apply Kd.R_alloc | apply Kd.R_drewN | apply Kd.R_drew)); exact (Kd.R_mono (Kd.R_far (p := ⟨gb114, 3, none⟩) (Kd.R_far (p := ⟨gb114, 2, none⟩) (Kd.R_far (p := ⟨gb114, 1, none⟩) (Kd.R_far (p := ⟨gb114, 0, none⟩) (Kd.R_types HO112.out BK114.out (by decide)) (fun _ hk => hk.2) (.slice Ao20 t101.length co20)) (fun _ hk => hk.2) (.slice Ao22 t104.length co22)) (fun _ hk => hk.2) (.slice Ao23 t107.length co23)) (fun _ hk => hk.2) (.slice Ao24 t110.length co24)) (fun _ h_ => h_.1))) hb); have n4_ := Aside0.mk (blk_below (g := gb114) (o := .cells #[.slice Ao20 t101.length co20, .slice Ao22 t104.length co22, .slice Ao23 t107.length co23, .slice Ao24 t110.length co24] 51 (0, 0)) (by (with_reducible repeat (first | refine blk_drewN ?_ _ | refine blk_drew ?_ | refine blk_alloc ?_ _)); refine blk_put (cs := #[.slice Ao20 t101.length co20, .slice Ao22 t104.length co22, .slice Ao23 t107.length co23, .slice none 0 0]) ?_ 3 _ rfl; (with_reducible repeat (first | refine blk_drewN ?_ _ | refine blk_drew ?_ | refine blk_alloc ?_ _)); refine blk_put (cs := #[.slice Ao20 t101.length co20, .slice Ao22 t104.length co22, .slice none 0 0, .slice none 0 0]) ?_ 2 _ rfl; (with_reducible repeat (first | refine blk_drewN ?_ _ | refine blk_drew ?_ | refine blk_alloc ?_ _)); refine blk_put (cs := #[.slice Ao20 t101.length co20, .slice none 0 0, .slice none 0 0, .slice none 0 0]) ?_ 1 _ rfl; (with_reducible repeat (first | refine blk_drewN ?_ _ | refine blk_drew ?_ | refine blk_alloc ?_ _)); refine blk_put (cs := #[.slice none 0 0, .slice none 0 0, .slice none 0 0, .slice none 0 0]) ?_ 0 _ rfl; exact blc) hb); have n5_ := Aside0.mk (below_step (bel HB) hb); clear HO103; clear HO106; clear HO109; clear HO112; clear BK114; clear HB; have HO103 := n0_; have HO106 := n1_; have HO109 := n2_; have HO112 := n3_; have BK114 := n4_; have HB := n5_; clear n0_ n1_ n2_ n3_ n4_ n5_; (try clear hb); (try clear hb2); (try clear hk); (try clear hi)))
   go_ret2
   exact ⟨by first | rfl | (simp [errW_none, errW_some] <;> rfl) | (simp [*, errW_none, errW_some] <;> rfl), bel HB⟩
 ·replace c4 := Bool.eq_false_iff.mpr c4
  subst c4
  have H1 : (some (false, false)) = some (r1, r2) := by rw [if_neg (show ¬ (false = true) by decide)] at H; exact H
  clear H
  have H := H1
  clear H1
  simp only [Option.some.injEq, Prod.mk.injEq] at H
  obtain ⟨rfl, rfl⟩ := H
  go_enter Tryz.func17, Tryz.ntmps17
  go_wp2_with (first | ((with_reducible refine gate_callee (f := 31) rfl ?_); refine gcall (some 10) Tryz.func31 #[.string a0] rfl ?_; (with_reducible refine (impl_reachOf.calls k a0 t101 t104 t107 t110 false _ ?side1 A3.out).mono ?_); (case side1 => (refine GoodW.below HG.out ?_); exact bel HB); rintro e w26 ⟨v102, v105, v108, v111, rfl, ho0, ho1, ho2, ho3, hb⟩; refine ⟨_, rfl, ?_⟩; have n0_ := Aside0.mk (Kd.R_lower ho0 (below_size (bel HB))); have n1_ := Aside0.mk (Kd.R_lower ho1 (below_size (bel HB))); have n2_ := Aside0.mk (Kd.S_lower ho2 (below_size (bel HB))); have n3_ := Aside0.mk (Kd.R_lower ho3 (below_size (bel HB))); have n4_ := Aside0.mk (below_step (bel HB) hb); clear HB; have HO103 := n0_; have HO106 := n1_; have HO109 := n2_; have HO112 := n3_; have HB := n4_; clear n0_ n1_ n2_ n3_ n4_; (try clear hb); (try clear hb2); (try clear hk); (try clear hi); (try clear ho0); (try clear ho1); (try clear ho2); (try clear ho3)) | ((with_reducible refine gate_dst (N := 6) rfl ?_); refine boxE (N := 6) (cs := #[.slice none 0 0, .slice none 0 0, .slice none 0 0, .slice none 0 0]) (t := 51) ?_; intro gb114 hg w27 hbox hb; have n0_ := Aside0.mk (Kd.R_below (rch HO103) hb); have n1_ := Aside0.mk (Kd.R_below (rch HO106) hb); have n2_ := Aside0.mk (Kd.S_below (by (with_reducible repeat (first | apply Kd.S_alloc | apply Kd.S_drewN | apply Kd.S_drew)); (first | exact HO109.out | exact R_any HO109.out)) hb); have n3_ := Aside0.mk (Kd.R_below (rch HO112) hb); have n4_ := Aside0.mk (below_step (bel HB) hb); have n5_ := Aside0.mk (hbox); have n6_ := Aside0.mk (gsz hg (bel HB)); have n7_ := Aside0.mk (gsz hg (bel HB)); clear HO103; clear HO106; clear HO109; clear HO112; clear HB; have HO103 := n0_; have HO106 := n1_; have HO109 := n2_; have HO112 := n3_; have HB := n4_; have BK114 := n5_; have GW114 := n6_; have GE114 := n7_; clear n0_ n1_ n2_ n3_ n4_ n5_ n6_ n7_; clear hb hbox hg; obtain ⟨Ao28, co28, eo28⟩ := Kd.R_slice HO103.out; subst eo28; have hcz29_0 : w27.cell? ⟨gb114, 0, none⟩ = some (.slice none 0 0) := (blk_cell BK114.out 0).trans rfl; have hcz29_1 : w27.cell? ⟨gb114, 1, none⟩ = some (.slice none 0 0) := (blk_cell BK114.out 1).trans rfl; have hcz29_2 : w27.cell? ⟨gb114, 2, none⟩ = some (.slice none 0 0) := (blk_cell BK114.out 2).trans rfl; have hcz29_3 : w27.cell? ⟨gb114, 3, none⟩ = some (.slice none 0 0) := (blk_cell BK114.out 3).trans rfl; have hfz29_0 := blk_frozen BK114.out 0; have hfz29_1 := blk_frozen BK114.out 1; have hfz29_2 := blk_frozen BK114.out 2; have hfz29_3 := blk_frozen BK114.out 3; obtain ⟨Ao30, co30, eo30⟩ := Kd.R_slice HO106.out; subst eo30; obtain ⟨Ao31, co31, eo31⟩ := Kd.S_slice HO109.out; subst eo31; obtain ⟨Ao32, co32, eo32⟩ := Kd.R_slice HO112.out; subst eo32))
  go_ret2
  exact ⟨by first | rfl | (simp [errW_none, errW_some] <;> rfl) | (simp [*, errW_none, errW_some] <;> rfl), bel HB⟩
end Go.Proofs.YtchkmhbngbgjnaaGreatDoor.Q
end
section
namespace Go.Proofs.YtchkmhbngbgjnaaGreatDoor.Q
set_option linter.unusedSectionVars false
open Go.RowKit Go.Proofs.YtchkmhbngbgjnaaGreatDoorW.PrintWords Go.Proofs.YtchkmhbngbgjnaaGreatDoorW.PrintLast Go.Proofs.YtchkmhbngbgjnaaGreatDoorW.PrintMore
open Classical
def IsReachedR (t u : ByteArray) : Bool × Bool := (decide (0 ≤ (reToR t u).2.1), (reToR t u).2.2)
theorem implIsReached_ev (t u : ByteArray) (ht : t.size ≤ 1048576) (hu : u.size ≤ 1048576) : Ev (fun k => impl_IsReached.f k t u) (IsReachedR t u) := by
 refine Ev.bind (f := fun k (bt101 : ReR) => (if bt101.2.2.2.2 = true then ((impl_IsTray.f k u).bind fun t115 => (if t115 = true then ((impl_reach_to.f k bt101.1 bt101.2.1 bt101.2.2.1 bt101.2.2.2.1 u).bind fun t116 => (some (decide (t116 ≥ 0), true))) else (some (false, false)))) else (some (false, false)))) (reachOf_ev t ht) ?_
 rcases found_cases t with ⟨h1, h2⟩ | ⟨w, h, cs, p, H⟩
 ·have e : IsReachedR t u = (false, false) := by
   unfold IsReachedR reToR
   rw [h1]
   rfl
  rw [e, h2]
  exact Ev.congr (Ev.const rfl) fun k => if_neg Bool.false_ne_true
 ·rw [H.prog]
  refine Ev.congr (Ev.bind (f := fun k t115 => (if t115 = true then ((impl_reach_to.f k (txs w h p.1) (fars p.1) (p.2.map casts) (wds p.1) u).bind fun t116 => (some (decide (t116 ≥ 0), true))) else (some (false, false)))) (isTray_ev u hu) ?_) fun k => if_pos rfl
  have hr : ∀ b, (trayOf u).isSome = b → IsReachedR t u = if b = true then (decide (0 ≤ idxT (txs w h p.1) u 0), true) else (false, false) := fun b hb => by
   unfold IsReachedR reToR
   rw [H.all]
   cases b with
   | false => rw [if_pos rfl, if_neg (by rw [hb]; decide)]; rfl
   | true => rw [if_pos rfl, if_pos hb, H.place]; rfl
  cases hb : (trayOf u).isSome with
  | false =>
   rw [hr false hb]
   exact Ev.congr (Ev.const rfl) fun k => if_neg Bool.false_ne_true
  | true =>
   rw [hr true hb]
   exact Ev.congr (Ev.bind (f := fun _ t116 => some (decide (t116 ≥ 0), true)) (to_ev (txs w h p.1) (fars p.1) (p.2.map casts) (wds p.1) u H.tl) (Ev.const rfl)) fun k => if_pos rfl
end Go.Proofs.YtchkmhbngbgjnaaGreatDoor.Q
end
section
namespace Go.Proofs.YtchkmhbngbgjnaaGreatDoor.Q
open Go.RowKit Go.Proofs.YtchkmhbngbgjnaaGreatDoorW.PrintWords Go.Proofs.YtchkmhbngbgjnaaGreatDoorW.PrintLast Go.Proofs.YtchkmhbngbgjnaaGreatDoorW.PrintMore
attribute [local go_sem] max2_int min2_int max_two min_two max_three min_three max_four min_four
set_option linter.unusedVariables false
set_option linter.unusedSimpArgs false
def impl_DistanceTo.f (k : Nat) (a0 : ByteArray) (a1 : ByteArray) : Option (Int × Bool) := (impl_IsReached.f k a0 a1).bind fun bt101 => (if bt101.1 = true then ((impl_reachOf.f k a0).bind fun bt103 => ((impl_reach_to.f k bt103.1 bt103.2.1 bt103.2.2.1 bt103.2.2.2.1 a1).bind fun t117 => (if 0 ≤ t117 then (if t117 < (bt103.2.1.length : Int) then (some (rd bt103.2.1 t117, true)) else (none)) else (none)))) else (some (0, false)))
def impl_DistanceTo.T5 : Bool × List (List Nat × List Nat) := (true, [([], []), ([0], [0]), ([], []), ([], []), ([2, 3], [2, 3]), ([1, 4], [1, 4]), ([5], [5]), ([6, 4, 0, 1, 2, 3, 4, 5, 6], [6]), ([7, 0, 1, 2, 3, 4, 5, 6, 7], [])])
def impl_DistanceTo.B5 : List Nat := [0, 1, 0, 0, 12, 31, 63, 127, 255]
theorem impl_DistanceTo.tab5 : rtab .any (opsOf Tryz.f21 5) = impl_DistanceTo.T5 := by kernel_rfl
theorem impl_DistanceTo.bits5 : waitsOk impl_DistanceTo.T5.2 impl_DistanceTo.B5 = true := by kernel_rfl
set_option maxHeartbeats 8000000 in
set_option maxRecDepth 100000 in
theorem impl_DistanceTo.calls (k : Nat) (a0 : ByteArray) (a1 : ByteArray) (r1 : Int) (r2 : Bool) (w : World) (hG : GoodW w) (h : impl_DistanceTo.f k a0 a1 = some (r1, r2)) :
  Calls Tryz.prog 21 #[.string a0, .string a1] w fun e w' => e = .returned (.tuple #[.int .i64 r1, .bool r2]) ∧ Below w.heap.size w w' := by
 have hu51 := Tryz.underlying51
 have HG := Aside0.mk hG
 clear hG
 have HB := Aside0.mk (Below.refl w.heap.size w)
 have H : ((impl_IsReached.f k a0 a1).bind fun bt101 => (if bt101.1 = true then ((impl_reachOf.f k a0).bind fun bt103 => ((impl_reach_to.f k bt103.1 bt103.2.1 bt103.2.2.1 bt103.2.2.2.1 a1).bind fun t117 => (if 0 ≤ t117 then (if t117 < (bt103.2.1.length : Int) then (some (rd bt103.2.1 t117, true)) else (none)) else (none)))) else (some (0, false)))) = some (r1, r2) := h
 clear h
 replace H := Option.bind_eq_some_iff.mp H
 obtain ⟨⟨t101, t102⟩, A30, H⟩ := H
 replace H : (if t101 = true then ((impl_reachOf.f k a0).bind fun bt103 => ((impl_reach_to.f k bt103.1 bt103.2.1 bt103.2.2.1 bt103.2.2.2.1 a1).bind fun t117 => (if 0 ≤ t117 then (if t117 < (bt103.2.1.length : Int) then (some (rd bt103.2.1 t117, true)) else (none)) else (none)))) else (some (0, false))) = some (r1, r2) := H
 have A3 := Aside0.mk A30
 clear A30
 by_cases c4 : t101 = true
 ·subst c4
  have H1 : ((impl_reachOf.f k a0).bind fun bt103 => ((impl_reach_to.f k bt103.1 bt103.2.1 bt103.2.2.1 bt103.2.2.2.1 a1).bind fun t117 => (if 0 ≤ t117 then (if t117 < (bt103.2.1.length : Int) then (some (rd bt103.2.1 t117, true)) else (none)) else (none)))) = some (r1, r2) := by rw [if_pos rfl] at H; exact H
  clear H
  have H := H1
  clear H1
  replace H := Option.bind_eq_some_iff.mp H
  obtain ⟨⟨t103, t106, t109, t112, t115⟩, A50, H⟩ := H
  replace H : ((impl_reach_to.f k t103 t106 t109 t112 a1).bind fun t117 => (if 0 ≤ t117 then (if t117 < (t106.length : Int) then (some (rd t106 t117, true)) else (none)) else (none))) = some (r1, r2) := H
  have A5 := Aside0.mk A50
  clear A50
  replace H := Option.bind_eq_some_iff.mp H
  obtain ⟨t117, A60, H⟩ := H
  replace H : (if 0 ≤ t117 then (if t117 < (t106.length : Int) then (some (rd t106 t117, true)) else (none)) else (none)) = some (r1, r2) := H
  have A6 := Aside0.mk A60
  clear A60
  by_cases c7 : 0 ≤ t117
  ·rw [if_pos c7] at H
   have c7b0 : decide (0 ≤ t117) = true := decide_eq_true c7
   clear c7
   by_cases c8 : t117 < (t106.length : Int)
   ·rw [if_pos c8] at H
    have c8b0 : decide (t117 < (t106.length : Int)) = true := decide_eq_true c8
    clear c8
    simp only [Option.some.injEq, Prod.mk.injEq] at H
    obtain ⟨rfl, rfl⟩ := H
    go_enter Tryz.func21, Tryz.ntmps21
    try go_wp2_with (first | ((with_reducible refine gate_callee (f := 17) rfl ?_); refine gcall (some 13) Tryz.func17 #[.string a0, .string a1] rfl ?_; (with_reducible refine (impl_IsReached.calls k a0 a1 true t102 _ ?side1 A3.out).mono ?_); (case side1 => (refine GoodW.below HG.out ?_); exact bel HB); rintro e w9 ⟨rfl, hb⟩; refine ⟨_, rfl, ?_⟩; have n0_ := Aside0.mk (below_step (bel HB) hb); clear HB; have HB := n0_; clear n0_; (try clear hb); (try clear hb2); (try clear hk); (try clear hi)) | ((with_reducible refine gate_callee (f := 31) rfl ?_); refine gcall (some 20) Tryz.func31 #[.string a0] rfl ?_; (with_reducible refine (impl_reachOf.calls k a0 t103 t106 t109 t112 t115 _ ?side1 A5.out).mono ?_); (case side1 => (refine GoodW.below HG.out ?_); exact bel HB); rintro e w10 ⟨v104, v107, v110, v113, rfl, ho0, ho1, ho2, ho3, hb⟩; refine ⟨_, rfl, ?_⟩; have n0_ := Aside0.mk (Kd.R_lower ho0 (below_size (bel HB))); have n1_ := Aside0.mk (Kd.R_lower ho1 (below_size (bel HB))); have n2_ := Aside0.mk (Kd.S_lower ho2 (below_size (bel HB))); have n3_ := Aside0.mk (Kd.R_lower ho3 (below_size (bel HB))); have n4_ := Aside0.mk (below_step (bel HB) hb); clear HB; have HO105 := n0_; have HO108 := n1_; have HO111 := n2_; have HO114 := n3_; have HB := n4_; clear n0_ n1_ n2_ n3_ n4_; (try clear hb); (try clear hb2); (try clear hk); (try clear hi); (try clear ho0); (try clear ho1); (try clear ho2); (try clear ho3)) | ((with_reducible refine gate_dst (N := 8) rfl ?_); refine boxE (N := 8) (cs := #[.slice none 0 0, .slice none 0 0, .slice none 0 0, .slice none 0 0]) (t := 51) ?_; intro gb116 hg w11 hbox hb; have n0_ := Aside0.mk (Kd.R_below (rch HO105) hb); have n1_ := Aside0.mk (Kd.R_below (rch HO108) hb); have n2_ := Aside0.mk (Kd.S_below (by (with_reducible repeat (first | apply Kd.S_alloc | apply Kd.S_drewN | apply Kd.S_drew)); (first | exact HO111.out | exact R_any HO111.out)) hb); have n3_ := Aside0.mk (Kd.R_below (rch HO114) hb); have n4_ := Aside0.mk (below_step (bel HB) hb); have n5_ := Aside0.mk (hbox); have n6_ := Aside0.mk (gsz hg (bel HB)); have n7_ := Aside0.mk (gsz hg (bel HB)); clear HO105; clear HO108; clear HO111; clear HO114; clear HB; have HO105 := n0_; have HO108 := n1_; have HO111 := n2_; have HO114 := n3_; have HB := n4_; have BK116 := n5_; have GW116 := n6_; have GE116 := n7_; clear n0_ n1_ n2_ n3_ n4_ n5_ n6_ n7_; clear hb hbox hg; obtain ⟨Ao12, co12, eo12⟩ := Kd.R_slice HO105.out; subst eo12; have hcz13_0 : w11.cell? ⟨gb116, 0, none⟩ = some (.slice none 0 0) := (blk_cell BK116.out 0).trans rfl; have hcz13_1 : w11.cell? ⟨gb116, 1, none⟩ = some (.slice none 0 0) := (blk_cell BK116.out 1).trans rfl; have hcz13_2 : w11.cell? ⟨gb116, 2, none⟩ = some (.slice none 0 0) := (blk_cell BK116.out 2).trans rfl; have hcz13_3 : w11.cell? ⟨gb116, 3, none⟩ = some (.slice none 0 0) := (blk_cell BK116.out 3).trans rfl; have hfz13_0 := blk_frozen BK116.out 0; have hfz13_1 := blk_frozen BK116.out 1; have hfz13_2 := blk_frozen BK116.out 2; have hfz13_3 := blk_frozen BK116.out 3; obtain ⟨Ao14, co14, eo14⟩ := Kd.R_slice HO108.out; subst eo14; obtain ⟨Ao15, co15, eo15⟩ := Kd.S_slice HO111.out; subst eo15; obtain ⟨Ao16, co16, eo16⟩ := Kd.R_slice HO114.out; subst eo16))
    have n0_ : Aside0 (Kd.R Kd.string 9 ((((w11.setCell ⟨gb116, 0, none⟩ (.slice Ao12 t103.length co12)).setCell ⟨gb116, 1, none⟩ (.slice Ao14 t106.length co14)).setCell ⟨gb116, 2, none⟩ (.slice Ao15 t109.length co15)).setCell ⟨gb116, 3, none⟩ (.slice Ao16 t112.length co16)) w.heap.size (fun k_ => some k_ ≠ (.slice Ao16 t112.length co16 : Value).ownBlock) (.slice Ao12 t103.length co12) t103) := ⟨by (with_reducible repeat (first | apply Kd.R_alloc | apply Kd.R_drewN | apply Kd.R_drew)); exact Kd.R_mono (Kd.R_far (p := ⟨gb116, 3, none⟩) (Kd.R_far (p := ⟨gb116, 2, none⟩) (Kd.R_far (p := ⟨gb116, 1, none⟩) (Kd.R_far (p := ⟨gb116, 0, none⟩) (Kd.R_types HO105.out BK116.out (by decide)) (fun _ hk => hk.2) (.slice Ao12 t103.length co12)) (fun _ hk => hk.2) (.slice Ao14 t106.length co14)) (fun _ hk => hk.2) (.slice Ao15 t109.length co15)) (fun _ hk => hk.2) (.slice Ao16 t112.length co16)) (fun _ hk => hk.1)⟩
    have n1_ : Aside0 (Kd.R (Kd.int .i64) 3 ((((w11.setCell ⟨gb116, 0, none⟩ (.slice Ao12 t103.length co12)).setCell ⟨gb116, 1, none⟩ (.slice Ao14 t106.length co14)).setCell ⟨gb116, 2, none⟩ (.slice Ao15 t109.length co15)).setCell ⟨gb116, 3, none⟩ (.slice Ao16 t112.length co16)) w.heap.size (fun _ => True) (.slice Ao14 t106.length co14) t106) := ⟨by (with_reducible repeat (first | apply Kd.R_alloc | apply Kd.R_drewN | apply Kd.R_drew)); exact Kd.R_mono (Kd.R_far (p := ⟨gb116, 3, none⟩) (Kd.R_far (p := ⟨gb116, 2, none⟩) (Kd.R_far (p := ⟨gb116, 1, none⟩) (Kd.R_far (p := ⟨gb116, 0, none⟩) (Kd.R_types HO108.out BK116.out (by decide)) (fun _ hk => hk.2) (.slice Ao12 t103.length co12)) (fun _ hk => hk.2) (.slice Ao14 t106.length co14)) (fun _ hk => hk.2) (.slice Ao15 t109.length co15)) (fun _ hk => hk.2) (.slice Ao16 t112.length co16)) (fun _ hk => trivial)⟩
    have n2_ : Aside0 (Kd.S (Kd.slice 3 (Kd.int .i64)) 22 ((((w11.setCell ⟨gb116, 0, none⟩ (.slice Ao12 t103.length co12)).setCell ⟨gb116, 1, none⟩ (.slice Ao14 t106.length co14)).setCell ⟨gb116, 2, none⟩ (.slice Ao15 t109.length co15)).setCell ⟨gb116, 3, none⟩ (.slice Ao16 t112.length co16)) w.heap.size (fun k_ => some k_ ≠ (.slice Ao14 t106.length co14 : Value).ownBlock) (.slice Ao15 t109.length co15) t109) := ⟨by (with_reducible repeat (first | apply Kd.S_alloc | apply Kd.S_drewN | apply Kd.S_drew)); exact Kd.S_mono (Kd.S_far (p := ⟨gb116, 3, none⟩) (Kd.S_far (p := ⟨gb116, 2, none⟩) (Kd.S_far (p := ⟨gb116, 1, none⟩) (Kd.S_far (p := ⟨gb116, 0, none⟩) (Kd.S_types HO111.out BK116.out (by decide)) (fun _ hk => hk.2) (.slice Ao12 t103.length co12)) (fun _ hk => hk.2) (.slice Ao14 t106.length co14)) (fun _ hk => hk.2) (.slice Ao15 t109.length co15)) (fun _ hk => hk.2) (.slice Ao16 t112.length co16)) (fun _ hk => hk.1)⟩
    have n3_ : Aside0 (Kd.R Kd.string 9 ((((w11.setCell ⟨gb116, 0, none⟩ (.slice Ao12 t103.length co12)).setCell ⟨gb116, 1, none⟩ (.slice Ao14 t106.length co14)).setCell ⟨gb116, 2, none⟩ (.slice Ao15 t109.length co15)).setCell ⟨gb116, 3, none⟩ (.slice Ao16 t112.length co16)) w.heap.size (fun k_ => some k_ ≠ (.slice Ao12 t103.length co12 : Value).ownBlock) (.slice Ao16 t112.length co16) t112) := ⟨by (with_reducible repeat (first | apply Kd.R_alloc | apply Kd.R_drewN | apply Kd.R_drew)); exact Kd.R_mono (Kd.R_far (p := ⟨gb116, 3, none⟩) (Kd.R_far (p := ⟨gb116, 2, none⟩) (Kd.R_far (p := ⟨gb116, 1, none⟩) (Kd.R_far (p := ⟨gb116, 0, none⟩) (Kd.R_types HO114.out BK116.out (by decide)) (fun _ hk => hk.2) (.slice Ao12 t103.length co12)) (fun _ hk => hk.2) (.slice Ao14 t106.length co14)) (fun _ hk => hk.2) (.slice Ao15 t109.length co15)) (fun _ hk => hk.2) (.slice Ao16 t112.length co16)) (fun _ hk => hk.1)⟩
    have n4_ : Aside0 (((((w11.setCell ⟨gb116, 0, none⟩ (.slice Ao12 t103.length co12)).setCell ⟨gb116, 1, none⟩ (.slice Ao14 t106.length co14)).setCell ⟨gb116, 2, none⟩ (.slice Ao15 t109.length co15)).setCell ⟨gb116, 3, none⟩ (.slice Ao16 t112.length co16)).heap[gb116]? = some (.cells #[.slice Ao12 t103.length co12, .slice Ao14 t106.length co14, .slice Ao15 t109.length co15, .slice Ao16 t112.length co16] 51 (0, 0))) := ⟨by (with_reducible repeat (first | refine blk_drewN ?_ _ | refine blk_drew ?_ | refine blk_alloc ?_ _)); refine blk_put (cs := #[.slice Ao12 t103.length co12, .slice Ao14 t106.length co14, .slice Ao15 t109.length co15, .slice none 0 0]) ?_ 3 _ rfl; (with_reducible repeat (first | refine blk_drewN ?_ _ | refine blk_drew ?_ | refine blk_alloc ?_ _)); refine blk_put (cs := #[.slice Ao12 t103.length co12, .slice Ao14 t106.length co14, .slice none 0 0, .slice none 0 0]) ?_ 2 _ rfl; (with_reducible repeat (first | refine blk_drewN ?_ _ | refine blk_drew ?_ | refine blk_alloc ?_ _)); refine blk_put (cs := #[.slice Ao12 t103.length co12, .slice none 0 0, .slice none 0 0, .slice none 0 0]) ?_ 1 _ rfl; (with_reducible repeat (first | refine blk_drewN ?_ _ | refine blk_drew ?_ | refine blk_alloc ?_ _)); refine blk_put (cs := #[.slice none 0 0, .slice none 0 0, .slice none 0 0, .slice none 0 0]) ?_ 0 _ rfl; exact blc⟩
    have n5_ : Aside0 (Below w.heap.size w ((((w11.setCell ⟨gb116, 0, none⟩ (.slice Ao12 t103.length co12)).setCell ⟨gb116, 1, none⟩ (.slice Ao14 t106.length co14)).setCell ⟨gb116, 2, none⟩ (.slice Ao15 t109.length co15)).setCell ⟨gb116, 3, none⟩ (.slice Ao16 t112.length co16))) := ⟨bel HB⟩
    (try clear HO105)
    (try clear HO108)
    (try clear HO111)
    (try clear HO114)
    (try clear BK116)
    (try clear HB)
    generalize ((((w11.setCell ⟨gb116, 0, none⟩ (.slice Ao12 t103.length co12)).setCell ⟨gb116, 1, none⟩ (.slice Ao14 t106.length co14)).setCell ⟨gb116, 2, none⟩ (.slice Ao15 t109.length co15)).setCell ⟨gb116, 3, none⟩ (.slice Ao16 t112.length co16)) = w17 at n0_ n1_ n2_ n3_ n4_ n5_ ⊢
    have HO105 := n0_
    have HO108 := n1_
    have HO111 := n2_
    have HO114 := n3_
    have BK116 := n4_
    have HB := n5_
    clear n0_ n1_ n2_ n3_ n4_ n5_
    have n0_ := Aside0.mk (Kd.R_drew HO105.out)
    have n1_ := Aside0.mk (Kd.R_drew HO108.out)
    have n2_ := Aside0.mk (Kd.S_drew HO111.out)
    have n3_ := Aside0.mk (Kd.R_drew HO114.out)
    have n4_ := Aside0.mk (blk_drew BK116.out)
    have n5_ := Aside0.mk (below_drew1 HB.out)
    clear HO105
    clear HO108
    clear HO111
    clear HO114
    clear BK116
    clear HB
    have HO105 := n0_
    have HO108 := n1_
    have HO111 := n2_
    have HO114 := n3_
    have BK116 := n4_
    have HB := n5_
    clear n0_ n1_ n2_ n3_ n4_ n5_
    have p118 : 0 ≤ (t117 : Int) := of_decide_eq_true (by first | (with_reducible assumption) | assumption)
    have q118 : t117 < (t106.length : Int) := of_decide_eq_true (by first | (with_reducible assumption) | assumption)
    obtain ⟨ad118, e118, hx118_0⟩ := Kd.at_int (Kd.R_reads' HO108.out).2.2 t117 p118 q118
    cases e118
    replace p118 := eq_true p118
    replace q118 := eq_true q118
    refine start_ (n := 9) (S := fun w' => w'.cell? ⟨gb116, 0, none⟩ = some (.slice Ao12 t103.length co12) ∧ w'.cell? ⟨gb116, 1, none⟩ = some (.slice (some ad118) t106.length co14) ∧ w'.cell? ⟨gb116, 2, none⟩ = some (.slice Ao15 t109.length co15) ∧ w'.cell? ⟨gb116, 3, none⟩ = some (.slice Ao16 t112.length co16) ∧ w'.cell? (ad118.add (t117).toNat) = some (.int .i64 (rd t106 t117))) (ds := []) #[false, false, false, false, false, false, false, false, false] (by kernel_rfl) rfl rfl ⟨(blk_cell BK116.out 0).trans rfl, (blk_cell BK116.out 1).trans rfl, (blk_cell BK116.out 2).trans rfl, (blk_cell BK116.out 3).trans rfl, hx118_0⟩ (fun hHeld => ?_); refine with_tabW impl_DistanceTo.tab5 impl_DistanceTo.bits5 (fun HT_ HW_ => ?_)
    generalize w17.drew = w18 at HO105 HO108 HO111 HO114 BK116 HB hx118_0 hHeld ⊢
    refine pure_ (i := 0) (N := some 23) (v := ?_) (a' := ?_) #[true, false, false, false, false, false, false, false, false] rfl rfl (any_of HT_.out (by kernel_rfl)) (fun _ _ _ h => h) (Or.inl ⟨by rfl, ?_⟩) ?_ ?_
    rotate_left
    ·intro w'
     go_simp
     with_reducible rfl
    rotate_left
    ·simp only [Act.put, List.setIfInBounds_toArray, List.set_cons_zero, List.set_cons_succ, i64_w, i32_w]
     rfl
    refine pure_ (i := 3) (N := some 26) (v := ?_) (a' := ?_) #[true, false, false, true, false, false, false, false, false] rfl rfl (any_of HT_.out (by kernel_rfl)) (fun _ _ _ h => h) (Or.inl ⟨by rfl, ?_⟩) ?_ ?_
    rotate_left
    ·intro w'
     go_simp
     with_reducible rfl
    rotate_left
    ·simp only [Act.put, List.setIfInBounds_toArray, List.set_cons_zero, List.set_cons_succ, i64_w, i32_w]
     rfl
    refine take_ (i := 1) (N := some 24) (v := ?_) (a' := ?_) #[true, true, false, true, false, false, false, false, false] rfl rfl (take_ofW HT_.out HW_.out (by kernel_rfl)) (fun _ _ _ h => h) (Or.inl ⟨by rfl, ?_⟩) hHeld ?_ ?_
    rotate_left
    ·rintro w' ⟨s0, s1, s2, s3, s4⟩
     go_simp
     with_reducible rfl
    rotate_left
    ·simp only [Act.put, List.setIfInBounds_toArray, List.set_cons_zero, List.set_cons_succ, i64_w, i32_w]
     rfl
    refine take_ (i := 2) (N := some 25) (v := ?_) (a' := ?_) #[true, true, true, true, false, false, false, false, false] rfl rfl (take_ofW HT_.out HW_.out (by kernel_rfl)) (fun _ _ _ h => h) (Or.inl ⟨by rfl, ?_⟩) hHeld ?_ ?_
    rotate_left
    ·rintro w' ⟨s0, s1, s2, s3, s4⟩
     go_simp
     with_reducible rfl
    rotate_left
    ·simp only [Act.put, List.setIfInBounds_toArray, List.set_cons_zero, List.set_cons_succ, i64_w, i32_w]
     rfl
    refine one_ (i := 4) (N := some 27) #[true, true, true, true, true, false, false, false, false] rfl rfl (one_of HT_.out (by kernel_rfl)) (by decide) (fun K hK => ?_)
    refine goes_ Tryz.func35 (by kernel_rfl) rfl #[.agg #[.slice Ao12 t103.length co12, .slice (some ad118) t106.length co14, .slice Ao15 t109.length co15, .slice Ao16 t112.length co16], .string a1] (by rfl) rfl rfl (by (try simp only [List.map_toArray, List.map_cons, List.map_nil]); first | done | rfl | (simp only [List.length_drop, List.length_take]; rfl)) ?_
    with_reducible refine (impl_reach_to.calls k _ _ t103 _ _ t106 _ _ t109 _ _ t112 a1 t117 _ ?side1 ?side2 ?side3 ?side4 ?side5 ?side6 ?side7 ?side8 A6.out).mono ?_
    (case side1 => repeat (first | exact (Kd.R_reads' HO105.out).2.2 | (with_reducible refine Kd.C_alloc ?_ _) | (with_reducible refine Kd.C_drewN ?_ _) | (with_reducible refine Kd.C_drew ?_)))
    (case side2 => exact (Kd.R_reads' HO105.out).2.1)
    (case side3 => repeat (first | exact (Kd.R_reads' HO108.out).2.2 | (with_reducible refine Kd.C_alloc ?_ _) | (with_reducible refine Kd.C_drewN ?_ _) | (with_reducible refine Kd.C_drew ?_)))
    (case side4 => exact (Kd.R_reads' HO108.out).2.1)
    (case side5 => repeat (first | exact (Kd.S_reads' HO111.out).2.2 | (with_reducible refine Kd.C_alloc ?_ _) | (with_reducible refine Kd.C_drewN ?_ _) | (with_reducible refine Kd.C_drew ?_)))
    (case side6 => exact (Kd.S_reads' HO111.out).2.1)
    (case side7 => repeat (first | exact (Kd.R_reads' HO114.out).2.2 | (with_reducible refine Kd.C_alloc ?_ _) | (with_reducible refine Kd.C_drewN ?_ _) | (with_reducible refine Kd.C_drew ?_)))
    (case side8 => exact (Kd.R_reads' HO114.out).2.1)
    rintro e w19 ⟨rfl, hb⟩
    have HS4_ := (hb.cell (World.block_lt_of_cell? _ _ (hHeld.2.2.2.2))).trans (hHeld.2.2.2.2)
    refine ⟨_, rfl, ?_⟩
    have n0_ := Aside0.mk (Kd.R_below (rch HO105) hb)
    have n1_ := Aside0.mk (Kd.R_below (rch HO108) hb)
    have n2_ := Aside0.mk (Kd.S_below (by (with_reducible repeat (first | apply Kd.S_alloc | apply Kd.S_drewN | apply Kd.S_drew)); (first | exact HO111.out | exact R_any HO111.out)) hb)
    have n3_ := Aside0.mk (Kd.R_below (rch HO114) hb)
    have n4_ := Aside0.mk (blk_below (g := gb116) (o := .cells #[.slice Ao12 t103.length co12, .slice (some ad118) t106.length co14, .slice Ao15 t109.length co15, .slice Ao16 t112.length co16] 51 (0, 0)) blc hb)
    have n5_ := Aside0.mk (below_step (bel HB) hb)
    clear HO105
    clear HO108
    clear HO111
    clear HO114
    clear BK116
    clear HB
    have HO105 := n0_
    have HO108 := n1_
    have HO111 := n2_
    have HO114 := n3_
    have BK116 := n4_
    have HB := n5_
    clear n0_ n1_ n2_ n3_ n4_ n5_
    (try clear hb)
    (try clear hb2)
    (try clear hk)
    (try clear hi)
    refine hK.out _ _ ⟨(blk_cell BK116.out 0).trans rfl, (blk_cell BK116.out 1).trans rfl, (blk_cell BK116.out 2).trans rfl, (blk_cell BK116.out 3).trans rfl, HS4_⟩ (fun hHeld => ?_)
    clear hK K
    refine norm_ (a' := ?_) ?_ ?_
    rotate_left
    ·show Act.put _ (some 27) _ = _
     simp only [Act.put, List.setIfInBounds_toArray, List.set_cons_zero, List.set_cons_succ, i64_w, i32_w]
     rfl
    refine pure_ (i := 5) (N := some 28) (v := ?_) (a' := ?_) #[true, true, true, true, true, true, false, false, false] rfl rfl (any_of HT_.out (by kernel_rfl)) (fun _ _ _ h => h) (Or.inl ⟨by rfl, ?_⟩) ?_ ?_
    rotate_left
    ·intro w'
     go_simp
     with_reducible rfl
    rotate_left
    ·simp only [Act.put, List.setIfInBounds_toArray, List.set_cons_zero, List.set_cons_succ, i64_w, i32_w]
     rfl
    refine take_ (i := 6) (N := some 29) (v := ?_) (a' := ?_) #[true, true, true, true, true, true, true, false, false] rfl rfl (take_ofW HT_.out HW_.out (by kernel_rfl)) (fun _ _ _ h => h) (Or.inl ⟨by rfl, ?_⟩) hHeld ?_ ?_
    rotate_left
    ·rintro w' ⟨s0, s1, s2, s3, s4⟩
     go_simp
     with_reducible rfl
    rotate_left
    ·simp only [Act.put, List.setIfInBounds_toArray, List.set_cons_zero, List.set_cons_succ, i64_w, i32_w]
     rfl
    refine pure_ (i := 7) (N := some 4) (v := ?_) (a' := ?_) #[true, true, true, true, true, true, true, true, false] rfl rfl (any_of HT_.out (by kernel_rfl)) (fun _ _ _ h => h) (Or.inl ⟨by rfl, ?_⟩) ?_ ?_
    rotate_left
    ·intro w'
     go_simp
     with_reducible rfl
    rotate_left
    ·simp only [Act.put, List.setIfInBounds_toArray, List.set_cons_zero, List.set_cons_succ, i64_w, i32_w]
     rfl
    refine pure_ (i := 8) (N := some 5) (v := ?_) (a' := ?_) #[true, true, true, true, true, true, true, true, true] rfl rfl (any_of HT_.out (by kernel_rfl)) (fun _ _ _ h => h) (Or.inl ⟨by rfl, ?_⟩) ?_ ?_
    rotate_left
    ·intro w'
     go_simp
     with_reducible rfl
    rotate_left
    ·simp only [Act.put, List.setIfInBounds_toArray, List.set_cons_zero, List.set_cons_succ, i64_w, i32_w]
     rfl
    refine done_ (done_of HT_.out (by kernel_rfl)) ?_
    try go_wp2
    go_ret2
    exact ⟨by first | rfl | (simp [errW_none, errW_some] <;> rfl) | (simp [*, errW_none, errW_some] <;> rfl), bel HB⟩
   ·rw [if_neg c8] at H
    exact absurd H (by simp)
  ·rw [if_neg c7] at H
   exact absurd H (by simp)
 ·replace c4 := Bool.eq_false_iff.mpr c4
  subst c4
  have H1 : (some (0, false)) = some (r1, r2) := by rw [if_neg (show ¬ (false = true) by decide)] at H; exact H
  clear H
  have H := H1
  clear H1
  simp only [Option.some.injEq, Prod.mk.injEq] at H
  obtain ⟨rfl, rfl⟩ := H
  go_enter Tryz.func21, Tryz.ntmps21
  go_wp2_with (first | ((with_reducible refine gate_callee (f := 17) rfl ?_); refine gcall (some 13) Tryz.func17 #[.string a0, .string a1] rfl ?_; (with_reducible refine (impl_IsReached.calls k a0 a1 false t102 _ ?side1 A3.out).mono ?_); (case side1 => (refine GoodW.below HG.out ?_); exact bel HB); rintro e w20 ⟨rfl, hb⟩; refine ⟨_, rfl, ?_⟩; have n0_ := Aside0.mk (below_step (bel HB) hb); clear HB; have HB := n0_; clear n0_; (try clear hb); (try clear hb2); (try clear hk); (try clear hi)))
  go_ret2
  exact ⟨by first | rfl | (simp [errW_none, errW_some] <;> rfl) | (simp [*, errW_none, errW_some] <;> rfl), bel HB⟩
end Go.Proofs.YtchkmhbngbgjnaaGreatDoor.Q
end
section
namespace Go.Proofs.YtchkmhbngbgjnaaGreatDoor.Q
set_option linter.unusedSectionVars false
open Go.RowKit Go.Proofs.YtchkmhbngbgjnaaGreatDoorW.PrintWords Go.Proofs.YtchkmhbngbgjnaaGreatDoorW.PrintLast Go.Proofs.YtchkmhbngbgjnaaGreatDoorW.PrintMore
open Classical
def DistanceToR (t u : ByteArray) : Int × Bool := if (reToR t u).2.2 = true then (if (reToR t u).2.1 < 0 then (0, false) else ((zAt (reToR t u).1 (reToR t u).2.1.toNat).far, true)) else (0, false)
theorem implDistanceTo_ev (t u : ByteArray) (ht : t.size ≤ 1048576) (hu : u.size ≤ 1048576) : Ev (fun k => impl_DistanceTo.f k t u) (DistanceToR t u) := by
 refine Ev.bind (f := fun k (bt101 : Bool × Bool) => (if bt101.1 = true then ((impl_reachOf.f k t).bind fun bt103 => ((impl_reach_to.f k bt103.1 bt103.2.1 bt103.2.2.1 bt103.2.2.2.1 u).bind fun t117 => (if 0 ≤ t117 then (if t117 < (bt103.2.1.length : Int) then (some (rd bt103.2.1 t117, true)) else (none)) else (none)))) else (some (0, false)))) (implIsReached_ev t u ht hu) ?_
 unfold DistanceToR IsReachedR
 rcases to_cases t u with e | ⟨w, h, cs, p, H, hut, ⟨e, h1, h2⟩ | ⟨j, s, hs, h1, h2, e⟩⟩
 ·rw [e]
  exact Ev.congr (Ev.const rfl) fun k => if_neg (by decide)
 ·rw [e]
  exact Ev.congr (Ev.const rfl) fun k => if_neg (by show ¬ decide ((0 : Int) ≤ -1) = true; decide)
 ·have hj := (List.getElem?_eq_some_iff.1 hs).1
  have hfl : (fars p.1).length = p.1.length := by unfold fars; rw [List.length_map]
  rw [e]
  show Ev _ (if true = true then (if (j : Int) < 0 then (0, false) else ((zAt (foundZ w h p) (j : Int).toNat).far, true)) else (0, false))
  rw [if_pos rfl, if_neg (by omega), Int.toNat_natCast, H.zget hs]
  refine Ev.congr (Ev.bind (f := fun k (bt103 : ReR) => ((impl_reach_to.f k bt103.1 bt103.2.1 bt103.2.2.1 bt103.2.2.2.1 u).bind fun t117 => (if 0 ≤ t117 then (if t117 < (bt103.2.1.length : Int) then (some (rd bt103.2.1 t117, true)) else (none)) else (none)))) (reachOf_ev t ht) ?_) fun k => if_pos (decide_eq_true (show (0 : Int) ≤ (j : Int) by omega))
  rw [H.prog]
  refine Ev.bind (f := fun _ t117 => (if 0 ≤ t117 then (if t117 < ((fars p.1).length : Int) then (some (rd (fars p.1) t117, true)) else (none)) else (none))) (to_ev (txs w h p.1) (fars p.1) (p.2.map casts) (wds p.1) u H.tl) (Ev.const ?_)
  rw [h2, if_pos (by omega), if_pos (by rw [hfl]; omega), rd_fars hs]
  rfl
end Go.Proofs.YtchkmhbngbgjnaaGreatDoor.Q
end
section
namespace Go.Proofs.YtchkmhbngbgjnaaGreatDoor.Q
open Go.RowKit Go.Proofs.YtchkmhbngbgjnaaGreatDoorW.PrintWords Go.Proofs.YtchkmhbngbgjnaaGreatDoorW.PrintLast Go.Proofs.YtchkmhbngbgjnaaGreatDoorW.PrintMore
attribute [local go_sem] max2_int min2_int max_two min_two max_three min_three max_four min_four
set_option linter.unusedVariables false
set_option linter.unusedSimpArgs false
def spec_tiDirs.f  : Option (ByteArray) := some (⟨#[117, 114, 100, 108]⟩ : ByteArray)
set_option maxHeartbeats 8000000 in
set_option maxRecDepth 100000 in
theorem spec_tiDirs.calls  (r : ByteArray) (w : World) (h : spec_tiDirs.f  = some r) :
  Calls Tryz.prog 59 #[] w fun e w' => e = .returned (.string r) ∧ Drawn0 w w' := by
 have H : (some (⟨#[117, 114, 100, 108]⟩ : ByteArray)) = some r := h
 clear h
 obtain rfl := Option.some.inj H
 go_enter Tryz.func59, Tryz.ntmps59
 go_wp2
 go_ret
 exact ⟨by first | rfl | (simp; done) | (simp [*]; done), by repeat (first | exact Drawn0.refl _ | apply Drawn0.step)⟩
end Go.Proofs.YtchkmhbngbgjnaaGreatDoor.Q
end
section
namespace Go.Proofs.YtchkmhbngbgjnaaGreatDoor.Q
set_option linter.unusedSectionVars false
set_option linter.unusedSimpArgs false
open Go.RowKit Go.Proofs.YtchkmhbngbgjnaaGreatDoorW.PrintWords Go.Proofs.YtchkmhbngbgjnaaGreatDoorW.PrintLast Go.Proofs.YtchkmhbngbgjnaaGreatDoorW.PrintMore
def dirT (d : Int) : ByteArray := (⟨#[117, 114, 100, 108]⟩ : ByteArray).extract d.toNat (d + 1).toNat
def reW : Nat → List Zs → Int → ByteArray → Option ByteArray
 | 0, _, _, _ => none
 | m + 1, L, at_, word => if 0 ≤ at_ ∧ at_ < (L.length : Int) then (if 0 ≤ (zAt L at_.toNat).before then (if (0 ≤ (zAt L at_.toNat).dir ∧ (zAt L at_.toNat).dir ≤ 3) ∧ word.size ≤ 1000000 then reW m L (zAt L at_.toNat).before (dirT (zAt L at_.toNat).dir ++ word) else none) else some word) else none
theorem dirs_quiet (w : World) (n : Nat) : Calls Tryz.prog 59 #[] (w.drewN n) fun e w'' => e = .returned (.string ⟨#[117, 114, 100, 108]⟩) ∧ ∃ m, w'' = w.drewN m :=
 Calls.quiet_of ((spec_tiDirs.calls ⟨#[117, 114, 100, 108]⟩ (w.drewN n) rfl).mono fun _ _ h => ⟨h.1, h.2.out⟩)
set_option maxHeartbeats 8000000 in
set_option maxRecDepth 100000 in
theorem spec_reWord.calls (k : Nat) (A : Option Addr) (c : Nat) (L : List Zs) (a1 : Int) (r : ByteArray) (w : World) (hL : StC w A L) (hc : L.length ≤ c) (h : reW k L a1 ⟨#[]⟩ = some r) :
  Calls Tryz.prog 37 #[.slice A L.length c, .int .i64 a1] w fun e w' => e = .returned (.string r) ∧ Drawn0 w w' := by
 have HL := Aside0.mk hL
 have HC := Aside0.mk hc
 have H := Aside0.mk h
 clear hL hc h
 go_enter Tryz.func37, Tryz.ntmps37
 go_wp2
 go_loopg [1, 5] k (fun gg v1 v5 wr => ∃ (at_ : Int) (word : ByteArray), v1 = .int .i64 at_ ∧ v5 = .string word ∧ Aside0 (reW gg L at_ word = some r) ∧ Drawn0 w wr)
 case atStart => exact ⟨a1, ⟨#[]⟩, rfl, rfl, H, Drawn0.refl _⟩
 case round =>
  clear H
  obtain ⟨at_, word, rfl, rfl, HA, HDR⟩ := hrel
  cases gk with
  | zero => exact absurd HA.out (by simp [reW])
  | succ k1 =>
   have hsp := HA.out
   rw [reW] at hsp
   split at hsp
   case isFalse => cases hsp
   rename_i hat
   obtain ⟨q, rfl⟩ := Int.eq_ofNat_of_zero_le hat.1
   have hq : q < L.length := by have := hat.2; omega
   rw [Int.toNat_natCast] at hsp
   have p1 : (0 ≤ (q : Int)) = True := eq_true (by omega)
   have p2 : ((q : Int) < (L.length : Int)) = True := eq_true (by omega)
   obtain ⟨ad, g, Ag, An, cg, cn, e1, x1, x2, _, _⟩ := (HL.out.below HDR.below).get hq
   cases e1
   have x3 : wr.cell? ⟨g, 6, none⟩ = some (.int .i64 (zAt L q).before) := (blk_cell x2 6).trans rfl
   have x4 : wr.cell? ⟨g, 7, none⟩ = some (.int .i64 (zAt L q).dir) := (blk_cell x2 7).trans rfl
   clear hat HA x2 hq
   generalize zAt L q = z at hsp x3 x4
   by_cases hb : 0 ≤ z.before
   ·have c1 : decide (0 ≤ z.before) = true := decide_eq_true hb
    rw [if_pos hb] at hsp
    split at hsp
    case isFalse => cases hsp
    rename_i hd
    have HN := Aside0.mk hsp
    have HW := Aside0.mk hd.2
    have hd4 : z.dir = 0 ∨ z.dir = 1 ∨ z.dir = 2 ∨ z.dir = 3 := by have := hd.1; omega
    clear hsp hb hd
    rcases hd4 with hd | hd | hd | hd
    ·have HD := Aside0.mk hd
     rw [hd] at x4
     clear hd
     have hsl : ∀ W : World, Sem.run Tryz.prog (Instr.slice 9 (.string ⟨#[117, 114, 100, 108]⟩) (some (.int .i64 0)) (some (.int .i64 (IntKind.i64.wrap 1))) none) W = .ok (.string ⟨#[117]⟩) W := fun W => by kernel_rfl
     have hc1 : (9223372036854775807 < 1 + word.size) = False := eq_false (by have := HW.out; omega)
     have hc2 : (9223372036854775807 < ((⟨#[117]⟩ : ByteArray) ++ word).size) = False := eq_false (by rw [ByteArray.size_append]; have := HW.out; have : (⟨#[117]⟩ : ByteArray).size = 1 := rfl; omega)
     go_wp2_with fail
     go_quiet (exact dirs_quiet _ _)
     go_wp2
     go_roundg k1
     case measure => omega
     case rel => exact ⟨z.before, (⟨#[117]⟩ : ByteArray) ++ word, rfl, rfl, by have := HN.out; rw [HD.out] at this; exact ⟨this⟩, by repeat (first | exact HDR | apply Drawn0.step)⟩
    ·have HD := Aside0.mk hd
     rw [hd] at x4
     clear hd
     have hsl : ∀ W : World, Sem.run Tryz.prog (Instr.slice 9 (.string ⟨#[117, 114, 100, 108]⟩) (some (.int .i64 1)) (some (.int .i64 (IntKind.i64.wrap 2))) none) W = .ok (.string ⟨#[114]⟩) W := fun W => by kernel_rfl
     have hc1 : (9223372036854775807 < 1 + word.size) = False := eq_false (by have := HW.out; omega)
     have hc2 : (9223372036854775807 < ((⟨#[114]⟩ : ByteArray) ++ word).size) = False := eq_false (by rw [ByteArray.size_append]; have := HW.out; have : (⟨#[114]⟩ : ByteArray).size = 1 := rfl; omega)
     go_wp2_with fail
     go_quiet (exact dirs_quiet _ _)
     go_wp2
     go_roundg k1
     case measure => omega
     case rel => exact ⟨z.before, (⟨#[114]⟩ : ByteArray) ++ word, rfl, rfl, by have := HN.out; rw [HD.out] at this; exact ⟨this⟩, by repeat (first | exact HDR | apply Drawn0.step)⟩
    ·have HD := Aside0.mk hd
     rw [hd] at x4
     clear hd
     have hsl : ∀ W : World, Sem.run Tryz.prog (Instr.slice 9 (.string ⟨#[117, 114, 100, 108]⟩) (some (.int .i64 2)) (some (.int .i64 (IntKind.i64.wrap 3))) none) W = .ok (.string ⟨#[100]⟩) W := fun W => by kernel_rfl
     have hc1 : (9223372036854775807 < 1 + word.size) = False := eq_false (by have := HW.out; omega)
     have hc2 : (9223372036854775807 < ((⟨#[100]⟩ : ByteArray) ++ word).size) = False := eq_false (by rw [ByteArray.size_append]; have := HW.out; have : (⟨#[100]⟩ : ByteArray).size = 1 := rfl; omega)
     go_wp2_with fail
     go_quiet (exact dirs_quiet _ _)
     go_wp2
     go_roundg k1
     case measure => omega
     case rel => exact ⟨z.before, (⟨#[100]⟩ : ByteArray) ++ word, rfl, rfl, by have := HN.out; rw [HD.out] at this; exact ⟨this⟩, by repeat (first | exact HDR | apply Drawn0.step)⟩
    ·have HD := Aside0.mk hd
     rw [hd] at x4
     clear hd
     have hsl : ∀ W : World, Sem.run Tryz.prog (Instr.slice 9 (.string ⟨#[117, 114, 100, 108]⟩) (some (.int .i64 3)) (some (.int .i64 (IntKind.i64.wrap 4))) none) W = .ok (.string ⟨#[108]⟩) W := fun W => by kernel_rfl
     have hc1 : (9223372036854775807 < 1 + word.size) = False := eq_false (by have := HW.out; omega)
     have hc2 : (9223372036854775807 < ((⟨#[108]⟩ : ByteArray) ++ word).size) = False := eq_false (by rw [ByteArray.size_append]; have := HW.out; have : (⟨#[108]⟩ : ByteArray).size = 1 := rfl; omega)
     go_wp2_with fail
     go_quiet (exact dirs_quiet _ _)
     go_wp2
     go_roundg k1
     case measure => omega
     case rel => exact ⟨z.before, (⟨#[108]⟩ : ByteArray) ++ word, rfl, rfl, by have := HN.out; rw [HD.out] at this; exact ⟨this⟩, by repeat (first | exact HDR | apply Drawn0.step)⟩
   ·have c1 : decide (0 ≤ z.before) = false := decide_eq_false hb
    rw [if_neg hb] at hsp
    have HE := Aside0.mk (Option.some.inj hsp)
    clear hsp hb
    go_wp2
    go_ret
    exact ⟨congrArg (fun x => Ending.returned (Value.string x)) HE.out, by repeat (first | exact HDR | apply Drawn0.step)⟩
def spec_ShortestWord.f (k : Nat) (t u : ByteArray) : Option (ByteArray × Bool) := (spec_reTo.f k t u).bind fun a => if a.2.2 = true then (if a.2.1 < 0 then some (⟨#[]⟩, false) else if a.2.1 < (a.1.length : Int) then (if 40 < (zAt a.1 a.2.1.toNat).far then some (⟨#[]⟩, false) else (reW k a.1 a.2.1 ⟨#[]⟩).bind fun wd => some (wd, true)) else none) else some (⟨#[]⟩, false)
set_option maxHeartbeats 8000000 in
set_option maxRecDepth 100000 in
theorem spec_ShortestWord.calls (k : Nat) (a0 a1 : ByteArray) (r1 : ByteArray) (r2 : Bool) (w : World) (h : spec_ShortestWord.f k a0 a1 = some (r1, r2)) :
  Calls Tryz.prog 22 #[.string a0, .string a1] w fun e w' => e = .returned (.tuple #[.string r1, .bool r2]) ∧ Below w.heap.size w w' := by
 unfold spec_ShortestWord.f at h
 obtain ⟨⟨L, j, ok⟩, ha, h⟩ := Option.bind_eq_some_iff.1 h
 have HA := Aside0.mk ha
 clear ha
 cases ok with
 | false =>
  rw [if_neg Bool.false_ne_true] at h
  simp only [Option.some.injEq, Prod.mk.injEq] at h
  obtain ⟨rfl, rfl⟩ := h
  go_enter Tryz.func22, Tryz.ntmps22
  go_wp2_with (first
   | (go_at_call 33; refine (spec_reTo.calls k a0 a1 L j false _ HA.out).mono ?_; rintro e w1 ⟨A1, c1, rfl, hc1, hl1, hs1, hb1⟩; (have HB1 := Aside0.mk hb1); clear hc1 hl1 hs1 hb1))
  go_ret2
  exact ⟨rfl, HB1.out⟩
 | true =>
  rw [if_pos rfl] at h
  by_cases hj : j < 0
  ·have c1 : decide (j < 0) = true := decide_eq_true hj
   rw [if_pos hj] at h
   simp only [Option.some.injEq, Prod.mk.injEq] at h
   obtain ⟨rfl, rfl⟩ := h
   clear hj
   go_enter Tryz.func22, Tryz.ntmps22
   go_wp2_with (first
    | (go_at_call 33; refine (spec_reTo.calls k a0 a1 L j true _ HA.out).mono ?_; rintro e w1 ⟨A1, c1, rfl, hc1, hl1, hs1, hb1⟩; (have HB1 := Aside0.mk hb1); clear hc1 hl1 hs1 hb1))
   go_ret2
   exact ⟨rfl, HB1.out⟩
  ·rw [if_neg hj] at h
   split at h
   case isFalse => cases h
   rename_i hjl
   have hjl : j < (L.length : Int) := hjl
   obtain ⟨q, rfl⟩ := Int.eq_ofNat_of_zero_le (Int.not_lt.1 hj)
   have c1 : decide ((q : Int) < 0) = false := decide_eq_false hj
   have hq : q < L.length := by omega
   have HQ := Aside0.mk hq
   have p1 : (0 ≤ (q : Int)) = True := eq_true (by omega)
   have p2 : ((q : Int) < (L.length : Int)) = True := eq_true hjl
   rw [show (L, (q : Int), true).2.1.toNat = q from rfl] at h
   clear hj hjl hq
   by_cases h40 : 40 < (zAt L q).far
   ·have c2 : decide (40 < (zAt L q).far) = true := decide_eq_true h40
    rw [if_pos h40] at h
    simp only [Option.some.injEq, Prod.mk.injEq] at h
    obtain ⟨rfl, rfl⟩ := h
    clear h40
    go_enter Tryz.func22, Tryz.ntmps22
    go_wp2_with (first
     | (go_at_call 33; refine (spec_reTo.calls k a0 a1 L q true _ HA.out).mono ?_; rintro e w1 ⟨A1, c1, rfl, hc1, hl1, hs1, hb1⟩; (have HB1 := Aside0.mk hb1); (obtain ⟨ad, g, Ag, An, cg, cn, e1, x1, x2, _, _⟩ := hs1.get HQ.out); (cases e1); (have x3 : w1.cell? ⟨g, 4, none⟩ = some (.int .i64 (zAt L q).far) := (blk_cell x2 4).trans rfl); clear hc1 hl1 hs1 hb1 x2))
    go_ret2
    exact ⟨rfl, HB1.out⟩
   ·have c2 : decide (40 < (zAt L q).far) = false := decide_eq_false h40
    rw [if_neg h40] at h
    obtain ⟨wd, hw, h⟩ := Option.bind_eq_some_iff.1 h
    simp only [Option.some.injEq, Prod.mk.injEq] at h
    obtain ⟨rfl, rfl⟩ := h
    have HW := Aside0.mk hw
    clear h40 hw
    go_enter Tryz.func22, Tryz.ntmps22
    go_wp2_with (first
     | (go_at_call 33; refine (spec_reTo.calls k a0 a1 L q true _ HA.out).mono ?_; rintro e w1 ⟨A1, c1, rfl, hc1, hl1, hs1, hb1⟩; (have HB1 := Aside0.mk hb1); (have HS1 := Aside0.mk hs1); (have HC1 := Aside0.mk hc1); (obtain ⟨ad, g, Ag, An, cg, cn, e1, x1, x2, _, _⟩ := hs1.get HQ.out); (cases e1); (have x3 : w1.cell? ⟨g, 4, none⟩ = some (.int .i64 (zAt L q).far) := (blk_cell x2 4).trans rfl); clear hc1 hl1 hs1 hb1 x2)
     | (go_at_call 37; refine (spec_reWord.calls k (some ad) c1 L q wd _ HS1.out HC1.out HW.out).mono ?_; rintro e w5 ⟨rfl, ⟨m5, rfl⟩⟩))
    go_ret2
    exact ⟨rfl, pw_below_drewN HB1.out m5⟩
end Go.Proofs.YtchkmhbngbgjnaaGreatDoor.Q
end
section
namespace Go.Proofs.YtchkmhbngbgjnaaGreatDoor.Q
open Go.RowKit Go.Proofs.YtchkmhbngbgjnaaGreatDoorW.PrintWords Go.Proofs.YtchkmhbngbgjnaaGreatDoorW.PrintLast Go.Proofs.YtchkmhbngbgjnaaGreatDoorW.PrintMore
attribute [local go_sem] max2_int min2_int max_two min_two max_three min_three max_four min_four
set_option linter.unusedVariables false
set_option linter.unusedSimpArgs false
def impl_ShortestWord.j0 : Nat → ByteArray → ByteArray → Bool → Option (ByteArray × Bool)
 | 0, _, _, _ => none
 | k + 1, x0, x1, x21 => if x21 = true then (some ((⟨#[]⟩ : ByteArray), false)) else ((impl_reachOf.f k x0).bind fun bt103 => ((impl_reach_to.f k bt103.1 bt103.2.1 bt103.2.2.1 bt103.2.2.2.1 x1).bind fun t117 => (if 0 ≤ t117 then (if t117 < (bt103.2.2.2.1.length : Int) then (some (rdOf ByteArray.empty bt103.2.2.2.1 t117, true)) else (none)) else (none))))
def impl_ShortestWord.f (k : Nat) (a0 : ByteArray) (a1 : ByteArray) : Option (ByteArray × Bool) := (impl_DistanceTo.f k a0 a1).bind fun bt101 => (if bt101.2 = true then (impl_ShortestWord.j0 k a0 a1 (decide (bt101.1 > 40))) else (impl_ShortestWord.j0 k a0 a1 true))
def impl_ShortestWord.T5 : Bool × List (List Nat × List Nat) := (true, [([], []), ([0], [0]), ([], []), ([], []), ([2, 3], [2, 3]), ([1, 4], [1, 4]), ([5], [5]), ([6, 4, 0, 1, 2, 3, 4, 5, 6], [6]), ([7, 0, 1, 2, 3, 4, 5, 6, 7], [])])
def impl_ShortestWord.B5 : List Nat := [0, 1, 0, 0, 12, 31, 63, 127, 255]
theorem impl_ShortestWord.tab5 : rtab .any (opsOf Tryz.f23 5) = impl_ShortestWord.T5 := by kernel_rfl
theorem impl_ShortestWord.bits5 : waitsOk impl_ShortestWord.T5.2 impl_ShortestWord.B5 = true := by kernel_rfl
set_option maxHeartbeats 8000000 in
set_option maxRecDepth 100000 in
theorem impl_ShortestWord.calls (k : Nat) (a0 : ByteArray) (a1 : ByteArray) (r1 : ByteArray) (r2 : Bool) (w : World) (hG : GoodW w) (h : impl_ShortestWord.f k a0 a1 = some (r1, r2)) :
  Calls Tryz.prog 23 #[.string a0, .string a1] w fun e w' => e = .returned (.tuple #[.string r1, .bool r2]) ∧ Below w.heap.size w w' := by
 have hu51 := Tryz.underlying51
 have HG := Aside0.mk hG
 clear hG
 have HB := Aside0.mk (Below.refl w.heap.size w)
 have H : ((impl_DistanceTo.f k a0 a1).bind fun bt101 => (if bt101.2 = true then (impl_ShortestWord.j0 k a0 a1 (decide (bt101.1 > 40))) else (impl_ShortestWord.j0 k a0 a1 true))) = some (r1, r2) := h
 clear h
 replace H := Option.bind_eq_some_iff.mp H
 obtain ⟨⟨t101, t102⟩, A30, H⟩ := H
 replace H : (if t102 = true then (impl_ShortestWord.j0 k a0 a1 (decide (t101 > 40))) else (impl_ShortestWord.j0 k a0 a1 true)) = some (r1, r2) := H
 have A3 := Aside0.mk A30
 clear A30
 have HC4 := Aside0.mk H
 clear H
 go_enter Tryz.func23, Tryz.ntmps23
 go_upto_region 2 with (first | ((with_reducible refine gate_callee (f := 21) rfl ?_); refine gcall (some 13) Tryz.func21 #[.string a0, .string a1] rfl ?_; (with_reducible refine (impl_DistanceTo.calls k a0 a1 t101 t102 _ ?side1 A3.out).mono ?_); (case side1 => (refine GoodW.below HG.out ?_); exact bel HB); rintro e w5 ⟨rfl, hb⟩; refine ⟨_, rfl, ?_⟩; have n0_ := Aside0.mk (below_step (bel HB) hb); clear HB; have HB := n0_; clear n0_; (try clear hb); (try clear hb2); (try clear hk); (try clear hi)))
 (try simp only [Act.put, List.setIfInBounds_toArray, List.set_cons_zero, List.set_cons_succ])
 go_cut [21] (fun v21 wc => ∃ (kq : Nat) (x21_3 : Bool), v21 = .bool x21_3 ∧ Aside0 (impl_ShortestWord.j0 kq a0 a1 x21_3 = some (r1, r2)) ∧ Aside0 (kq ≤ k) ∧ Aside0 (Below w.heap.size w wc))
 case first =>
  have H := HC4.out
  clear HC4
  by_cases c6 : t102 = true
  ·subst c6
   have H1 : (impl_ShortestWord.j0 k a0 a1 (decide (t101 > 40))) = some (r1, r2) := by rw [if_pos rfl] at H; exact H
   clear H
   have H := H1
   clear H1
   have H' := Aside0.mk H
   clear H
   go_wp2
   go_meet
   case rel => exact ⟨_, (decide (t101 > 40)), (by first | rfl | (simp; done) | (simp [*]; done)), H', ⟨by first | omega | exact Nat.le_refl _⟩, ⟨bel HB⟩⟩
  ·replace c6 := Bool.eq_false_iff.mpr c6
   subst c6
   have H1 : (impl_ShortestWord.j0 k a0 a1 true) = some (r1, r2) := by rw [if_neg (show ¬ (false = true) by decide)] at H; exact H
   clear H
   have H := H1
   clear H1
   have H' := Aside0.mk H
   clear H
   go_wp2
   go_meet
   case rel => exact ⟨_, (true), (by first | rfl | (simp; done) | (simp [*]; done)), H', ⟨by first | omega | exact Nat.le_refl _⟩, ⟨bel HB⟩⟩
 case rest =>
  clear HC4
  try clear c2
  try clear p2
  try clear c6
  obtain ⟨kq, x21_3, rfl, HA, HJ3, HB⟩ := hcut
  cases kq with
  | zero => exact absurd HA.out (by simp [impl_ShortestWord.j0])
  | succ kj3 =>
   have H := HA.out
   clear HA
   simp only [impl_ShortestWord.j0] at H
   by_cases c7 : x21_3 = true
   ·subst c7
    have H1 : (some ((⟨#[]⟩ : ByteArray), false)) = some (r1, r2) := by rw [if_pos rfl] at H; exact H
    clear H
    have H := H1
    clear H1
    simp only [Option.some.injEq, Prod.mk.injEq] at H
    obtain ⟨rfl, rfl⟩ := H
    go_wp2
    go_ret2
    exact ⟨by first | rfl | (simp [errW_none, errW_some] <;> rfl) | (simp [*, errW_none, errW_some] <;> rfl), bel HB⟩
   ·replace c7 := Bool.eq_false_iff.mpr c7
    subst c7
    have H1 : ((impl_reachOf.f kj3 a0).bind fun bt103 => ((impl_reach_to.f kj3 bt103.1 bt103.2.1 bt103.2.2.1 bt103.2.2.2.1 a1).bind fun t117 => (if 0 ≤ t117 then (if t117 < (bt103.2.2.2.1.length : Int) then (some (rdOf ByteArray.empty bt103.2.2.2.1 t117, true)) else (none)) else (none)))) = some (r1, r2) := by rw [if_neg (show ¬ (false = true) by decide)] at H; exact H
    clear H
    have H := H1
    clear H1
    replace H := Option.bind_eq_some_iff.mp H
    obtain ⟨⟨t103, t106, t109, t112, t115⟩, A80, H⟩ := H
    replace H : ((impl_reach_to.f kj3 t103 t106 t109 t112 a1).bind fun t117 => (if 0 ≤ t117 then (if t117 < (t112.length : Int) then (some (rdOf ByteArray.empty t112 t117, true)) else (none)) else (none))) = some (r1, r2) := H
    have A8 := Aside0.mk A80
    clear A80
    replace H := Option.bind_eq_some_iff.mp H
    obtain ⟨t117, A90, H⟩ := H
    replace H : (if 0 ≤ t117 then (if t117 < (t112.length : Int) then (some (rdOf ByteArray.empty t112 t117, true)) else (none)) else (none)) = some (r1, r2) := H
    have A9 := Aside0.mk A90
    clear A90
    by_cases c10 : 0 ≤ t117
    ·rw [if_pos c10] at H
     have c10b0 : decide (0 ≤ t117) = true := decide_eq_true c10
     clear c10
     by_cases c11 : t117 < (t112.length : Int)
     ·rw [if_pos c11] at H
      have c11b0 : decide (t117 < (t112.length : Int)) = true := decide_eq_true c11
      clear c11
      simp only [Option.some.injEq, Prod.mk.injEq] at H
      obtain ⟨rfl, rfl⟩ := H
      try go_wp2_with (first | ((with_reducible refine gate_callee (f := 31) rfl ?_); refine gcall (some 24) Tryz.func31 #[.string a0] rfl ?_; (with_reducible refine (impl_reachOf.calls kj3 a0 t103 t106 t109 t112 t115 _ ?side1 A8.out).mono ?_); (case side1 => (refine GoodW.below HG.out ?_); exact bel HB); rintro e w12 ⟨v104, v107, v110, v113, rfl, ho0, ho1, ho2, ho3, hb⟩; refine ⟨_, rfl, ?_⟩; have n0_ := Aside0.mk (Kd.R_lower ho0 (below_size (bel HB))); have n1_ := Aside0.mk (Kd.R_lower ho1 (below_size (bel HB))); have n2_ := Aside0.mk (Kd.S_lower ho2 (below_size (bel HB))); have n3_ := Aside0.mk (Kd.R_lower ho3 (below_size (bel HB))); have n4_ := Aside0.mk (below_step (bel HB) hb); clear HB; have HO105 := n0_; have HO108 := n1_; have HO111 := n2_; have HO114 := n3_; have HB := n4_; clear n0_ n1_ n2_ n3_ n4_; (try clear hb); (try clear hb2); (try clear hk); (try clear hi); (try clear ho0); (try clear ho1); (try clear ho2); (try clear ho3)) | ((with_reducible refine gate_dst (N := 8) rfl ?_); refine boxE (N := 8) (cs := #[.slice none 0 0, .slice none 0 0, .slice none 0 0, .slice none 0 0]) (t := 51) ?_; intro gb116 hg w13 hbox hb; have n0_ := Aside0.mk (Kd.R_below (rch HO105) hb); have n1_ := Aside0.mk (Kd.R_below (rch HO108) hb); have n2_ := Aside0.mk (Kd.S_below (by (with_reducible repeat (first | apply Kd.S_alloc | apply Kd.S_drewN | apply Kd.S_drew)); (first | exact HO111.out | exact R_any HO111.out)) hb); have n3_ := Aside0.mk (Kd.R_below (rch HO114) hb); have n4_ := Aside0.mk (below_step (bel HB) hb); have n5_ := Aside0.mk (hbox); have n6_ := Aside0.mk (gsz hg (bel HB)); have n7_ := Aside0.mk (gsz hg (bel HB)); clear HO105; clear HO108; clear HO111; clear HO114; clear HB; have HO105 := n0_; have HO108 := n1_; have HO111 := n2_; have HO114 := n3_; have HB := n4_; have BK116 := n5_; have GW116 := n6_; have GE116 := n7_; clear n0_ n1_ n2_ n3_ n4_ n5_ n6_ n7_; clear hb hbox hg; obtain ⟨Ao14, co14, eo14⟩ := Kd.R_slice HO105.out; subst eo14; have hcz15_0 : w13.cell? ⟨gb116, 0, none⟩ = some (.slice none 0 0) := (blk_cell BK116.out 0).trans rfl; have hcz15_1 : w13.cell? ⟨gb116, 1, none⟩ = some (.slice none 0 0) := (blk_cell BK116.out 1).trans rfl; have hcz15_2 : w13.cell? ⟨gb116, 2, none⟩ = some (.slice none 0 0) := (blk_cell BK116.out 2).trans rfl; have hcz15_3 : w13.cell? ⟨gb116, 3, none⟩ = some (.slice none 0 0) := (blk_cell BK116.out 3).trans rfl; have hfz15_0 := blk_frozen BK116.out 0; have hfz15_1 := blk_frozen BK116.out 1; have hfz15_2 := blk_frozen BK116.out 2; have hfz15_3 := blk_frozen BK116.out 3; obtain ⟨Ao16, co16, eo16⟩ := Kd.R_slice HO108.out; subst eo16; obtain ⟨Ao17, co17, eo17⟩ := Kd.S_slice HO111.out; subst eo17; obtain ⟨Ao18, co18, eo18⟩ := Kd.R_slice HO114.out; subst eo18))
      have n0_ : Aside0 (Kd.R Kd.string 9 ((((w13.setCell ⟨gb116, 0, none⟩ (.slice Ao14 t103.length co14)).setCell ⟨gb116, 1, none⟩ (.slice Ao16 t106.length co16)).setCell ⟨gb116, 2, none⟩ (.slice Ao17 t109.length co17)).setCell ⟨gb116, 3, none⟩ (.slice Ao18 t112.length co18)) w.heap.size (fun k_ => some k_ ≠ (.slice Ao18 t112.length co18 : Value).ownBlock) (.slice Ao14 t103.length co14) t103) := ⟨by (with_reducible repeat (first | apply Kd.R_alloc | apply Kd.R_drewN | apply Kd.R_drew)); exact Kd.R_mono (Kd.R_far (p := ⟨gb116, 3, none⟩) (Kd.R_far (p := ⟨gb116, 2, none⟩) (Kd.R_far (p := ⟨gb116, 1, none⟩) (Kd.R_far (p := ⟨gb116, 0, none⟩) (Kd.R_types HO105.out BK116.out (by decide)) (fun _ hk => hk.2) (.slice Ao14 t103.length co14)) (fun _ hk => hk.2) (.slice Ao16 t106.length co16)) (fun _ hk => hk.2) (.slice Ao17 t109.length co17)) (fun _ hk => hk.2) (.slice Ao18 t112.length co18)) (fun _ hk => hk.1)⟩
      have n1_ : Aside0 (Kd.R (Kd.int .i64) 3 ((((w13.setCell ⟨gb116, 0, none⟩ (.slice Ao14 t103.length co14)).setCell ⟨gb116, 1, none⟩ (.slice Ao16 t106.length co16)).setCell ⟨gb116, 2, none⟩ (.slice Ao17 t109.length co17)).setCell ⟨gb116, 3, none⟩ (.slice Ao18 t112.length co18)) w.heap.size (fun _ => True) (.slice Ao16 t106.length co16) t106) := ⟨by (with_reducible repeat (first | apply Kd.R_alloc | apply Kd.R_drewN | apply Kd.R_drew)); exact Kd.R_mono (Kd.R_far (p := ⟨gb116, 3, none⟩) (Kd.R_far (p := ⟨gb116, 2, none⟩) (Kd.R_far (p := ⟨gb116, 1, none⟩) (Kd.R_far (p := ⟨gb116, 0, none⟩) (Kd.R_types HO108.out BK116.out (by decide)) (fun _ hk => hk.2) (.slice Ao14 t103.length co14)) (fun _ hk => hk.2) (.slice Ao16 t106.length co16)) (fun _ hk => hk.2) (.slice Ao17 t109.length co17)) (fun _ hk => hk.2) (.slice Ao18 t112.length co18)) (fun _ hk => trivial)⟩
      have n2_ : Aside0 (Kd.S (Kd.slice 3 (Kd.int .i64)) 22 ((((w13.setCell ⟨gb116, 0, none⟩ (.slice Ao14 t103.length co14)).setCell ⟨gb116, 1, none⟩ (.slice Ao16 t106.length co16)).setCell ⟨gb116, 2, none⟩ (.slice Ao17 t109.length co17)).setCell ⟨gb116, 3, none⟩ (.slice Ao18 t112.length co18)) w.heap.size (fun k_ => some k_ ≠ (.slice Ao16 t106.length co16 : Value).ownBlock) (.slice Ao17 t109.length co17) t109) := ⟨by (with_reducible repeat (first | apply Kd.S_alloc | apply Kd.S_drewN | apply Kd.S_drew)); exact Kd.S_mono (Kd.S_far (p := ⟨gb116, 3, none⟩) (Kd.S_far (p := ⟨gb116, 2, none⟩) (Kd.S_far (p := ⟨gb116, 1, none⟩) (Kd.S_far (p := ⟨gb116, 0, none⟩) (Kd.S_types HO111.out BK116.out (by decide)) (fun _ hk => hk.2) (.slice Ao14 t103.length co14)) (fun _ hk => hk.2) (.slice Ao16 t106.length co16)) (fun _ hk => hk.2) (.slice Ao17 t109.length co17)) (fun _ hk => hk.2) (.slice Ao18 t112.length co18)) (fun _ hk => hk.1)⟩
      have n3_ : Aside0 (Kd.R Kd.string 9 ((((w13.setCell ⟨gb116, 0, none⟩ (.slice Ao14 t103.length co14)).setCell ⟨gb116, 1, none⟩ (.slice Ao16 t106.length co16)).setCell ⟨gb116, 2, none⟩ (.slice Ao17 t109.length co17)).setCell ⟨gb116, 3, none⟩ (.slice Ao18 t112.length co18)) w.heap.size (fun k_ => some k_ ≠ (.slice Ao14 t103.length co14 : Value).ownBlock) (.slice Ao18 t112.length co18) t112) := ⟨by (with_reducible repeat (first | apply Kd.R_alloc | apply Kd.R_drewN | apply Kd.R_drew)); exact Kd.R_mono (Kd.R_far (p := ⟨gb116, 3, none⟩) (Kd.R_far (p := ⟨gb116, 2, none⟩) (Kd.R_far (p := ⟨gb116, 1, none⟩) (Kd.R_far (p := ⟨gb116, 0, none⟩) (Kd.R_types HO114.out BK116.out (by decide)) (fun _ hk => hk.2) (.slice Ao14 t103.length co14)) (fun _ hk => hk.2) (.slice Ao16 t106.length co16)) (fun _ hk => hk.2) (.slice Ao17 t109.length co17)) (fun _ hk => hk.2) (.slice Ao18 t112.length co18)) (fun _ hk => hk.1)⟩
      have n4_ : Aside0 (((((w13.setCell ⟨gb116, 0, none⟩ (.slice Ao14 t103.length co14)).setCell ⟨gb116, 1, none⟩ (.slice Ao16 t106.length co16)).setCell ⟨gb116, 2, none⟩ (.slice Ao17 t109.length co17)).setCell ⟨gb116, 3, none⟩ (.slice Ao18 t112.length co18)).heap[gb116]? = some (.cells #[.slice Ao14 t103.length co14, .slice Ao16 t106.length co16, .slice Ao17 t109.length co17, .slice Ao18 t112.length co18] 51 (0, 0))) := ⟨by (with_reducible repeat (first | refine blk_drewN ?_ _ | refine blk_drew ?_ | refine blk_alloc ?_ _)); refine blk_put (cs := #[.slice Ao14 t103.length co14, .slice Ao16 t106.length co16, .slice Ao17 t109.length co17, .slice none 0 0]) ?_ 3 _ rfl; (with_reducible repeat (first | refine blk_drewN ?_ _ | refine blk_drew ?_ | refine blk_alloc ?_ _)); refine blk_put (cs := #[.slice Ao14 t103.length co14, .slice Ao16 t106.length co16, .slice none 0 0, .slice none 0 0]) ?_ 2 _ rfl; (with_reducible repeat (first | refine blk_drewN ?_ _ | refine blk_drew ?_ | refine blk_alloc ?_ _)); refine blk_put (cs := #[.slice Ao14 t103.length co14, .slice none 0 0, .slice none 0 0, .slice none 0 0]) ?_ 1 _ rfl; (with_reducible repeat (first | refine blk_drewN ?_ _ | refine blk_drew ?_ | refine blk_alloc ?_ _)); refine blk_put (cs := #[.slice none 0 0, .slice none 0 0, .slice none 0 0, .slice none 0 0]) ?_ 0 _ rfl; exact blc⟩
      have n5_ : Aside0 (Below w.heap.size w ((((w13.setCell ⟨gb116, 0, none⟩ (.slice Ao14 t103.length co14)).setCell ⟨gb116, 1, none⟩ (.slice Ao16 t106.length co16)).setCell ⟨gb116, 2, none⟩ (.slice Ao17 t109.length co17)).setCell ⟨gb116, 3, none⟩ (.slice Ao18 t112.length co18))) := ⟨bel HB⟩
      (try clear HO105)
      (try clear HO108)
      (try clear HO111)
      (try clear HO114)
      (try clear BK116)
      (try clear HB)
      generalize ((((w13.setCell ⟨gb116, 0, none⟩ (.slice Ao14 t103.length co14)).setCell ⟨gb116, 1, none⟩ (.slice Ao16 t106.length co16)).setCell ⟨gb116, 2, none⟩ (.slice Ao17 t109.length co17)).setCell ⟨gb116, 3, none⟩ (.slice Ao18 t112.length co18)) = w19 at n0_ n1_ n2_ n3_ n4_ n5_ ⊢
      have HO105 := n0_
      have HO108 := n1_
      have HO111 := n2_
      have HO114 := n3_
      have BK116 := n4_
      have HB := n5_
      clear n0_ n1_ n2_ n3_ n4_ n5_
      have n0_ := Aside0.mk (Kd.R_drew HO105.out)
      have n1_ := Aside0.mk (Kd.R_drew HO108.out)
      have n2_ := Aside0.mk (Kd.S_drew HO111.out)
      have n3_ := Aside0.mk (Kd.R_drew HO114.out)
      have n4_ := Aside0.mk (blk_drew BK116.out)
      have n5_ := Aside0.mk (below_drew1 HB.out)
      clear HO105
      clear HO108
      clear HO111
      clear HO114
      clear BK116
      clear HB
      have HO105 := n0_
      have HO108 := n1_
      have HO111 := n2_
      have HO114 := n3_
      have BK116 := n4_
      have HB := n5_
      clear n0_ n1_ n2_ n3_ n4_ n5_
      have p118 : 0 ≤ (t117 : Int) := of_decide_eq_true (by first | (with_reducible assumption) | assumption)
      have q118 : t117 < (t112.length : Int) := of_decide_eq_true (by first | (with_reducible assumption) | assumption)
      obtain ⟨ad118, e118, hx118_0⟩ := Kd.at_string (Kd.R_reads' HO114.out).2.2 t117 p118 q118
      cases e118
      replace p118 := eq_true p118
      replace q118 := eq_true q118
      refine start_ (n := 9) (S := fun w' => w'.cell? ⟨gb116, 0, none⟩ = some (.slice Ao14 t103.length co14) ∧ w'.cell? ⟨gb116, 1, none⟩ = some (.slice Ao16 t106.length co16) ∧ w'.cell? ⟨gb116, 2, none⟩ = some (.slice Ao17 t109.length co17) ∧ w'.cell? ⟨gb116, 3, none⟩ = some (.slice (some ad118) t112.length co18) ∧ w'.cell? (ad118.add (t117).toNat) = some (.string (rdOf ByteArray.empty t112 t117))) (ds := []) #[false, false, false, false, false, false, false, false, false] (by kernel_rfl) rfl rfl ⟨(blk_cell BK116.out 0).trans rfl, (blk_cell BK116.out 1).trans rfl, (blk_cell BK116.out 2).trans rfl, (blk_cell BK116.out 3).trans rfl, hx118_0⟩ (fun hHeld => ?_); refine with_tabW impl_ShortestWord.tab5 impl_ShortestWord.bits5 (fun HT_ HW_ => ?_)
      generalize w19.drew = w20 at HO105 HO108 HO111 HO114 BK116 HB hx118_0 hHeld ⊢
      refine pure_ (i := 0) (N := some 27) (v := ?_) (a' := ?_) #[true, false, false, false, false, false, false, false, false] rfl rfl (any_of HT_.out (by kernel_rfl)) (fun _ _ _ h => h) (Or.inl ⟨by rfl, ?_⟩) ?_ ?_
      rotate_left
      ·intro w'
       go_simp
       with_reducible rfl
      rotate_left
      ·simp only [Act.put, List.setIfInBounds_toArray, List.set_cons_zero, List.set_cons_succ, i64_w, i32_w]
       rfl
      refine pure_ (i := 3) (N := some 30) (v := ?_) (a' := ?_) #[true, false, false, true, false, false, false, false, false] rfl rfl (any_of HT_.out (by kernel_rfl)) (fun _ _ _ h => h) (Or.inl ⟨by rfl, ?_⟩) ?_ ?_
      rotate_left
      ·intro w'
       go_simp
       with_reducible rfl
      rotate_left
      ·simp only [Act.put, List.setIfInBounds_toArray, List.set_cons_zero, List.set_cons_succ, i64_w, i32_w]
       rfl
      refine take_ (i := 1) (N := some 28) (v := ?_) (a' := ?_) #[true, true, false, true, false, false, false, false, false] rfl rfl (take_ofW HT_.out HW_.out (by kernel_rfl)) (fun _ _ _ h => h) (Or.inl ⟨by rfl, ?_⟩) hHeld ?_ ?_
      rotate_left
      ·rintro w' ⟨s0, s1, s2, s3, s4⟩
       go_simp
       with_reducible rfl
      rotate_left
      ·simp only [Act.put, List.setIfInBounds_toArray, List.set_cons_zero, List.set_cons_succ, i64_w, i32_w]
       rfl
      refine take_ (i := 2) (N := some 29) (v := ?_) (a' := ?_) #[true, true, true, true, false, false, false, false, false] rfl rfl (take_ofW HT_.out HW_.out (by kernel_rfl)) (fun _ _ _ h => h) (Or.inl ⟨by rfl, ?_⟩) hHeld ?_ ?_
      rotate_left
      ·rintro w' ⟨s0, s1, s2, s3, s4⟩
       go_simp
       with_reducible rfl
      rotate_left
      ·simp only [Act.put, List.setIfInBounds_toArray, List.set_cons_zero, List.set_cons_succ, i64_w, i32_w]
       rfl
      refine one_ (i := 4) (N := some 31) #[true, true, true, true, true, false, false, false, false] rfl rfl (one_of HT_.out (by kernel_rfl)) (by decide) (fun K hK => ?_)
      refine goes_ Tryz.func35 (by kernel_rfl) rfl #[.agg #[.slice Ao14 t103.length co14, .slice Ao16 t106.length co16, .slice Ao17 t109.length co17, .slice (some ad118) t112.length co18], .string a1] (by rfl) rfl rfl (by (try simp only [List.map_toArray, List.map_cons, List.map_nil]); first | done | rfl | (simp only [List.length_drop, List.length_take]; rfl)) ?_
      with_reducible refine (impl_reach_to.calls kj3 _ _ t103 _ _ t106 _ _ t109 _ _ t112 a1 t117 _ ?side1 ?side2 ?side3 ?side4 ?side5 ?side6 ?side7 ?side8 A9.out).mono ?_
      (case side1 => repeat (first | exact (Kd.R_reads' HO105.out).2.2 | (with_reducible refine Kd.C_alloc ?_ _) | (with_reducible refine Kd.C_drewN ?_ _) | (with_reducible refine Kd.C_drew ?_)))
      (case side2 => exact (Kd.R_reads' HO105.out).2.1)
      (case side3 => repeat (first | exact (Kd.R_reads' HO108.out).2.2 | (with_reducible refine Kd.C_alloc ?_ _) | (with_reducible refine Kd.C_drewN ?_ _) | (with_reducible refine Kd.C_drew ?_)))
      (case side4 => exact (Kd.R_reads' HO108.out).2.1)
      (case side5 => repeat (first | exact (Kd.S_reads' HO111.out).2.2 | (with_reducible refine Kd.C_alloc ?_ _) | (with_reducible refine Kd.C_drewN ?_ _) | (with_reducible refine Kd.C_drew ?_)))
      (case side6 => exact (Kd.S_reads' HO111.out).2.1)
      (case side7 => repeat (first | exact (Kd.R_reads' HO114.out).2.2 | (with_reducible refine Kd.C_alloc ?_ _) | (with_reducible refine Kd.C_drewN ?_ _) | (with_reducible refine Kd.C_drew ?_)))
      (case side8 => exact (Kd.R_reads' HO114.out).2.1)
      rintro e w21 ⟨rfl, hb⟩
      have HS4_ := (hb.cell (World.block_lt_of_cell? _ _ (hHeld.2.2.2.2))).trans (hHeld.2.2.2.2)
      refine ⟨_, rfl, ?_⟩
      have n0_ := Aside0.mk (Kd.R_below (rch HO105) hb)
      have n1_ := Aside0.mk (Kd.R_below (rch HO108) hb)
      have n2_ := Aside0.mk (Kd.S_below (by (with_reducible repeat (first | apply Kd.S_alloc | apply Kd.S_drewN | apply Kd.S_drew)); (first | exact HO111.out | exact R_any HO111.out)) hb)
      have n3_ := Aside0.mk (Kd.R_below (rch HO114) hb)
      have n4_ := Aside0.mk (blk_below (g := gb116) (o := .cells #[.slice Ao14 t103.length co14, .slice Ao16 t106.length co16, .slice Ao17 t109.length co17, .slice (some ad118) t112.length co18] 51 (0, 0)) blc hb)
      have n5_ := Aside0.mk (below_step (bel HB) hb)
      clear HO105
      clear HO108
      clear HO111
      clear HO114
      clear BK116
      clear HB
      have HO105 := n0_
      have HO108 := n1_
      have HO111 := n2_
      have HO114 := n3_
      have BK116 := n4_
      have HB := n5_
      clear n0_ n1_ n2_ n3_ n4_ n5_
      (try clear hb)
      (try clear hb2)
      (try clear hk)
      (try clear hi)
      refine hK.out _ _ ⟨(blk_cell BK116.out 0).trans rfl, (blk_cell BK116.out 1).trans rfl, (blk_cell BK116.out 2).trans rfl, (blk_cell BK116.out 3).trans rfl, HS4_⟩ (fun hHeld => ?_)
      clear hK K
      refine norm_ (a' := ?_) ?_ ?_
      rotate_left
      ·show Act.put _ (some 31) _ = _
       simp only [Act.put, List.setIfInBounds_toArray, List.set_cons_zero, List.set_cons_succ, i64_w, i32_w]
       rfl
      refine pure_ (i := 5) (N := some 32) (v := ?_) (a' := ?_) #[true, true, true, true, true, true, false, false, false] rfl rfl (any_of HT_.out (by kernel_rfl)) (fun _ _ _ h => h) (Or.inl ⟨by rfl, ?_⟩) ?_ ?_
      rotate_left
      ·intro w'
       go_simp
       with_reducible rfl
      rotate_left
      ·simp only [Act.put, List.setIfInBounds_toArray, List.set_cons_zero, List.set_cons_succ, i64_w, i32_w]
       rfl
      refine take_ (i := 6) (N := some 33) (v := ?_) (a' := ?_) #[true, true, true, true, true, true, true, false, false] rfl rfl (take_ofW HT_.out HW_.out (by kernel_rfl)) (fun _ _ _ h => h) (Or.inl ⟨by rfl, ?_⟩) hHeld ?_ ?_
      rotate_left
      ·rintro w' ⟨s0, s1, s2, s3, s4⟩
       go_simp
       with_reducible rfl
      rotate_left
      ·simp only [Act.put, List.setIfInBounds_toArray, List.set_cons_zero, List.set_cons_succ, i64_w, i32_w]
       rfl
      refine pure_ (i := 7) (N := some 4) (v := ?_) (a' := ?_) #[true, true, true, true, true, true, true, true, false] rfl rfl (any_of HT_.out (by kernel_rfl)) (fun _ _ _ h => h) (Or.inl ⟨by rfl, ?_⟩) ?_ ?_
      rotate_left
      ·intro w'
       go_simp
       with_reducible rfl
      rotate_left
      ·simp only [Act.put, List.setIfInBounds_toArray, List.set_cons_zero, List.set_cons_succ, i64_w, i32_w]
       rfl
      refine pure_ (i := 8) (N := some 5) (v := ?_) (a' := ?_) #[true, true, true, true, true, true, true, true, true] rfl rfl (any_of HT_.out (by kernel_rfl)) (fun _ _ _ h => h) (Or.inl ⟨by rfl, ?_⟩) ?_ ?_
      rotate_left
      ·intro w'
       go_simp
       with_reducible rfl
      rotate_left
      ·simp only [Act.put, List.setIfInBounds_toArray, List.set_cons_zero, List.set_cons_succ, i64_w, i32_w]
       rfl
      refine done_ (done_of HT_.out (by kernel_rfl)) ?_
      try go_wp2
      go_ret2
      exact ⟨by first | rfl | (simp [errW_none, errW_some] <;> rfl) | (simp [*, errW_none, errW_some] <;> rfl), bel HB⟩
     ·rw [if_neg c11] at H
      exact absurd H (by simp)
    ·rw [if_neg c10] at H
     exact absurd H (by simp)
def laws_FnExactShortestWord.f (k : Nat) (a0 : ByteArray) (a1 : ByteArray) : Option (Bool) := if (a0.size : Int) > 1048576 then (some true) else (if (a1.size : Int) > 1048576 then (some true) else ((spec_ShortestWord.f k a0 a1).bind fun bt101 => ((impl_ShortestWord.f k a0 a1).bind fun bt103 => (if bt103.1.toList = bt101.1.toList then (if (bt103.2 != bt101.2) = true then (some false) else (some true)) else (some false)))))
set_option maxHeartbeats 8000000 in
set_option maxRecDepth 100000 in
theorem laws_FnExactShortestWord.calls (k : Nat) (a0 : ByteArray) (a1 : ByteArray) (r : Bool) (w : World) (hG : GoodW w) (h : laws_FnExactShortestWord.f k a0 a1 = some r) :
  Calls Tryz.prog 7 #[.string a0, .string a1] w fun e w' => e = .returned (.bool r) ∧ Below w.heap.size w w' := by
 have HG := Aside0.mk hG
 clear hG
 have HB := Aside0.mk (Below.refl w.heap.size w)
 have H : (if (a0.size : Int) > 1048576 then (some true) else (if (a1.size : Int) > 1048576 then (some true) else ((spec_ShortestWord.f k a0 a1).bind fun bt101 => ((impl_ShortestWord.f k a0 a1).bind fun bt103 => (if bt103.1.toList = bt101.1.toList then (if (bt103.2 != bt101.2) = true then (some false) else (some true)) else (some false)))))) = some r := h
 clear h
 by_cases c3 : (a0.size : Int) > 1048576
 ·rw [if_pos c3] at H
  have c3b0 : decide (1048576 < (a0.size : Int)) = true := decide_eq_true c3
  have c3b1 : decide (1048576 < a0.size) = true := decide_eq_true (by omega)
  clear c3
  obtain rfl := Option.some.inj H
  go_enter Tryz.func7, Tryz.ntmps7
  go_wp2
  go_ret
  exact ⟨by first | rfl | (simp [errW_none, errW_some] <;> rfl) | (simp [*, errW_none, errW_some] <;> rfl), bel HB⟩
 ·rw [if_neg c3] at H
  have c3b0 : decide (1048576 < (a0.size : Int)) = false := decide_eq_false c3
  have c3b1 : decide (1048576 < a0.size) = false := decide_eq_false (by omega)
  clear c3
  by_cases c4 : (a1.size : Int) > 1048576
  ·rw [if_pos c4] at H
   have c4b0 : decide (1048576 < (a1.size : Int)) = true := decide_eq_true c4
   have c4b1 : decide (1048576 < a1.size) = true := decide_eq_true (by omega)
   clear c4
   obtain rfl := Option.some.inj H
   go_enter Tryz.func7, Tryz.ntmps7
   go_wp2
   go_ret
   exact ⟨by first | rfl | (simp [errW_none, errW_some] <;> rfl) | (simp [*, errW_none, errW_some] <;> rfl), bel HB⟩
  ·rw [if_neg c4] at H
   have c4b0 : decide (1048576 < (a1.size : Int)) = false := decide_eq_false c4
   have c4b1 : decide (1048576 < a1.size) = false := decide_eq_false (by omega)
   clear c4
   replace H := Option.bind_eq_some_iff.mp H
   obtain ⟨⟨t101, t102⟩, A50, H⟩ := H
   replace H : ((impl_ShortestWord.f k a0 a1).bind fun bt103 => (if bt103.1.toList = t101.toList then (if (bt103.2 != t102) = true then (some false) else (some true)) else (some false))) = some r := H
   have A5 := Aside0.mk A50
   clear A50
   replace H := Option.bind_eq_some_iff.mp H
   obtain ⟨⟨t103, t104⟩, A60, H⟩ := H
   replace H : (if t103.toList = t101.toList then (if (t104 != t102) = true then (some false) else (some true)) else (some false)) = some r := H
   have A6 := Aside0.mk A60
   clear A60
   by_cases c7 : t103.toList = t101.toList
   ·rw [if_pos c7] at H
    have c7b0 : (t103.toList == t101.toList) = true := beq_iff_eq.mpr c7
    have c7b1 : (t103.toList != t101.toList) = false := bne_eq_false_iff_eq.mpr c7
    clear c7
    by_cases c8 : (t104 != t102) = true
    ·rw [if_pos c8] at H
     have c8b0 : (t104 != t102) = true := c8
     (try (have c8b1 : decide (t104 = t102) = false := by simpa using c8))
     (try (have c8b2 : (t104 == t102) = false := by simpa using c8))
     (try (have c8b3 : ¬ (t104 = t102) := by simpa using c8))
     clear c8
     obtain rfl := Option.some.inj H
     go_enter Tryz.func7, Tryz.ntmps7
     go_wp2_with (first | ((with_reducible refine gate_callee (f := 22) rfl ?_); refine gcall (some 18) Tryz.func22 #[.string a0, .string a1] rfl ?_; (with_reducible refine (spec_ShortestWord.calls k a0 a1 t101 t102 _ A5.out).mono ?_); rintro e w9 ⟨rfl, hb⟩; refine ⟨_, rfl, ?_⟩; have n0_ := Aside0.mk (below_step (bel HB) hb); clear HB; have HB := n0_; clear n0_; (try clear hb); (try clear hb2); (try clear hk); (try clear hi)) | ((with_reducible refine gate_callee (f := 23) rfl ?_); refine gcall (some 24) Tryz.func23 #[.string a0, .string a1] rfl ?_; (with_reducible refine (impl_ShortestWord.calls k a0 a1 t103 t104 _ ?side1 A6.out).mono ?_); (case side1 => (refine GoodW.below HG.out ?_); exact bel HB); rintro e w10 ⟨rfl, hb⟩; refine ⟨_, rfl, ?_⟩; have n0_ := Aside0.mk (below_step (bel HB) hb); clear HB; have HB := n0_; clear n0_; (try clear hb); (try clear hb2); (try clear hk); (try clear hi)))
     go_ret
     exact ⟨by first | rfl | (simp [errW_none, errW_some] <;> rfl) | (simp [*, errW_none, errW_some] <;> rfl), bel HB⟩
    ·rw [if_neg c8] at H
     have c8b0 : (t104 != t102) = false := by simpa using c8
     (try (have c8b1 : decide (t104 = t102) = true := by simpa using c8))
     (try (have c8b2 : (t104 == t102) = true := by simpa using c8))
     clear c8
     obtain rfl := Option.some.inj H
     go_enter Tryz.func7, Tryz.ntmps7
     go_wp2_with (first | ((with_reducible refine gate_callee (f := 22) rfl ?_); refine gcall (some 18) Tryz.func22 #[.string a0, .string a1] rfl ?_; (with_reducible refine (spec_ShortestWord.calls k a0 a1 t101 t102 _ A5.out).mono ?_); rintro e w11 ⟨rfl, hb⟩; refine ⟨_, rfl, ?_⟩; have n0_ := Aside0.mk (below_step (bel HB) hb); clear HB; have HB := n0_; clear n0_; (try clear hb); (try clear hb2); (try clear hk); (try clear hi)) | ((with_reducible refine gate_callee (f := 23) rfl ?_); refine gcall (some 24) Tryz.func23 #[.string a0, .string a1] rfl ?_; (with_reducible refine (impl_ShortestWord.calls k a0 a1 t103 t104 _ ?side1 A6.out).mono ?_); (case side1 => (refine GoodW.below HG.out ?_); exact bel HB); rintro e w12 ⟨rfl, hb⟩; refine ⟨_, rfl, ?_⟩; have n0_ := Aside0.mk (below_step (bel HB) hb); clear HB; have HB := n0_; clear n0_; (try clear hb); (try clear hb2); (try clear hk); (try clear hi)))
     go_ret
     exact ⟨by first | rfl | (simp [errW_none, errW_some] <;> rfl) | (simp [*, errW_none, errW_some] <;> rfl), bel HB⟩
   ·rw [if_neg c7] at H
    have c7b0 : (t103.toList == t101.toList) = false := beq_eq_false_iff_ne.mpr c7
    have c7b1 : (t103.toList != t101.toList) = true := bne_iff_ne.mpr c7
    obtain rfl := Option.some.inj H
    go_enter Tryz.func7, Tryz.ntmps7
    go_wp2_with (first | ((with_reducible refine gate_callee (f := 22) rfl ?_); refine gcall (some 18) Tryz.func22 #[.string a0, .string a1] rfl ?_; (with_reducible refine (spec_ShortestWord.calls k a0 a1 t101 t102 _ A5.out).mono ?_); rintro e w13 ⟨rfl, hb⟩; refine ⟨_, rfl, ?_⟩; have n0_ := Aside0.mk (below_step (bel HB) hb); clear HB; have HB := n0_; clear n0_; (try clear hb); (try clear hb2); (try clear hk); (try clear hi)) | ((with_reducible refine gate_callee (f := 23) rfl ?_); refine gcall (some 24) Tryz.func23 #[.string a0, .string a1] rfl ?_; (with_reducible refine (impl_ShortestWord.calls k a0 a1 t103 t104 _ ?side1 A6.out).mono ?_); (case side1 => (refine GoodW.below HG.out ?_); exact bel HB); rintro e w14 ⟨rfl, hb⟩; refine ⟨_, rfl, ?_⟩; have n0_ := Aside0.mk (below_step (bel HB) hb); clear HB; have HB := n0_; clear n0_; (try clear hb); (try clear hb2); (try clear hk); (try clear hi)))
    go_ret
    exact ⟨by first | rfl | (simp [errW_none, errW_some] <;> rfl) | (simp [*, errW_none, errW_some] <;> rfl), bel HB⟩
end Go.Proofs.YtchkmhbngbgjnaaGreatDoor.Q
end
section
namespace Go.Proofs.YtchkmhbngbgjnaaGreatDoor.Q
set_option linter.unusedSectionVars false
open Go.RowKit Go.Proofs.YtchkmhbngbgjnaaGreatDoorW.PrintWords Go.Proofs.YtchkmhbngbgjnaaGreatDoorW.PrintLast Go.Proofs.YtchkmhbngbgjnaaGreatDoorW.PrintMore
theorem ByteArray.append_empty' (a : ByteArray) : a ++ (⟨#[]⟩ : ByteArray) = a := by
 apply ByteArray.ext
 rw [ByteArray.data_append]
 exact Array.append_empty ..
theorem ba_assoc (a b c : ByteArray) : (a ++ b) ++ c = a ++ (b ++ c) := by
 apply ByteArray.ext
 simp only [ByteArray.data_append, Array.append_assoc]
theorem reW_ev {t : ByteArray} {w h : Nat} {cs : List Int} {p : List RS × List (List Nat)} (H : Found t w h cs p) : ∀ (j : Nat) (s : RS), p.1[j]? = some s → ∀ word : ByteArray, word.size + s.far ≤ 1000 → Ev (fun k => reW k (foundZ w h p) (j : Int) word) (wordT s.word ++ word) := by
 intro j
 induction j using Nat.strongRecOn with
 | _ j ih =>
  intro s hs word hw
  have hj := (List.getElem?_eq_some_iff.1 hs).1
  have hzl := H.zlen
  rcases Nat.eq_zero_or_pos j with e | hpos
  ·subst e
   obtain ⟨l, e⟩ := H.done.inv.first
   have hs0 : s = ⟨cs, 0, [], -1, 0⟩ := by
    rw [e] at hs
    exact (Option.some.inj hs).symm
   subst hs0
   refine Ev.step (Ev.const (o := some word) ?_) fun k => ?_
   ·rw [show wordT (⟨cs, 0, [], -1, 0⟩ : RS).word = (⟨#[]⟩ : ByteArray) from rfl]
    congr 1
   ·rw [reW, if_pos ⟨by omega, by rw [hzl]; omega⟩, Int.toNat_natCast, H.zget hs, if_neg (by show ¬ (0 : Int) ≤ -1; decide)]
  ·obtain ⟨i, b, h1, h2, h3, h4, h5, h6, h7⟩ := H.done.inv.back j s hs hpos
   have hd := dcut ⟨s.dir, h7⟩
   have hcast : ((s.dir : Int) + 1).toNat = ((s.dir + 1 : Nat) : Int).toNat := by omega
   have hdt : dirT (s.dir : Int) = strOfNums [dirC s.dir] := by
    unfold dirT
    rw [hcast]
    exact hd
   have hsz : (strOfNums [dirC s.dir]).size = 1 := rfl
   have ih1 := ih i h2 b h3 (strOfNums [dirC s.dir] ++ word) (by rw [ByteArray.size_append, hsz]; omega)
   have hword : wordT s.word ++ word = wordT b.word ++ (strOfNums [dirC s.dir] ++ word) := by
    rw [← ba_assoc, h6]
    unfold wordT
    rw [son_append, List.map_append]
    rfl
   rw [hword]
   refine Ev.step ih1 fun k => ?_
   rw [reW, if_pos ⟨by omega, by rw [hzl]; omega⟩, Int.toNat_natCast, H.zget hs]
   rw [show (zOf w h (vRows p.1 0 V0 p.2) (fun q => p.2.getD q []) j s).before = s.before from rfl, show (zOf w h (vRows p.1 0 V0 p.2) (fun q => p.2.getD q []) j s).dir = (s.dir : Int) from rfl, h1, if_pos (by omega), if_pos ⟨⟨by omega, by omega⟩, by omega⟩, hdt]
end Go.Proofs.YtchkmhbngbgjnaaGreatDoor.Q
end
section
namespace Go.Proofs.YtchkmhbngbgjnaaGreatDoor.Q
set_option linter.unusedSectionVars false
open Go.RowKit Go.Proofs.YtchkmhbngbgjnaaGreatDoorW.PrintWords Go.Proofs.YtchkmhbngbgjnaaGreatDoorW.PrintLast Go.Proofs.YtchkmhbngbgjnaaGreatDoorW.PrintMore
open Classical
def ShortestWordR (t u : ByteArray) : ByteArray × Bool := if (DistanceToR t u).2 = true then (if (DistanceToR t u).1 > 40 then (⟨#[]⟩, false) else (wordT ((match found t with | some p => p.1 | none => []).getD (reToR t u).2.1.toNat ⟨[], 0, [], 0, 0⟩).word, true)) else (⟨#[]⟩, false)
theorem specShortestWord_ev (t u : ByteArray) : Ev (fun k => spec_ShortestWord.f k t u) (ShortestWordR t u) := by
 refine Ev.bind (f := fun k (a : List Zs × Int × Bool) => if a.2.2 = true then (if a.2.1 < 0 then some (⟨#[]⟩, false) else if a.2.1 < (a.1.length : Int) then (if 40 < (zAt a.1 a.2.1.toNat).far then some (⟨#[]⟩, false) else (reW k a.1 a.2.1 ⟨#[]⟩).bind fun wd => some (wd, true)) else none) else some (⟨#[]⟩, false)) (reTo_ev t u) ?_
 unfold ShortestWordR DistanceToR
 rcases to_cases t u with e | ⟨w, h, cs, p, H, hu, ⟨e, h1, h2⟩ | ⟨j, s, hs, h1, h2, e⟩⟩
 ·rw [e]
  exact Ev.const rfl
 ·rw [e]
  exact Ev.const rfl
 ·have hj := (List.getElem?_eq_some_iff.1 hs).1
  rw [e, H.found]
  simp only [if_true]
  rw [if_neg (show ¬ (j : Int) < 0 by omega), if_pos rfl, Int.toNat_natCast, H.zget hs]
  rw [show p.1.getD j ⟨[], 0, [], 0, 0⟩ = s from by rw [List.getD_eq_getElem?_getD, hs]; rfl]
  show Ev _ (if ((s.far : Nat) : Int) > 40 then _ else _)
  by_cases hf : ((s.far : Nat) : Int) > 40
  ·rw [if_pos hf]
   refine Ev.congr (Ev.const (o := some ((⟨#[]⟩ : ByteArray), false)) rfl) fun k => ?_
   rw [if_neg (show ¬ (j : Int) < 0 by omega), if_pos (by rw [H.zlen]; omega)]
   exact if_pos hf
  ·rw [if_neg hf]
   have hw := reW_ev H j s hs ⟨#[]⟩ (by show 0 + s.far ≤ 1000; have := H.far hs; omega)
   refine Ev.congr (Ev.bind (f := fun _ wd => some (wd, true)) hw (Ev.const ?_)) fun k => ?_
   ·rw [ByteArray.append_empty']
   ·rw [if_neg (show ¬ (j : Int) < 0 by omega), if_pos (by rw [H.zlen]; omega)]
    exact if_neg hf
theorem implShortestWord_ev (t u : ByteArray) (ht : t.size ≤ 1048576) (hu : u.size ≤ 1048576) : Ev (fun k => impl_ShortestWord.f k t u) (ShortestWordR t u) := by
 refine Ev.bind (f := fun k (bt101 : Int × Bool) => (if bt101.2 = true then (impl_ShortestWord.j0 k t u (decide (bt101.1 > 40))) else (impl_ShortestWord.j0 k t u true))) (implDistanceTo_ev t u ht hu) ?_
 have hno : Ev (fun k => impl_ShortestWord.j0 k t u true) (⟨#[]⟩, false) := by
  refine Ev.step (Ev.const (o := some ((⟨#[]⟩ : ByteArray), false)) rfl) fun k => ?_
  rw [impl_ShortestWord.j0, if_pos rfl]
 unfold ShortestWordR
 by_cases hd : (DistanceToR t u).2 = true
 ·rw [if_pos hd]
  refine Ev.congr ?_ fun k => if_pos hd
  by_cases hf : (DistanceToR t u).1 > 40
  ·rw [if_pos hf]
   exact Ev.congr hno fun k => by rw [decide_eq_true hf]
  ·rw [if_neg hf]
   rcases to_cases t u with e | ⟨w, h, cs, p, H, hut, ⟨e, h1, h2⟩ | ⟨j, s, hs, h1, h2, e⟩⟩
   ·unfold DistanceToR at hd
    rw [e] at hd
    exact absurd hd (by decide)
   ·unfold DistanceToR at hd
    rw [e] at hd
    exact absurd (show false = true from hd) (by decide)
   ·have hj := (List.getElem?_eq_some_iff.1 hs).1
    have hwl : (wds p.1).length = p.1.length := by unfold wds; rw [List.length_map]
    rw [e, H.found]
    show Ev _ (wordT (p.1.getD (j : Int).toNat ⟨[], 0, [], 0, 0⟩).word, true)
    rw [Int.toNat_natCast, show p.1.getD j ⟨[], 0, [], 0, 0⟩ = s from by rw [List.getD_eq_getElem?_getD, hs]; rfl]
    refine Ev.congr (Ev.step (g := fun k => impl_ShortestWord.j0 k t u false) (Ev.bind (f := fun k (bt103 : ReR) => ((impl_reach_to.f k bt103.1 bt103.2.1 bt103.2.2.1 bt103.2.2.2.1 u).bind fun t117 => (if 0 ≤ t117 then (if t117 < (bt103.2.2.2.1.length : Int) then (some (rdOf ByteArray.empty bt103.2.2.2.1 t117, true)) else (none)) else (none)))) (H.prog ▸ reachOf_ev t ht) (a := foundI w h p) ?_) fun k => ?_) fun k => by rw [decide_eq_false hf]
    ·refine Ev.bind (f := fun _ t117 => (if 0 ≤ t117 then (if t117 < ((wds p.1).length : Int) then (some (rdOf ByteArray.empty (wds p.1) t117, true)) else (none)) else (none))) (to_ev (txs w h p.1) (fars p.1) (p.2.map casts) (wds p.1) u H.tl) (Ev.const ?_)
     rw [h2, if_pos (by omega), if_pos (by rw [hwl]; omega)]
     exact congrArg (fun z => some (z, true)) (rdOf_map ByteArray.empty (fun s : RS => wordT s.word) hs)
    ·rw [impl_ShortestWord.j0, if_neg (by decide)]
 ·rw [if_neg hd]
  exact Ev.congr hno fun k => if_neg hd
theorem lawShortestWord_ev (t : ByteArray) (u : ByteArray) : Ev (fun k => laws_FnExactShortestWord.f k t u) true := by
 by_cases ht : t.size ≤ 1048576
 case neg =>
  refine Ev.congr (Ev.const (o := some true) rfl) fun k => ?_
  unfold laws_FnExactShortestWord.f
  exact if_pos (by omega)
 by_cases hu : u.size ≤ 1048576
 case neg =>
  refine Ev.congr (Ev.const (o := some true) rfl) fun k => ?_
  unfold laws_FnExactShortestWord.f
  rw [if_neg (by omega)]
  exact if_pos (by omega)
 have hsp := specShortestWord_ev t u
 have him := implShortestWord_ev t u ht hu
 refine Ev.congr (Ev.bind (f := fun k (bt101 : ByteArray × Bool) => ((impl_ShortestWord.f k t u).bind fun bt103 => (if bt103.1.toList = bt101.1.toList then (if (bt103.2 != bt101.2) = true then (some false) else (some true)) else (some false)))) hsp (Ev.bind (f := fun _ (bt103 : ByteArray × Bool) => (if bt103.1.toList = (ShortestWordR t u).1.toList then (if (bt103.2 != (ShortestWordR t u).2) = true then (some false) else (some true)) else (some false))) him (Ev.const ?_))) fun k => by unfold laws_FnExactShortestWord.f; rw [if_neg (by omega), if_neg (by omega)]
 rw [if_pos rfl, bne_self_eq_false, if_neg (by decide)]
end Go.Proofs.YtchkmhbngbgjnaaGreatDoor.Q
end
