/- Texts of this claim, joined. -/
import Derived.Test.YtchkmhbngbgjnaaGreatDoorJCountShortest01
import Derived.Test.YtchkmhbngbgjnaaGreatDoorJCountShortest05
import Derived.Test.YtchkmhbngbgjnaaGreatDoorJCountShortest07
set_option linter.unusedVariables false
set_option linter.unusedSimpArgs false
set_option linter.unusedSectionVars false
section
namespace Go.Proofs.YtchkmhbngbgjnaaGreatDoor.Q
open Go.RowKit Go.Proofs.YtchkmhbngbgjnaaGreatDoorW.PrintWords Go.Proofs.YtchkmhbngbgjnaaGreatDoorW.PrintLast Go.Proofs.YtchkmhbngbgjnaaGreatDoorW.PrintMore
attribute [local go_sem] max2_int min2_int max_two min_two max_three min_three max_four min_four
set_option linter.unusedVariables false
set_option linter.unusedSimpArgs false
def impl_IsReached.f (k : Nat) (a0 : ByteArray) (a1 : ByteArray) : Option (Bool × Bool) := (impl_reachOf.f k a0).bind fun bt101 => (if bt101.2.2.2.2 = true then ((impl_IsTray.f k a1).bind fun t115 => (if t115 = true then ((impl_reach_to.f k bt101.1 bt101.2.1 bt101.2.2.1 bt101.2.2.2.1 a1).bind fun t116 => (some (decide (t116 ≥ 0), true))) else (some (false, false)))) else (some (false, false)))
set_option maxHeartbeats 8000000 in
set_option maxRecDepth 100000 in
theorem impl_IsReached.calls (k : Nat) (a0 : ByteArray) (a1 : ByteArray) (r1 : Bool) (r2 : Bool) (w : World) (hG : GoodW w) (h : impl_IsReached.f k a0 a1 = some (r1, r2)) :
  Calls Tryz.prog 17 #[.string a0, .string a1] w fun e w' => e = .returned (.tuple #[.bool r1, .bool r2]) ∧ Below w.heap.size w w' := by
 have hu51 := Tryz.underlying51
 have HG := Aside0.mk hG
 clear hG
 have HB := Aside0.mk (Below.refl w.heap.size w)
 have H : ((impl_reachOf.f k a0).bind fun bt101 => (if bt101.2.2.2.2 = true then ((impl_IsTray.f k a1).bind fun t115 => (if t115 = true then ((impl_reach_to.f k bt101.1 bt101.2.1 bt101.2.2.1 bt101.2.2.2.1 a1).bind fun t116 => (some (decide (t116 ≥ 0), true))) else (some (false, false)))) else (some (false, false)))) = some (r1, r2) := h
 clear h
 replace H := Option.bind_eq_some_iff.mp H
 obtain ⟨⟨t101, t104, t107, t110, t113⟩, A30, H⟩ := H
 replace H : (if t113 = true then ((impl_IsTray.f k a1).bind fun t115 => (if t115 = true then ((impl_reach_to.f k t101 t104 t107 t110 a1).bind fun t116 => (some (decide (t116 ≥ 0), true))) else (some (false, false)))) else (some (false, false))) = some (r1, r2) := H
 have A3 := Aside0.mk A30
 clear A30
 by_cases c4 : t113 = true
 ·subst c4
  have H1 : ((impl_IsTray.f k a1).bind fun t115 => (if t115 = true then ((impl_reach_to.f k t101 t104 t107 t110 a1).bind fun t116 => (some (decide (t116 ≥ 0), true))) else (some (false, false)))) = some (r1, r2) := by rw [if_pos rfl] at H; exact H
  clear H
  have H := H1
  clear H1
  replace H := Option.bind_eq_some_iff.mp H
  obtain ⟨t115, A50, H⟩ := H
  replace H : (if t115 = true then ((impl_reach_to.f k t101 t104 t107 t110 a1).bind fun t116 => (some (decide (t116 ≥ 0), true))) else (some (false, false))) = some (r1, r2) := H
  have A5 := Aside0.mk A50
  clear A50
  by_cases c6 : t115 = true
  ·subst c6
   have H1 : ((impl_reach_to.f k t101 t104 t107 t110 a1).bind fun t116 => (some (decide (t116 ≥ 0), true))) = some (r1, r2) := by rw [if_pos rfl] at H; exact H
   clear H
   have H := H1
   clear H1
   replace H := Option.bind_eq_some_iff.mp H
   obtain ⟨t116, A70, H⟩ := H
   replace H : (some (decide (t116 ≥ 0), true)) = some (r1, r2) := H
   have A7 := Aside0.mk A70
   clear A70
   simp only [Option.some.injEq, Prod.mk.injEq] at H
   obtain ⟨rfl, rfl⟩ := H
   go_enter Tryz.func17, Tryz.ntmps17
   go_wp2_with (first | ((with_reducible refine gate_callee (f := 31) rfl ?_); refine gcall (some 10) Tryz.func31 #[.string a0] rfl ?_; (with_reducible refine (impl_reachOf.calls k a0 t101 t104 t107 t110 true _ ?side1 A3.out).mono ?_); (case side1 => (refine GoodW.below HG.out ?_); exact bel HB); rintro e w8 ⟨v102, v105, v108, v111, rfl, ho0, ho1, ho2, ho3, hb⟩; refine ⟨_, rfl, ?_⟩; have n0_ := Aside0.mk (Kd.R_lower ho0 (below_size (bel HB))); have n1_ := Aside0.mk (Kd.R_lower ho1 (below_size (bel HB))); have n2_ := Aside0.mk (Kd.S_lower ho2 (below_size (bel HB))); have n3_ := Aside0.mk (Kd.R_lower ho3 (below_size (bel HB))); have n4_ := Aside0.mk (below_step (bel HB) hb); clear HB; have HO103 := n0_; have HO106 := n1_; have HO109 := n2_; have HO112 := n3_; have HB := n4_; clear n0_ n1_ n2_ n3_ n4_; (try clear hb); (try clear hb2); (try clear hk); (try clear hi); (try clear ho0); (try clear ho1); (try clear ho2); (try clear ho3)) | ((with_reducible refine gate_dst (N := 6) rfl ?_); refine boxE (N := 6) (cs := #[.slice none 0 0, .slice none 0 0, .slice none 0 0, .slice none 0 0]) (t := 51) ?_; intro gb114 hg w9 hbox hb; have n0_ := Aside0.mk (Kd.R_below (rch HO103) hb); have n1_ := Aside0.mk (Kd.R_below (rch HO106) hb); have n2_ := Aside0.mk (Kd.S_below (by (with_reducible repeat (first | apply Kd.S_alloc | apply Kd.S_drewN | apply Kd.S_drew)); (first | exact HO109.out | exact R_any HO109.out)) hb); have n3_ := Aside0.mk (Kd.R_below (rch HO112) hb); have n4_ := Aside0.mk (below_step (bel HB) hb); have n5_ := Aside0.mk (hbox); have n6_ := Aside0.mk (gsz hg (bel HB)); have n7_ := Aside0.mk (gsz hg (bel HB)); clear HO103; clear HO106; clear HO109; clear HO112; clear HB; have HO103 := n0_; have HO106 := n1_; have HO109 := n2_; have HO112 := n3_; have HB := n4_; have BK114 := n5_; have GW114 := n6_; have GE114 := n7_; clear n0_ n1_ n2_ n3_ n4_ n5_ n6_ n7_; clear hb hbox hg; obtain ⟨Ao10, co10, eo10⟩ := Kd.R_slice HO103.out; subst eo10; have hcz11_0 : w9.cell? ⟨gb114, 0, none⟩ = some (.slice none 0 0) := (blk_cell BK114.out 0).trans rfl; have hcz11_1 : w9.cell? ⟨gb114, 1, none⟩ = some (.slice none 0 0) := (blk_cell BK114.out 1).trans rfl; have hcz11_2 : w9.cell? ⟨gb114, 2, none⟩ = some (.slice none 0 0) := (blk_cell BK114.out 2).trans rfl; have hcz11_3 : w9.cell? ⟨gb114, 3, none⟩ = some (.slice none 0 0) := (blk_cell BK114.out 3).trans rfl; have hfz11_0 := blk_frozen BK114.out 0; have hfz11_1 := blk_frozen BK114.out 1; have hfz11_2 := blk_frozen BK114.out 2; have hfz11_3 := blk_frozen BK114.out 3; obtain ⟨Ao12, co12, eo12⟩ := Kd.R_slice HO106.out; subst eo12; obtain ⟨Ao13, co13, eo13⟩ := Kd.S_slice HO109.out; subst eo13; obtain ⟨Ao14, co14, eo14⟩ := Kd.R_slice HO112.out; subst eo14) | (go_at_call 34; (with_reducible refine (impl_IsTray.calls k a1 true _ ?side1 A5.out).mono ?_); (case side1 => (refine GoodW.below HG.out ?_); exact bel HB); rintro e w15 ⟨rfl, hb⟩; have n0_ := Aside0.mk (Kd.R_below (by (with_reducible repeat (first | apply Kd.R_alloc | apply Kd.R_drewN | apply Kd.R_drew)); exact (Kd.R_mono (Kd.R_far (p := ⟨gb114, 3, none⟩) (Kd.R_far (p := ⟨gb114, 2, none⟩) (Kd.R_far (p := ⟨gb114, 1, none⟩) (Kd.R_far (p := ⟨gb114, 0, none⟩) (Kd.R_types HO103.out BK114.out (by decide)) (fun _ hk => hk.2) (.slice Ao10 t101.length co10)) (fun _ hk => hk.2) (.slice Ao12 t104.length co12)) (fun _ hk => hk.2) (.slice Ao13 t107.length co13)) (fun _ hk => hk.2) (.slice Ao14 t110.length co14)) (fun _ h_ => h_.1))) hb); have n1_ := Aside0.mk (Kd.R_below (by (with_reducible repeat (first | apply Kd.R_alloc | apply Kd.R_drewN | apply Kd.R_drew)); exact (Kd.R_mono (Kd.R_far (p := ⟨gb114, 3, none⟩) (Kd.R_far (p := ⟨gb114, 2, none⟩) (Kd.R_far (p := ⟨gb114, 1, none⟩) (Kd.R_far (p := ⟨gb114, 0, none⟩) (Kd.R_types HO106.out BK114.out (by decide)) (fun _ hk => hk.2) (.slice Ao10 t101.length co10)) (fun _ hk => hk.2) (.slice Ao12 t104.length co12)) (fun _ hk => hk.2) (.slice Ao13 t107.length co13)) (fun _ hk => hk.2) (.slice Ao14 t110.length co14)) (fun _ h_ => h_.1))) hb); have n2_ := Aside0.mk (Kd.S_below (by (with_reducible repeat (first | apply Kd.S_alloc | apply Kd.S_drewN | apply Kd.S_drew)); exact (Kd.S_mono (Kd.S_far (p := ⟨gb114, 3, none⟩) (Kd.S_far (p := ⟨gb114, 2, none⟩) (Kd.S_far (p := ⟨gb114, 1, none⟩) (Kd.S_far (p := ⟨gb114, 0, none⟩) (Kd.S_types HO109.out BK114.out (by decide)) (fun _ hk => hk.2) (.slice Ao10 t101.length co10)) (fun _ hk => hk.2) (.slice Ao12 t104.length co12)) (fun _ hk => hk.2) (.slice Ao13 t107.length co13)) (fun _ hk => hk.2) (.slice Ao14 t110.length co14)) (fun _ h_ => h_.1))) hb); have n3_ := Aside0.mk (Kd.R_below (by (with_reducible repeat (first | apply Kd.R_alloc | apply Kd.R_drewN | apply Kd.R_drew)); exact (Kd.R_mono (Kd.R_far (p := ⟨gb114, 3, none⟩) (Kd.R_far (p := ⟨gb114, 2, none⟩) (Kd.R_far (p := ⟨gb114, 1, none⟩) (Kd.R_far (p := ⟨gb114, 0, none⟩) (Kd.R_types HO112.out BK114.out (by decide)) (fun _ hk => hk.2) (.slice Ao10 t101.length co10)) (fun _ hk => hk.2) (.slice Ao12 t104.length co12)) (fun _ hk => hk.2) (.slice Ao13 t107.length co13)) (fun _ hk => hk.2) (.slice Ao14 t110.length co14)) (fun _ h_ => h_.1))) hb); have n4_ := Aside0.mk (blk_below (g := gb114) (o := .cells #[.slice Ao10 t101.length co10, .slice Ao12 t104.length co12, .slice Ao13 t107.length co13, .slice Ao14 t110.length co14] 51 (0, 0)) (by (with_reducible repeat (first | refine blk_drewN ?_ _ | refine blk_drew ?_ | refine blk_alloc ?_ _)); refine blk_put (cs := #[.slice Ao10 t101.length co10, .slice Ao12 t104.length co12, .slice Ao13 t107.length co13, .slice none 0 0]) ?_ 3 _ rfl; (with_reducible repeat (first | refine blk_drewN ?_ _ | refine blk_drew ?_ | refine blk_alloc ?_ _)); refine blk_put (cs := #[.slice Ao10 t101.length co10, .slice Ao12 t104.length co12, .slice none 0 0, .slice none 0 0]) ?_ 2 _ rfl; (with_reducible repeat (first | refine blk_drewN ?_ _ | refine blk_drew ?_ | refine blk_alloc ?_ _)); refine blk_put (cs := #[.slice Ao10 t101.length co10, .slice none 0 0, .slice none 0 0, .slice none 0 0]) ?_ 1 _ rfl; (with_reducible repeat (first | refine blk_drewN ?_ _ | refine blk_drew ?_ | refine blk_alloc ?_ _)); refine blk_put (cs := #[.slice none 0 0, .slice none 0 0, .slice none 0 0, .slice none 0 0]) ?_ 0 _ rfl; exact blc) hb); have n5_ := Aside0.mk (below_step (bel HB) hb); clear HO103; clear HO106; clear HO109; clear HO112; clear BK114; clear HB; have HO103 := n0_; have HO106 := n1_; have HO109 := n2_; have HO112 := n3_; have BK114 := n4_; have HB := n5_; clear n0_ n1_ n2_ n3_ n4_ n5_; (try clear hb); (try clear hb2); (try clear hk); (try clear hi); have hcz16_0 : w15.cell? ⟨gb114, 0, none⟩ = some (.slice Ao10 t101.length co10) := (blk_cell BK114.out 0).trans rfl; have hcz16_1 : w15.cell? ⟨gb114, 1, none⟩ = some (.slice Ao12 t104.length co12) := (blk_cell BK114.out 1).trans rfl; have hcz16_2 : w15.cell? ⟨gb114, 2, none⟩ = some (.slice Ao13 t107.length co13) := (blk_cell BK114.out 2).trans rfl; have hcz16_3 : w15.cell? ⟨gb114, 3, none⟩ = some (.slice Ao14 t110.length co14) := (blk_cell BK114.out 3).trans rfl; have hfz16_0 := blk_frozen BK114.out 0; have hfz16_1 := blk_frozen BK114.out 1; have hfz16_2 := blk_frozen BK114.out 2; have hfz16_3 := blk_frozen BK114.out 3) | ((with_reducible refine gate_callee (f := 35) rfl ?_); refine gcall (some 22) Tryz.func35 #[.agg #[.slice Ao10 t101.length co10, .slice Ao12 t104.length co12, .slice Ao13 t107.length co13, .slice Ao14 t110.length co14], .string a1] rfl ?_; (with_reducible refine (impl_reach_to.calls k _ _ t101 _ _ t104 _ _ t107 _ _ t110 a1 t116 _ ?side1 ?side2 ?side3 ?side4 ?side5 ?side6 ?side7 ?side8 A7.out).mono ?_); (case side1 => repeat (first | exact (Kd.R_reads' HO103.out).2.2 | (with_reducible refine Kd.C_alloc ?_ _) | (with_reducible refine Kd.C_drewN ?_ _) | (with_reducible refine Kd.C_drew ?_))); (case side2 => exact (Kd.R_reads' HO103.out).2.1); (case side3 => repeat (first | exact (Kd.R_reads' HO106.out).2.2 | (with_reducible refine Kd.C_alloc ?_ _) | (with_reducible refine Kd.C_drewN ?_ _) | (with_reducible refine Kd.C_drew ?_))); (case side4 => exact (Kd.R_reads' HO106.out).2.1); (case side5 => repeat (first | exact (Kd.S_reads' HO109.out).2.2 | (with_reducible refine Kd.C_alloc ?_ _) | (with_reducible refine Kd.C_drewN ?_ _) | (with_reducible refine Kd.C_drew ?_))); (case side6 => exact (Kd.S_reads' HO109.out).2.1); (case side7 => repeat (first | exact (Kd.R_reads' HO112.out).2.2 | (with_reducible refine Kd.C_alloc ?_ _) | (with_reducible refine Kd.C_drewN ?_ _) | (with_reducible refine Kd.C_drew ?_))); (case side8 => exact (Kd.R_reads' HO112.out).2.1); rintro e w17 ⟨rfl, hb⟩; refine ⟨_, rfl, ?_⟩; have n0_ := Aside0.mk (Kd.R_below (rch HO103) hb); have n1_ := Aside0.mk (Kd.R_below (rch HO106) hb); have n2_ := Aside0.mk (Kd.S_below (by (with_reducible repeat (first | apply Kd.S_alloc | apply Kd.S_drewN | apply Kd.S_drew)); (first | exact HO109.out | exact R_any HO109.out)) hb); have n3_ := Aside0.mk (Kd.R_below (rch HO112) hb); have n4_ := Aside0.mk (blk_below (g := gb114) (o := .cells #[.slice Ao10 t101.length co10, .slice Ao12 t104.length co12, .slice Ao13 t107.length co13, .slice Ao14 t110.length co14] 51 (0, 0)) blc hb); have n5_ := Aside0.mk (below_step (bel HB) hb); clear HO103; clear HO106; clear HO109; clear HO112; clear BK114; clear HB; have HO103 := n0_; have HO106 := n1_; have HO109 := n2_; have HO112 := n3_; have BK114 := n4_; have HB := n5_; clear n0_ n1_ n2_ n3_ n4_ n5_; (try clear hb); (try clear hb2); (try clear hk); (try clear hi)))
   go_ret2
   exact ⟨by first | rfl | (simp [errW_none, errW_some] <;> rfl) | (simp [*, errW_none, errW_some] <;> rfl), bel HB⟩
  ·replace c6 := Bool.eq_false_iff.mpr c6
   subst c6
   have H1 : (some (false, false)) = some (r1, r2) := by rw [if_neg (show ¬ (false = true) by decide)] at H; exact H
   clear H
   have H := H1
   clear H1
   simp only [Option.some.injEq, Prod.mk.injEq] at H
   obtain ⟨rfl, rfl⟩ := H
   go_enter Tryz.func17, Tryz.ntmps17
   go_wp2_with (first | ((with_reducible refine gate_callee (f := 31) rfl ?_); refine gcall (some 10) Tryz.func31 #[.string a0] rfl ?_; (with_reducible refine (impl_reachOf.calls k a0 t101 t104 t107 t110 true _ ?side1 A3.out).mono ?_); (case side1 => (refine GoodW.below HG.out ?_); exact bel HB); rintro e w18 ⟨v102, v105, v108, v111, rfl, ho0, ho1, ho2, ho3, hb⟩; refine ⟨_, rfl, ?_⟩; have n0_ := Aside0.mk (Kd.R_lower ho0 (below_size (bel HB))); have n1_ := Aside0.mk (Kd.R_lower ho1 (below_size (bel HB))); have n2_ := Aside0.mk (Kd.S_lower ho2 (below_size (bel HB))); have n3_ := Aside0.mk (Kd.R_lower ho3 (below_size (bel HB))); have n4_ := Aside0.mk (below_step (bel HB) hb); clear HB; have HO103 := n0_; have HO106 := n1_; have HO109 := n2_; have HO112 := n3_; have HB := n4_; clear n0_ n1_ n2_ n3_ n4_; (try clear hb); (try clear hb2); (try clear hk); (try clear hi); (try clear ho0); (try clear ho1); (try clear ho2); (try clear ho3)) | ((with_reducible refine gate_dst (N := 6) rfl ?_); refine boxE (N := 6) (cs := #[.slice none 0 0, .slice none 0 0, .slice none 0 0, .slice none 0 0]) (t := 51) ?_; intro gb114 hg w19 hbox hb; have n0_ := Aside0.mk (Kd.R_below (rch HO103) hb); have n1_ := Aside0.mk (Kd.R_below (rch HO106) hb); have n2_ := Aside0.mk (Kd.S_below (by (with_reducible repeat (first | apply Kd.S_alloc | apply Kd.S_drewN | apply Kd.S_drew)); (first | exact HO109.out | exact R_any HO109.out)) hb); have n3_ := Aside0.mk (Kd.R_below (rch HO112) hb); have n4_ := Aside0.mk (below_step (bel HB) hb); have n5_ := Aside0.mk (hbox); have n6_ := Aside0.mk (gsz hg (bel HB)); have n7_ := Aside0.mk (gsz hg (bel HB)); clear HO103; clear HO106; clear HO109; clear HO112; clear HB; have HO103 := n0_; have HO106 := n1_; have HO109 := n2_; have HO112 := n3_; have HB := n4_; have BK114 := n5_; have GW114 := n6_; have GE114 := n7_; clear n0_ n1_ n2_ n3_ n4_ n5_ n6_ n7_; clear hb hbox hg; obtain ⟨Ao20, co20, eo20⟩ := Kd.R_slice HO103.out; subst eo20; have hcz21_0 : w19.cell? ⟨gb114, 0, none⟩ = some (.slice none 0 0) := (blk_cell BK114.out 0).trans rfl; have hcz21_1 : w19.cell? ⟨gb114, 1, none⟩ = some (.slice none 0 0) := (blk_cell BK114.out 1).trans rfl; have hcz21_2 : w19.cell? ⟨gb114, 2, none⟩ = some (.slice none 0 0) := (blk_cell BK114.out 2).trans rfl; have hcz21_3 : w19.cell? ⟨gb114, 3, none⟩ = some (.slice none 0 0) := (blk_cell BK114.out 3).trans rfl; have hfz21_0 := blk_frozen BK114.out 0; have hfz21_1 := blk_frozen BK114.out 1; have hfz21_2 := blk_frozen BK114.out 2; have hfz21_3 := blk_frozen BK114.out 3; obtain ⟨Ao22, co22, eo22⟩ := Kd.R_slice HO106.out; subst eo22; obtain ⟨Ao23, co23, eo23⟩ := Kd.S_slice HO109.out; subst eo23; obtain ⟨Ao24, co24, eo24⟩ := Kd.R_slice HO112.out; subst eo24) | (go_at_call 34; (with_reducible refine (impl_IsTray.calls k a1 false _ ?side1 A5.out).mono ?_); (case side1 => (refine GoodW.below HG.out ?_); exact bel HB); rintro e w25 ⟨rfl, hb⟩; have n0_ := Aside0.mk (Kd.R_below (by (with_reducible repeat (first | apply Kd.R_alloc | apply Kd.R_drewN | apply Kd.R_drew)); exact (Kd.R_mono (Kd.R_far (p := ⟨gb114, 3, none⟩) (Kd.R_far (p := ⟨gb114, 2, none⟩) (Kd.R_far (p := ⟨gb114, 1, none⟩) (Kd.R_far (p := ⟨gb114, 0, none⟩) (Kd.R_types HO103.out BK114.out (by decide)) (fun _ hk => hk.2) (.slice Ao20 t101.length co20)) (fun _ hk => hk.2) (.slice Ao22 t104.length co22)) (fun _ hk => hk.2) (.slice Ao23 t107.length co23)) (fun _ hk => hk.2) (.slice Ao24 t110.length co24)) (fun _ h_ => h_.1))) hb); have n1_ := Aside0.mk (Kd.R_below (by (with_reducible repeat (first | apply Kd.R_alloc | apply Kd.R_drewN | apply Kd.R_drew)); exact (Kd.R_mono (Kd.R_far (p := ⟨gb114, 3, none⟩) (Kd.R_far (p := ⟨gb114, 2, none⟩) (Kd.R_far (p := ⟨gb114, 1, none⟩) (Kd.R_far (p := ⟨gb114, 0, none⟩) (Kd.R_types HO106.out BK114.out (by decide)) (fun _ hk => hk.2) (.slice Ao20 t101.length co20)) (fun _ hk => hk.2) (.slice Ao22 t104.length co22)) (fun _ hk => hk.2) (.slice Ao23 t107.length co23)) (fun _ hk => hk.2) (.slice Ao24 t110.length co24)) (fun _ h_ => h_.1))) hb); have n2_ := Aside0.mk (Kd.S_below (by (with_reducible repeat (first | apply Kd.S_alloc | apply Kd.S_drewN | apply Kd.S_drew)); exact (Kd.S_mono (Kd.S_far (p := ⟨gb114, 3, none⟩) (Kd.S_far (p := ⟨gb114, 2, none⟩) (Kd.S_far (p := ⟨gb114, 1, none⟩) (Kd.S_far (p := ⟨gb114, 0, none⟩) (Kd.S_types HO109.out BK114.out (by decide)) (fun _ hk => hk.2) (.slice Ao20 t101.length co20)) (fun _ hk => hk.2) (.slice Ao22 t104.length co22)) (fun _ hk => hk.2) (.slice Ao23 t107.length co23)) (fun _ hk => hk.2) (.slice Ao24 t110.length co24)) (fun _ h_ => h_.1))) hb); have n3_ := Aside0.mk (Kd.R_below (by (with_reducible repeat (first | apply Kd.R_alloc | apply Kd.R_drewN | apply Kd.R_drew)); exact (Kd.R_mono (Kd.R_far (p := ⟨gb114, 3, none⟩) (Kd.R_far (p := ⟨gb114, 2, none⟩) (Kd.R_far (p := ⟨gb114, 1, none⟩) (Kd.R_far (p := ⟨gb114, 0, none⟩) (Kd.R_types HO112.out BK114.out (by decide)) (fun _ hk => hk.2) (.slice Ao20 t101.length co20)) (fun _ hk => hk.2) (.slice Ao22 t104.length co22)) (fun _ hk => hk.2) (.slice Ao23 t107.length co23)) (fun _ hk => hk.2) (.slice Ao24 t110.length co24)) (fun _ h_ => h_.1))) hb); have n4_ := Aside0.mk (blk_below (g := gb114) (o := .cells #[.slice Ao20 t101.length co20, .slice Ao22 t104.length co22, .slice Ao23 t107.length co23, .slice Ao24 t110.length co24] 51 (0, 0)) (by (with_reducible repeat (first | refine blk_drewN ?_ _ | refine blk_drew ?_ | refine blk_alloc ?_ _)); refine blk_put (cs := #[.slice Ao20 t101.length co20, .slice Ao22 t104.length co22, .slice Ao23 t107.length co23, .slice none 0 0]) ?_ 3 _ rfl; (with_reducible repeat (first | refine blk_drewN ?_ _ | refine blk_drew ?_ | refine blk_alloc ?_ _)); refine blk_put (cs := #[.slice Ao20 t101.length co20, .slice Ao22 t104.length co22, .slice none 0 0, .slice none 0 0]) ?_ 2 _ rfl; (with_reducible repeat (first | refine blk_drewN ?_ _ | refine blk_drew ?_ | refine blk_alloc ?_ _)); refine blk_put (cs := #[.slice Ao20 t101.length co20, .slice none 0 0, .slice none 0 0, .slice none 0 0]) ?_ 1 _ rfl; (with_reducible repeat (first | refine blk_drewN ?_ _ | refine blk_drew ?_ | refine blk_alloc ?_ _)); refine blk_put (cs := #[.slice none 0 0, .slice none 0 0, .slice none 0 0, .slice none 0 0]) ?_ 0 _ rfl; exact blc) hb); have n5_ := Aside0.mk (below_step (bel HB) hb); clear HO103; clear HO106; clear HO109; clear HO112; clear BK114; clear HB; have HO103 := n0_; have HO106 := n1_; have HO109 := n2_; have HO112 := n3_; have BK114 := n4_; have HB := n5_; clear n0_ n1_ n2_ n3_ n4_ n5_; (try clear hb); (try clear hb2); (try clear hk); (try clear hi)))
   go_ret2
   exact ⟨by first | rfl | (simp [errW_none, errW_some] <;> rfl) | (simp [*, errW_none, errW_some] <;> rfl), bel HB⟩
 ·replace c4 := Bool.eq_false_iff.mpr c4
  subst c4
  have H1 : (some (false, false)) = some (r1, r2) := by rw [if_neg (show ¬ (false = true) by decide)] at H; exact H
  clear H
  have H := H1
  clear H1
  simp only [Option.some.injEq, Prod.mk.injEq] at H
  obtain ⟨rfl, rfl⟩ := H
  go_enter Tryz.func17, Tryz.ntmps17
  go_wp2_with (first | ((with_reducible refine gate_callee (f := 31) rfl ?_); refine gcall (some 10) Tryz.func31 #[.string a0] rfl ?_; (with_reducible refine (impl_reachOf.calls k a0 t101 t104 t107 t110 false _ ?side1 A3.out).mono ?_); (case side1 => (refine GoodW.below HG.out ?_); exact bel HB); rintro e w26 ⟨v102, v105, v108, v111, rfl, ho0, ho1, ho2, ho3, hb⟩; refine ⟨_, rfl, ?_⟩; have n0_ := Aside0.mk (Kd.R_lower ho0 (below_size (bel HB))); have n1_ := Aside0.mk (Kd.R_lower ho1 (below_size (bel HB))); have n2_ := Aside0.mk (Kd.S_lower ho2 (below_size (bel HB))); have n3_ := Aside0.mk (Kd.R_lower ho3 (below_size (bel HB))); have n4_ := Aside0.mk (below_step (bel HB) hb); clear HB; have HO103 := n0_; have HO106 := n1_; have HO109 := n2_; have HO112 := n3_; have HB := n4_; clear n0_ n1_ n2_ n3_ n4_; (try clear hb); (try clear hb2); (try clear hk); (try clear hi); (try clear ho0); (try clear ho1); (try clear ho2); (try clear ho3)) | ((with_reducible refine gate_dst (N := 6) rfl ?_); refine boxE (N := 6) (cs := #[.slice none 0 0, .slice none 0 0, .slice none 0 0, .slice none 0 0]) (t := 51) ?_; intro gb114 hg w27 hbox hb; have n0_ := Aside0.mk (Kd.R_below (rch HO103) hb); have n1_ := Aside0.mk (Kd.R_below (rch HO106) hb); have n2_ := Aside0.mk (Kd.S_below (by (with_reducible repeat (first | apply Kd.S_alloc | apply Kd.S_drewN | apply Kd.S_drew)); (first | exact HO109.out | exact R_any HO109.out)) hb); have n3_ := Aside0.mk (Kd.R_below (rch HO112) hb); have n4_ := Aside0.mk (below_step (bel HB) hb); have n5_ := Aside0.mk (hbox); have n6_ := Aside0.mk (gsz hg (bel HB)); have n7_ := Aside0.mk (gsz hg (bel HB)); clear HO103; clear HO106; clear HO109; clear HO112; clear HB; have HO103 := n0_; have HO106 := n1_; have HO109 := n2_; have HO112 := n3_; have HB := n4_; have BK114 := n5_; have GW114 := n6_; have GE114 := n7_; clear n0_ n1_ n2_ n3_ n4_ n5_ n6_ n7_; clear hb hbox hg; obtain ⟨Ao28, co28, eo28⟩ := Kd.R_slice HO103.out; subst eo28; have hcz29_0 : w27.cell? ⟨gb114, 0, none⟩ = some (.slice none 0 0) := (blk_cell BK114.out 0).trans rfl; have hcz29_1 : w27.cell? ⟨gb114, 1, none⟩ = some (.slice none 0 0) := (blk_cell BK114.out 1).trans rfl; have hcz29_2 : w27.cell? ⟨gb114, 2, none⟩ = some (.slice none 0 0) := (blk_cell BK114.out 2).trans rfl; have hcz29_3 : w27.cell? ⟨gb114, 3, none⟩ = some (.slice none 0 0) := (blk_cell BK114.out 3).trans rfl; have hfz29_0 := blk_frozen BK114.out 0; have hfz29_1 := blk_frozen BK114.out 1; have hfz29_2 := blk_frozen BK114.out 2; have hfz29_3 := blk_frozen BK114.out 3; obtain ⟨Ao30, co30, eo30⟩ := Kd.R_slice HO106.out; subst eo30; obtain ⟨Ao31, co31, eo31⟩ := Kd.S_slice HO109.out; subst eo31; obtain ⟨Ao32, co32, eo32⟩ := Kd.R_slice HO112.out; subst eo32))
  go_ret2
  exact ⟨by first | rfl | (simp [errW_none, errW_some] <;> rfl) | (simp [*, errW_none, errW_some] <;> rfl), bel HB⟩
end Go.Proofs.YtchkmhbngbgjnaaGreatDoor.Q
end
section
namespace Go.Proofs.YtchkmhbngbgjnaaGreatDoor.Q
set_option linter.unusedSectionVars false
open Go.RowKit Go.Proofs.YtchkmhbngbgjnaaGreatDoorW.PrintWords Go.Proofs.YtchkmhbngbgjnaaGreatDoorW.PrintLast Go.Proofs.YtchkmhbngbgjnaaGreatDoorW.PrintMore
open Classical
def IsReachedR (t u : ByteArray) : Bool × Bool := (decide (0 ≤ (reToR t u).2.1), (reToR t u).2.2)
theorem implIsReached_ev (t u : ByteArray) (ht : t.size ≤ 1048576) (hu : u.size ≤ 1048576) : Ev (fun k => impl_IsReached.f k t u) (IsReachedR t u) := by
 refine Ev.bind (f := fun k (bt101 : ReR) => (if bt101.2.2.2.2 = true then ((impl_IsTray.f k u).bind fun t115 => (if t115 = true then ((impl_reach_to.f k bt101.1 bt101.2.1 bt101.2.2.1 bt101.2.2.2.1 u).bind fun t116 => (some (decide (t116 ≥ 0), true))) else (some (false, false)))) else (some (false, false)))) (reachOf_ev t ht) ?_
 rcases found_cases t with ⟨h1, h2⟩ | ⟨w, h, cs, p, H⟩
 ·have e : IsReachedR t u = (false, false) := by
   unfold IsReachedR reToR
   rw [h1]
   rfl
  rw [e, h2]
  exact Ev.congr (Ev.const rfl) fun k => if_neg Bool.false_ne_true
 ·rw [H.prog]
  refine Ev.congr (Ev.bind (f := fun k t115 => (if t115 = true then ((impl_reach_to.f k (txs w h p.1) (fars p.1) (p.2.map casts) (wds p.1) u).bind fun t116 => (some (decide (t116 ≥ 0), true))) else (some (false, false)))) (isTray_ev u hu) ?_) fun k => if_pos rfl
  have hr : ∀ b, (trayOf u).isSome = b → IsReachedR t u = if b = true then (decide (0 ≤ idxT (txs w h p.1) u 0), true) else (false, false) := fun b hb => by
   unfold IsReachedR reToR
   rw [H.all]
   cases b with
   | false => rw [if_pos rfl, if_neg (by rw [hb]; decide)]; rfl
   | true => rw [if_pos rfl, if_pos hb, H.place]; rfl
  cases hb : (trayOf u).isSome with
  | false =>
   rw [hr false hb]
   exact Ev.congr (Ev.const rfl) fun k => if_neg Bool.false_ne_true
  | true =>
   rw [hr true hb]
   exact Ev.congr (Ev.bind (f := fun _ t116 => some (decide (t116 ≥ 0), true)) (to_ev (txs w h p.1) (fars p.1) (p.2.map casts) (wds p.1) u H.tl) (Ev.const rfl)) fun k => if_pos rfl
end Go.Proofs.YtchkmhbngbgjnaaGreatDoor.Q
end
section
namespace Go.Proofs.YtchkmhbngbgjnaaGreatDoor.Q
open Go.RowKit Go.Proofs.YtchkmhbngbgjnaaGreatDoorW.PrintWords Go.Proofs.YtchkmhbngbgjnaaGreatDoorW.PrintLast Go.Proofs.YtchkmhbngbgjnaaGreatDoorW.PrintMore
attribute [local go_sem] max2_int min2_int max_two min_two max_three min_three max_four min_four
set_option linter.unusedVariables false
set_option linter.unusedSimpArgs false
mutual
def impl_reach_ways.l0 : Nat → List Int → List (List Int) → Int → Int → List ByteArray → List Int → List (List Int) → List ByteArray → Option (List Int)
 | 0, _, _, _, _, _, _, _, _ => none
 | k + 1, x3, x15, x16, x17, x102000, x102001, x102002, x102003 => if x17 < x16 then (if 0 ≤ x17 then (if x17 < (x15.length : Int) then (impl_reach_ways.l1 k x3 x17 x15 x16 x17 (rd_Lii x15 x17) ((rd_Lii x15 x17).length : Int) 0 x102000 x102001 x102002 x102003) else (none)) else (none)) else (some x3)
def impl_reach_ways.l1 : Nat → List Int → Int → List (List Int) → Int → Int → List Int → Int → Int → List ByteArray → List Int → List (List Int) → List ByteArray → Option (List Int)
 | 0, _, _, _, _, _, _, _, _, _, _, _, _ => none
 | k + 1, x3, x4, x15, x16, x17, x22, x23, x24, x102000, x102001, x102002, x102003 => if x24 < x23 then (if 0 ≤ x24 then (if x24 < (x22.length : Int) then (if 0 ≤ (rd x22 x24) then (if (rd x22 x24) < (x102001.length : Int) then (if 0 ≤ x4 then (if x4 < (x102001.length : Int) then (if (rd x102001 (rd x22 x24)) = (wrap64 ((rd x102001 x4) + 1)) then (if (rd x22 x24) < (x3.length : Int) then (if x4 < (x3.length : Int) then (impl_reach_ways.l1 k (x3.set ((rd x22 x24) : Int).toNat (wrap64 ((rd x3 (rd x22 x24)) + (rd x3 x4)))) x4 x15 x16 x17 x22 x23 (wrap64 (x24 + 1)) x102000 x102001 x102002 x102003) else (none)) else (none)) else (impl_reach_ways.l1 k x3 x4 x15 x16 x17 x22 x23 (wrap64 (x24 + 1)) x102000 x102001 x102002 x102003)) else (none)) else (none)) else (none)) else (none)) else (none)) else (none)) else (impl_reach_ways.l0 k x3 x15 x16 (wrap64 (x17 + 1)) x102000 x102001 x102002 x102003)
end
def impl_reach_ways.f (k : Nat) (l0_0 : List ByteArray) (l0_1 : List Int) (l0_2 : List (List Int)) (l0_3 : List ByteArray) : Option (List Int) := if 0 ≤ (l0_0.length : Int) then (if ((l0_0.length : Int) : Int).toNat ≤ 35184372088832 then ((some (List.replicate ((l0_0.length : Int) : Int).toNat 0 : List Int)).bind fun y102 => (if 0 < (y102.length : Int) then (impl_reach_ways.l0 k (y102.set (0 : Int).toNat 1) l0_2 (l0_2.length : Int) 0 l0_0 l0_1 l0_2 l0_3) else (none))) else (none)) else (none)
def impl_reach_ways.T9 : Bool × List (List Nat × List Nat) := (true, [([], []), ([0], [0]), ([], []), ([1, 2], [1, 2]), ([3], [3]), ([], []), ([5], [5]), ([], []), ([6, 7], [6, 7]), ([8], [8]), ([9], [9]), ([4, 10], [4, 10])])
def impl_reach_ways.B9 : List Nat := [0, 1, 0, 7, 15, 0, 32, 0, 224, 480, 992, 2047]
theorem impl_reach_ways.tab9 : rtab .any (opsOf Tryz.f38 9) = impl_reach_ways.T9 := by kernel_rfl
theorem impl_reach_ways.bits9 : waitsOk impl_reach_ways.T9.2 impl_reach_ways.B9 = true := by kernel_rfl
def impl_reach_ways.T10 : Bool × List (List Nat × List Nat) := (true, [([], []), ([], []), ([0, 1], [0, 1]), ([2], [2]), ([], []), ([], []), ([4, 5], [4, 5]), ([6], [6]), ([3, 7], [3, 7]), ([0, 1, 0, 1, 2, 3, 4, 5, 6, 7, 8], [0, 1]), ([9, 8, 0, 1, 2, 3, 4, 5, 6, 7, 8], [8, 9])])
def impl_reach_ways.B10 : List Nat := [0, 0, 3, 7, 0, 0, 48, 112, 255, 511, 1023]
theorem impl_reach_ways.tab10 : rtab .any (opsOf Tryz.f38 10) = impl_reach_ways.T10 := by kernel_rfl
theorem impl_reach_ways.bits10 : waitsOk impl_reach_ways.T10.2 impl_reach_ways.B10 = true := by kernel_rfl
set_option maxHeartbeats 8000000 in
set_option maxRecDepth 100000 in
theorem impl_reach_ways.calls (k : Nat) (A0_0 : Option Addr) (c0_0 : Nat) (l0_0 : List ByteArray) (A0_1 : Option Addr) (c0_1 : Nat) (l0_1 : List Int) (A0_2 : Option Addr) (c0_2 : Nat) (l0_2 : List (List Int)) (A0_3 : Option Addr) (c0_3 : Nat) (l0_3 : List ByteArray) (r : List Int) (w : World) (hr0_0 : Kd.C Kd.string w A0_0 l0_0.length l0_0) (hc0_0 : l0_0.length ≤ c0_0) (hr0_1 : Kd.C (Kd.int .i64) w A0_1 l0_1.length l0_1) (hc0_1 : l0_1.length ≤ c0_1) (hr0_2 : Kd.C (Kd.slice 3 (Kd.int .i64)) w A0_2 l0_2.length l0_2) (hc0_2 : l0_2.length ≤ c0_2) (hr0_3 : Kd.C Kd.string w A0_3 l0_3.length l0_3) (hc0_3 : l0_3.length ≤ c0_3) (h : impl_reach_ways.f k l0_0 l0_1 l0_2 l0_3 = some r) :
  Calls Tryz.prog 38 #[.agg #[.slice A0_0 l0_0.length c0_0, .slice A0_1 l0_1.length c0_1, .slice A0_2 l0_2.length c0_2, .slice A0_3 l0_3.length c0_3]] w fun e w' => ∃ v0_ : Value, e = .returned (v0_) ∧ Kd.R (Kd.int .i64) 3 w' w.heap.size (fun _ => True) v0_ r ∧ Below w.heap.size w w' := by
 have hu51 := Tryz.underlying51
 have HR0_0 := Aside0.mk hr0_0
 have HC0_0 := Aside0.mk hc0_0
 clear hr0_0 hc0_0
 have HR0_1 := Aside0.mk hr0_1
 have HC0_1 := Aside0.mk hc0_1
 clear hr0_1 hc0_1
 have HR0_2 := Aside0.mk hr0_2
 have HC0_2 := Aside0.mk hc0_2
 clear hr0_2 hc0_2
 have HR0_3 := Aside0.mk hr0_3
 have HC0_3 := Aside0.mk hc0_3
 clear hr0_3 hc0_3
 have HB := Aside0.mk (Below.refl w.heap.size w)
 have H : (if 0 ≤ (l0_0.length : Int) then (if ((l0_0.length : Int) : Int).toNat ≤ 35184372088832 then ((some (List.replicate ((l0_0.length : Int) : Int).toNat 0 : List Int)).bind fun y102 => (if 0 < (y102.length : Int) then (impl_reach_ways.l0 k (y102.set (0 : Int).toNat 1) l0_2 (l0_2.length : Int) 0 l0_0 l0_1 l0_2 l0_3) else (none))) else (none)) else (none)) = some r := h
 clear h
 by_cases c2 : 0 ≤ (l0_0.length : Int)
 ·rw [if_pos c2] at H
  have c2b0 := eq_true c2
  have c2b1 : decide (0 ≤ (l0_0.length : Int)) = true := decide_eq_true c2
  clear c2
  by_cases c3 : ((l0_0.length : Int) : Int).toNat ≤ 35184372088832
  ·rw [if_pos c3] at H
   have c3b0 := eq_true c3
   have c3b1 : decide (((l0_0.length : Int) : Int).toNat ≤ 35184372088832) = true := decide_eq_true c3
   clear c3
   obtain ⟨y102, hy102⟩ : ∃ y_ : List Int, y_ = (List.replicate ((l0_0.length : Int) : Int).toNat 0) := ⟨_, rfl⟩
   replace H : (if 0 < (y102.length : Int) then (impl_reach_ways.l0 k (y102.set (0 : Int).toNat 1) l0_2 (l0_2.length : Int) 0 l0_0 l0_1 l0_2 l0_3) else (none)) = some r := rH hy102 H
   have Ny102 := Aside0.mk hy102
   clear hy102
   by_cases c4 : 0 < (y102.length : Int)
   ·rw [if_pos c4] at H
    have c4b0 : decide (0 < (y102.length : Int)) = true := decide_eq_true c4
    have c4b1 : decide (0 < y102.length) = true := decide_eq_true (by omega)
    clear c4
    obtain ⟨y105, hy105⟩ : ∃ y_ : List Int, y_ = (y102.set (0 : Int).toNat 1) := ⟨_, rfl⟩
    replace H : (impl_reach_ways.l0 k y105 l0_2 (l0_2.length : Int) 0 l0_0 l0_1 l0_2 l0_3) = some r := rH hy105 H
    have Ny105 := Aside0.mk hy105
    clear hy105
    have H' := Aside0.mk H
    clear H
    go_enter Tryz.func38, Tryz.ntmps38
    go_wp2_with (first | ((with_reducible refine gate_dst (N := 1) rfl ?_); refine boxE (N := 1) (cs := #[.slice A0_0 l0_0.length c0_0, .slice A0_1 l0_1.length c0_1, .slice A0_2 l0_2.length c0_2, .slice A0_3 l0_3.length c0_3]) (t := 51) ?_; intro gb101 hg w6 hbox hb; have n0_ := Aside0.mk (below_step (bel HB) hb); have n1_ := Aside0.mk (hbox); have n2_ := Aside0.mk (gsz hg (bel HB)); have n3_ := Aside0.mk (gsz hg (bel HB)); clear HB; have HB := n0_; have BK101 := n1_; have GW101 := n2_; have GE101 := n3_; clear n0_ n1_ n2_ n3_; clear hb hbox hg; have hcz7_0 : w6.cell? ⟨gb101, 0, none⟩ = some (.slice A0_0 l0_0.length c0_0) := (blk_cell BK101.out 0).trans rfl; have hcz7_1 : w6.cell? ⟨gb101, 1, none⟩ = some (.slice A0_1 l0_1.length c0_1) := (blk_cell BK101.out 1).trans rfl; have hcz7_2 : w6.cell? ⟨gb101, 2, none⟩ = some (.slice A0_2 l0_2.length c0_2) := (blk_cell BK101.out 2).trans rfl; have hcz7_3 : w6.cell? ⟨gb101, 3, none⟩ = some (.slice A0_3 l0_3.length c0_3) := (blk_cell BK101.out 3).trans rfl; have hfz7_0 := blk_frozen BK101.out 0; have hfz7_1 := blk_frozen BK101.out 1; have hfz7_2 := blk_frozen BK101.out 2; have hfz7_3 := blk_frozen BK101.out 3) | ((with_reducible refine gate_dst (N := 11) rfl ?_); refine Kd.R_make (Kd.int .i64) _ 3 rfl (N := 11) rfl 22 _ _ rfl (l0_0.length : Int) rfl rfl Tryz.underlying22 (.int .i64 0) 8 info3 rfl (by decide) (by omega) 0 (ok := fun _ => True) (okp := fun _ => True) rfl (fun _ hk => hk) trivial (of_decide_eq_true (by first | (with_reducible assumption) | assumption)) (Nat.le_trans (Nat.mul_le_mul_right _ (of_decide_eq_true (by first | (with_reducible assumption) | assumption) : (l0_0.length : Int).toNat ≤ 35184372088832)) (by omega)) (Below.refl _ _) (Nat.le_refl _) ?_; intro v103 w8 ho9 hb hg_ hnew_; clear hg_ hnew_; (first | rw [← Ny102.out] at ho9 | (simp only [Int.reduceToNat] at ho9; rw [← Ny102.out] at ho9)); have n0_ := Aside0.mk (Kd.R_lower ho9 (below_size (bel HB))); have n1_ := Aside0.mk (blk_below (g := gb101) (o := .cells #[.slice A0_0 l0_0.length c0_0, .slice A0_1 l0_1.length c0_1, .slice A0_2 l0_2.length c0_2, .slice A0_3 l0_3.length c0_3] 51 (0, 0)) blc hb); have n2_ := Aside0.mk (below_step (bel HB) hb); clear BK101; clear HB; have HO104 := n0_; have BK101 := n1_; have HB := n2_; clear n0_ n1_ n2_; clear hb ho9; have p5 : 0 ≤ (0 : Int) := (by omega); have q5 : (0 : Int) < ((y102.length : Int) : Int) := of_decide_eq_true (by first | (with_reducible assumption) | assumption); have qi5 : (0 < y102.length) = True := eq_true (by omega); obtain ⟨go5, co5, eo5, gb5, gl5, cl5, HG5⟩ := Kd.R_form HO104.out (by omega); (first | cases eo5 | (injection eo5 with ea_ en_ ec_; (first | subst ea_ | (injection ea_ with ea_; subst ea_)); subst ec_; clear en_)); have GB5 := Aside0.mk gb5; have GG5 := Aside0.mk HG5; clear gb5 gl5 HG5; obtain ⟨hx5_0, hf5_0⟩ := Kd.R_celln 0 HO104.out (0 : Int) p5 q5; (try rw [show ((0 : Int)).toNat = 0 from rfl] at hx5_0); (try simp only [Nat.reduceMul, Nat.zero_mul, Nat.zero_add, Nat.reduceAdd] at hx5_0); (try rw [show ((0 : Int)).toNat = 0 from rfl] at hf5_0); (try simp only [Nat.reduceMul, Nat.zero_mul, Nat.zero_add, Nat.reduceAdd] at hf5_0); replace p5 := eq_true p5; replace q5 := eq_true q5; obtain ⟨hy10_, hz10_⟩ := Kd.R_celln 0 HO104.out (0 : Int) (by omega) (of_decide_eq_true (by first | (with_reducible assumption) | assumption)); (try simp only [Int.reduceToNat, Int.toNat_zero, Int.toNat_ofNat, Nat.reduceMul, Nat.zero_mul, Nat.zero_add] at hy10_ hz10_); (try rw [show ((0 : Int)).toNat = 0 from rfl] at hy10_); (try rw [show ((0 : Int)).toNat = 0 from rfl] at hz10_); have HP10 := Kd.R_putg HO104.out (0 : Int) 1) | ((with_reducible refine gate_store (t := 3) (p := 13) rfl ?_); refine store_event (t := 3) (p := 13) (v := ?vo_w11) (w1 := (w8.setCell ⟨go5, (0 : Int).toNat, none⟩ (.int .i64 1))) ?hg ?ho ?hn ?hr ?_; (case ho => rfl); (case hg => rfl); (case hn => rfl); (case hr => first | (go_simp; done) | (go_simp; rfl)); intro w11 hw; have hg : w8.grownBy w11 (some go5) := (by rw [hw]; exact HP10.2); have hp_ : Kd.R (Kd.int .i64) 3 w11 w.heap.size (fun _ => True) (.slice (some ⟨go5, 0, none⟩) y102.length co5) y105 := (by rw [hw, Ny105.out]; (first | exact HP10.1 | exact R_any HP10.1)); clear HP10; have n0_ := Aside0.mk (blk_grown (g := gb101) (o := .cells #[.slice A0_0 l0_0.length c0_0, .slice A0_1 l0_1.length c0_1, .slice A0_2 l0_2.length c0_2, .slice A0_3 l0_3.length c0_3] 51 (0, 0)) blc hg (Kd.R_ne HO104.out BK101.out (by decide))); have n1_ := Aside0.mk (hp_); have n2_ := Aside0.mk ((by rw [hw]; exact below_set (HB.out) GB5.out : Below w.heap.size w w11)); clear BK101; clear HO104; clear HB; have BK101 := n0_; have HO104 := n1_; have HB := n2_; clear n0_ n1_ n2_; clear hg hw hp_; have hcz12_0 : w11.cell? ⟨gb101, 0, none⟩ = some (.slice A0_0 l0_0.length c0_0) := (blk_cell BK101.out 0).trans rfl; have hcz12_1 : w11.cell? ⟨gb101, 1, none⟩ = some (.slice A0_1 l0_1.length c0_1) := (blk_cell BK101.out 1).trans rfl; have hcz12_2 : w11.cell? ⟨gb101, 2, none⟩ = some (.slice A0_2 l0_2.length c0_2) := (blk_cell BK101.out 2).trans rfl; have hcz12_3 : w11.cell? ⟨gb101, 3, none⟩ = some (.slice A0_3 l0_3.length c0_3) := (blk_cell BK101.out 3).trans rfl; have hfz12_0 := blk_frozen BK101.out 0; have hfz12_1 := blk_frozen BK101.out 1; have hfz12_2 := blk_frozen BK101.out 2; have hfz12_3 := blk_frozen BK101.out 3))
    go_loopg [17] k (fun kq v17 w' => ∃ (x3_1 : List Int) (x17_1 : Int), v17 = .int .i64 x17_1 ∧ Aside0 (impl_reach_ways.l0 kq x3_1 l0_2 (l0_2.length : Int) x17_1 l0_0 l0_1 l0_2 l0_3 = some r) ∧ Aside0 (kq ≤ k) ∧ Aside0 (Kd.R (Kd.int .i64) 3 w' w.heap.size (fun _ => True) (.slice (some ⟨go5, 0, none⟩) y102.length co5) x3_1) ∧ Aside0 (w'.heap[gb101]? = some (.cells #[(.slice A0_0 l0_0.length c0_0), (.slice A0_1 l0_1.length c0_1), (.slice A0_2 l0_2.length c0_2), (.slice A0_3 l0_3.length c0_3)] 51 (0, 0))) ∧ Aside0 (Below w.heap.size w w'))
    case atStart => exact ⟨(y105), (0), (by first | rfl | (simp; done) | (simp [*]; done)), H', ⟨Nat.le_refl _⟩, ⟨rch HO104⟩, ⟨blc⟩, ⟨bel HB⟩⟩
    case round =>
     clear H'
     try clear c2
     try clear c2b0
     try clear c2b0y
     try clear c2b1
     try clear p2
     try clear c3
     try clear c3b0
     try clear c3b0y
     try clear c3b1
     try clear c4
     try clear c4b0
     try clear c4b0y
     try clear c4b1
     try clear p5
     try clear q5
     try clear hx5
     try clear qi5
     try clear hf5
     try clear hcz12_0
     try clear hcz12_1
     try clear hcz12_2
     try clear hcz12_3
     try clear hcz7_0
     try clear hcz7_1
     try clear hcz7_2
     try clear hcz7_3
     try clear hfz12_0
     try clear hfz12_1
     try clear hfz12_2
     try clear hfz12_3
     try clear hfz7_0
     try clear hfz7_1
     try clear hfz7_2
     try clear hfz7_3
     try clear hx5_0
     try clear p5
     try clear q5
     obtain ⟨x3_1, x17_1, rfl, HA, HK1, HO_3, BK101, HB⟩ := hrel
     have hl3_1 := (Kd.R_reads' HO_3.out).1
     rw [hl3_1] at HO_3
     (try simp only [hl3_1])
     (try simp only [hl3_1] at BK101)
     cases gk with
     | zero => exact absurd HA.out (by simp [impl_reach_ways.l0])
     | succ k1 =>
      have H := HA.out
      clear HA
      simp only [impl_reach_ways.l0] at H
      by_cases c13 : x17_1 < (l0_2.length : Int)
      ·rw [if_pos c13] at H
       have c13b0 : decide (x17_1 < (l0_2.length : Int)) = true := decide_eq_true c13
       clear c13
       by_cases c14 : 0 ≤ x17_1
       ·rw [if_pos c14] at H
        have c14b0 : decide (0 ≤ x17_1) = true := decide_eq_true c14
        clear c14
        by_cases c15 : x17_1 < (l0_2.length : Int)
        ·rw [if_pos c15] at H
         have c15b0 : decide (x17_1 < (l0_2.length : Int)) = true := decide_eq_true c15
         clear c15
         have H' := Aside0.mk H
         clear H
         have p106 : 0 ≤ (x17_1 : Int) := of_decide_eq_true (by first | (with_reducible assumption) | assumption)
         have q106 : x17_1 < (l0_2.length : Int) := of_decide_eq_true (by first | (with_reducible assumption) | assumption)
         obtain ⟨ad106, A106_0, c106_0, e106, hx106_0, hl106_0, hi106_0⟩ := at_Lii HR0_2.out x17_1 p106 q106
         cases e106
         (try replace hx106_0 := (HB.out.cell (World.block_lt_of_cell? w _ hx106_0)).trans hx106_0)
         have HR106_0 := Aside0.mk hi106_0
         have HC106_0 := Aside0.mk hl106_0
         clear hi106_0 hl106_0
         replace p106 := eq_true p106
         replace q106 := eq_true q106
         go_wp2
         go_loopg [24] k1 (fun kq v24 w' => ∃ (x3_2 : List Int) (x24_2 : Int), v24 = .int .i64 x24_2 ∧ Aside0 (impl_reach_ways.l1 kq x3_2 x17_1 l0_2 (l0_2.length : Int) x17_1 (rd_Lii l0_2 x17_1) ((rd_Lii l0_2 x17_1).length : Int) x24_2 l0_0 l0_1 l0_2 l0_3 = some r) ∧ Aside0 (kq ≤ k1) ∧ Aside0 (Kd.R (Kd.int .i64) 3 w' w.heap.size (fun _ => True) (.slice (some ⟨go5, 0, none⟩) x3_1.length co5) x3_2) ∧ Aside0 (w'.heap[gb101]? = some (.cells #[(.slice A0_0 l0_0.length c0_0), (.slice A0_1 l0_1.length c0_1), (.slice (some ad106) l0_2.length c0_2), (.slice A0_3 l0_3.length c0_3)] 51 (0, 0))) ∧ Aside0 (Below w.heap.size w w'))
         case atStart => exact ⟨(x3_1), (0), (by first | rfl | (simp; done) | (simp [*]; done)), H', ⟨Nat.le_refl _⟩, ⟨by (try simp only [hl3_1]); (with_reducible repeat (first | apply Kd.R_alloc | apply Kd.R_drewN | apply Kd.R_drew)); (first | exact HO_3.out | exact R_any HO_3.out)⟩, ⟨by (try simp only [hl3_1]); exact blc⟩, ⟨bel HB⟩⟩
         case round =>
          clear H'
          try clear c1
          try clear p1
          try clear q1
          try clear hx1
          try clear c2
          try clear c2b0
          try clear c2b0y
          try clear c2b1
          try clear p2
          try clear c3
          try clear c3b0
          try clear c3b0y
          try clear c3b1
          try clear c4
          try clear c4b0
          try clear c4b0y
          try clear c4b1
          try clear p5
          try clear q5
          try clear hx5
          try clear qi5
          try clear hf5
          try clear c10
          try clear p10
          try clear q10
          try clear hx10
          try clear c13
          try clear c13b0
          try clear c13b0y
          try clear c14
          try clear c14b0
          try clear c14b0y
          try clear c15
          try clear c15b0
          try clear c15b0y
          try clear hcz12_0
          try clear hcz12_1
          try clear hcz12_2
          try clear hcz12_3
          try clear hcz7_0
          try clear hcz7_1
          try clear hcz7_2
          try clear hcz7_3
          try clear hfz12_0
          try clear hfz12_1
          try clear hfz12_2
          try clear hfz12_3
          try clear hfz7_0
          try clear hfz7_1
          try clear hfz7_2
          try clear hfz7_3
          try clear hx106_0
          try clear hx5_0
          try clear p106
          try clear p2
          try clear p5
          try clear q106
          try clear q5
          obtain ⟨x3_2, x24_2, rfl, HA, HK2, HO_3, BK101, HB⟩ := hrel
          have hl3_2 := (Kd.R_reads' HO_3.out).1
          rw [hl3_2] at HO_3
          (try simp only [hl3_2])
          (try simp only [hl3_2] at BK101)
          cases gk with
          | zero => exact absurd HA.out (by simp [impl_reach_ways.l1])
          | succ k2 =>
           have H := HA.out
           clear HA
           simp only [impl_reach_ways.l1] at H
           by_cases c16 : x24_2 < ((rd_Lii l0_2 x17_1).length : Int)
           ·rw [if_pos c16] at H
            have c16b0 : decide (x24_2 < ((rd_Lii l0_2 x17_1).length : Int)) = true := decide_eq_true c16
            clear c16
            by_cases c17 : 0 ≤ x24_2
            ·rw [if_pos c17] at H
             have c17b0 : decide (0 ≤ x24_2) = true := decide_eq_true c17
             clear c17
             by_cases c18 : x24_2 < ((rd_Lii l0_2 x17_1).length : Int)
             ·rw [if_pos c18] at H
              have c18b0 : decide (x24_2 < ((rd_Lii l0_2 x17_1).length : Int)) = true := decide_eq_true c18
              clear c18
              by_cases c19 : 0 ≤ (rd (rd_Lii l0_2 x17_1) x24_2)
              ·rw [if_pos c19] at H
               have c19b0 : decide (0 ≤ (rd (rd_Lii l0_2 x17_1) x24_2)) = true := decide_eq_true c19
               clear c19
               by_cases c20 : (rd (rd_Lii l0_2 x17_1) x24_2) < (l0_1.length : Int)
               ·rw [if_pos c20] at H
                have c20b0 : decide ((rd (rd_Lii l0_2 x17_1) x24_2) < (l0_1.length : Int)) = true := decide_eq_true c20
                clear c20
                by_cases c21 : 0 ≤ x17_1
                ·rw [if_pos c21] at H
                 have c21b0 : decide (0 ≤ x17_1) = true := decide_eq_true c21
                 clear c21
                 by_cases c22 : x17_1 < (l0_1.length : Int)
                 ·rw [if_pos c22] at H
                  have c22b0 : decide (x17_1 < (l0_1.length : Int)) = true := decide_eq_true c22
                  clear c22
                  by_cases c23 : (rd l0_1 (rd (rd_Lii l0_2 x17_1) x24_2)) = (wrap64 ((rd l0_1 x17_1) + 1))
                  ·rw [if_pos c23] at H
                   have c23b0 : ((rd l0_1 (rd (rd_Lii l0_2 x17_1) x24_2)) == (wrap64 ((rd l0_1 x17_1) + 1))) = true := beq_iff_eq.mpr c23
                   have c23b1 : ((rd l0_1 (rd (rd_Lii l0_2 x17_1) x24_2)) != (wrap64 ((rd l0_1 x17_1) + 1))) = false := bne_eq_false_iff_eq.mpr c23
                   clear c23
                   by_cases c24 : (rd (rd_Lii l0_2 x17_1) x24_2) < (x3_2.length : Int)
                   ·rw [if_pos c24] at H
                    have c24b0 : decide ((rd (rd_Lii l0_2 x17_1) x24_2) < (x3_2.length : Int)) = true := decide_eq_true c24
                    clear c24
                    by_cases c25 : x17_1 < (x3_2.length : Int)
                    ·rw [if_pos c25] at H
                     have c25b0 : decide (x17_1 < (x3_2.length : Int)) = true := decide_eq_true c25
                     clear c25
                     obtain ⟨y112, hy112⟩ : ∃ y_ : List Int, y_ = (x3_2.set ((rd (rd_Lii l0_2 x17_1) x24_2) : Int).toNat (wrap64 ((rd x3_2 (rd (rd_Lii l0_2 x17_1) x24_2)) + (rd x3_2 x17_1)))) := ⟨_, rfl⟩
                     replace H : (impl_reach_ways.l1 k2 y112 x17_1 l0_2 (l0_2.length : Int) x17_1 (rd_Lii l0_2 x17_1) ((rd_Lii l0_2 x17_1).length : Int) (wrap64 (x24_2 + 1)) l0_0 l0_1 l0_2 l0_3) = some r := rH hy112 H
                     have Ny112 := Aside0.mk hy112
                     clear hy112
                     have H' := Aside0.mk H
                     clear H
                     have p107 : 0 ≤ (x24_2 : Int) := of_decide_eq_true (by first | (with_reducible assumption) | assumption)
                     have q107 : x24_2 < ((rd_Lii l0_2 x17_1).length : Int) := of_decide_eq_true (by first | (with_reducible assumption) | assumption)
                     obtain ⟨ad107, e107, hx107_0⟩ := Kd.at_int HR106_0.out x24_2 p107 q107
                     cases e107
                     (try replace hx107_0 := (HB.out.cell (World.block_lt_of_cell? w _ hx107_0)).trans hx107_0)
                     replace p107 := eq_true p107
                     replace q107 := eq_true q107
                     try go_wp2
                     have n0_ := Aside0.mk (Kd.R_drew HO_3.out)
                     have n1_ := Aside0.mk (blk_drew BK101.out)
                     have n2_ := Aside0.mk (below_drew1 HB.out)
                     clear HO_3
                     clear BK101
                     clear HB
                     have HO_3 := n0_
                     have BK101 := n1_
                     have HB := n2_
                     clear n0_ n1_ n2_
                     have p108 : 0 ≤ ((rd (rd_Lii l0_2 x17_1) x24_2) : Int) := of_decide_eq_true (by first | (with_reducible assumption) | assumption)
                     have q108 : (rd (rd_Lii l0_2 x17_1) x24_2) < (l0_1.length : Int) := of_decide_eq_true (by first | (with_reducible assumption) | assumption)
                     obtain ⟨ad108, e108, hx108_0⟩ := Kd.at_int HR0_1.out (rd (rd_Lii l0_2 x17_1) x24_2) p108 q108
                     have hw108_0 := hx108_0
                     cases e108
                     (try replace hx108_0 := (HB.out.cell (World.block_lt_of_cell? w _ hx108_0)).trans hx108_0)
                     replace p108 := eq_true p108
                     replace q108 := eq_true q108
                     have p109 : 0 ≤ (x17_1 : Int) := of_decide_eq_true (by first | (with_reducible assumption) | assumption)
                     have q109 : x17_1 < (l0_1.length : Int) := of_decide_eq_true (by first | (with_reducible assumption) | assumption)
                     obtain ⟨ad109, e109, hx109_0⟩ := Kd.at_int HR0_1.out x17_1 p109 q109
                     have hw109_0 := hx109_0
                     obtain rfl : ad108 = ad109 := (by injection e109)
                     (try replace hx109_0 := (HB.out.cell (World.block_lt_of_cell? w _ hx109_0)).trans hx109_0)
                     replace p109 := eq_true p109
                     replace q109 := eq_true q109
                     refine start_ (n := 12) (S := fun w' => w'.cell? ⟨gb101, 0, none⟩ = some (.slice A0_0 l0_0.length c0_0) ∧ w'.cell? ⟨gb101, 1, none⟩ = some (.slice (some ad108) l0_1.length c0_1) ∧ w'.cell? ⟨gb101, 2, none⟩ = some (.slice (some ad106) l0_2.length c0_2) ∧ w'.cell? ⟨gb101, 3, none⟩ = some (.slice A0_3 l0_3.length c0_3) ∧ w'.cell? (ad108.add ((rd (rd_Lii l0_2 x17_1) x24_2)).toNat) = some (.int .i64 (rd l0_1 (rd (rd_Lii l0_2 x17_1) x24_2))) ∧ w'.cell? (ad108.add (x17_1).toNat) = some (.int .i64 (rd l0_1 x17_1))) (ds := []) #[false, false, false, false, false, false, false, false, false, false, false, false] (by kernel_rfl) rfl rfl ⟨(blk_cell BK101.out 0).trans rfl, (blk_cell BK101.out 1).trans rfl, (blk_cell BK101.out 2).trans rfl, (blk_cell BK101.out 3).trans rfl, ((HB.out.cell (World.block_lt_of_cell? w _ hw108_0)).trans hw108_0), ((HB.out.cell (World.block_lt_of_cell? w _ hw109_0)).trans hw109_0)⟩ (fun hHeld => ?_); refine with_tabW impl_reach_ways.tab9 impl_reach_ways.bits9 (fun HT_ HW_ => ?_)
                     generalize wr.drew = w27 at HO_3 BK101 HB hx108_0 hx109_0 hHeld ⊢
                     refine pure_ (i := 0) (N := some 28) (v := ?_) (a' := ?_) #[true, false, false, false, false, false, false, false, false, false, false, false] rfl rfl (any_of HT_.out (by kernel_rfl)) (fun _ _ _ h => h) (Or.inl ⟨by rfl, ?_⟩) ?_ ?_
                     rotate_left
                     ·intro w'
                      go_simp
                      with_reducible rfl
                     rotate_left
                     ·simp only [Act.put, List.setIfInBounds_toArray, List.set_cons_zero, List.set_cons_succ, i64_w, i32_w]
                      rfl
                     refine pure_ (i := 2) (N := some 30) (v := ?_) (a' := ?_) #[true, false, true, false, false, false, false, false, false, false, false, false] rfl rfl (any_of HT_.out (by kernel_rfl)) (fun _ _ _ h => h) (Or.inl ⟨by rfl, ?_⟩) ?_ ?_
                     rotate_left
                     ·intro w'
                      go_simp
                      with_reducible rfl
                     rotate_left
                     ·simp only [Act.put, List.setIfInBounds_toArray, List.set_cons_zero, List.set_cons_succ, i64_w, i32_w]
                      rfl
                     refine pure_ (i := 5) (N := some 33) (v := ?_) (a' := ?_) #[true, false, true, false, false, true, false, false, false, false, false, false] rfl rfl (any_of HT_.out (by kernel_rfl)) (fun _ _ _ h => h) (Or.inl ⟨by rfl, ?_⟩) ?_ ?_
                     rotate_left
                     ·intro w'
                      go_simp
                      with_reducible rfl
                     rotate_left
                     ·simp only [Act.put, List.setIfInBounds_toArray, List.set_cons_zero, List.set_cons_succ, i64_w, i32_w]
                      rfl
                     refine pure_ (i := 7) (N := some 35) (v := ?_) (a' := ?_) #[true, false, true, false, false, true, false, true, false, false, false, false] rfl rfl (any_of HT_.out (by kernel_rfl)) (fun _ _ _ h => h) (Or.inl ⟨by rfl, ?_⟩) ?_ ?_
                     rotate_left
                     ·intro w'
                      go_simp
                      with_reducible rfl
                     rotate_left
                     ·simp only [Act.put, List.setIfInBounds_toArray, List.set_cons_zero, List.set_cons_succ, i64_w, i32_w]
                      rfl
                     refine take_ (i := 1) (N := some 29) (v := ?_) (a' := ?_) #[true, true, true, false, false, true, false, true, false, false, false, false] rfl rfl (take_ofW HT_.out HW_.out (by kernel_rfl)) (fun _ _ _ h => h) (Or.inl ⟨by rfl, ?_⟩) hHeld ?_ ?_
                     rotate_left
                     ·rintro w' ⟨s0, s1, s2, s3, s4, s5⟩
                      go_simp
                      with_reducible rfl
                     rotate_left
                     ·simp only [Act.put, List.setIfInBounds_toArray, List.set_cons_zero, List.set_cons_succ, i64_w, i32_w]
                      rfl
                     refine pure_ (i := 3) (N := some 31) (v := ?_) (a' := ?_) #[true, true, true, true, false, true, false, true, false, false, false, false] rfl rfl (any_of HT_.out (by kernel_rfl)) (fun _ _ _ h => h) (Or.inl ⟨by rfl, ?_⟩) ?_ ?_
                     rotate_left
                     ·intro w'
                      go_simp
                      with_reducible rfl
                     rotate_left
                     ·simp only [Act.put, List.setIfInBounds_toArray, List.set_cons_zero, List.set_cons_succ, i64_w, i32_w]
                      rfl
                     refine take_ (i := 4) (N := some 32) (v := ?_) (a' := ?_) #[true, true, true, true, true, true, false, true, false, false, false, false] rfl rfl (take_ofW HT_.out HW_.out (by kernel_rfl)) (fun _ _ _ h => h) (Or.inl ⟨by rfl, ?_⟩) hHeld ?_ ?_
                     rotate_left
                     ·rintro w' ⟨s0, s1, s2, s3, s4, s5⟩
                      go_simp
                      with_reducible rfl
                     rotate_left
                     ·simp only [Act.put, List.setIfInBounds_toArray, List.set_cons_zero, List.set_cons_succ, i64_w, i32_w]
                      rfl
                     refine take_ (i := 6) (N := some 34) (v := ?_) (a' := ?_) #[true, true, true, true, true, true, true, true, false, false, false, false] rfl rfl (take_ofW HT_.out HW_.out (by kernel_rfl)) (fun _ _ _ h => h) (Or.inl ⟨by rfl, ?_⟩) hHeld ?_ ?_
                     rotate_left
                     ·rintro w' ⟨s0, s1, s2, s3, s4, s5⟩
                      go_simp
                      with_reducible rfl
                     rotate_left
                     ·simp only [Act.put, List.setIfInBounds_toArray, List.set_cons_zero, List.set_cons_succ, i64_w, i32_w]
                      rfl
                     refine pure_ (i := 8) (N := some 36) (v := ?_) (a' := ?_) #[true, true, true, true, true, true, true, true, true, false, false, false] rfl rfl (any_of HT_.out (by kernel_rfl)) (fun _ _ _ h => h) (Or.inl ⟨by rfl, ?_⟩) ?_ ?_
                     rotate_left
                     ·intro w'
                      go_simp
                      with_reducible rfl
                     rotate_left
                     ·simp only [Act.put, List.setIfInBounds_toArray, List.set_cons_zero, List.set_cons_succ, i64_w, i32_w]
                      rfl
                     refine take_ (i := 9) (N := some 37) (v := ?_) (a' := ?_) #[true, true, true, true, true, true, true, true, true, true, false, false] rfl rfl (take_ofW HT_.out HW_.out (by kernel_rfl)) (fun _ _ _ h => h) (Or.inl ⟨by rfl, ?_⟩) hHeld ?_ ?_
                     rotate_left
                     ·rintro w' ⟨s0, s1, s2, s3, s4, s5⟩
                      go_simp
                      with_reducible rfl
                     rotate_left
                     ·simp only [Act.put, List.setIfInBounds_toArray, List.set_cons_zero, List.set_cons_succ, i64_w, i32_w]
                      rfl
                     refine pure_ (i := 10) (N := some 38) (v := ?_) (a' := ?_) #[true, true, true, true, true, true, true, true, true, true, true, false] rfl rfl (any_of HT_.out (by kernel_rfl)) (fun _ _ _ h => h) (Or.inl ⟨by rfl, ?_⟩) ?_ ?_
                     rotate_left
                     ·intro w'
                      go_simp
                      with_reducible rfl
                     rotate_left
                     ·simp only [Act.put, List.setIfInBounds_toArray, List.set_cons_zero, List.set_cons_succ, i64_w, i32_w]
                      rfl
                     refine pure_ (i := 11) (N := some 39) (v := ?_) (a' := ?_) #[true, true, true, true, true, true, true, true, true, true, true, true] rfl rfl (any_of HT_.out (by kernel_rfl)) (fun _ _ _ h => h) (Or.inl ⟨by rfl, ?_⟩) ?_ ?_
                     rotate_left
                     ·intro w'
                      go_simp
                      with_reducible rfl
                     rotate_left
                     ·simp only [Act.put, List.setIfInBounds_toArray, List.set_cons_zero, List.set_cons_succ, i64_w, i32_w]
                      rfl
                     refine done_ (done_of HT_.out (by kernel_rfl)) ?_
                     try go_wp2
                     have n0_ := Aside0.mk (Kd.R_drew HO_3.out)
                     have n1_ := Aside0.mk (blk_drew BK101.out)
                     have n2_ := Aside0.mk (below_drew1 HB.out)
                     clear HO_3
                     clear BK101
                     clear HB
                     have HO_3 := n0_
                     have BK101 := n1_
                     have HB := n2_
                     clear n0_ n1_ n2_
                     have p110 : 0 ≤ ((rd (rd_Lii l0_2 x17_1) x24_2) : Int) := of_decide_eq_true (by first | (with_reducible assumption) | assumption)
                     have q110 : (rd (rd_Lii l0_2 x17_1) x24_2) < (x3_2.length : Int) := of_decide_eq_true (by first | (with_reducible assumption) | assumption)
                     obtain ⟨ad110, e110, hx110_0⟩ := Kd.at_int (Kd.R_reads' HO_3.out).2.2 (rd (rd_Lii l0_2 x17_1) x24_2) p110 q110
                     obtain rfl : (⟨go5, 0, none⟩ : Addr) = ad110 := (by injection e110)
                     (first | simp only [add_plain] at hx110_0 | simp only [add_at] at hx110_0 | simp only [Addr.add, Nat.zero_add] at hx110_0 | skip)
                     replace p110 := eq_true p110
                     replace q110 := eq_true q110
                     have p111 : 0 ≤ (x17_1 : Int) := of_decide_eq_true (by first | (with_reducible assumption) | assumption)
                     have q111 : x17_1 < (x3_2.length : Int) := of_decide_eq_true (by first | (with_reducible assumption) | assumption)
                     obtain ⟨ad111, e111, hx111_0⟩ := Kd.at_int (Kd.R_reads' HO_3.out).2.2 x17_1 p111 q111
                     obtain rfl : (⟨go5, 0, none⟩ : Addr) = ad111 := (by injection e111)
                     (first | simp only [add_plain] at hx111_0 | simp only [add_at] at hx111_0 | simp only [Addr.add, Nat.zero_add] at hx111_0 | skip)
                     replace p111 := eq_true p111
                     replace q111 := eq_true q111
                     have p26 : 0 ≤ ((rd (rd_Lii l0_2 x17_1) x24_2) : Int) := of_decide_eq_true (by first | (with_reducible assumption) | assumption)
                     have q26 : ((rd (rd_Lii l0_2 x17_1) x24_2) : Int) < ((x3_2.length : Int) : Int) := of_decide_eq_true (by first | (with_reducible assumption) | assumption)
                     obtain ⟨hx26_0, hf26_0⟩ := Kd.R_celln 0 HO_3.out ((rd (rd_Lii l0_2 x17_1) x24_2) : Int) p26 q26
                     replace p26 := eq_true p26
                     replace q26 := eq_true q26
                     have HP29 := Kd.R_putn HO_3.out ((rd (rd_Lii l0_2 x17_1) x24_2) : Int) (wrap64 ((rd x3_2 (rd (rd_Lii l0_2 x17_1) x24_2)) + (rd x3_2 x17_1)))
                     rw [← Ny112.out] at HP29
                     have HQ29 := Aside0.mk HP29
                     clear HP29
                     refine start_ (n := 11) (S := fun w' => w'.cell? ⟨go5, ((rd (rd_Lii l0_2 x17_1) x24_2)).toNat, none⟩ = some (.int .i64 (rd x3_2 (rd (rd_Lii l0_2 x17_1) x24_2))) ∧ w'.cell? ⟨go5, (x17_1).toNat, none⟩ = some (.int .i64 (rd x3_2 x17_1))) (ds := [10]) #[false, false, false, false, false, false, false, false, false, false, false] (by kernel_rfl) rfl rfl ⟨hx110_0, hx111_0⟩ (fun hHeld => ?_); refine with_tabW impl_reach_ways.tab10 impl_reach_ways.bits10 (fun HT_ HW_ => ?_)
                     generalize w27.drew = w28 at HO_3 BK101 HB HQ29 hf26_0 hx110_0 hx111_0 hx26_0 hHeld ⊢
                     refine pure_ (i := 0) (N := some 40) (v := ?_) (a' := ?_) #[true, false, false, false, false, false, false, false, false, false, false] rfl rfl (any_of HT_.out (by kernel_rfl)) (fun _ _ _ h => h) (Or.inl ⟨by rfl, ?_⟩) ?_ ?_
                     rotate_left
                     ·intro w'
                      go_simp
                      with_reducible rfl
                     rotate_left
                     ·simp only [Act.put, List.setIfInBounds_toArray, List.set_cons_zero, List.set_cons_succ, i64_w, i32_w]
                      rfl
                     refine pure_ (i := 1) (N := some 41) (v := ?_) (a' := ?_) #[true, true, false, false, false, false, false, false, false, false, false] rfl rfl (any_of HT_.out (by kernel_rfl)) (fun _ _ _ h => h) (Or.inl ⟨by rfl, ?_⟩) ?_ ?_
                     rotate_left
                     ·intro w'
                      go_simp
                      with_reducible rfl
                     rotate_left
                     ·simp only [Act.put, List.setIfInBounds_toArray, List.set_cons_zero, List.set_cons_succ, i64_w, i32_w]
                      rfl
                     refine pure_ (i := 2) (N := some 42) (v := ?_) (a' := ?_) #[true, true, true, false, false, false, false, false, false, false, false] rfl rfl (any_of HT_.out (by kernel_rfl)) (fun _ _ _ h => h) (Or.inl ⟨by rfl, ?_⟩) ?_ ?_
                     rotate_left
                     ·intro w'
                      go_simp
                      with_reducible rfl
                     rotate_left
                     ·simp only [Act.put, List.setIfInBounds_toArray, List.set_cons_zero, List.set_cons_succ, i64_w, i32_w]
                      rfl
                     refine pure_ (i := 4) (N := some 44) (v := ?_) (a' := ?_) #[true, true, true, false, true, false, false, false, false, false, false] rfl rfl (any_of HT_.out (by kernel_rfl)) (fun _ _ _ h => h) (Or.inl ⟨by rfl, ?_⟩) ?_ ?_
                     rotate_left
                     ·intro w'
                      go_simp
                      with_reducible rfl
                     rotate_left
                     ·simp only [Act.put, List.setIfInBounds_toArray, List.set_cons_zero, List.set_cons_succ, i64_w, i32_w]
                      rfl
                     refine pure_ (i := 5) (N := some 45) (v := ?_) (a' := ?_) #[true, true, true, false, true, true, false, false, false, false, false] rfl rfl (any_of HT_.out (by kernel_rfl)) (fun _ _ _ h => h) (Or.inl ⟨by rfl, ?_⟩) ?_ ?_
                     rotate_left
                     ·intro w'
                      go_simp
                      with_reducible rfl
                     rotate_left
                     ·simp only [Act.put, List.setIfInBounds_toArray, List.set_cons_zero, List.set_cons_succ, i64_w, i32_w]
                      rfl
                     refine pure_ (i := 6) (N := some 46) (v := ?_) (a' := ?_) #[true, true, true, false, true, true, true, false, false, false, false] rfl rfl (any_of HT_.out (by kernel_rfl)) (fun _ _ _ h => h) (Or.inl ⟨by rfl, ?_⟩) ?_ ?_
                     rotate_left
                     ·intro w'
                      go_simp
                      with_reducible rfl
                     rotate_left
                     ·simp only [Act.put, List.setIfInBounds_toArray, List.set_cons_zero, List.set_cons_succ, i64_w, i32_w]
                      rfl
                     refine take_ (i := 3) (N := some 43) (v := ?_) (a' := ?_) #[true, true, true, true, true, true, true, false, false, false, false] rfl rfl (take_ofW HT_.out HW_.out (by kernel_rfl)) (fun _ _ _ h => h) (Or.inl ⟨by rfl, ?_⟩) hHeld ?_ ?_
                     rotate_left
                     ·rintro w' ⟨s0, s1⟩
                      go_simp
                      with_reducible rfl
                     rotate_left
                     ·simp only [Act.put, List.setIfInBounds_toArray, List.set_cons_zero, List.set_cons_succ, i64_w, i32_w]
                      rfl
                     refine take_ (i := 7) (N := some 47) (v := ?_) (a' := ?_) #[true, true, true, true, true, true, true, true, false, false, false] rfl rfl (take_ofW HT_.out HW_.out (by kernel_rfl)) (fun _ _ _ h => h) (Or.inl ⟨by rfl, ?_⟩) hHeld ?_ ?_
                     rotate_left
                     ·rintro w' ⟨s0, s1⟩
                      go_simp
                      with_reducible rfl
                     rotate_left
                     ·simp only [Act.put, List.setIfInBounds_toArray, List.set_cons_zero, List.set_cons_succ, i64_w, i32_w]
                      rfl
                     refine pure_ (i := 8) (N := some 48) (v := ?_) (a' := ?_) #[true, true, true, true, true, true, true, true, true, false, false] rfl rfl (any_of HT_.out (by kernel_rfl)) (fun _ _ _ h => h) (Or.inl ⟨by rfl, ?_⟩) ?_ ?_
                     rotate_left
                     ·intro w'
                      go_simp
                      with_reducible rfl
                     rotate_left
                     ·simp only [Act.put, List.setIfInBounds_toArray, List.set_cons_zero, List.set_cons_succ, i64_w, i32_w]
                      rfl
                     refine pure_ (i := 9) (N := some 49) (v := ?_) (a' := ?_) #[true, true, true, true, true, true, true, true, true, true, false] rfl rfl (any_of HT_.out (by kernel_rfl)) (fun _ _ _ h => h) (Or.inl ⟨by rfl, ?_⟩) ?_ ?_
                     rotate_left
                     ·intro w'
                      go_simp
                      with_reducible rfl
                     rotate_left
                     ·simp only [Act.put, List.setIfInBounds_toArray, List.set_cons_zero, List.set_cons_succ, i64_w, i32_w]
                      rfl
                     refine last_ (i := 10) (N := none) #[true, true, true, true, true, true, true, true, true, true, true] rfl rfl (one_of HT_.out (by kernel_rfl)) (by decide) (fun K hK => ?_)
                     refine skip_ (w1 := ?_) (by rfl) rfl ?_ ?_
                     rotate_left
                     ·go_simp
                      rfl
                     refine hK.out _ _ ?_
                     clear hK K
                     refine done_ (done_of HT_.out (by kernel_rfl)) ?_
                     try go_wp2
                     (try simp only [← hl3_2])
                     go_roundg k2
                     case measure => have := HK1.out; have := HK2.out; omega
                     case rel => exact ⟨(y112), (wrap64 (x24_2 + 1)), (by first | rfl | (simp; done) | (simp [*]; done)), H', ⟨by have := HK1.out; have := HK2.out; omega⟩, ⟨by (try simp only [hl3_1]); (try simp only [hl3_2]); (with_reducible repeat (first | apply Kd.R_alloc | apply Kd.R_drewN | apply Kd.R_drew)); exact HQ29.out⟩, ⟨by (try simp only [hl3_1]); (try simp only [hl3_2]); (with_reducible repeat (first | refine blk_drewN ?_ _ | refine blk_drew ?_ | refine blk_alloc ?_ _)); refine blk_far ?_ (by have h_ := Kd.R_ne HO_3.out BK101.out (by decide); intro e_; exact h_ (by rw [e_]; rfl)) _; exact blc⟩, ⟨bel HB⟩⟩
                    ·rw [if_neg c25] at H
                     exact absurd H (by simp)
                   ·rw [if_neg c24] at H
                    exact absurd H (by simp)
                  ·rw [if_neg c23] at H
                   have c23b0 : ((rd l0_1 (rd (rd_Lii l0_2 x17_1) x24_2)) == (wrap64 ((rd l0_1 x17_1) + 1))) = false := beq_eq_false_iff_ne.mpr c23
                   have c23b1 : ((rd l0_1 (rd (rd_Lii l0_2 x17_1) x24_2)) != (wrap64 ((rd l0_1 x17_1) + 1))) = true := bne_iff_ne.mpr c23
                   have H' := Aside0.mk H
                   clear H
                   have p107 : 0 ≤ (x24_2 : Int) := of_decide_eq_true (by first | (with_reducible assumption) | assumption)
                   have q107 : x24_2 < ((rd_Lii l0_2 x17_1).length : Int) := of_decide_eq_true (by first | (with_reducible assumption) | assumption)
                   obtain ⟨ad107, e107, hx107_0⟩ := Kd.at_int HR106_0.out x24_2 p107 q107
                   cases e107
                   (try replace hx107_0 := (HB.out.cell (World.block_lt_of_cell? w _ hx107_0)).trans hx107_0)
                   replace p107 := eq_true p107
                   replace q107 := eq_true q107
                   try go_wp2
                   have n0_ := Aside0.mk (Kd.R_drew HO_3.out)
                   have n1_ := Aside0.mk (blk_drew BK101.out)
                   have n2_ := Aside0.mk (below_drew1 HB.out)
                   clear HO_3
                   clear BK101
                   clear HB
                   have HO_3 := n0_
                   have BK101 := n1_
                   have HB := n2_
                   clear n0_ n1_ n2_
                   have p108 : 0 ≤ ((rd (rd_Lii l0_2 x17_1) x24_2) : Int) := of_decide_eq_true (by first | (with_reducible assumption) | assumption)
                   have q108 : (rd (rd_Lii l0_2 x17_1) x24_2) < (l0_1.length : Int) := of_decide_eq_true (by first | (with_reducible assumption) | assumption)
                   obtain ⟨ad108, e108, hx108_0⟩ := Kd.at_int HR0_1.out (rd (rd_Lii l0_2 x17_1) x24_2) p108 q108
                   have hw108_0 := hx108_0
                   cases e108
                   (try replace hx108_0 := (HB.out.cell (World.block_lt_of_cell? w _ hx108_0)).trans hx108_0)
                   replace p108 := eq_true p108
                   replace q108 := eq_true q108
                   have p109 : 0 ≤ (x17_1 : Int) := of_decide_eq_true (by first | (with_reducible assumption) | assumption)
                   have q109 : x17_1 < (l0_1.length : Int) := of_decide_eq_true (by first | (with_reducible assumption) | assumption)
                   obtain ⟨ad109, e109, hx109_0⟩ := Kd.at_int HR0_1.out x17_1 p109 q109
                   have hw109_0 := hx109_0
                   obtain rfl : ad108 = ad109 := (by injection e109)
                   (try replace hx109_0 := (HB.out.cell (World.block_lt_of_cell? w _ hx109_0)).trans hx109_0)
                   replace p109 := eq_true p109
                   replace q109 := eq_true q109
                   refine start_ (n := 12) (S := fun w' => w'.cell? ⟨gb101, 0, none⟩ = some (.slice A0_0 l0_0.length c0_0) ∧ w'.cell? ⟨gb101, 1, none⟩ = some (.slice (some ad108) l0_1.length c0_1) ∧ w'.cell? ⟨gb101, 2, none⟩ = some (.slice (some ad106) l0_2.length c0_2) ∧ w'.cell? ⟨gb101, 3, none⟩ = some (.slice A0_3 l0_3.length c0_3) ∧ w'.cell? (ad108.add ((rd (rd_Lii l0_2 x17_1) x24_2)).toNat) = some (.int .i64 (rd l0_1 (rd (rd_Lii l0_2 x17_1) x24_2))) ∧ w'.cell? (ad108.add (x17_1).toNat) = some (.int .i64 (rd l0_1 x17_1))) (ds := []) #[false, false, false, false, false, false, false, false, false, false, false, false] (by kernel_rfl) rfl rfl ⟨(blk_cell BK101.out 0).trans rfl, (blk_cell BK101.out 1).trans rfl, (blk_cell BK101.out 2).trans rfl, (blk_cell BK101.out 3).trans rfl, ((HB.out.cell (World.block_lt_of_cell? w _ hw108_0)).trans hw108_0), ((HB.out.cell (World.block_lt_of_cell? w _ hw109_0)).trans hw109_0)⟩ (fun hHeld => ?_); refine with_tabW impl_reach_ways.tab9 impl_reach_ways.bits9 (fun HT_ HW_ => ?_)
                   generalize wr.drew = w30 at HO_3 BK101 HB hx108_0 hx109_0 hHeld ⊢
                   refine pure_ (i := 0) (N := some 28) (v := ?_) (a' := ?_) #[true, false, false, false, false, false, false, false, false, false, false, false] rfl rfl (any_of HT_.out (by kernel_rfl)) (fun _ _ _ h => h) (Or.inl ⟨by rfl, ?_⟩) ?_ ?_
                   rotate_left
                   ·intro w'
                    go_simp
                    with_reducible rfl
                   rotate_left
                   ·simp only [Act.put, List.setIfInBounds_toArray, List.set_cons_zero, List.set_cons_succ, i64_w, i32_w]
                    rfl
                   refine pure_ (i := 2) (N := some 30) (v := ?_) (a' := ?_) #[true, false, true, false, false, false, false, false, false, false, false, false] rfl rfl (any_of HT_.out (by kernel_rfl)) (fun _ _ _ h => h) (Or.inl ⟨by rfl, ?_⟩) ?_ ?_
                   rotate_left
                   ·intro w'
                    go_simp
                    with_reducible rfl
                   rotate_left
                   ·simp only [Act.put, List.setIfInBounds_toArray, List.set_cons_zero, List.set_cons_succ, i64_w, i32_w]
                    rfl
                   refine pure_ (i := 5) (N := some 33) (v := ?_) (a' := ?_) #[true, false, true, false, false, true, false, false, false, false, false, false] rfl rfl (any_of HT_.out (by kernel_rfl)) (fun _ _ _ h => h) (Or.inl ⟨by rfl, ?_⟩) ?_ ?_
                   rotate_left
                   ·intro w'
                    go_simp
                    with_reducible rfl
                   rotate_left
                   ·simp only [Act.put, List.setIfInBounds_toArray, List.set_cons_zero, List.set_cons_succ, i64_w, i32_w]
                    rfl
                   refine pure_ (i := 7) (N := some 35) (v := ?_) (a' := ?_) #[true, false, true, false, false, true, false, true, false, false, false, false] rfl rfl (any_of HT_.out (by kernel_rfl)) (fun _ _ _ h => h) (Or.inl ⟨by rfl, ?_⟩) ?_ ?_
                   rotate_left
                   ·intro w'
                    go_simp
                    with_reducible rfl
                   rotate_left
                   ·simp only [Act.put, List.setIfInBounds_toArray, List.set_cons_zero, List.set_cons_succ, i64_w, i32_w]
                    rfl
                   refine take_ (i := 1) (N := some 29) (v := ?_) (a' := ?_) #[true, true, true, false, false, true, false, true, false, false, false, false] rfl rfl (take_ofW HT_.out HW_.out (by kernel_rfl)) (fun _ _ _ h => h) (Or.inl ⟨by rfl, ?_⟩) hHeld ?_ ?_
                   rotate_left
                   ·rintro w' ⟨s0, s1, s2, s3, s4, s5⟩
                    go_simp
                    with_reducible rfl
                   rotate_left
                   ·simp only [Act.put, List.setIfInBounds_toArray, List.set_cons_zero, List.set_cons_succ, i64_w, i32_w]
                    rfl
                   refine pure_ (i := 3) (N := some 31) (v := ?_) (a' := ?_) #[true, true, true, true, false, true, false, true, false, false, false, false] rfl rfl (any_of HT_.out (by kernel_rfl)) (fun _ _ _ h => h) (Or.inl ⟨by rfl, ?_⟩) ?_ ?_
                   rotate_left
                   ·intro w'
                    go_simp
                    with_reducible rfl
                   rotate_left
                   ·simp only [Act.put, List.setIfInBounds_toArray, List.set_cons_zero, List.set_cons_succ, i64_w, i32_w]
                    rfl
                   refine take_ (i := 4) (N := some 32) (v := ?_) (a' := ?_) #[true, true, true, true, true, true, false, true, false, false, false, false] rfl rfl (take_ofW HT_.out HW_.out (by kernel_rfl)) (fun _ _ _ h => h) (Or.inl ⟨by rfl, ?_⟩) hHeld ?_ ?_
                   rotate_left
                   ·rintro w' ⟨s0, s1, s2, s3, s4, s5⟩
                    go_simp
                    with_reducible rfl
                   rotate_left
                   ·simp only [Act.put, List.setIfInBounds_toArray, List.set_cons_zero, List.set_cons_succ, i64_w, i32_w]
                    rfl
                   refine take_ (i := 6) (N := some 34) (v := ?_) (a' := ?_) #[true, true, true, true, true, true, true, true, false, false, false, false] rfl rfl (take_ofW HT_.out HW_.out (by kernel_rfl)) (fun _ _ _ h => h) (Or.inl ⟨by rfl, ?_⟩) hHeld ?_ ?_
                   rotate_left
                   ·rintro w' ⟨s0, s1, s2, s3, s4, s5⟩
                    go_simp
                    with_reducible rfl
                   rotate_left
                   ·simp only [Act.put, List.setIfInBounds_toArray, List.set_cons_zero, List.set_cons_succ, i64_w, i32_w]
                    rfl
                   refine pure_ (i := 8) (N := some 36) (v := ?_) (a' := ?_) #[true, true, true, true, true, true, true, true, true, false, false, false] rfl rfl (any_of HT_.out (by kernel_rfl)) (fun _ _ _ h => h) (Or.inl ⟨by rfl, ?_⟩) ?_ ?_
                   rotate_left
                   ·intro w'
                    go_simp
                    with_reducible rfl
                   rotate_left
                   ·simp only [Act.put, List.setIfInBounds_toArray, List.set_cons_zero, List.set_cons_succ, i64_w, i32_w]
                    rfl
                   refine take_ (i := 9) (N := some 37) (v := ?_) (a' := ?_) #[true, true, true, true, true, true, true, true, true, true, false, false] rfl rfl (take_ofW HT_.out HW_.out (by kernel_rfl)) (fun _ _ _ h => h) (Or.inl ⟨by rfl, ?_⟩) hHeld ?_ ?_
                   rotate_left
                   ·rintro w' ⟨s0, s1, s2, s3, s4, s5⟩
                    go_simp
                    with_reducible rfl
                   rotate_left
                   ·simp only [Act.put, List.setIfInBounds_toArray, List.set_cons_zero, List.set_cons_succ, i64_w, i32_w]
                    rfl
                   refine pure_ (i := 10) (N := some 38) (v := ?_) (a' := ?_) #[true, true, true, true, true, true, true, true, true, true, true, false] rfl rfl (any_of HT_.out (by kernel_rfl)) (fun _ _ _ h => h) (Or.inl ⟨by rfl, ?_⟩) ?_ ?_
                   rotate_left
                   ·intro w'
                    go_simp
                    with_reducible rfl
                   rotate_left
                   ·simp only [Act.put, List.setIfInBounds_toArray, List.set_cons_zero, List.set_cons_succ, i64_w, i32_w]
                    rfl
                   refine pure_ (i := 11) (N := some 39) (v := ?_) (a' := ?_) #[true, true, true, true, true, true, true, true, true, true, true, true] rfl rfl (any_of HT_.out (by kernel_rfl)) (fun _ _ _ h => h) (Or.inl ⟨by rfl, ?_⟩) ?_ ?_
                   rotate_left
                   ·intro w'
                    go_simp
                    with_reducible rfl
                   rotate_left
                   ·simp only [Act.put, List.setIfInBounds_toArray, List.set_cons_zero, List.set_cons_succ, i64_w, i32_w]
                    rfl
                   refine done_ (done_of HT_.out (by kernel_rfl)) ?_
                   try go_wp2
                   (try simp only [← hl3_2])
                   go_roundg k2
                   case measure => have := HK1.out; have := HK2.out; omega
                   case rel => exact ⟨(x3_2), (wrap64 (x24_2 + 1)), (by first | rfl | (simp; done) | (simp [*]; done)), H', ⟨by have := HK1.out; have := HK2.out; omega⟩, ⟨by (try simp only [hl3_1]); (try simp only [hl3_2]); (with_reducible repeat (first | apply Kd.R_alloc | apply Kd.R_drewN | apply Kd.R_drew)); (first | exact HO_3.out | exact R_any HO_3.out)⟩, ⟨by (try simp only [hl3_1]); (try simp only [hl3_2]); exact blc⟩, ⟨bel HB⟩⟩
                 ·rw [if_neg c22] at H
                  exact absurd H (by simp)
                ·rw [if_neg c21] at H
                 exact absurd H (by simp)
               ·rw [if_neg c20] at H
                exact absurd H (by simp)
              ·rw [if_neg c19] at H
               exact absurd H (by simp)
             ·rw [if_neg c18] at H
              exact absurd H (by simp)
            ·rw [if_neg c17] at H
             exact absurd H (by simp)
           ·rw [if_neg c16] at H
            have c16b0 : decide (x24_2 < ((rd_Lii l0_2 x17_1).length : Int)) = false := decide_eq_false c16
            (try (have c16b0y := c16b0; first | rw [hl3_1] at c16b0y | rw [hl3_2] at c16b0y))
            clear c16
            have H' := Aside0.mk H
            clear H
            go_wp2
            (try simp only [← hl3_1, ← hl3_2])
            go_roundg k2
            case measure => have := HK1.out; have := HK2.out; omega
            case rel => exact ⟨(x3_2), (wrap64 (x17_1 + 1)), (by first | rfl | (simp; done) | (simp [*]; done)), H', ⟨by have := HK1.out; have := HK2.out; omega⟩, ⟨by (try simp only [hl3_1]); (try simp only [hl3_2]); (with_reducible repeat (first | apply Kd.R_alloc | apply Kd.R_drewN | apply Kd.R_drew)); (first | exact HO_3.out | exact R_any HO_3.out)⟩, ⟨by (try simp only [hl3_1]); (try simp only [hl3_2]); exact blc⟩, ⟨bel HB⟩⟩
        ·rw [if_neg c15] at H
         exact absurd H (by simp)
       ·rw [if_neg c14] at H
        exact absurd H (by simp)
      ·rw [if_neg c13] at H
       have c13b0 : decide (x17_1 < (l0_2.length : Int)) = false := decide_eq_false c13
       (try (have c13b0y := c13b0; first | rw [hl3_1] at c13b0y))
       clear c13
       obtain rfl := Option.some.inj H
       go_wp2
       go_ret
       exact ⟨_, by first | rfl | (simp [errW_none, errW_some] <;> rfl) | (simp [*, errW_none, errW_some] <;> rfl), rch HO_3, bel HB⟩
   ·rw [if_neg c4] at H
    exact absurd H (by simp)
  ·rw [if_neg c3] at H
   exact absurd H (by simp)
 ·rw [if_neg c2] at H
  exact absurd H (by simp)
end Go.Proofs.YtchkmhbngbgjnaaGreatDoor.Q
end
section
namespace Go.Proofs.YtchkmhbngbgjnaaGreatDoor.Q
open Go.RowKit Go.Proofs.YtchkmhbngbgjnaaGreatDoorW.PrintWords Go.Proofs.YtchkmhbngbgjnaaGreatDoorW.PrintLast Go.Proofs.YtchkmhbngbgjnaaGreatDoorW.PrintMore
attribute [local go_sem] max2_int min2_int max_two min_two max_three min_three max_four min_four
set_option linter.unusedVariables false
set_option linter.unusedSimpArgs false
def impl_CountShortest.f (k : Nat) (a0 : ByteArray) (a1 : ByteArray) : Option (Int × Bool) := (impl_IsReached.f k a0 a1).bind fun bt101 => (if bt101.1 = true then ((impl_reachOf.f k a0).bind fun bt103 => ((impl_reach_ways.f k bt103.1 bt103.2.1 bt103.2.2.1 bt103.2.2.2.1).bind fun t117 => ((impl_reach_to.f k bt103.1 bt103.2.1 bt103.2.2.1 bt103.2.2.2.1 a1).bind fun t120 => (if 0 ≤ t120 then (if t120 < (t117.length : Int) then (some (rd t117 t120, true)) else (none)) else (none))))) else (some (0, false)))
def impl_CountShortest.T5 : Bool × List (List Nat × List Nat) := (true, [([], []), ([0], [0]), ([], []), ([], []), ([2, 3, 1], [2, 3]), ([1, 4], [1, 4]), ([5], [5]), ([6, 4, 0, 1, 2, 3, 4, 5, 6], [6]), ([7, 0, 1, 2, 3, 4, 5, 6, 7], [])])
def impl_CountShortest.B5 : List Nat := [0, 1, 0, 0, 15, 31, 63, 127, 255]
theorem impl_CountShortest.tab5 : rtab .any (opsOf Tryz.f25 5) = impl_CountShortest.T5 := by kernel_rfl
theorem impl_CountShortest.bits5 : waitsOk impl_CountShortest.T5.2 impl_CountShortest.B5 = true := by kernel_rfl
set_option maxHeartbeats 8000000 in
set_option maxRecDepth 100000 in
theorem impl_CountShortest.calls (k : Nat) (a0 : ByteArray) (a1 : ByteArray) (r1 : Int) (r2 : Bool) (w : World) (hG : GoodW w) (h : impl_CountShortest.f k a0 a1 = some (r1, r2)) :
  Calls Tryz.prog 25 #[.string a0, .string a1] w fun e w' => e = .returned (.tuple #[.int .i64 r1, .bool r2]) ∧ Below w.heap.size w w' := by
 have hu51 := Tryz.underlying51
 have HG := Aside0.mk hG
 clear hG
 have HB := Aside0.mk (Below.refl w.heap.size w)
 have H : ((impl_IsReached.f k a0 a1).bind fun bt101 => (if bt101.1 = true then ((impl_reachOf.f k a0).bind fun bt103 => ((impl_reach_ways.f k bt103.1 bt103.2.1 bt103.2.2.1 bt103.2.2.2.1).bind fun t117 => ((impl_reach_to.f k bt103.1 bt103.2.1 bt103.2.2.1 bt103.2.2.2.1 a1).bind fun t120 => (if 0 ≤ t120 then (if t120 < (t117.length : Int) then (some (rd t117 t120, true)) else (none)) else (none))))) else (some (0, false)))) = some (r1, r2) := h
 clear h
 replace H := Option.bind_eq_some_iff.mp H
 obtain ⟨⟨t101, t102⟩, A30, H⟩ := H
 replace H : (if t101 = true then ((impl_reachOf.f k a0).bind fun bt103 => ((impl_reach_ways.f k bt103.1 bt103.2.1 bt103.2.2.1 bt103.2.2.2.1).bind fun t117 => ((impl_reach_to.f k bt103.1 bt103.2.1 bt103.2.2.1 bt103.2.2.2.1 a1).bind fun t120 => (if 0 ≤ t120 then (if t120 < (t117.length : Int) then (some (rd t117 t120, true)) else (none)) else (none))))) else (some (0, false))) = some (r1, r2) := H
 have A3 := Aside0.mk A30
 clear A30
 by_cases c4 : t101 = true
 ·subst c4
  have H1 : ((impl_reachOf.f k a0).bind fun bt103 => ((impl_reach_ways.f k bt103.1 bt103.2.1 bt103.2.2.1 bt103.2.2.2.1).bind fun t117 => ((impl_reach_to.f k bt103.1 bt103.2.1 bt103.2.2.1 bt103.2.2.2.1 a1).bind fun t120 => (if 0 ≤ t120 then (if t120 < (t117.length : Int) then (some (rd t117 t120, true)) else (none)) else (none))))) = some (r1, r2) := by rw [if_pos rfl] at H; exact H
  clear H
  have H := H1
  clear H1
  replace H := Option.bind_eq_some_iff.mp H
  obtain ⟨⟨t103, t106, t109, t112, t115⟩, A50, H⟩ := H
  replace H : ((impl_reach_ways.f k t103 t106 t109 t112).bind fun t117 => ((impl_reach_to.f k t103 t106 t109 t112 a1).bind fun t120 => (if 0 ≤ t120 then (if t120 < (t117.length : Int) then (some (rd t117 t120, true)) else (none)) else (none)))) = some (r1, r2) := H
  have A5 := Aside0.mk A50
  clear A50
  replace H := Option.bind_eq_some_iff.mp H
  obtain ⟨t117, A60, H⟩ := H
  replace H : ((impl_reach_to.f k t103 t106 t109 t112 a1).bind fun t120 => (if 0 ≤ t120 then (if t120 < (t117.length : Int) then (some (rd t117 t120, true)) else (none)) else (none))) = some (r1, r2) := H
  have A6 := Aside0.mk A60
  clear A60
  replace H := Option.bind_eq_some_iff.mp H
  obtain ⟨t120, A70, H⟩ := H
  replace H : (if 0 ≤ t120 then (if t120 < (t117.length : Int) then (some (rd t117 t120, true)) else (none)) else (none)) = some (r1, r2) := H
  have A7 := Aside0.mk A70
  clear A70
  by_cases c8 : 0 ≤ t120
  ·rw [if_pos c8] at H
   have c8b0 : decide (0 ≤ t120) = true := decide_eq_true c8
   clear c8
   by_cases c9 : t120 < (t117.length : Int)
   ·rw [if_pos c9] at H
    have c9b0 : decide (t120 < (t117.length : Int)) = true := decide_eq_true c9
    clear c9
    simp only [Option.some.injEq, Prod.mk.injEq] at H
    obtain ⟨rfl, rfl⟩ := H
    go_enter Tryz.func25, Tryz.ntmps25
    try go_wp2_with (first | ((with_reducible refine gate_callee (f := 17) rfl ?_); refine gcall (some 13) Tryz.func17 #[.string a0, .string a1] rfl ?_; (with_reducible refine (impl_IsReached.calls k a0 a1 true t102 _ ?side1 A3.out).mono ?_); (case side1 => (refine GoodW.below HG.out ?_); exact bel HB); rintro e w10 ⟨rfl, hb⟩; refine ⟨_, rfl, ?_⟩; have n0_ := Aside0.mk (below_step (bel HB) hb); clear HB; have HB := n0_; clear n0_; (try clear hb); (try clear hb2); (try clear hk); (try clear hi)) | ((with_reducible refine gate_callee (f := 31) rfl ?_); refine gcall (some 20) Tryz.func31 #[.string a0] rfl ?_; (with_reducible refine (impl_reachOf.calls k a0 t103 t106 t109 t112 t115 _ ?side1 A5.out).mono ?_); (case side1 => (refine GoodW.below HG.out ?_); exact bel HB); rintro e w11 ⟨v104, v107, v110, v113, rfl, ho0, ho1, ho2, ho3, hb⟩; refine ⟨_, rfl, ?_⟩; have n0_ := Aside0.mk (Kd.R_lower ho0 (below_size (bel HB))); have n1_ := Aside0.mk (Kd.R_lower ho1 (below_size (bel HB))); have n2_ := Aside0.mk (Kd.S_lower ho2 (below_size (bel HB))); have n3_ := Aside0.mk (Kd.R_lower ho3 (below_size (bel HB))); have n4_ := Aside0.mk (below_step (bel HB) hb); clear HB; have HO105 := n0_; have HO108 := n1_; have HO111 := n2_; have HO114 := n3_; have HB := n4_; clear n0_ n1_ n2_ n3_ n4_; (try clear hb); (try clear hb2); (try clear hk); (try clear hi); (try clear ho0); (try clear ho1); (try clear ho2); (try clear ho3)) | ((with_reducible refine gate_dst (N := 8) rfl ?_); refine boxE (N := 8) (cs := #[.slice none 0 0, .slice none 0 0, .slice none 0 0, .slice none 0 0]) (t := 51) ?_; intro gb116 hg w12 hbox hb; have n0_ := Aside0.mk (Kd.R_below (rch HO105) hb); have n1_ := Aside0.mk (Kd.R_below (rch HO108) hb); have n2_ := Aside0.mk (Kd.S_below (by (with_reducible repeat (first | apply Kd.S_alloc | apply Kd.S_drewN | apply Kd.S_drew)); (first | exact HO111.out | exact R_any HO111.out)) hb); have n3_ := Aside0.mk (Kd.R_below (rch HO114) hb); have n4_ := Aside0.mk (below_step (bel HB) hb); have n5_ := Aside0.mk (hbox); have n6_ := Aside0.mk (gsz hg (bel HB)); have n7_ := Aside0.mk (gsz hg (bel HB)); clear HO105; clear HO108; clear HO111; clear HO114; clear HB; have HO105 := n0_; have HO108 := n1_; have HO111 := n2_; have HO114 := n3_; have HB := n4_; have BK116 := n5_; have GW116 := n6_; have GE116 := n7_; clear n0_ n1_ n2_ n3_ n4_ n5_ n6_ n7_; clear hb hbox hg; obtain ⟨Ao13, co13, eo13⟩ := Kd.R_slice HO105.out; subst eo13; have hcz14_0 : w12.cell? ⟨gb116, 0, none⟩ = some (.slice none 0 0) := (blk_cell BK116.out 0).trans rfl; have hcz14_1 : w12.cell? ⟨gb116, 1, none⟩ = some (.slice none 0 0) := (blk_cell BK116.out 1).trans rfl; have hcz14_2 : w12.cell? ⟨gb116, 2, none⟩ = some (.slice none 0 0) := (blk_cell BK116.out 2).trans rfl; have hcz14_3 : w12.cell? ⟨gb116, 3, none⟩ = some (.slice none 0 0) := (blk_cell BK116.out 3).trans rfl; have hfz14_0 := blk_frozen BK116.out 0; have hfz14_1 := blk_frozen BK116.out 1; have hfz14_2 := blk_frozen BK116.out 2; have hfz14_3 := blk_frozen BK116.out 3; obtain ⟨Ao15, co15, eo15⟩ := Kd.R_slice HO108.out; subst eo15; obtain ⟨Ao16, co16, eo16⟩ := Kd.S_slice HO111.out; subst eo16; obtain ⟨Ao17, co17, eo17⟩ := Kd.R_slice HO114.out; subst eo17))
    have n0_ : Aside0 (Kd.R Kd.string 9 ((((w12.setCell ⟨gb116, 0, none⟩ (.slice Ao13 t103.length co13)).setCell ⟨gb116, 1, none⟩ (.slice Ao15 t106.length co15)).setCell ⟨gb116, 2, none⟩ (.slice Ao16 t109.length co16)).setCell ⟨gb116, 3, none⟩ (.slice Ao17 t112.length co17)) w.heap.size (fun k_ => some k_ ≠ (.slice Ao17 t112.length co17 : Value).ownBlock) (.slice Ao13 t103.length co13) t103) := ⟨by (with_reducible repeat (first | apply Kd.R_alloc | apply Kd.R_drewN | apply Kd.R_drew)); exact Kd.R_mono (Kd.R_far (p := ⟨gb116, 3, none⟩) (Kd.R_far (p := ⟨gb116, 2, none⟩) (Kd.R_far (p := ⟨gb116, 1, none⟩) (Kd.R_far (p := ⟨gb116, 0, none⟩) (Kd.R_types HO105.out BK116.out (by decide)) (fun _ hk => hk.2) (.slice Ao13 t103.length co13)) (fun _ hk => hk.2) (.slice Ao15 t106.length co15)) (fun _ hk => hk.2) (.slice Ao16 t109.length co16)) (fun _ hk => hk.2) (.slice Ao17 t112.length co17)) (fun _ hk => hk.1)⟩
    have n1_ : Aside0 (Kd.R (Kd.int .i64) 3 ((((w12.setCell ⟨gb116, 0, none⟩ (.slice Ao13 t103.length co13)).setCell ⟨gb116, 1, none⟩ (.slice Ao15 t106.length co15)).setCell ⟨gb116, 2, none⟩ (.slice Ao16 t109.length co16)).setCell ⟨gb116, 3, none⟩ (.slice Ao17 t112.length co17)) w.heap.size (fun _ => True) (.slice Ao15 t106.length co15) t106) := ⟨by (with_reducible repeat (first | apply Kd.R_alloc | apply Kd.R_drewN | apply Kd.R_drew)); exact Kd.R_mono (Kd.R_far (p := ⟨gb116, 3, none⟩) (Kd.R_far (p := ⟨gb116, 2, none⟩) (Kd.R_far (p := ⟨gb116, 1, none⟩) (Kd.R_far (p := ⟨gb116, 0, none⟩) (Kd.R_types HO108.out BK116.out (by decide)) (fun _ hk => hk.2) (.slice Ao13 t103.length co13)) (fun _ hk => hk.2) (.slice Ao15 t106.length co15)) (fun _ hk => hk.2) (.slice Ao16 t109.length co16)) (fun _ hk => hk.2) (.slice Ao17 t112.length co17)) (fun _ hk => trivial)⟩
    have n2_ : Aside0 (Kd.S (Kd.slice 3 (Kd.int .i64)) 22 ((((w12.setCell ⟨gb116, 0, none⟩ (.slice Ao13 t103.length co13)).setCell ⟨gb116, 1, none⟩ (.slice Ao15 t106.length co15)).setCell ⟨gb116, 2, none⟩ (.slice Ao16 t109.length co16)).setCell ⟨gb116, 3, none⟩ (.slice Ao17 t112.length co17)) w.heap.size (fun k_ => some k_ ≠ (.slice Ao15 t106.length co15 : Value).ownBlock) (.slice Ao16 t109.length co16) t109) := ⟨by (with_reducible repeat (first | apply Kd.S_alloc | apply Kd.S_drewN | apply Kd.S_drew)); exact Kd.S_mono (Kd.S_far (p := ⟨gb116, 3, none⟩) (Kd.S_far (p := ⟨gb116, 2, none⟩) (Kd.S_far (p := ⟨gb116, 1, none⟩) (Kd.S_far (p := ⟨gb116, 0, none⟩) (Kd.S_types HO111.out BK116.out (by decide)) (fun _ hk => hk.2) (.slice Ao13 t103.length co13)) (fun _ hk => hk.2) (.slice Ao15 t106.length co15)) (fun _ hk => hk.2) (.slice Ao16 t109.length co16)) (fun _ hk => hk.2) (.slice Ao17 t112.length co17)) (fun _ hk => hk.1)⟩
    have n3_ : Aside0 (Kd.R Kd.string 9 ((((w12.setCell ⟨gb116, 0, none⟩ (.slice Ao13 t103.length co13)).setCell ⟨gb116, 1, none⟩ (.slice Ao15 t106.length co15)).setCell ⟨gb116, 2, none⟩ (.slice Ao16 t109.length co16)).setCell ⟨gb116, 3, none⟩ (.slice Ao17 t112.length co17)) w.heap.size (fun k_ => some k_ ≠ (.slice Ao13 t103.length co13 : Value).ownBlock) (.slice Ao17 t112.length co17) t112) := ⟨by (with_reducible repeat (first | apply Kd.R_alloc | apply Kd.R_drewN | apply Kd.R_drew)); exact Kd.R_mono (Kd.R_far (p := ⟨gb116, 3, none⟩) (Kd.R_far (p := ⟨gb116, 2, none⟩) (Kd.R_far (p := ⟨gb116, 1, none⟩) (Kd.R_far (p := ⟨gb116, 0, none⟩) (Kd.R_types HO114.out BK116.out (by decide)) (fun _ hk => hk.2) (.slice Ao13 t103.length co13)) (fun _ hk => hk.2) (.slice Ao15 t106.length co15)) (fun _ hk => hk.2) (.slice Ao16 t109.length co16)) (fun _ hk => hk.2) (.slice Ao17 t112.length co17)) (fun _ hk => hk.1)⟩
    have n4_ : Aside0 (((((w12.setCell ⟨gb116, 0, none⟩ (.slice Ao13 t103.length co13)).setCell ⟨gb116, 1, none⟩ (.slice Ao15 t106.length co15)).setCell ⟨gb116, 2, none⟩ (.slice Ao16 t109.length co16)).setCell ⟨gb116, 3, none⟩ (.slice Ao17 t112.length co17)).heap[gb116]? = some (.cells #[.slice Ao13 t103.length co13, .slice Ao15 t106.length co15, .slice Ao16 t109.length co16, .slice Ao17 t112.length co17] 51 (0, 0))) := ⟨by (with_reducible repeat (first | refine blk_drewN ?_ _ | refine blk_drew ?_ | refine blk_alloc ?_ _)); refine blk_put (cs := #[.slice Ao13 t103.length co13, .slice Ao15 t106.length co15, .slice Ao16 t109.length co16, .slice none 0 0]) ?_ 3 _ rfl; (with_reducible repeat (first | refine blk_drewN ?_ _ | refine blk_drew ?_ | refine blk_alloc ?_ _)); refine blk_put (cs := #[.slice Ao13 t103.length co13, .slice Ao15 t106.length co15, .slice none 0 0, .slice none 0 0]) ?_ 2 _ rfl; (with_reducible repeat (first | refine blk_drewN ?_ _ | refine blk_drew ?_ | refine blk_alloc ?_ _)); refine blk_put (cs := #[.slice Ao13 t103.length co13, .slice none 0 0, .slice none 0 0, .slice none 0 0]) ?_ 1 _ rfl; (with_reducible repeat (first | refine blk_drewN ?_ _ | refine blk_drew ?_ | refine blk_alloc ?_ _)); refine blk_put (cs := #[.slice none 0 0, .slice none 0 0, .slice none 0 0, .slice none 0 0]) ?_ 0 _ rfl; exact blc⟩
    have n5_ : Aside0 (Below w.heap.size w ((((w12.setCell ⟨gb116, 0, none⟩ (.slice Ao13 t103.length co13)).setCell ⟨gb116, 1, none⟩ (.slice Ao15 t106.length co15)).setCell ⟨gb116, 2, none⟩ (.slice Ao16 t109.length co16)).setCell ⟨gb116, 3, none⟩ (.slice Ao17 t112.length co17))) := ⟨bel HB⟩
    (try clear HO105)
    (try clear HO108)
    (try clear HO111)
    (try clear HO114)
    (try clear BK116)
    (try clear HB)
    generalize ((((w12.setCell ⟨gb116, 0, none⟩ (.slice Ao13 t103.length co13)).setCell ⟨gb116, 1, none⟩ (.slice Ao15 t106.length co15)).setCell ⟨gb116, 2, none⟩ (.slice Ao16 t109.length co16)).setCell ⟨gb116, 3, none⟩ (.slice Ao17 t112.length co17)) = w18 at n0_ n1_ n2_ n3_ n4_ n5_ ⊢
    have HO105 := n0_
    have HO108 := n1_
    have HO111 := n2_
    have HO114 := n3_
    have BK116 := n4_
    have HB := n5_
    clear n0_ n1_ n2_ n3_ n4_ n5_
    have n0_ := Aside0.mk (Kd.R_drew HO105.out)
    have n1_ := Aside0.mk (Kd.R_drew HO108.out)
    have n2_ := Aside0.mk (Kd.S_drew HO111.out)
    have n3_ := Aside0.mk (Kd.R_drew HO114.out)
    have n4_ := Aside0.mk (blk_drew BK116.out)
    have n5_ := Aside0.mk (below_drew1 HB.out)
    clear HO105
    clear HO108
    clear HO111
    clear HO114
    clear BK116
    clear HB
    have HO105 := n0_
    have HO108 := n1_
    have HO111 := n2_
    have HO114 := n3_
    have BK116 := n4_
    have HB := n5_
    clear n0_ n1_ n2_ n3_ n4_ n5_
    refine start_ (n := 9) (S := fun w' => w'.cell? ⟨gb116, 0, none⟩ = some (.slice Ao13 t103.length co13) ∧ w'.cell? ⟨gb116, 1, none⟩ = some (.slice Ao15 t106.length co15) ∧ w'.cell? ⟨gb116, 2, none⟩ = some (.slice Ao16 t109.length co16) ∧ w'.cell? ⟨gb116, 3, none⟩ = some (.slice Ao17 t112.length co17) ∧ True) (ds := []) #[false, false, false, false, false, false, false, false, false] (by kernel_rfl) rfl rfl ⟨(blk_cell BK116.out 0).trans rfl, (blk_cell BK116.out 1).trans rfl, (blk_cell BK116.out 2).trans rfl, (blk_cell BK116.out 3).trans rfl, trivial⟩ (fun hHeld => ?_); refine with_tabW impl_CountShortest.tab5 impl_CountShortest.bits5 (fun HT_ HW_ => ?_)
    generalize w18.drew = w19 at HO105 HO108 HO111 HO114 BK116 HB hHeld ⊢
    refine pure_ (i := 3) (N := some 26) (v := ?_) (a' := ?_) #[false, false, false, true, false, false, false, false, false] rfl rfl (any_of HT_.out (by kernel_rfl)) (fun _ _ _ h => h) (Or.inl ⟨by rfl, ?_⟩) ?_ ?_
    rotate_left
    ·intro w'
     go_simp
     with_reducible rfl
    rotate_left
    ·simp only [Act.put, List.setIfInBounds_toArray, List.set_cons_zero, List.set_cons_succ, i64_w, i32_w]
     rfl
    refine take_ (i := 0) (N := some 23) (v := ?_) (a' := ?_) #[true, false, false, true, false, false, false, false, false] rfl rfl (take_ofW HT_.out HW_.out (by kernel_rfl)) (fun _ _ _ h => h) (Or.inl ⟨by rfl, ?_⟩) hHeld ?_ ?_
    rotate_left
    ·rintro w' ⟨s0, s1, s2, s3, s4⟩
     go_simp
     with_reducible rfl
    rotate_left
    ·simp only [Act.put, List.setIfInBounds_toArray, List.set_cons_zero, List.set_cons_succ, i64_w, i32_w]
     rfl
    refine take_ (i := 2) (N := some 25) (v := ?_) (a' := ?_) #[true, false, true, true, false, false, false, false, false] rfl rfl (take_ofW HT_.out HW_.out (by kernel_rfl)) (fun _ _ _ h => h) (Or.inl ⟨by rfl, ?_⟩) hHeld ?_ ?_
    rotate_left
    ·rintro w' ⟨s0, s1, s2, s3, s4⟩
     go_simp
     with_reducible rfl
    rotate_left
    ·simp only [Act.put, List.setIfInBounds_toArray, List.set_cons_zero, List.set_cons_succ, i64_w, i32_w]
     rfl
    refine one_ (i := 1) (N := some 24) #[true, true, true, true, false, false, false, false, false] rfl rfl (one_of HT_.out (by kernel_rfl)) (by decide) (fun K hK => ?_)
    refine goes_ Tryz.func38 (by kernel_rfl) rfl #[.agg #[.slice Ao13 t103.length co13, .slice Ao15 t106.length co15, .slice Ao16 t109.length co16, .slice Ao17 t112.length co17]] (by rfl) rfl rfl (by (try simp only [List.map_toArray, List.map_cons, List.map_nil]); first | done | rfl | (simp only [List.length_drop, List.length_take]; rfl)) ?_
    with_reducible refine (impl_reach_ways.calls k _ _ t103 _ _ t106 _ _ t109 _ _ t112 t117 _ ?side1 ?side2 ?side3 ?side4 ?side5 ?side6 ?side7 ?side8 A6.out).mono ?_
    (case side1 => repeat (first | exact (Kd.R_reads' HO105.out).2.2 | (with_reducible refine Kd.C_alloc ?_ _) | (with_reducible refine Kd.C_drewN ?_ _) | (with_reducible refine Kd.C_drew ?_)))
    (case side2 => exact (Kd.R_reads' HO105.out).2.1)
    (case side3 => repeat (first | exact (Kd.R_reads' HO108.out).2.2 | (with_reducible refine Kd.C_alloc ?_ _) | (with_reducible refine Kd.C_drewN ?_ _) | (with_reducible refine Kd.C_drew ?_)))
    (case side4 => exact (Kd.R_reads' HO108.out).2.1)
    (case side5 => repeat (first | exact (Kd.S_reads' HO111.out).2.2 | (with_reducible refine Kd.C_alloc ?_ _) | (with_reducible refine Kd.C_drewN ?_ _) | (with_reducible refine Kd.C_drew ?_)))
    (case side6 => exact (Kd.S_reads' HO111.out).2.1)
    (case side7 => repeat (first | exact (Kd.R_reads' HO114.out).2.2 | (with_reducible refine Kd.C_alloc ?_ _) | (with_reducible refine Kd.C_drewN ?_ _) | (with_reducible refine Kd.C_drew ?_)))
    (case side8 => exact (Kd.R_reads' HO114.out).2.1)
    rintro e w20 ⟨v118, rfl, ho0, hb⟩
    have HS4_ := trivial
    refine ⟨_, rfl, ?_⟩
    have n0_ := Aside0.mk (Kd.R_below (rch HO105) hb)
    have n1_ := Aside0.mk (Kd.R_elder' (rch HO108) (Kd.R_base ho0) hb)
    have n2_ := Aside0.mk (Kd.S_elder' (by (with_reducible repeat (first | apply Kd.S_alloc | apply Kd.S_drewN | apply Kd.S_drew)); (first | exact HO111.out | exact R_any HO111.out)) (Kd.R_base ho0) hb)
    have n3_ := Aside0.mk (Kd.R_below (rch HO114) hb)
    have n4_ := Aside0.mk (Kd.R_lower (Kd.R_new' ho0 (Kd.R_lt (rch HO108))) (below_size (bel HB)))
    have n5_ := Aside0.mk (blk_below (g := gb116) (o := .cells #[.slice Ao13 t103.length co13, .slice Ao15 t106.length co15, .slice Ao16 t109.length co16, .slice Ao17 t112.length co17] 51 (0, 0)) blc hb)
    have n6_ := Aside0.mk (below_step (bel HB) hb)
    clear HO105
    clear HO108
    clear HO111
    clear HO114
    clear BK116
    clear HB
    have HO105 := n0_
    have HO108 := n1_
    have HO111 := n2_
    have HO114 := n3_
    have HO119 := n4_
    have BK116 := n5_
    have HB := n6_
    clear n0_ n1_ n2_ n3_ n4_ n5_ n6_
    (try clear hb)
    (try clear hb2)
    (try clear hk)
    (try clear hi)
    (try clear ho0)
    refine hK.out _ _ ⟨(blk_cell BK116.out 0).trans rfl, (blk_cell BK116.out 1).trans rfl, (blk_cell BK116.out 2).trans rfl, (blk_cell BK116.out 3).trans rfl, HS4_⟩ (fun hHeld => ?_)
    clear hK K
    refine norm_ (a' := ?_) ?_ ?_
    rotate_left
    ·show Act.put _ (some 24) _ = _
     simp only [Act.put, List.setIfInBounds_toArray, List.set_cons_zero, List.set_cons_succ, i64_w, i32_w]
     rfl
    refine one_ (i := 4) (N := some 27) #[true, true, true, true, true, false, false, false, false] rfl rfl (one_of HT_.out (by kernel_rfl)) (by decide) (fun K hK => ?_)
    refine goes_ Tryz.func35 (by kernel_rfl) rfl #[.agg #[.slice Ao13 t103.length co13, .slice Ao15 t106.length co15, .slice Ao16 t109.length co16, .slice Ao17 t112.length co17], .string a1] (by rfl) rfl rfl (by (try simp only [List.map_toArray, List.map_cons, List.map_nil]); first | done | rfl | (simp only [List.length_drop, List.length_take]; rfl)) ?_
    with_reducible refine (impl_reach_to.calls k _ _ t103 _ _ t106 _ _ t109 _ _ t112 a1 t120 _ ?side1 ?side2 ?side3 ?side4 ?side5 ?side6 ?side7 ?side8 A7.out).mono ?_
    (case side1 => repeat (first | exact (Kd.R_reads' HO105.out).2.2 | (with_reducible refine Kd.C_alloc ?_ _) | (with_reducible refine Kd.C_drewN ?_ _) | (with_reducible refine Kd.C_drew ?_)))
    (case side2 => exact (Kd.R_reads' HO105.out).2.1)
    (case side3 => repeat (first | exact (Kd.R_reads' HO108.out).2.2 | (with_reducible refine Kd.C_alloc ?_ _) | (with_reducible refine Kd.C_drewN ?_ _) | (with_reducible refine Kd.C_drew ?_)))
    (case side4 => exact (Kd.R_reads' HO108.out).2.1)
    (case side5 => repeat (first | exact (Kd.S_reads' HO111.out).2.2 | (with_reducible refine Kd.C_alloc ?_ _) | (with_reducible refine Kd.C_drewN ?_ _) | (with_reducible refine Kd.C_drew ?_)))
    (case side6 => exact (Kd.S_reads' HO111.out).2.1)
    (case side7 => repeat (first | exact (Kd.R_reads' HO114.out).2.2 | (with_reducible refine Kd.C_alloc ?_ _) | (with_reducible refine Kd.C_drewN ?_ _) | (with_reducible refine Kd.C_drew ?_)))
    (case side8 => exact (Kd.R_reads' HO114.out).2.1)
    rintro e w21 ⟨rfl, hb⟩
    have HS4_ := trivial
    refine ⟨_, rfl, ?_⟩
    have n0_ := Aside0.mk (Kd.R_below (rch HO105) hb)
    have n1_ := Aside0.mk (Kd.R_below (rch HO108) hb)
    have n2_ := Aside0.mk (Kd.S_below (by (with_reducible repeat (first | apply Kd.S_alloc | apply Kd.S_drewN | apply Kd.S_drew)); (first | exact HO111.out | exact R_any HO111.out)) hb)
    have n3_ := Aside0.mk (Kd.R_below (rch HO114) hb)
    have n4_ := Aside0.mk (Kd.R_below (rch HO119) hb)
    have n5_ := Aside0.mk (blk_below (g := gb116) (o := .cells #[.slice Ao13 t103.length co13, .slice Ao15 t106.length co15, .slice Ao16 t109.length co16, .slice Ao17 t112.length co17] 51 (0, 0)) blc hb)
    have n6_ := Aside0.mk (below_step (bel HB) hb)
    clear HO105
    clear HO108
    clear HO111
    clear HO114
    clear HO119
    clear BK116
    clear HB
    have HO105 := n0_
    have HO108 := n1_
    have HO111 := n2_
    have HO114 := n3_
    have HO119 := n4_
    have BK116 := n5_
    have HB := n6_
    clear n0_ n1_ n2_ n3_ n4_ n5_ n6_
    (try clear hb)
    (try clear hb2)
    (try clear hk)
    (try clear hi)
    obtain ⟨Ao22, co22, eo22⟩ := Kd.R_slice HO119.out
    (first | subst eo22 | (injection eo22 with f1_ f2_ f3_; have f4_ := f1_.symm; have f5_ := f3_.symm; clear f1_ f2_ f3_; subst f4_; subst f5_))
    have p121 : 0 ≤ (t120 : Int) := of_decide_eq_true (by first | (with_reducible assumption) | assumption)
    have q121 : t120 < (t117.length : Int) := of_decide_eq_true (by first | (with_reducible assumption) | assumption)
    obtain ⟨ad121, e121, hx121_0⟩ := Kd.at_int (Kd.R_reads' HO119.out).2.2 t120 p121 q121
    cases e121
    replace p121 := eq_true p121
    replace q121 := eq_true q121
    refine hK.out _ _ ⟨(blk_cell BK116.out 0).trans rfl, (blk_cell BK116.out 1).trans rfl, (blk_cell BK116.out 2).trans rfl, (blk_cell BK116.out 3).trans rfl, trivial⟩ (fun hHeld => ?_)
    refine grow_ (S' := fun w' => w'.cell? ⟨gb116, 0, none⟩ = some (.slice Ao13 t103.length co13) ∧ w'.cell? ⟨gb116, 1, none⟩ = some (.slice Ao15 t106.length co15) ∧ w'.cell? ⟨gb116, 2, none⟩ = some (.slice Ao16 t109.length co16) ∧ w'.cell? ⟨gb116, 3, none⟩ = some (.slice Ao17 t112.length co17) ∧ w'.cell? (ad121.add (t120).toNat) = some (.int .i64 (rd t117 t120))) (fun _ h_ => ⟨h_.1, h_.2.1, h_.2.2.1, h_.2.2.2.1, trivial⟩) ⟨(blk_cell BK116.out 0).trans rfl, (blk_cell BK116.out 1).trans rfl, (blk_cell BK116.out 2).trans rfl, (blk_cell BK116.out 3).trans rfl, hx121_0⟩ (fun hHeld => ?_)
    clear hK K
    refine norm_ (a' := ?_) ?_ ?_
    rotate_left
    ·show Act.put _ (some 27) _ = _
     simp only [Act.put, List.setIfInBounds_toArray, List.set_cons_zero, List.set_cons_succ, i64_w, i32_w]
     rfl
    refine pure_ (i := 5) (N := some 28) (v := ?_) (a' := ?_) #[true, true, true, true, true, true, false, false, false] rfl rfl (any_of HT_.out (by kernel_rfl)) (fun _ _ _ h => h) (Or.inl ⟨by rfl, ?_⟩) ?_ ?_
    rotate_left
    ·intro w'
     go_simp
     with_reducible rfl
    rotate_left
    ·simp only [Act.put, List.setIfInBounds_toArray, List.set_cons_zero, List.set_cons_succ, i64_w, i32_w]
     rfl
    refine take_ (i := 6) (N := some 29) (v := ?_) (a' := ?_) #[true, true, true, true, true, true, true, false, false] rfl rfl (take_ofW HT_.out HW_.out (by kernel_rfl)) (fun _ _ _ h => h) (Or.inl ⟨by rfl, ?_⟩) hHeld ?_ ?_
    rotate_left
    ·rintro w' ⟨s0, s1, s2, s3, s4⟩
     go_simp
     with_reducible rfl
    rotate_left
    ·simp only [Act.put, List.setIfInBounds_toArray, List.set_cons_zero, List.set_cons_succ, i64_w, i32_w]
     rfl
    refine pure_ (i := 7) (N := some 4) (v := ?_) (a' := ?_) #[true, true, true, true, true, true, true, true, false] rfl rfl (any_of HT_.out (by kernel_rfl)) (fun _ _ _ h => h) (Or.inl ⟨by rfl, ?_⟩) ?_ ?_
    rotate_left
    ·intro w'
     go_simp
     with_reducible rfl
    rotate_left
    ·simp only [Act.put, List.setIfInBounds_toArray, List.set_cons_zero, List.set_cons_succ, i64_w, i32_w]
     rfl
    refine pure_ (i := 8) (N := some 5) (v := ?_) (a' := ?_) #[true, true, true, true, true, true, true, true, true] rfl rfl (any_of HT_.out (by kernel_rfl)) (fun _ _ _ h => h) (Or.inl ⟨by rfl, ?_⟩) ?_ ?_
    rotate_left
    ·intro w'
     go_simp
     with_reducible rfl
    rotate_left
    ·simp only [Act.put, List.setIfInBounds_toArray, List.set_cons_zero, List.set_cons_succ, i64_w, i32_w]
     rfl
    refine done_ (done_of HT_.out (by kernel_rfl)) ?_
    try go_wp2
    go_ret2
    exact ⟨by first | rfl | (simp [errW_none, errW_some] <;> rfl) | (simp [*, errW_none, errW_some] <;> rfl), bel HB⟩
   ·rw [if_neg c9] at H
    exact absurd H (by simp)
  ·rw [if_neg c8] at H
   exact absurd H (by simp)
 ·replace c4 := Bool.eq_false_iff.mpr c4
  subst c4
  have H1 : (some (0, false)) = some (r1, r2) := by rw [if_neg (show ¬ (false = true) by decide)] at H; exact H
  clear H
  have H := H1
  clear H1
  simp only [Option.some.injEq, Prod.mk.injEq] at H
  obtain ⟨rfl, rfl⟩ := H
  go_enter Tryz.func25, Tryz.ntmps25
  go_wp2_with (first | ((with_reducible refine gate_callee (f := 17) rfl ?_); refine gcall (some 13) Tryz.func17 #[.string a0, .string a1] rfl ?_; (with_reducible refine (impl_IsReached.calls k a0 a1 false t102 _ ?side1 A3.out).mono ?_); (case side1 => (refine GoodW.below HG.out ?_); exact bel HB); rintro e w23 ⟨rfl, hb⟩; refine ⟨_, rfl, ?_⟩; have n0_ := Aside0.mk (below_step (bel HB) hb); clear HB; have HB := n0_; clear n0_; (try clear hb); (try clear hb2); (try clear hk); (try clear hi)))
  go_ret2
  exact ⟨by first | rfl | (simp [errW_none, errW_some] <;> rfl) | (simp [*, errW_none, errW_some] <;> rfl), bel HB⟩
def laws_FnExactCountShortest.f (k : Nat) (a0 : ByteArray) (a1 : ByteArray) : Option (Bool) := if (a0.size : Int) > 1048576 then (some true) else (if (a1.size : Int) > 1048576 then (some true) else ((spec_CountShortest.f k a0 a1).bind fun bt101 => ((impl_CountShortest.f k a0 a1).bind fun bt103 => (if bt103.1 = bt101.1 then (if (bt103.2 != bt101.2) = true then (some false) else (some true)) else (some false)))))
set_option maxHeartbeats 8000000 in
set_option maxRecDepth 100000 in
theorem laws_FnExactCountShortest.calls (k : Nat) (a0 : ByteArray) (a1 : ByteArray) (r : Bool) (w : World) (hG : GoodW w) (h : laws_FnExactCountShortest.f k a0 a1 = some r) :
  Calls Tryz.prog 8 #[.string a0, .string a1] w fun e w' => e = .returned (.bool r) ∧ Below w.heap.size w w' := by
 have HG := Aside0.mk hG
 clear hG
 have HB := Aside0.mk (Below.refl w.heap.size w)
 have H : (if (a0.size : Int) > 1048576 then (some true) else (if (a1.size : Int) > 1048576 then (some true) else ((spec_CountShortest.f k a0 a1).bind fun bt101 => ((impl_CountShortest.f k a0 a1).bind fun bt103 => (if bt103.1 = bt101.1 then (if (bt103.2 != bt101.2) = true then (some false) else (some true)) else (some false)))))) = some r := h
 clear h
 by_cases c3 : (a0.size : Int) > 1048576
 ·rw [if_pos c3] at H
  have c3b0 : decide (1048576 < (a0.size : Int)) = true := decide_eq_true c3
  have c3b1 : decide (1048576 < a0.size) = true := decide_eq_true (by omega)
  clear c3
  obtain rfl := Option.some.inj H
  go_enter Tryz.func8, Tryz.ntmps8
  go_wp2
  go_ret
  exact ⟨by first | rfl | (simp [errW_none, errW_some] <;> rfl) | (simp [*, errW_none, errW_some] <;> rfl), bel HB⟩
 ·rw [if_neg c3] at H
  have c3b0 : decide (1048576 < (a0.size : Int)) = false := decide_eq_false c3
  have c3b1 : decide (1048576 < a0.size) = false := decide_eq_false (by omega)
  clear c3
  by_cases c4 : (a1.size : Int) > 1048576
  ·rw [if_pos c4] at H
   have c4b0 : decide (1048576 < (a1.size : Int)) = true := decide_eq_true c4
   have c4b1 : decide (1048576 < a1.size) = true := decide_eq_true (by omega)
   clear c4
   obtain rfl := Option.some.inj H
   go_enter Tryz.func8, Tryz.ntmps8
   go_wp2
   go_ret
   exact ⟨by first | rfl | (simp [errW_none, errW_some] <;> rfl) | (simp [*, errW_none, errW_some] <;> rfl), bel HB⟩
  ·rw [if_neg c4] at H
   have c4b0 : decide (1048576 < (a1.size : Int)) = false := decide_eq_false c4
   have c4b1 : decide (1048576 < a1.size) = false := decide_eq_false (by omega)
   clear c4
   replace H := Option.bind_eq_some_iff.mp H
   obtain ⟨⟨t101, t102⟩, A50, H⟩ := H
   replace H : ((impl_CountShortest.f k a0 a1).bind fun bt103 => (if bt103.1 = t101 then (if (bt103.2 != t102) = true then (some false) else (some true)) else (some false))) = some r := H
   have A5 := Aside0.mk A50
   clear A50
   replace H := Option.bind_eq_some_iff.mp H
   obtain ⟨⟨t103, t104⟩, A60, H⟩ := H
   replace H : (if t103 = t101 then (if (t104 != t102) = true then (some false) else (some true)) else (some false)) = some r := H
   have A6 := Aside0.mk A60
   clear A60
   by_cases c7 : t103 = t101
   ·rw [if_pos c7] at H
    have c7b0 : (t103 == t101) = true := beq_iff_eq.mpr c7
    have c7b1 : (t103 != t101) = false := bne_eq_false_iff_eq.mpr c7
    clear c7
    by_cases c8 : (t104 != t102) = true
    ·rw [if_pos c8] at H
     have c8b0 : (t104 != t102) = true := c8
     (try (have c8b1 : decide (t104 = t102) = false := by simpa using c8))
     (try (have c8b2 : (t104 == t102) = false := by simpa using c8))
     (try (have c8b3 : ¬ (t104 = t102) := by simpa using c8))
     clear c8
     obtain rfl := Option.some.inj H
     go_enter Tryz.func8, Tryz.ntmps8
     go_wp2_with (first | ((with_reducible refine gate_callee (f := 24) rfl ?_); refine gcall (some 18) Tryz.func24 #[.string a0, .string a1] rfl ?_; (with_reducible refine (spec_CountShortest.calls k a0 a1 t101 t102 _ A5.out).mono ?_); rintro e w9 ⟨rfl, hb⟩; refine ⟨_, rfl, ?_⟩; have n0_ := Aside0.mk (below_step (bel HB) hb); clear HB; have HB := n0_; clear n0_; (try clear hb); (try clear hb2); (try clear hk); (try clear hi)) | ((with_reducible refine gate_callee (f := 25) rfl ?_); refine gcall (some 24) Tryz.func25 #[.string a0, .string a1] rfl ?_; (with_reducible refine (impl_CountShortest.calls k a0 a1 t103 t104 _ ?side1 A6.out).mono ?_); (case side1 => (refine GoodW.below HG.out ?_); exact bel HB); rintro e w10 ⟨rfl, hb⟩; refine ⟨_, rfl, ?_⟩; have n0_ := Aside0.mk (below_step (bel HB) hb); clear HB; have HB := n0_; clear n0_; (try clear hb); (try clear hb2); (try clear hk); (try clear hi)))
     go_ret
     exact ⟨by first | rfl | (simp [errW_none, errW_some] <;> rfl) | (simp [*, errW_none, errW_some] <;> rfl), bel HB⟩
    ·rw [if_neg c8] at H
     have c8b0 : (t104 != t102) = false := by simpa using c8
     (try (have c8b1 : decide (t104 = t102) = true := by simpa using c8))
     (try (have c8b2 : (t104 == t102) = true := by simpa using c8))
     clear c8
     obtain rfl := Option.some.inj H
     go_enter Tryz.func8, Tryz.ntmps8
     go_wp2_with (first | ((with_reducible refine gate_callee (f := 24) rfl ?_); refine gcall (some 18) Tryz.func24 #[.string a0, .string a1] rfl ?_; (with_reducible refine (spec_CountShortest.calls k a0 a1 t101 t102 _ A5.out).mono ?_); rintro e w11 ⟨rfl, hb⟩; refine ⟨_, rfl, ?_⟩; have n0_ := Aside0.mk (below_step (bel HB) hb); clear HB; have HB := n0_; clear n0_; (try clear hb); (try clear hb2); (try clear hk); (try clear hi)) | ((with_reducible refine gate_callee (f := 25) rfl ?_); refine gcall (some 24) Tryz.func25 #[.string a0, .string a1] rfl ?_; (with_reducible refine (impl_CountShortest.calls k a0 a1 t103 t104 _ ?side1 A6.out).mono ?_); (case side1 => (refine GoodW.below HG.out ?_); exact bel HB); rintro e w12 ⟨rfl, hb⟩; refine ⟨_, rfl, ?_⟩; have n0_ := Aside0.mk (below_step (bel HB) hb); clear HB; have HB := n0_; clear n0_; (try clear hb); (try clear hb2); (try clear hk); (try clear hi)))
     go_ret
     exact ⟨by first | rfl | (simp [errW_none, errW_some] <;> rfl) | (simp [*, errW_none, errW_some] <;> rfl), bel HB⟩
   ·rw [if_neg c7] at H
    have c7b0 : (t103 == t101) = false := beq_eq_false_iff_ne.mpr c7
    have c7b1 : (t103 != t101) = true := bne_iff_ne.mpr c7
    obtain rfl := Option.some.inj H
    go_enter Tryz.func8, Tryz.ntmps8
    go_wp2_with (first | ((with_reducible refine gate_callee (f := 24) rfl ?_); refine gcall (some 18) Tryz.func24 #[.string a0, .string a1] rfl ?_; (with_reducible refine (spec_CountShortest.calls k a0 a1 t101 t102 _ A5.out).mono ?_); rintro e w13 ⟨rfl, hb⟩; refine ⟨_, rfl, ?_⟩; have n0_ := Aside0.mk (below_step (bel HB) hb); clear HB; have HB := n0_; clear n0_; (try clear hb); (try clear hb2); (try clear hk); (try clear hi)) | ((with_reducible refine gate_callee (f := 25) rfl ?_); refine gcall (some 24) Tryz.func25 #[.string a0, .string a1] rfl ?_; (with_reducible refine (impl_CountShortest.calls k a0 a1 t103 t104 _ ?side1 A6.out).mono ?_); (case side1 => (refine GoodW.below HG.out ?_); exact bel HB); rintro e w14 ⟨rfl, hb⟩; refine ⟨_, rfl, ?_⟩; have n0_ := Aside0.mk (below_step (bel HB) hb); clear HB; have HB := n0_; clear n0_; (try clear hb); (try clear hb2); (try clear hk); (try clear hi)))
    go_ret
    exact ⟨by first | rfl | (simp [errW_none, errW_some] <;> rfl) | (simp [*, errW_none, errW_some] <;> rfl), bel HB⟩
end Go.Proofs.YtchkmhbngbgjnaaGreatDoor.Q
end
section
namespace Go.Proofs.YtchkmhbngbgjnaaGreatDoor.Q
set_option linter.unusedSectionVars false
open Go.RowKit Go.Proofs.YtchkmhbngbgjnaaGreatDoorW.PrintWords Go.Proofs.YtchkmhbngbgjnaaGreatDoorW.PrintLast Go.Proofs.YtchkmhbngbgjnaaGreatDoorW.PrintMore
def vals (n : Nat) (V : Nat → Int) : List Int := (List.range n).map V
theorem vals_len (n : Nat) (V : Nat → Int) : (vals n V).length = n := by unfold vals; rw [List.length_map, List.length_range]
theorem vals_rd {n : Nat} (V : Nat → Int) {j : Nat} (h : j < n) : rd (vals n V) (j : Int) = V j := by
 unfold rd vals
 rw [Int.toNat_natCast, List.getD_eq_getElem?_getD, List.getElem?_map, List.getElem?_range h]
 rfl
theorem vals_set {n : Nat} (V : Nat → Int) {j : Nat} (_h : j < n) (x : Int) : (vals n V).set j x = vals n fun q => if q = j then x else V q := by
 refine List.ext_getElem? fun i => ?_
 unfold vals
 rw [List.getElem?_set, List.getElem?_map, List.length_map, List.length_range]
 by_cases hi : i < n
 ·rw [List.getElem?_map, List.getElem?_range hi]
  by_cases e : j = i
  ·subst e
   rw [if_pos rfl, if_pos hi]
   simp
  ·rw [if_neg e]
   show some (V i) = some (if i = j then x else V i)
   rw [if_neg fun e2 => e e2.symm]
 ·rw [List.getElem?_map, List.getElem?_eq_none (by simpa using hi)]
  by_cases e : j = i
  ·subst e
   rw [if_pos rfl, if_neg hi]
   rfl
  ·rw [if_neg e]
   rfl
end Go.Proofs.YtchkmhbngbgjnaaGreatDoor.Q
end
section
namespace Go.Proofs.YtchkmhbngbgjnaaGreatDoor.Q
set_option linter.unusedSectionVars false
open Go.RowKit Go.Proofs.YtchkmhbngbgjnaaGreatDoorW.PrintWords Go.Proofs.YtchkmhbngbgjnaaGreatDoorW.PrintLast Go.Proofs.YtchkmhbngbgjnaaGreatDoorW.PrintMore
open Classical
def CountShortestR (t u : ByteArray) : Int × Bool := if (reToR t u).2.2 = true then (if (reToR t u).2.1 < 0 then (0, false) else ((zAt (reToR t u).1 (reToR t u).2.1.toNat).words, true)) else (0, false)
theorem specCountShortest_ev (t u : ByteArray) : Ev (fun k => spec_CountShortest.f k t u) (CountShortestR t u) := by
 refine Ev.bind (f := fun _ (a : List Zs × Int × Bool) => if a.2.2 = true then (if a.2.1 < 0 then some (0, false) else if a.2.1 < (a.1.length : Int) then some ((zAt a.1 a.2.1.toNat).words, true) else none) else some (0, false)) (reTo_ev t u) (Ev.const ?_)
 unfold CountShortestR
 rcases to_cases t u with e | ⟨w, h, cs, p, H, hu, ⟨e, h1, h2⟩ | ⟨j, s, hs, h1, h2, e⟩⟩
 ·rw [e]
  rfl
 ·rw [e]
  rfl
 ·have hj := (List.getElem?_eq_some_iff.1 hs).1
  rw [e]
  show (if true = true then (if (j : Int) < 0 then _ else if (j : Int) < ((foundZ w h p).length : Int) then _ else _) else _) = some (if true = true then (if (j : Int) < 0 then _ else _) else _)
  rw [if_pos rfl, if_pos rfl, if_neg (by omega), if_pos (by rw [H.zlen]; omega), if_neg (by omega)]
theorem vRow_take (L : List RS) (i : Nat) (V : Nat → Int) (nx : List Nat) {m j : Nat} (h : nx[m]? = some j) : vRow L i V (nx.take (m + 1)) = bump L i (vRow L i V (nx.take m)) j := by
 obtain ⟨hl, e⟩ := List.getElem?_eq_some_iff.1 h
 unfold vRow
 rw [List.take_succ_eq_append_getElem hl, List.foldl_append, e]
 rfl
section
variable {t : ByteArray} {w h : Nat} {cs : List Int} {p : List RS × List (List Nat)} (H : Found t w h cs p)
include H
theorem ways_l1 {i : Nat} {nx : List Nat} (hi : p.2[i]? = some nx) (V : Nat → Int) (K : List Int)
  (hK : Ev (fun k => impl_reach_ways.l0 k (vals p.1.length (vRow p.1 i V nx)) (p.2.map casts) ((p.2.map casts).length : Int) (wrap64 ((i : Int) + 1)) (txs w h p.1) (fars p.1) (p.2.map casts) (wds p.1)) K) :
  ∀ (m u : Nat), u + m = nx.length → Ev (fun k => impl_reach_ways.l1 k (vals p.1.length (vRow p.1 i V (nx.take u))) (i : Int) (p.2.map casts) ((p.2.map casts).length : Int) (i : Int) (casts nx) ((casts nx).length : Int) (u : Int) (txs w h p.1) (fars p.1) (p.2.map casts) (wds p.1)) K
 | 0, u, hu => by
  have hcl : (casts nx).length = nx.length := by unfold casts; rw [List.length_map]
  rw [show nx.take u = nx from List.take_of_length_le (by omega)]
  refine Ev.step hK fun k => ?_
  rw [impl_reach_ways.l1, if_neg (by rw [hcl]; omega)]
 | m + 1, u, hu => by
  have hcl : (casts nx).length = nx.length := by unfold casts; rw [List.length_map]
  have hlen := H.len
  have hnl := H.nlen
  have hil := (List.getElem?_eq_some_iff.1 hi).1
  have hfl : (fars p.1).length = p.1.length := by unfold fars; rw [List.length_map]
  have h4 : nx.length ≤ 1000 := by
   obtain ⟨nx', g1, g2, _⟩ := H.done.next i _ (List.getElem?_eq_getElem (show i < p.1.length by omega))
   rw [hi] at g1
   cases g1
   omega
  obtain ⟨j, hj⟩ : ∃ j, nx[u]? = some j := ⟨_, List.getElem?_eq_getElem (by omega)⟩
  have hjl : j < p.1.length := H.next hi j (List.mem_of_getElem? hj)
  have hrd : rd (casts nx) (u : Int) = (j : Int) := by
   unfold rd casts
   rw [Int.toNat_natCast, List.getD_eq_getElem?_getD, List.getElem?_map, hj]
   rfl
  obtain ⟨si, hsi⟩ : ∃ s, p.1[i]? = some s := ⟨_, List.getElem?_eq_getElem (by omega)⟩
  obtain ⟨sj, hsj⟩ : ∃ s, p.1[j]? = some s := ⟨_, List.getElem?_eq_getElem hjl⟩
  have hfi := H.far hsi
  have hfj := H.far hsj
  have ih := ways_l1 hi V K hK m (u + 1) (by omega)
  rw [vRow_take _ _ _ _ hj, ← wr1 u (by omega)] at ih
  have hw1 : wrap64 ((si.far : Int) + 1) = ((si.far + 1 : Nat) : Int) := wr1 si.far (by omega)
  by_cases e : sj.far = si.far + 1
  ·refine Ev.step ih fun k => ?_
   have hb : bump p.1 i (vRow p.1 i V (nx.take u)) j = fun q => if q = j then wrap64 (vRow p.1 i V (nx.take u) j + vRow p.1 i V (nx.take u) i) else vRow p.1 i V (nx.take u) q := by
    unfold bump
    rw [if_pos (by rw [farL_at hsi, farL_at hsj]; exact e)]
   rw [impl_reach_ways.l1, if_pos (by rw [hcl]; omega), if_pos (by omega), if_pos (by rw [hcl]; omega), hrd, if_pos (by omega), if_pos (by rw [hfl]; omega), if_pos (by omega), if_pos (by rw [hfl]; omega), rd_fars hsi, rd_fars hsj, if_pos (by rw [hw1, e]), if_pos (by rw [vals_len]; omega), if_pos (by rw [vals_len]; omega), vals_rd _ hjl, vals_rd _ (show i < p.1.length by omega), Int.toNat_natCast, vals_set _ hjl, hb]
  ·have hne : ¬ ((sj.far : Int) = wrap64 ((si.far : Int) + 1)) := by
    rw [hw1]
    exact fun h2 => e (Int.ofNat_inj.1 h2)
   refine Ev.step ih fun k => ?_
   have hb : bump p.1 i (vRow p.1 i V (nx.take u)) j = vRow p.1 i V (nx.take u) := by
    unfold bump
    rw [if_neg (by rw [farL_at hsi, farL_at hsj]; exact e)]
   rw [impl_reach_ways.l1, if_pos (by rw [hcl]; omega), if_pos (by omega), if_pos (by rw [hcl]; omega), hrd, if_pos (by omega), if_pos (by rw [hfl]; omega), if_pos (by omega), if_pos (by rw [hfl]; omega), rd_fars hsi, rd_fars hsj, if_neg hne, hb]
theorem ways_l0 : ∀ (m i : Nat), i + m = p.2.length → Ev (fun k => impl_reach_ways.l0 k (vals p.1.length (vRows p.1 0 V0 (p.2.take i))) (p.2.map casts) ((p.2.map casts).length : Int) (i : Int) (txs w h p.1) (fars p.1) (p.2.map casts) (wds p.1)) (vals p.1.length (vRows p.1 0 V0 p.2))
 | 0, i, hi => by
  rw [show p.2.take i = p.2 from List.take_of_length_le (by omega)]
  refine Ev.step (Ev.const rfl) fun k => ?_
  rw [impl_reach_ways.l0, if_neg (by rw [List.length_map]; omega)]
 | m + 1, i, hi => by
  have hlen := H.len
  have hnl := H.nlen
  have ih := ways_l0 m (i + 1) (by omega)
  obtain ⟨nx, hnx⟩ : ∃ nx, p.2[i]? = some nx := ⟨_, List.getElem?_eq_getElem (by omega)⟩
  obtain ⟨hil, e⟩ := List.getElem?_eq_some_iff.1 hnx
  rw [List.take_succ_eq_append_getElem hil, e, vRows_snoc, List.length_take, Nat.min_eq_left (by omega), Nat.zero_add, ← wr1 i (by omega)] at ih
  have hl1 := ways_l1 H hnx (vRows p.1 0 V0 (p.2.take i)) _ ih nx.length 0 (by omega)
  rw [List.take_zero] at hl1
  have hrd : rd_Lii (p.2.map casts) (i : Int) = casts nx := by
   unfold rd_Lii
   rw [Int.toNat_natCast, List.getD_eq_getElem?_getD, List.getElem?_map, hnx]
   rfl
  refine Ev.step hl1 fun k => ?_
  rw [impl_reach_ways.l0, if_pos (by rw [List.length_map]; omega), if_pos (by omega), if_pos (by rw [List.length_map]; omega), hrd]
  rfl
theorem ways_ev : Ev (fun k => impl_reach_ways.f k (txs w h p.1) (fars p.1) (p.2.map casts) (wds p.1)) (vals p.1.length (vRows p.1 0 V0 p.2)) := by
 have hlen := H.len
 have hpos := H.pos
 have htl : (txs w h p.1).length = p.1.length := by unfold txs; rw [List.length_map]
 have h0 : (List.replicate p.1.length (0 : Int)).set 0 1 = vals p.1.length V0 := by
  have e : List.replicate p.1.length (0 : Int) = vals p.1.length fun _ => 0 := by
   unfold vals
   rw [List.map_const', List.length_range]
  rw [e, vals_set _ hpos]
  rfl
 refine Ev.congr (ways_l0 H p.2.length 0 (by omega)) fun k => ?_
 unfold impl_reach_ways.f
 rw [htl, if_pos (by omega), Int.toNat_natCast, if_pos (by omega), Option.bind_some, if_pos (by rw [List.length_replicate]; omega), show (0 : Int).toNat = 0 from rfl, h0]
 rfl
end
theorem implCountShortest_ev (t u : ByteArray) (ht : t.size ≤ 1048576) (hu : u.size ≤ 1048576) : Ev (fun k => impl_CountShortest.f k t u) (CountShortestR t u) := by
 refine Ev.bind (f := fun k (bt101 : Bool × Bool) => (if bt101.1 = true then ((impl_reachOf.f k t).bind fun bt103 => ((impl_reach_ways.f k bt103.1 bt103.2.1 bt103.2.2.1 bt103.2.2.2.1).bind fun t117 => ((impl_reach_to.f k bt103.1 bt103.2.1 bt103.2.2.1 bt103.2.2.2.1 u).bind fun t120 => (if 0 ≤ t120 then (if t120 < (t117.length : Int) then (some (rd t117 t120, true)) else (none)) else (none))))) else (some (0, false)))) (implIsReached_ev t u ht hu) ?_
 unfold CountShortestR IsReachedR
 rcases to_cases t u with e | ⟨w, h, cs, p, H, hut, ⟨e, h1, h2⟩ | ⟨j, s, hs, h1, h2, e⟩⟩
 ·rw [e]
  exact Ev.congr (Ev.const rfl) fun k => if_neg (by decide)
 ·rw [e]
  exact Ev.congr (Ev.const rfl) fun k => if_neg (by show ¬ decide ((0 : Int) ≤ -1) = true; decide)
 ·have hj := (List.getElem?_eq_some_iff.1 hs).1
  rw [e]
  show Ev _ (if true = true then (if (j : Int) < 0 then (0, false) else ((zAt (foundZ w h p) (j : Int).toNat).words, true)) else (0, false))
  rw [if_pos rfl, if_neg (by omega), Int.toNat_natCast, H.zget hs]
  refine Ev.congr (Ev.bind (f := fun k (bt103 : ReR) => ((impl_reach_ways.f k bt103.1 bt103.2.1 bt103.2.2.1 bt103.2.2.2.1).bind fun t117 => ((impl_reach_to.f k bt103.1 bt103.2.1 bt103.2.2.1 bt103.2.2.2.1 u).bind fun t120 => (if 0 ≤ t120 then (if t120 < (t117.length : Int) then (some (rd t117 t120, true)) else (none)) else (none))))) (reachOf_ev t ht) ?_) fun k => if_pos (decide_eq_true (show (0 : Int) ≤ (j : Int) by omega))
  rw [H.prog]
  refine Ev.bind (f := fun k t117 => ((impl_reach_to.f k (txs w h p.1) (fars p.1) (p.2.map casts) (wds p.1) u).bind fun t120 => (if 0 ≤ t120 then (if t120 < ((t117 : List Int).length : Int) then (some (rd t117 t120, true)) else (none)) else (none)))) (ways_ev H) ?_
  refine Ev.bind (f := fun _ t120 => (if 0 ≤ t120 then (if t120 < ((vals p.1.length (vRows p.1 0 V0 p.2)).length : Int) then (some (rd (vals p.1.length (vRows p.1 0 V0 p.2)) t120, true)) else (none)) else (none))) (to_ev (txs w h p.1) (fars p.1) (p.2.map casts) (wds p.1) u H.tl) (Ev.const ?_)
  rw [h2, if_pos (by omega), if_pos (by rw [vals_len]; omega), vals_rd _ hj]
  rfl
theorem lawCountShortest_ev (t : ByteArray) (u : ByteArray) : Ev (fun k => laws_FnExactCountShortest.f k t u) true := by
 by_cases ht : t.size ≤ 1048576
 case neg =>
  refine Ev.congr (Ev.const (o := some true) rfl) fun k => ?_
  unfold laws_FnExactCountShortest.f
  exact if_pos (by omega)
 by_cases hu : u.size ≤ 1048576
 case neg =>
  refine Ev.congr (Ev.const (o := some true) rfl) fun k => ?_
  unfold laws_FnExactCountShortest.f
  rw [if_neg (by omega)]
  exact if_pos (by omega)
 have hsp := specCountShortest_ev t u
 have him := implCountShortest_ev t u ht hu
 refine Ev.congr (Ev.bind (f := fun k (bt101 : Int × Bool) => ((impl_CountShortest.f k t u).bind fun bt103 => (if bt103.1 = bt101.1 then (if (bt103.2 != bt101.2) = true then (some false) else (some true)) else (some false)))) hsp (Ev.bind (f := fun _ (bt103 : Int × Bool) => (if bt103.1 = (CountShortestR t u).1 then (if (bt103.2 != (CountShortestR t u).2) = true then (some false) else (some true)) else (some false))) him (Ev.const ?_))) fun k => by unfold laws_FnExactCountShortest.f; rw [if_neg (by omega), if_neg (by omega)]
 rw [if_pos rfl, bne_self_eq_false, if_neg (by decide)]
end Go.Proofs.YtchkmhbngbgjnaaGreatDoor.Q
end
