/- Texts of this claim, joined. -/
import Derived.Test.YtchkmhbngbgjnaaGreatDoorJAreMutual01
import Derived.Test.YtchkmhbngbgjnaaGreatDoorJAreMutual05
import Derived.Test.YtchkmhbngbgjnaaGreatDoorJAreMutual07
set_option linter.unusedVariables false
set_option linter.unusedSimpArgs false
set_option linter.unusedSectionVars false
section
namespace Go.Proofs.YtchkmhbngbgjnaaGreatDoor.Q
open Go.RowKit Go.Proofs.YtchkmhbngbgjnaaGreatDoorW.PrintWords Go.Proofs.YtchkmhbngbgjnaaGreatDoorW.PrintLast Go.Proofs.YtchkmhbngbgjnaaGreatDoorW.PrintMore
attribute [local go_sem] max2_int min2_int max_two min_two max_three min_three max_four min_four
set_option linter.unusedVariables false
set_option linter.unusedSimpArgs false
def impl_IsReached.f (k : Nat) (a0 : ByteArray) (a1 : ByteArray) : Option (Bool × Bool) := (impl_reachOf.f k a0).bind fun bt101 => (if bt101.2.2.2.2 = true then ((impl_IsTray.f k a1).bind fun t115 => (if t115 = true then ((impl_reach_to.f k bt101.1 bt101.2.1 bt101.2.2.1 bt101.2.2.2.1 a1).bind fun t116 => (some (decide (t116 ≥ 0), true))) else (some (false, false)))) else (some (false, false)))
set_option maxHeartbeats 8000000 in
set_option maxRecDepth 100000 in
theorem impl_IsReached.calls (k : Nat) (a0 : ByteArray) (a1 : ByteArray) (r1 : Bool) (r2 : Bool) (w : World) (hG : GoodW w) (h : impl_IsReached.f k a0 a1 = some (r1, r2)) :
  Calls Tryz.prog 17 #[.string a0, .string a1] w fun e w' => e = .returned (.tuple #[.bool r1, .bool r2]) ∧ Below w.heap.size w w' := by
 have hu51 := Tryz.underlying51
 have HG := Aside0.mk hG
 clear hG
 have HB := Aside0.mk (Below.refl w.heap.size w)
 have H : ((impl_reachOf.f k a0).bind fun bt101 => (if bt101.2.2.2.2 = true then ((impl_IsTray.f k a1).bind fun t115 => (if t115 = true then ((impl_reach_to.f k bt101.1 bt101.2.1 bt101.2.2.1 bt101.2.2.2.1 a1).bind fun t116 => (some (decide (t116 ≥ 0), true))) else (some (false, false)))) else (some (false, false)))) = some (r1, r2) := h
 clear h
 replace H := Option.bind_eq_some_iff.mp H
 obtain ⟨⟨t101, t104, t107, t110, t113⟩, A30, H⟩ := H
 replace H : (if t113 = true then ((impl_IsTray.f k a1).bind fun t115 => (if t115 = true then ((impl_reach_to.f k t101 t104 t107 t110 a1).bind fun t116 => (some (decide (t116 ≥ 0), true))) else (some (false, false)))) else (some (false, false))) = some (r1, r2) := H
 have A3 := Aside0.mk A30
 clear A30
 by_cases c4 : t113 = true
 ·subst c4
  have H1 : ((impl_IsTray.f k a1).bind fun t115 => (if t115 = true then ((impl_reach_to.f k t101 t104 t107 t110 a1).bind fun t116 => (some (decide (t116 ≥ 0), true))) else (some (false, false)))) = some (r1, r2) := by rw [if_pos rfl] at H; exact H
  clear H
  have H := H1
  clear H1
  replace H := Option.bind_eq_some_iff.mp H
  obtain ⟨t115, A50, H⟩ := H
  replace H : (if t115 = true then ((impl_reach_to.f k t101 t104 t107 t110 a1).bind fun t116 => (some (decide (t116 ≥ 0), true))) else (some (false, false))) = some (r1, r2) := H
  have A5 := Aside0.mk A50
  clear A50
  by_cases c6 : t115 = true
  ·subst c6
   have H1 : ((impl_reach_to.f k t101 t104 t107 t110 a1).bind fun t116 => (some (decide (t116 ≥ 0), true))) = some (r1, r2) := by rw [if_pos rfl] at H; exact H
   clear H
   have H := H1
   clear H1
   replace H := Option.bind_eq_some_iff.mp H
   obtain ⟨t116, A70, H⟩ := H
   replace H : (some (decide (t116 ≥ 0), true)) = some (r1, r2) := H
   have A7 := Aside0.mk A70
   clear A70
   simp only [Option.some.injEq, Prod.mk.injEq] at H
   obtain ⟨rfl, rfl⟩ := H
   go_enter Tryz.func17, Tryz.ntmps17
   go_wp2_with (first | ((with_reducible refine gate_callee (f := 31) rfl ?_); refine gcall (some 10) Tryz.func31 #[.string a0] rfl ?_; (with_reducible refine (impl_reachOf.calls k a0 t101 t104 t107 t110 true _ ?side1 A3.out).mono ?_); (case side1 => (refine GoodW.below HG.out ?_); exact bel HB); rintro e w8 ⟨v102, v105, v108, v111, rfl, ho0, ho1, ho2, ho3, hb⟩; refine ⟨_, rfl, ?_⟩; have n0_ := Aside0.mk (Kd.R_lower ho0 (below_size (bel HB))); have n1_ := Aside0.mk (Kd.R_lower ho1 (below_size (bel HB))); have n2_ := Aside0.mk (Kd.S_lower ho2 (below_size (bel HB))); have n3_ := Aside0.mk (Kd.R_lower ho3 (below_size (bel HB))); have n4_ := Aside0.mk (below_step (bel HB) hb); clear HB; have HO103 := n0_; have HO106 := n1_; have HO109 := n2_; have HO112 := n3_; have HB := n4_; clear n0_ n1_ n2_ n3_ n4_; (try clear hb); (try clear hb2); (try clear hk); (try clear hi); (try clear ho0); (try clear ho1); (try clear ho2); (try clear ho3)) | ((with_reducible refine gate_dst (N := 6) rfl ?_); refine boxE (N := 6) (cs := #[.slice none 0 0, .slice none 0 0, .slice none 0 0, .slice none 0 0]) (t := 51) ?_; intro gb114 hg w9 hbox hb; have n0_ := Aside0.mk (Kd.R_below (rch HO103) hb); have n1_ := Aside0.mk (Kd.R_below (rch HO106) hb); have n2_ := Aside0.mk (Kd.S_below (by (with_reducible repeat (first | apply Kd.S_alloc | apply Kd.S_drewN | apply Kd.S_drew)); (first | exact HO109.out | exact R_any HO109.out)) hb); have n3_ := Aside0.mk (Kd.R_below (rch HO112) hb); have n4_ := Aside0.mk (below_step (bel HB) hb); have n5_ := Aside0.mk (hbox); have n6_ := Aside0.mk (gsz hg (bel HB)); have n7_ := Aside0.mk (gsz hg (bel HB)); clear HO103; clear HO106; clear HO109; clear HO112; clear HB; have HO103 := n0_; have HO106 := n1_; have HO109 := n2_; have HO112 := n3_; have HB := n4_; have BK114 := n5_; have GW114 := n6_; have GE114 := n7_; clear n0_ n1_ n2_ n3_ n4_ n5_ n6_ n7_; clear hb hbox hg; obtain ⟨Ao10, co10, eo10⟩ := Kd.R_slice HO103.out; subst eo10; have hcz11_0 : w9.cell? ⟨gb114, 0, none⟩ = some (.slice none 0 0) := (blk_cell BK114.out 0).trans rfl; have hcz11_1 : w9.cell? ⟨gb114, 1, none⟩ = some (.slice none 0 0) := (blk_cell BK114.out 1).trans rfl; have hcz11_2 : w9.cell? ⟨gb114, 2, none⟩ = some (.slice none 0 0) := (blk_cell BK114.out 2).trans rfl; have hcz11_3 : w9.cell? ⟨gb114, 3, none⟩ = some (.slice none 0 0) := (blk_cell BK114.out 3).trans rfl; have hfz11_0 := blk_frozen BK114.out 0; have hfz11_1 := blk_frozen BK114.out 1; have hfz11_2 := blk_frozen BK114.out 2; have hfz11_3 := blk_frozen BK114.out 3; obtain ⟨Ao12, co12, eo12⟩ := Kd.R_slice HO106.out; subst eo12; obtain ⟨Ao13, co13, eo13⟩ := Kd.S_slice HO109.out; subst eo13; obtain ⟨Ao14, co14, eo14⟩ := Kd.R_slice HO112.out; subst eo14) | (go_at_call 34; (with_reducible refine (impl_IsTray.calls k a1 true _ ?side1 A5.out).mono ?_); (case side1 => (refine GoodW.below HG.out ?_); exact bel HB); rintro e w15 ⟨rfl, hb⟩; have n0_ := Aside0.mk (Kd.R_below (by (with_reducible repeat (first | apply Kd.R_alloc | apply Kd.R_drewN | apply Kd.R_drew)); exact (Kd.R_mono (Kd.R_far (p := ⟨gb114, 3, none⟩) (Kd.R_far (p := ⟨gb114, 2, none⟩) (Kd.R_far (p := ⟨gb114, 1, none⟩) (Kd.R_far (p := ⟨gb114, 0, none⟩) (Kd.R_types HO103.out BK114.out (by decide)) (fun _ hk => hk.2) (.slice Ao10 t101.length co10)) (fun _ hk => hk.2) (.slice Ao12 t104.length co12)) (fun _ hk => hk.2) (.slice Ao13 t107.length co13)) (fun _ hk => hk.2) (.slice Ao14 t110.length co14)) (fun _ h_ => h_.1))) hb); have n1_ := Aside0.mk (Kd.R_below (by (with_reducible repeat (first | apply Kd.R_alloc | apply Kd.R_drewN | apply Kd.R_drew)); exact (Kd.R_mono (Kd.R_far (p := ⟨gb114, 3, none⟩) (Kd.R_far (p := ⟨gb114, 2, none⟩) (Kd.R_far (p := ⟨gb114, 1, none⟩) (Kd.R_far (p := ⟨gb114, 0, none⟩) (Kd.R_types HO106.out BK114.out (by decide)) (fun _ hk => hk.2) (.slice Ao10 t101.length co10)) (fun _ hk => hk.2) (.slice Ao12 t104.length co12)) (fun _ hk => hk.2) (.slice Ao13 t107.length co13)) (fun _ hk => hk.2) (.slice Ao14 t110.length co14)) (fun _ h_ => h_.1))) hb); have n2_ := Aside0.mk (Kd.S_below (by (with_reducible repeat (first | apply Kd.S_alloc | apply Kd.S_drewN | apply Kd.S_drew)); exact (Kd.S_mono (Kd.S_far (p := ⟨gb114, 3, none⟩) (Kd.S_far (p := ⟨gb114, 2, none⟩) (Kd.S_far (p := ⟨gb114, 1, none⟩) (Kd.S_far (p := ⟨gb114, 0, none⟩) (Kd.S_types HO109.out BK114.out (by decide)) (fun _ hk => hk.2) (.slice Ao10 t101.length co10)) (fun _ hk => hk.2) (.slice Ao12 t104.length co12)) (fun _ hk => hk.2) (.slice Ao13 t107.length co13)) (fun _ hk => hk.2) (.slice Ao14 t110.length co14)) (fun _ h_ => h_.1))) hb); have n3_ := Aside0.mk (Kd.R_below (by (with_reducible repeat (first | apply Kd.R_alloc | apply Kd.R_drewN | apply Kd.R_drew)); exact (Kd.R_mono (Kd.R_far (p := ⟨gb114, 3, none⟩) (Kd.R_far (p := ⟨gb114, 2, none⟩) (Kd.R_far (p := ⟨gb114, 1, none⟩) (Kd.R_far (p := ⟨gb114, 0, none⟩) (Kd.R_types HO112.out BK114.out (by decide)) (fun _ hk => hk.2) (.slice Ao10 t101.length co10)) (fun _ hk => hk.2) (.slice Ao12 t104.length co12)) (fun _ hk => hk.2) (.slice Ao13 t107.length co13)) (fun _ hk => hk.2) (.slice Ao14 t110.length co14)) (fun _ h_ => h_.1))) hb); have n4_ := Aside0.mk (blk_below (g := gb114) (o := .cells #[.slice Ao10 t101.length co10, .slice Ao12 t104.length co12, .slice Ao13 t107.length co13, .slice Ao14 t110.length co14] 51 (0, 0)) (by (with_reducible repeat (first | refine blk_drewN ?_ _ | refine blk_drew ?_ | refine blk_alloc ?_ _)); refine blk_put (cs := #[.slice Ao10 t101.length co10, .slice Ao12 t104.length co12, .slice Ao13 t107.length co13, .slice none 0 0]) ?_ 3 _ rfl; (with_reducible repeat (first | refine blk_drewN ?_ _ | refine blk_drew ?_ | refine blk_alloc ?_ _)); refine blk_put (cs := #[.slice Ao10 t101.length co10, .slice Ao12 t104.length co12, .slice none 0 0, .slice none 0 0]) ?_ 2 _ rfl; (with_reducible repeat (first | refine blk_drewN ?_ _ | refine blk_drew ?_ | refine blk_alloc ?_ _)); refine blk_put (cs := #[.slice Ao10 t101.length co10, .slice none 0 0, .slice none 0 0, .slice none 0 0]) ?_ 1 _ rfl; (with_reducible repeat (first | refine blk_drewN ?_ _ | refine blk_drew ?_ | refine blk_alloc ?_ _)); refine blk_put (cs := #[.slice none 0 0, .slice none 0 0, .slice none 0 0, .slice none 0 0]) ?_ 0 _ rfl; exact blc) hb); have n5_ := Aside0.mk (below_step (bel HB) hb); clear HO103; clear HO106; clear HO109; clear HO112; clear BK114; clear HB; have HO103 := n0_; have HO106 := n1_; have HO109 := n2_; have HO112 := n3_; have BK114 := n4_; have HB := n5_; clear n0_ n1_ n2_ n3_ n4_ n5_; (try clear hb); (try clear hb2); (try clear hk); (try clear hi); have hcz16_0 : w15.cell? ⟨gb114, 0, none⟩ = some (.slice Ao10 t101.length co10) := (blk_cell BK114.out 0).trans rfl; have hcz16_1 : w15.cell? ⟨gb114, 1, none⟩ = some (.slice Ao12 t104.length co12) := (blk_cell BK114.out 1).trans rfl; have hcz16_2 : w15.cell? ⟨gb114, 2, none⟩ = some (.slice Ao13 t107.length co13) := (blk_cell BK114.out 2).trans rfl; have hcz16_3 : w15.cell? ⟨gb114, 3, none⟩ = some (.slice Ao14 t110.length co14) := (blk_cell BK114.out 3).trans rfl; have hfz16_0 := blk_frozen BK114.out 0; have hfz16_1 := blk_frozen BK114.out 1; have hfz16_2 := blk_frozen BK114.out 2; have hfz16_3 := blk_frozen BK114.out 3) | ((with_reducible refine gate_callee (f := 35) rfl ?_); refine gcall (some 22) Tryz.func35 #[.agg #[.slice Ao10 t101.length co10, .slice Ao12 t104.length co12, .slice Ao13 t107.length co13, .slice Ao14 t110.length co14], .string a1] rfl ?_; (with_reducible refine (impl_reach_to.calls k _ _ t101 _ _ t104 _ _ t107 _ _ t110 a1 t116 _ ?side1 ?side2 ?side3 ?side4 ?side5 ?side6 ?side7 ?side8 A7.out).mono ?_); (case side1 => repeat (first | exact (Kd.R_reads' HO103.out).2.2 | (with_reducible refine Kd.C_alloc ?_ _) | (with_reducible refine Kd.C_drewN ?_ _) | (with_reducible refine Kd.C_drew ?_))); (case side2 => exact (Kd.R_reads' HO103.out).2.1); (case side3 => repeat (first | exact (Kd.R_reads' HO106.out).2.2 | (with_reducible refine Kd.C_alloc ?_ _) | (with_reducible refine Kd.C_drewN ?_ _) | (with_reducible refine Kd.C_drew ?_))); (case side4 => exact (Kd.R_reads' HO106.out).2.1); (case side5 => repeat (first | exact (Kd.S_reads' HO109.out).2.2 | (with_reducible refine Kd.C_alloc ?_ _) | (with_reducible refine Kd.C_drewN ?_ _) | (with_reducible refine Kd.C_drew ?_))); (case side6 => exact (Kd.S_reads' HO109.out).2.1); (case side7 => repeat (first | exact (Kd.R_reads' HO112.out).2.2 | (with_reducible refine Kd.C_alloc ?_ _) | (with_reducible refine Kd.C_drewN ?_ _) | (with_reducible refine Kd.C_drew ?_))); (case side8 => exact (Kd.R_reads' HO112.out).2.1); rintro e w17 ⟨rfl, hb⟩; refine ⟨_, rfl, ?_⟩; have n0_ := Aside0.mk (Kd.R_below (rch HO103) hb); have n1_ := Aside0.mk (Kd.R_below (rch HO106) hb); have n2_ := Aside0.mk (Kd.S_below (by (with_reducible repeat (first | apply Kd.S_alloc | apply Kd.S_drewN | apply Kd.S_drew)); (first | exact HO109.out | exact R_any HO109.out)) hb); have n3_ := Aside0.mk (Kd.R_below (rch HO112) hb); have n4_ := Aside0.mk (blk_below (g := gb114) (o := .cells #[.slice Ao10 t101.length co10, .slice Ao12 t104.length co12, .slice Ao13 t107.length co13, .slice Ao14 t110.length co14] 51 (0, 0)) blc hb); have n5_ := Aside0.mk (below_step (bel HB) hb); clear HO103; clear HO106; clear HO109; clear HO112; clear BK114; clear HB; have HO103 := n0_; have HO106 := n1_; have HO109 := n2_; have HO112 := n3_; have BK114 := n4_; have HB := n5_; clear n0_ n1_ n2_ n3_ n4_ n5_; (try clear hb); (try clear hb2); (try clear hk); (try clear hi)))
   go_ret2
   exact ⟨by first | rfl | (simp [errW_none, errW_some] <;> rfl) | (simp [*, errW_none, errW_some] <;> rfl), bel HB⟩
  ·replace c6 := Bool.eq_false_iff.mpr c6
   subst c6
   have H1 : (some (false, false)) = some (r1, r2) := by rw [if_neg (show ¬ (false = true) by decide)] at H; exact H
   clear H
   have H := H1
   clear H1
   simp only [Option.some.injEq, Prod.mk.injEq] at H
   obtain ⟨rfl, rfl⟩ := H
   go_enter Tryz.func17, Tryz.ntmps17
   go_wp2_with (first | ((with_reducible refine gate_callee (f := 31) rfl ?_); refine gcall (some 10) Tryz.func31 #[.string a0] rfl ?_; (with_reducible refine (impl_reachOf.calls k a0 t101 t104 t107 t110 true _ ?side1 A3.out).mono ?_); (case side1 => (refine GoodW.below HG.out ?_); exact bel HB); rintro e w18 ⟨v102, v105, v108, v111, rfl, ho0, ho1, ho2, ho3, hb⟩; refine ⟨_, rfl, ?_⟩; have n0_ := Aside0.mk (Kd.R_lower ho0 (below_size (bel HB))); have n1_ := Aside0.mk (Kd.R_lower ho1 (below_size (bel HB))); have n2_ := Aside0.mk (Kd.S_lower ho2 (below_size (bel HB))); have n3_ := Aside0.mk (Kd.R_lower ho3 (below_size (bel HB))); have n4_ := Aside0.mk (below_step (bel HB) hb); clear HB; have HO103 := n0_; have HO106 := n1_; have HO109 := n2_; have HO112 := n3_; have HB := n4_; clear n0_ n1_ n2_ n3_ n4_; (try clear hb); (try clear hb2); (try clear hk); (try clear hi); (try clear ho0); (try clear ho1); (try clear ho2); (try clear ho3)) | ((with_reducible refine gate_dst (N := 6) rfl ?_); refine boxE (N := 6) (cs := #[.slice none 0 0, .slice none 0 0, .slice none 0 0, .slice none 0 0]) (t := 51) ?_; intro gb114 hg w19 hbox hb; have n0_ := Aside0.mk (Kd.R_below (rch HO103) hb); have n1_ := Aside0.mk (Kd.R_below (rch HO106) hb); have n2_ := Aside0.mk (Kd.S_below (by (with_reducible repeat (first | apply Kd.S_alloc | apply Kd.S_drewN | apply Kd.S_drew)); (first | exact HO109.out | exact R_any HO109.out)) hb); have n3_ := Aside0.mk (Kd.R_below (rch HO112) hb); have n4_ := Aside0.mk (below_step (bel HB) hb); have n5_ := Aside0.mk (hbox); have n6_ := Aside0.mk (gsz hg (bel HB)); have n7_ := Aside0.mk (gsz hg (bel HB)); clear HO103; clear HO106; clear HO109; clear HO112; clear HB; have HO103 := n0_; have HO106 := n1_; have HO109 := n2_; have HO112 := n3_; have HB := n4_; have BK114 := n5_; have GW114 := n6_; have GE114 := n7_; clear n0_ n1_ n2_ n3_ n4_ n5_ n6_ n7_; clear hb hbox hg; obtain ⟨Ao20, co20, eo20⟩ := Kd.R_slice HO103.out; subst eo20; have hcz21_0 : w19.cell? ⟨gb114, 0, none⟩ = some (.slice none 0 0) := (blk_cell BK114.out 0).trans rfl; have hcz21_1 : w19.cell? ⟨gb114, 1, none⟩ = some (.slice none 0 0) := (blk_cell BK114.out 1).trans rfl; have hcz21_2 : w19.cell? ⟨gb114, 2, none⟩ = some (.slice none 0 0) := (blk_cell BK114.out 2).trans rfl; have hcz21_3 : w19.cell? ⟨gb114, 3, none⟩ = some (.slice none 0 0) := (blk_cell BK114.out 3).trans rfl; have hfz21_0 := blk_frozen BK114.out 0; have hfz21_1 := blk_frozen BK114.out 1; have hfz21_2 := blk_frozen BK114.out 2; have hfz21_3 := blk_frozen BK114.out 3; obtain ⟨Ao22, co22, eo22⟩ := Kd.R_slice HO106.out; subst eo22; obtain ⟨Ao23, co23, eo23⟩ := Kd.S_slice HO109.out; subst eo23; obtain ⟨Ao24, co24, eo24⟩ := Kd.R_slice HO112.out; subst eo24) | (go_at_call 34; (with_reducible refine (impl_IsTray.calls k a1 false _ ?side1 A5.out).mono ?_); (case side1 => (refine GoodW.below HG.out ?_); exact bel HB); rintro e w25 ⟨rfl, hb⟩; have n0_ := Aside0.mk (Kd.R_below (by (with_reducible repeat (first | apply Kd.R_alloc | apply Kd.R_drewN | apply Kd.R_drew)); exact (Kd.R_mono (Kd.R_far (p := ⟨gb114, 3, none⟩) (Kd.R_far (p := ⟨gb114, 2, none⟩) (Kd.R_far (p := ⟨gb114, 1, none⟩) (Kd.R_far (p := ⟨gb114, 0, none⟩) (Kd.R_types HO103.out BK114.out (by decide)) (fun _ hk => hk.2) (.slice Ao20 t101.length co20)) (fun _ hk => hk.2) (.slice Ao22 t104.length co22)) (fun _ hk => hk.2) (.slice Ao23 t107.length co23)) (fun _ hk => hk.2) (.slice Ao24 t110.length co24)) (fun _ h_ => h_.1))) hb); have n1_ := Aside0.mk (Kd.R_below (by (with_reducible repeat (first | apply Kd.R_alloc | apply Kd.R_drewN | apply Kd.R_drew)); exact (Kd.R_mono (Kd.R_far (p := ⟨gb114, 3, none⟩) (Kd.R_far (p := ⟨gb114, 2, none⟩) (Kd.R_far (p := ⟨gb114, 1, none⟩) (Kd.R_far (p := ⟨gb114, 0, none⟩) (Kd.R_types HO106.out BK114.out (by decide)) (fun _ hk => hk.2) (.slice Ao20 t101.length co20)) (fun _ hk => hk.2) (.slice Ao22 t104.length co22)) (fun _ hk => hk.2) (.slice Ao23 t107.length co23)) (fun _ hk => hk.2) (.slice Ao24 t110.length co24)) (fun _ h_ => h_.1))) hb); have n2_ := Aside0.mk (Kd.S_below (by (with_reducible repeat (first | apply Kd.S_alloc | apply Kd.S_drewN | apply Kd.S_drew)); exact (Kd.S_mono (Kd.S_far (p := ⟨gb114, 3, none⟩) (Kd.S_far (p := ⟨gb114, 2, none⟩) (Kd.S_far (p := ⟨gb114, 1, none⟩) (Kd.S_far (p := ⟨gb114, 0, none⟩) (Kd.S_types HO109.out BK114.out (by decide)) (fun _ hk => hk.2) (.slice Ao20 t101.length co20)) (fun _ hk => hk.2) (.slice Ao22 t104.length co22)) (fun _ hk => hk.2) (.slice Ao23 t107.length co23)) (fun _ hk => hk.2) (.slice Ao24 t110.length co24)) (fun _ h_ => h_.1))) hb); have n3_ := Aside0.mk (Kd.R_below (by (with_reducible repeat (first | apply Kd.R_alloc | apply Kd.R_drewN | apply Kd.R_drew)); exact (Kd.R_mono (Kd.R_far (p := ⟨gb114, 3, none⟩) (Kd.R_far (p := ⟨gb114, 2, none⟩) (Kd.R_far (p := ⟨gb114, 1, none⟩) (Kd.R_far (p := ⟨gb114, 0, none⟩) (Kd.R_types HO112.out BK114.out (by decide)) (fun _ hk => hk.2) (.slice Ao20 t101.length co20)) (fun _ hk => hk.2) (.slice Ao22 t104.length co22)) (fun _ hk => hk.2) (.slice Ao23 t107.length co23)) (fun _ hk => hk.2) (.slice Ao24 t110.length co24)) (fun _ h_ => h_.1))) hb); have n4_ := Aside0.mk (blk_below (g := gb114) (o := .cells #[.slice Ao20 t101.length co20, .slice Ao22 t104.length co22, .slice Ao23 t107.length co23, .slice Ao24 t110.length co24] 51 (0, 0)) (by (with_reducible repeat (first | refine blk_drewN ?_ _ | refine blk_drew ?_ | refine blk_alloc ?_ _)); refine blk_put (cs := #[.slice Ao20 t101.length co20, .slice Ao22 t104.length co22, .slice Ao23 t107.length co23, .slice none 0 0]) ?_ 3 _ rfl; (with_reducible repeat (first | refine blk_drewN ?_ _ | refine blk_drew ?_ | refine blk_alloc ?_ _)); refine blk_put (cs := #[.slice Ao20 t101.length co20, .slice Ao22 t104.length co22, .slice none 0 0, .slice none 0 0]) ?_ 2 _ rfl; (with_reducible repeat (first | refine blk_drewN ?_ _ | refine blk_drew ?_ | refine blk_alloc ?_ _)); refine blk_put (cs := #[.slice Ao20 t101.length co20, .slice none 0 0, .slice none 0 0, .slice none 0 0]) ?_ 1 _ rfl; (with_reducible repeat (first | refine blk_drewN ?_ _ | refine blk_drew ?_ | refine blk_alloc ?_ _)); refine blk_put (cs := #[.slice none 0 0, .slice none 0 0, .slice none 0 0, .slice none 0 0]) ?_ 0 _ rfl; exact blc) hb); have n5_ := Aside0.mk (below_step (bel HB) hb); clear HO103; clear HO106; clear HO109; clear HO112; clear BK114; clear HB; have HO103 := n0_; have HO106 := n1_; have HO109 := n2_; have HO112 := n3_; have BK114 := n4_; have HB := n5_; clear n0_ n1_ n2_ n3_ n4_ n5_; (try clear hb); (try clear hb2); (try clear hk); (try clear hi)))
   go_ret2
   exact ⟨by first | rfl | (simp [errW_none, errW_some] <;> rfl) | (simp [*, errW_none, errW_some] <;> rfl), bel HB⟩
 ·replace c4 := Bool.eq_false_iff.mpr c4
  subst c4
  have H1 : (some (false, false)) = some (r1, r2) := by rw [if_neg (show ¬ (false = true) by decide)] at H; exact H
  clear H
  have H := H1
  clear H1
  simp only [Option.some.injEq, Prod.mk.injEq] at H
  obtain ⟨rfl, rfl⟩ := H
  go_enter Tryz.func17, Tryz.ntmps17
  go_wp2_with (first | ((with_reducible refine gate_callee (f := 31) rfl ?_); refine gcall (some 10) Tryz.func31 #[.string a0] rfl ?_; (with_reducible refine (impl_reachOf.calls k a0 t101 t104 t107 t110 false _ ?side1 A3.out).mono ?_); (case side1 => (refine GoodW.below HG.out ?_); exact bel HB); rintro e w26 ⟨v102, v105, v108, v111, rfl, ho0, ho1, ho2, ho3, hb⟩; refine ⟨_, rfl, ?_⟩; have n0_ := Aside0.mk (Kd.R_lower ho0 (below_size (bel HB))); have n1_ := Aside0.mk (Kd.R_lower ho1 (below_size (bel HB))); have n2_ := Aside0.mk (Kd.S_lower ho2 (below_size (bel HB))); have n3_ := Aside0.mk (Kd.R_lower ho3 (below_size (bel HB))); have n4_ := Aside0.mk (below_step (bel HB) hb); clear HB; have HO103 := n0_; have HO106 := n1_; have HO109 := n2_; have HO112 := n3_; have HB := n4_; clear n0_ n1_ n2_ n3_ n4_; (try clear hb); (try clear hb2); (try clear hk); (try clear hi); (try clear ho0); (try clear ho1); (try clear ho2); (try clear ho3)) | ((with_reducible refine gate_dst (N := 6) rfl ?_); refine boxE (N := 6) (cs := #[.slice none 0 0, .slice none 0 0, .slice none 0 0, .slice none 0 0]) (t := 51) ?_; intro gb114 hg w27 hbox hb; have n0_ := Aside0.mk (Kd.R_below (rch HO103) hb); have n1_ := Aside0.mk (Kd.R_below (rch HO106) hb); have n2_ := Aside0.mk (Kd.S_below (by (with_reducible repeat (first | apply Kd.S_alloc | apply Kd.S_drewN | apply Kd.S_drew)); (first | exact HO109.out | exact R_any HO109.out)) hb); have n3_ := Aside0.mk (Kd.R_below (rch HO112) hb); have n4_ := Aside0.mk (below_step (bel HB) hb); have n5_ := Aside0.mk (hbox); have n6_ := Aside0.mk (gsz hg (bel HB)); have n7_ := Aside0.mk (gsz hg (bel HB)); clear HO103; clear HO106; clear HO109; clear HO112; clear HB; have HO103 := n0_; have HO106 := n1_; have HO109 := n2_; have HO112 := n3_; have HB := n4_; have BK114 := n5_; have GW114 := n6_; have GE114 := n7_; clear n0_ n1_ n2_ n3_ n4_ n5_ n6_ n7_; clear hb hbox hg; obtain ⟨Ao28, co28, eo28⟩ := Kd.R_slice HO103.out; subst eo28; have hcz29_0 : w27.cell? ⟨gb114, 0, none⟩ = some (.slice none 0 0) := (blk_cell BK114.out 0).trans rfl; have hcz29_1 : w27.cell? ⟨gb114, 1, none⟩ = some (.slice none 0 0) := (blk_cell BK114.out 1).trans rfl; have hcz29_2 : w27.cell? ⟨gb114, 2, none⟩ = some (.slice none 0 0) := (blk_cell BK114.out 2).trans rfl; have hcz29_3 : w27.cell? ⟨gb114, 3, none⟩ = some (.slice none 0 0) := (blk_cell BK114.out 3).trans rfl; have hfz29_0 := blk_frozen BK114.out 0; have hfz29_1 := blk_frozen BK114.out 1; have hfz29_2 := blk_frozen BK114.out 2; have hfz29_3 := blk_frozen BK114.out 3; obtain ⟨Ao30, co30, eo30⟩ := Kd.R_slice HO106.out; subst eo30; obtain ⟨Ao31, co31, eo31⟩ := Kd.S_slice HO109.out; subst eo31; obtain ⟨Ao32, co32, eo32⟩ := Kd.R_slice HO112.out; subst eo32))
  go_ret2
  exact ⟨by first | rfl | (simp [errW_none, errW_some] <;> rfl) | (simp [*, errW_none, errW_some] <;> rfl), bel HB⟩
end Go.Proofs.YtchkmhbngbgjnaaGreatDoor.Q
end
section
namespace Go.Proofs.YtchkmhbngbgjnaaGreatDoor.Q
set_option linter.unusedSectionVars false
open Go.RowKit Go.Proofs.YtchkmhbngbgjnaaGreatDoorW.PrintWords Go.Proofs.YtchkmhbngbgjnaaGreatDoorW.PrintLast Go.Proofs.YtchkmhbngbgjnaaGreatDoorW.PrintMore
open Classical
def IsReachedR (t u : ByteArray) : Bool × Bool := (decide (0 ≤ (reToR t u).2.1), (reToR t u).2.2)
theorem implIsReached_ev (t u : ByteArray) (ht : t.size ≤ 1048576) (hu : u.size ≤ 1048576) : Ev (fun k => impl_IsReached.f k t u) (IsReachedR t u) := by
 refine Ev.bind (f := fun k (bt101 : ReR) => (if bt101.2.2.2.2 = true then ((impl_IsTray.f k u).bind fun t115 => (if t115 = true then ((impl_reach_to.f k bt101.1 bt101.2.1 bt101.2.2.1 bt101.2.2.2.1 u).bind fun t116 => (some (decide (t116 ≥ 0), true))) else (some (false, false)))) else (some (false, false)))) (reachOf_ev t ht) ?_
 rcases found_cases t with ⟨h1, h2⟩ | ⟨w, h, cs, p, H⟩
 ·have e : IsReachedR t u = (false, false) := by
   unfold IsReachedR reToR
   rw [h1]
   rfl
  rw [e, h2]
  exact Ev.congr (Ev.const rfl) fun k => if_neg Bool.false_ne_true
 ·rw [H.prog]
  refine Ev.congr (Ev.bind (f := fun k t115 => (if t115 = true then ((impl_reach_to.f k (txs w h p.1) (fars p.1) (p.2.map casts) (wds p.1) u).bind fun t116 => (some (decide (t116 ≥ 0), true))) else (some (false, false)))) (isTray_ev u hu) ?_) fun k => if_pos rfl
  have hr : ∀ b, (trayOf u).isSome = b → IsReachedR t u = if b = true then (decide (0 ≤ idxT (txs w h p.1) u 0), true) else (false, false) := fun b hb => by
   unfold IsReachedR reToR
   rw [H.all]
   cases b with
   | false => rw [if_pos rfl, if_neg (by rw [hb]; decide)]; rfl
   | true => rw [if_pos rfl, if_pos hb, H.place]; rfl
  cases hb : (trayOf u).isSome with
  | false =>
   rw [hr false hb]
   exact Ev.congr (Ev.const rfl) fun k => if_neg Bool.false_ne_true
  | true =>
   rw [hr true hb]
   exact Ev.congr (Ev.bind (f := fun _ t116 => some (decide (t116 ≥ 0), true)) (to_ev (txs w h p.1) (fars p.1) (p.2.map casts) (wds p.1) u H.tl) (Ev.const rfl)) fun k => if_pos rfl
end Go.Proofs.YtchkmhbngbgjnaaGreatDoor.Q
end
section
namespace Go.Proofs.YtchkmhbngbgjnaaGreatDoor.Q
set_option linter.unusedSectionVars false
set_option linter.unusedSimpArgs false
open Go.RowKit Go.Proofs.YtchkmhbngbgjnaaGreatDoorW.PrintWords Go.Proofs.YtchkmhbngbgjnaaGreatDoorW.PrintLast Go.Proofs.YtchkmhbngbgjnaaGreatDoorW.PrintMore
def zRow : List Int → List Bool → List Int → Option (List Bool × List Int)
 | [], s, q => some (s, q)
 | a :: l, s, q => if (0 ≤ a ∧ a < (s.length : Int)) ∧ q.length ≤ 1000000 then (if rdOf false s a = true then zRow l s q else zRow l (s.set a.toNat true) (q ++ [a])) else none
def zFrom : Nat → List Zs → Nat → List Bool → List Int → Option (List Bool)
 | 0, _, _, _, _ => none
 | m + 1, L, k, s, q => if k < q.length then (if (0 ≤ rd q (k : Int) ∧ rd q (k : Int) < (L.length : Int)) ∧ k < 1000000 ∧ (zAt L (rd q (k : Int)).toNat).next.length ≤ 1000 then (zRow (zAt L (rd q (k : Int)).toNat).next s q).bind fun p => zFrom m L (k + 1) p.1 p.2 else none) else some s
def spec_reFrom.f (m : Nat) (L : List Zs) (a : Int) : Option (List Bool) := if (0 ≤ a ∧ a < (L.length : Int)) ∧ L.length ≤ 1000 then zFrom m L 0 ((List.replicate L.length false).set a.toNat true) [a] else none
set_option maxHeartbeats 16000000 in
set_option maxRecDepth 100000 in
theorem spec_reFrom.calls (k : Nat) (A : Option Addr) (c : Nat) (L : List Zs) (a1 : Int) (r : List Bool) (w : World) (hL : StC w A L) (hc : L.length ≤ c) (h : spec_reFrom.f k L a1 = some r) :
  Calls Tryz.prog 39 #[.slice A L.length c, .int .i64 a1] w fun e w' => ∃ v : Value, e = .returned v ∧ Kd.R Kd.bool 4 w' w.heap.size (fun _ => True) v r ∧ Below w.heap.size w w' := by
 unfold spec_reFrom.f at h
 split at h
 case isFalse => cases h
 rename_i hcond
 have HL := Aside0.mk hL
 have HC := Aside0.mk (show L.length ≤ c ∧ L.length ≤ 1000 from ⟨hc, hcond.2⟩)
 have H := Aside0.mk h
 obtain ⟨a, rfl⟩ := Int.eq_ofNat_of_zero_le hcond.1.1
 have p1 : 0 ≤ (a : Int) := hcond.1.1
 have p2 : (a : Int) < (L.length : Int) := hcond.1.2
 have HP := Aside0.mk p2
 clear hL hc h hcond
 go_enter Tryz.func39, Tryz.ntmps39
 replace p1 := eq_true p1
 replace p2 := eq_true p2
 go_wp2_with (first
  | ((with_reducible refine gate_dst (N := 12) rfl ?_); refine Kd.R_make Kd.bool w.heap.size 4 (w0 := w) rfl (N := 12) rfl 61 _ _ rfl (L.length : Int) ?hx ?hy Tryz.underlying61 (.bool false) 1 info4 rfl (by decide) (by omega) false (ok := fun _ => True) (okp := fun _ => True) rfl (fun _ hk => hk) trivial (by omega) ?hl (Below.refl _ _) (Nat.le_refl _) ?_; (case hx => rfl); (case hy => rfl); (case hl => rw [Int.toNat_natCast]; have := HC.out; omega); intro v2 w2 ho2 hb2 _ _; rw [Int.toNat_natCast] at ho2; (have HB2 := Aside0.mk hb2); (obtain ⟨inner, hown⟩ := Kd.R_own ho2); (obtain ⟨gb, cb, eb, hgb, _⟩ := hown.form (by rw [List.length_replicate]; have := HP.out; omega)); (rw [List.length_replicate] at eb); subst eb; (obtain ⟨x5, f5⟩ := Kd.R_celln false ho2 (a : Int) (of_eq_true p1) (of_eq_true p2)); (rw [Int.toNat_natCast] at x5 f5); (have HO3 := Aside0.mk (Kd.R_putn ho2 (a : Int) true)); (have HB3 := Aside0.mk (below_set (g := gb) (j := (a : Int).toNat) (v := .bool true) hb2 hgb)); clear hown ho2)
  | ((with_reducible refine gate_dst (N := 17) rfl ?_); refine R_litG (Kd.int .i64) w.heap.size 3 ?hg (N := 17) ?hd (xs := ([(a : Int)] : List Int)) (inner := [.int .i64 (a : Int)]) (ok := fun _ => True) (okp := fun _ => True) ?hr ?hp (fun _ hk => hk) trivial HB3.out HB3.out.size (by simp) ?_; (case hd => rfl); (case hg => first | rfl | decide | (simp [Region.wanted, yielded]; done) | (go_simp; done)); (case hr => first | (go_simp; done) | (go_simp; rfl)); (case hp => exact (Reps.one (show Kd.M (Kd.int .i64) _ _ _ (a : Int) [.int .i64 (a : Int)] from rfl) (Reps.none _ _))); intro v6 w6 ho6 hb6 hg6 _))
 have HQ6 := Aside0.mk ho6
 have HB6 := Aside0.mk hb6
 have HO6 := Aside0.mk (show Kd.R Kd.bool 4 w6 w.heap.size (fun _ => True) (.slice (some ⟨gb, 0, none⟩) L.length cb) ((List.replicate L.length false).set (a : Int).toNat true) from Kd.R_below HO3.out (below_none hg6))
 have HS6 := Aside0.mk (show ((List.replicate L.length false).set (a : Int).toNat true).length = L.length by rw [List.length_set, List.length_replicate])
 clear ho6 hb6 hg6 x5 f5 p1 p2
 go_loopg [6, 7] k (fun gg v6 v7 wr => ∃ (kk : Nat) (vq : Value) (s : List Bool) (q : List Int), v6 = vq ∧ v7 = .int .i64 kk ∧ Aside0 (zFrom gg L kk s q = some r ∧ s.length = L.length) ∧ Aside0 (Kd.R Kd.bool 4 wr w.heap.size (fun _ => True) (.slice (some ⟨gb, 0, none⟩) L.length cb) s) ∧ Aside0 (Kd.R (Kd.int .i64) 3 wr w.heap.size (fun _ => True) vq q) ∧ Aside0 (Below w.heap.size w wr))
 case atStart => exact ⟨0, v6, _, _, rfl, by first | rfl | (simp; done), ⟨H.out, HS6.out⟩, HO6, HQ6, HB6⟩
 case round =>
  clear HO6 HQ6 HB6 HS6 H HO3 HB3
  obtain ⟨kk, vq, s, q, rfl, rfl, HA, HO, HQ, HB⟩ := hrel
  cases gk with
  | zero => exact absurd HA.out.1 (by simp [zFrom])
  | succ k1 =>
   have hsp := HA.out.1
   have HSL := Aside0.mk HA.out.2
   rw [zFrom] at hsp
   obtain ⟨Aq, cq, eq, hcq, hCq⟩ := Kd.R_reads HQ.out
   have HQ2 := Aside0.mk (show Kd.R (Kd.int .i64) 3 wr w.heap.size (fun _ => True) (.slice Aq q.length cq) q by rw [← eq]; exact HQ.out)
   subst eq
   by_cases hkq : kk < q.length
   ·have c2 : decide ((kk : Int) < (q.length : Int)) = true := decide_eq_true (by omega)
    have p1 : (0 ≤ (kk : Int)) = True := eq_true (by omega)
    have p2 : ((kk : Int) < (q.length : Int)) = True := eq_true (by omega)
    rw [if_pos hkq] at hsp
    split at hsp
    case isFalse => cases hsp
    rename_i hj
    obtain ⟨adq, eq2, hx2⟩ := Kd.at_int hCq (kk : Int) (by omega) (by omega)
    cases eq2
    rw [Int.toNat_natCast] at hx2
    generalize rd q (kk : Int) = jj at hsp hx2 hj
    obtain ⟨⟨hj0, hjl⟩, hk6, hnl⟩ := hj
    obtain ⟨j, rfl⟩ := Int.eq_ofNat_of_zero_le hj0
    rw [Int.toNat_natCast] at hsp hnl
    have p3 : (0 ≤ (j : Int)) = True := eq_true hj0
    have p4 : ((j : Int) < (L.length : Int)) = True := eq_true hjl
    obtain ⟨ad, g, Ag, An, cg, cn, e1, x1, x2, _, hn1, hn2⟩ := HL.out.get (i := j) (by omega)
    cases e1
    have y1 := pw_cell_below HB.out x1
    have y2 : wr.cell? ⟨g, 8, none⟩ = some (.slice An (zAt L j).next.length cn) := pw_cell_below HB.out ((blk_cell x2 8).trans rfl)
    generalize (zAt L j).next = nx at hsp y2 hnl hn1 hn2
    have HSP := Aside0.mk hsp
    have HNX := Aside0.mk (show (nx.length ≤ 1000 ∧ kk < 1000000) ∧ nx.length ≤ cn ∧ Kd.C (Kd.int .i64) w An nx.length nx from ⟨⟨hnl, hk6⟩, hn1, hn2⟩)
    clear hsp HA hkq hj0 hjl hk6 hnl x1 x2 hn1 hn2 hcq hCq HQ
    go_wp2_with fail
    go_loopg [6, 35] nx.length (fun gg v6 v35 wr => ∃ (u : Nat) (vq : Value) (s : List Bool) (q : List Int), v6 = vq ∧ v35 = .int .i64 u ∧ Aside0 (((u ≤ nx.length ∧ nx.length - u ≤ gg) ∧ s.length = L.length) ∧ ((zRow (nx.drop u) s q).bind fun p => zFrom k1 L (kk + 1) p.1 p.2) = some r) ∧ Aside0 (Kd.R Kd.bool 4 wr w.heap.size (fun _ => True) (.slice (some ⟨gb, 0, none⟩) L.length cb) s) ∧ Aside0 (Kd.R (Kd.int .i64) 3 wr w.heap.size (fun _ => True) vq q) ∧ Aside0 (Below w.heap.size w wr))
    case atStart => exact ⟨0, _, s, q, rfl, by first | rfl | (simp; done), ⟨⟨⟨Nat.zero_le _, Nat.le_refl _⟩, HSL.out⟩, HSP.out⟩, HO, HQ2, HB⟩
    case round =>
     clear HO HQ2 HB HSP HSL y1 y2 hx2 c2 p1 p2 p3 p4
     obtain ⟨u, vq, s, q, rfl, rfl, HA, HO, HQ, HB⟩ := hrel
     by_cases hu : u < nx.length
     ·have c3 : decide ((u : Int) < (nx.length : Int)) = true := decide_eq_true (by omega)
      have p1 : (0 ≤ (u : Int)) = True := eq_true (by omega)
      have p2 : ((u : Int) < (nx.length : Int)) = True := eq_true (by omega)
      have hsp := HA.out.2
      rw [drop_at nx 0 u hu, zRow] at hsp
      obtain ⟨adn, en, hxn⟩ := Kd.at_int HNX.out.2.2 (u : Int) (by omega) (by omega)
      cases en
      have y3 := pw_cell_below HB.out hxn
      rw [Int.toNat_natCast, show rd nx (u : Int) = nx.getD u 0 from by unfold rd; rw [Int.toNat_natCast]] at y3
      generalize nx.getD u 0 = bb at hsp y3
      have HU := Aside0.mk (show (u < nx.length ∧ nx.length - u ≤ gk) ∧ s.length = L.length from ⟨⟨hu, HA.out.1.1.2⟩, HA.out.1.2⟩)
      split at hsp
      case isFalse => cases hsp
      rename_i hb
      obtain ⟨b, rfl⟩ := Int.eq_ofNat_of_zero_le hb.1.1
      have hbl : (b : Int) < (L.length : Int) := by have := hb.1.2; have := HA.out.1.2; omega
      have p3 : (0 ≤ (b : Int)) = True := eq_true (by omega)
      have p4 : ((b : Int) < (L.length : Int)) = True := eq_true hbl
      have HQB := Aside0.mk hb.2
      obtain ⟨x5, f5⟩ := Kd.R_celln (n := L.length) (cap := cb) (g := gb) false HO.out (b : Int) (by omega) hbl
      rw [Int.toNat_natCast] at x5 f5
      obtain ⟨Aq, cq, eq, hcq, hCq⟩ := Kd.R_reads HQ.out
      have HQ2 := Aside0.mk (show Kd.R (Kd.int .i64) 3 wr w.heap.size (fun _ => True) (.slice Aq q.length cq) q by rw [← eq]; exact HQ.out)
      subst eq
      clear hxn hu HA hb hcq hCq HQ
      cases hsb : rdOf false s (b : Int) with
      | true =>
       rw [hsb] at x5
       rw [hsb, if_pos rfl] at hsp
       have HN := Aside0.mk hsp
       clear hsp hsb
       go_wp2
       go_roundg (nx.length - (u + 1))
       case measure => have := HU.out; omega
       case rel => exact ⟨u + 1, _, s, q, rfl, by first | rfl | rw [wrap64_nat u (by have := HU.out; have := HNX.out; omega)] | simp, ⟨⟨⟨by have := HU.out; omega, Nat.le_refl _⟩, HU.out.2⟩, HN.out⟩, HO, HQ2, HB⟩
      | false =>
       rw [hsb] at x5
       rw [hsb, if_neg Bool.false_ne_true, Int.toNat_natCast] at hsp
       have HN := Aside0.mk hsp
       obtain ⟨inn, hown⟩ := Kd.R_own HO.out
       obtain ⟨cells, hcell⟩ := own_typed hown gb rfl
       have HQ3 := Aside0.mk (Kd.R_set HQ2.out hcell (by decide) b (.bool true))
       have HO3 := Aside0.mk (show Kd.R Kd.bool 4 (wr.setCell ⟨gb, b, none⟩ (.bool true)) w.heap.size (fun _ => True) (.slice (some ⟨gb, 0, none⟩) L.length cb) (s.set b true) from by have := Kd.R_putn (n := L.length) (cap := cb) (g := gb) HO.out (b : Int) true; rw [Int.toNat_natCast] at this; exact this)
       have HB3 := Aside0.mk (show Below w.heap.size w (wr.setCell ⟨gb, b, none⟩ (.bool true)) from below_set HB.out hgb)
       clear hsp hsb hown hcell
       go_wp2_with (first
        | ((with_reducible refine gate_dst (N := 50) rfl ?_); refine Kd.R_append (Kd.int .i64) (w0 := w) w.heap.size rfl (.tmp 47) (.tmp 49) 22 3 (.int .i64 0) 8 rfl Tryz.underlying22 info3 rfl (by decide) (by omega) (.slice Aq q.length cq) q (b : Int) [.int .i64 (b : Int)] (fun _ => True) (fun _ => False) ?h1 ?h2 ?aP (fun _ hk => hk.elim) ?aF ?aO ?aB ?aS ?aL ?_; (case h1 => rfl); (case h2 => first | rfl | (simp; done) | (go_simp; done)); (case aP => exact rfl); (case aB => exact HB3.out); (case aF => exact (fun _ _ => trivial)); (case aO => exact HQ3.out); (case aS => exact HB3.out.size); (case aL => have := HQB.out; omega); intro v14 w14 ho14 hb14 hg14 _))
       have HQ4 := Aside0.mk ho14
       have HB4 := Aside0.mk hb14
       have HO4 := Aside0.mk (show Kd.R Kd.bool 4 w14 w.heap.size (fun _ => True) (.slice (some ⟨gb, 0, none⟩) L.length cb) (s.set b true) from R_all (Kd.R_grown (Kd.R_tight rfl HO3.out) hg14 fun k_ hk => own_type HO3.out HQ3.out (by decide) k_ hk.symm))
       clear ho14 hb14 hg14
       go_roundg (nx.length - (u + 1))
       case measure => have := HU.out; omega
       case rel => exact ⟨u + 1, _, s.set b true, q ++ [(b : Int)], rfl, by first | rfl | rw [wrap64_nat u (by have := HU.out; have := HNX.out; omega)] | simp, ⟨⟨⟨by have := HU.out; omega, Nat.le_refl _⟩, by rw [List.length_set]; exact HU.out.2⟩, HN.out⟩, HO4, HQ4, HB4⟩
     ·obtain rfl : u = nx.length := by have := HA.out.1.1.1; omega
      have c3 : decide ((nx.length : Int) < (nx.length : Int)) = false := decide_eq_false (by omega)
      have hsp := HA.out.2
      rw [List.drop_length, zRow, Option.bind_some] at hsp
      have HN := Aside0.mk (show zFrom k1 L (kk + 1) s q = some r ∧ s.length = L.length from ⟨hsp, HA.out.1.2⟩)
      clear hsp HA hu
      go_wp2
      go_roundg k1
      case measure => omega
      case rel => exact ⟨kk + 1, _, s, q, rfl, by first | rfl | rw [wrap64_nat kk (by have := HNX.out; omega)] | simp, HN, HO, HQ, HB⟩
   ·have c2 : decide ((kk : Int) < (q.length : Int)) = false := decide_eq_false (by omega)
    have c2' : decide (kk < q.length) = false := decide_eq_false hkq
    rw [if_neg hkq] at hsp
    obtain rfl := Option.some.inj hsp
    clear hsp HA hkq hcq hCq HQ
    go_wp2
    go_ret
    exact ⟨_, rfl, HO.out, HB.out⟩
def spec_AreMutual.f (k : Nat) (t u : ByteArray) : Option (Bool × Bool) := (spec_reTo.f k t u).bind fun a => if a.2.2 = true then (spec_reAll.f k u).bind fun b => if b.2 = true then (if 0 ≤ a.2.1 then (spec_reFrom.f k a.1 a.2.1).bind fun s => if 0 < s.length then some (rdOf false s 0, true) else none else some (false, true)) else some (false, false) else some (false, false)
set_option maxHeartbeats 16000000 in
set_option maxRecDepth 100000 in
theorem spec_AreMutual.calls (k : Nat) (a0 a1 : ByteArray) (r1 r2 : Bool) (w : World) (h : spec_AreMutual.f k a0 a1 = some (r1, r2)) :
  Calls Tryz.prog 26 #[.string a0, .string a1] w fun e w' => e = .returned (.tuple #[.bool r1, .bool r2]) ∧ Below w.heap.size w w' := by
 unfold spec_AreMutual.f at h
 obtain ⟨⟨L, j, ok⟩, ha, h⟩ := Option.bind_eq_some_iff.1 h
 have HA := Aside0.mk ha
 clear ha
 cases ok with
 | false =>
  rw [if_neg Bool.false_ne_true] at h
  simp only [Option.some.injEq, Prod.mk.injEq] at h
  obtain ⟨rfl, rfl⟩ := h
  go_enter Tryz.func26, Tryz.ntmps26
  go_wp2_with (first
   | (go_at_call 33; refine (spec_reTo.calls k a0 a1 L j false _ HA.out).mono ?_; rintro e w1 ⟨A1, c1, rfl, hc1, hl1, hs1, hb1⟩; (have HB1 := Aside0.mk hb1); clear hc1 hl1 hs1 hb1))
  go_ret2
  exact ⟨rfl, HB1.out⟩
 | true =>
  rw [if_pos rfl] at h
  obtain ⟨⟨L2, ok2⟩, ha2, h⟩ := Option.bind_eq_some_iff.1 h
  have HA2 := Aside0.mk ha2
  clear ha2
  cases ok2 with
  | false =>
   rw [if_neg Bool.false_ne_true] at h
   simp only [Option.some.injEq, Prod.mk.injEq] at h
   obtain ⟨rfl, rfl⟩ := h
   go_enter Tryz.func26, Tryz.ntmps26
   go_wp2_with (first
    | (go_at_call 33; refine (spec_reTo.calls k a0 a1 L j true _ HA.out).mono ?_; rintro e w1 ⟨A1, c1, rfl, hc1, hl1, hs1, hb1⟩; (have HB1 := Aside0.mk hb1); clear hc1 hl1 hs1 hb1)
    | (go_at_call 30; refine (spec_reAll.calls k a1 L2 false _ HA2.out).mono ?_; rintro e w2 ⟨A2, c2, rfl, hc2, hl2, hs2, hb2⟩; (have HB2 := Aside0.mk (below_then HB1.out HB1.out.size hb2)); clear hc2 hl2 hs2 hb2))
   go_ret2
   exact ⟨rfl, HB2.out⟩
  | true =>
   rw [if_pos rfl] at h
   by_cases hj : 0 ≤ j
   ·have c1 : decide (0 ≤ j) = true := decide_eq_true hj
    rw [if_pos hj] at h
    obtain ⟨s, hs, h⟩ := Option.bind_eq_some_iff.1 h
    split at h
    case isFalse => cases h
    rename_i hsz
    simp only [Option.some.injEq, Prod.mk.injEq] at h
    obtain ⟨rfl, rfl⟩ := h
    have HS := Aside0.mk hs
    have HZ := Aside0.mk hsz
    clear hs hj hsz
    go_enter Tryz.func26, Tryz.ntmps26
    go_wp2_with (first
     | (go_at_call 33; refine (spec_reTo.calls k a0 a1 L j true _ HA.out).mono ?_; rintro e w1 ⟨A1, c1, rfl, hc1, hl1, hs1, hb1⟩; (have HB1 := Aside0.mk hb1); (have HS1 := Aside0.mk hs1); (have HC1 := Aside0.mk hc1); clear hc1 hl1 hs1 hb1)
     | (go_at_call 30; refine (spec_reAll.calls k a1 L2 true _ HA2.out).mono ?_; rintro e w2 ⟨A2, c2, rfl, hc2, hl2, hs2, hb2⟩; (have HB2 := Aside0.mk (below_then HB1.out HB1.out.size hb2)); (have HS2 := Aside0.mk (HS1.out.below hb2)); clear hc2 hl2 hs2 hb2)
     | (go_at_call 39; refine (spec_reFrom.calls k A1 c1 L j s _ HS2.out HC1.out HS.out).mono ?_; rintro e w3 ⟨v3, rfl, ho3, hb3⟩; (have HB3 := Aside0.mk (below_then HB2.out HB2.out.size hb3)); (obtain ⟨inner, hown⟩ := Kd.R_own ho3); (obtain ⟨gb, cb, eb, _, _⟩ := hown.form HZ.out); subst eb; (obtain ⟨x5, _⟩ := Kd.R_celln false ho3 0 (by omega) (by have := HZ.out; omega)); (have x5 : w3.cell? ⟨gb, 0, none⟩ = some (.bool (rdOf false s 0)) := x5); (have q5 : (0 < (s.length : Int)) = True := eq_true (by have := HZ.out; omega)); (have q6 : (0 < s.length) = True := eq_true HZ.out); clear hown ho3 hb3))
    go_ret2
    exact ⟨rfl, HB3.out⟩
   ·have c1 : decide (0 ≤ j) = false := decide_eq_false hj
    rw [if_neg hj] at h
    simp only [Option.some.injEq, Prod.mk.injEq] at h
    obtain ⟨rfl, rfl⟩ := h
    clear hj
    go_enter Tryz.func26, Tryz.ntmps26
    go_wp2_with (first
     | (go_at_call 33; refine (spec_reTo.calls k a0 a1 L j true _ HA.out).mono ?_; rintro e w1 ⟨A1, c1, rfl, hc1, hl1, hs1, hb1⟩; (have HB1 := Aside0.mk hb1); clear hc1 hl1 hs1 hb1)
     | (go_at_call 30; refine (spec_reAll.calls k a1 L2 true _ HA2.out).mono ?_; rintro e w2 ⟨A2, c2, rfl, hc2, hl2, hs2, hb2⟩; (have HB2 := Aside0.mk (below_then HB1.out HB1.out.size hb2)); clear hc2 hl2 hs2 hb2))
    go_ret2
    exact ⟨rfl, HB2.out⟩
end Go.Proofs.YtchkmhbngbgjnaaGreatDoor.Q
end
section
namespace Go.Proofs.YtchkmhbngbgjnaaGreatDoor.Q
open Go.RowKit Go.Proofs.YtchkmhbngbgjnaaGreatDoorW.PrintWords Go.Proofs.YtchkmhbngbgjnaaGreatDoorW.PrintLast Go.Proofs.YtchkmhbngbgjnaaGreatDoorW.PrintMore
attribute [local go_sem] max2_int min2_int max_two min_two max_three min_three max_four min_four
set_option linter.unusedVariables false
set_option linter.unusedSimpArgs false
def impl_AreMutual.f (k : Nat) (a0 : ByteArray) (a1 : ByteArray) : Option (Bool × Bool) := (impl_IsReached.f k a0 a1).bind fun bt101 => ((impl_IsReached.f k a1 a0).bind fun bt103 => (if bt101.2 = true then (if bt103.2 = true then (if bt101.1 = true then (some (bt103.1, bt103.2)) else (some (false, bt103.2))) else (some (false, bt103.2))) else (some (false, false))))
set_option maxHeartbeats 8000000 in
set_option maxRecDepth 100000 in
theorem impl_AreMutual.calls (k : Nat) (a0 : ByteArray) (a1 : ByteArray) (r1 : Bool) (r2 : Bool) (w : World) (hG : GoodW w) (h : impl_AreMutual.f k a0 a1 = some (r1, r2)) :
  Calls Tryz.prog 27 #[.string a0, .string a1] w fun e w' => e = .returned (.tuple #[.bool r1, .bool r2]) ∧ Below w.heap.size w w' := by
 have HG := Aside0.mk hG
 clear hG
 have HB := Aside0.mk (Below.refl w.heap.size w)
 have H : ((impl_IsReached.f k a0 a1).bind fun bt101 => ((impl_IsReached.f k a1 a0).bind fun bt103 => (if bt101.2 = true then (if bt103.2 = true then (if bt101.1 = true then (some (bt103.1, bt103.2)) else (some (false, bt103.2))) else (some (false, bt103.2))) else (some (false, false))))) = some (r1, r2) := h
 clear h
 replace H := Option.bind_eq_some_iff.mp H
 obtain ⟨⟨t101, t102⟩, A30, H⟩ := H
 replace H : ((impl_IsReached.f k a1 a0).bind fun bt103 => (if t102 = true then (if bt103.2 = true then (if t101 = true then (some (bt103.1, bt103.2)) else (some (false, bt103.2))) else (some (false, bt103.2))) else (some (false, false)))) = some (r1, r2) := H
 have A3 := Aside0.mk A30
 clear A30
 replace H := Option.bind_eq_some_iff.mp H
 obtain ⟨⟨t103, t104⟩, A40, H⟩ := H
 replace H : (if t102 = true then (if t104 = true then (if t101 = true then (some (t103, t104)) else (some (false, t104))) else (some (false, t104))) else (some (false, false))) = some (r1, r2) := H
 have A4 := Aside0.mk A40
 clear A40
 by_cases c5 : t102 = true
 ·subst c5
  have H1 : (if t104 = true then (if t101 = true then (some (t103, t104)) else (some (false, t104))) else (some (false, t104))) = some (r1, r2) := by rw [if_pos rfl] at H; exact H
  clear H
  have H := H1
  clear H1
  by_cases c6 : t104 = true
  ·subst c6
   have H1 : (if t101 = true then (some (t103, true)) else (some (false, true))) = some (r1, r2) := by rw [if_pos rfl] at H; exact H
   clear H
   have H := H1
   clear H1
   by_cases c7 : t101 = true
   ·subst c7
    have H1 : (some (t103, true)) = some (r1, r2) := by rw [if_pos rfl] at H; exact H
    clear H
    have H := H1
    clear H1
    simp only [Option.some.injEq, Prod.mk.injEq] at H
    obtain ⟨rfl, rfl⟩ := H
    go_enter Tryz.func27, Tryz.ntmps27
    go_wp2_with (first | ((with_reducible refine gate_callee (f := 17) rfl ?_); refine gcall (some 13) Tryz.func17 #[.string a0, .string a1] rfl ?_; (with_reducible refine (impl_IsReached.calls k a0 a1 true true _ ?side1 A3.out).mono ?_); (case side1 => (refine GoodW.below HG.out ?_); exact bel HB); rintro e w8 ⟨rfl, hb⟩; refine ⟨_, rfl, ?_⟩; have n0_ := Aside0.mk (below_step (bel HB) hb); clear HB; have HB := n0_; clear n0_; (try clear hb); (try clear hb2); (try clear hk); (try clear hi)) | ((with_reducible refine gate_callee (f := 17) rfl ?_); refine gcall (some 19) Tryz.func17 #[.string a1, .string a0] rfl ?_; (with_reducible refine (impl_IsReached.calls k a1 a0 t103 true _ ?side1 A4.out).mono ?_); (case side1 => (refine GoodW.below HG.out ?_); exact bel HB); rintro e w9 ⟨rfl, hb⟩; refine ⟨_, rfl, ?_⟩; have n0_ := Aside0.mk (below_step (bel HB) hb); clear HB; have HB := n0_; clear n0_; (try clear hb); (try clear hb2); (try clear hk); (try clear hi)))
    go_ret2
    exact ⟨by first | rfl | (simp [errW_none, errW_some] <;> rfl) | (simp [*, errW_none, errW_some] <;> rfl), bel HB⟩
   ·replace c7 := Bool.eq_false_iff.mpr c7
    subst c7
    have H1 : (some (false, true)) = some (r1, r2) := by rw [if_neg (show ¬ (false = true) by decide)] at H; exact H
    clear H
    have H := H1
    clear H1
    simp only [Option.some.injEq, Prod.mk.injEq] at H
    obtain ⟨rfl, rfl⟩ := H
    go_enter Tryz.func27, Tryz.ntmps27
    go_wp2_with (first | ((with_reducible refine gate_callee (f := 17) rfl ?_); refine gcall (some 13) Tryz.func17 #[.string a0, .string a1] rfl ?_; (with_reducible refine (impl_IsReached.calls k a0 a1 false true _ ?side1 A3.out).mono ?_); (case side1 => (refine GoodW.below HG.out ?_); exact bel HB); rintro e w10 ⟨rfl, hb⟩; refine ⟨_, rfl, ?_⟩; have n0_ := Aside0.mk (below_step (bel HB) hb); clear HB; have HB := n0_; clear n0_; (try clear hb); (try clear hb2); (try clear hk); (try clear hi)) | ((with_reducible refine gate_callee (f := 17) rfl ?_); refine gcall (some 19) Tryz.func17 #[.string a1, .string a0] rfl ?_; (with_reducible refine (impl_IsReached.calls k a1 a0 t103 true _ ?side1 A4.out).mono ?_); (case side1 => (refine GoodW.below HG.out ?_); exact bel HB); rintro e w11 ⟨rfl, hb⟩; refine ⟨_, rfl, ?_⟩; have n0_ := Aside0.mk (below_step (bel HB) hb); clear HB; have HB := n0_; clear n0_; (try clear hb); (try clear hb2); (try clear hk); (try clear hi)))
    go_ret2
    exact ⟨by first | rfl | (simp [errW_none, errW_some] <;> rfl) | (simp [*, errW_none, errW_some] <;> rfl), bel HB⟩
  ·replace c6 := Bool.eq_false_iff.mpr c6
   subst c6
   have H1 : (some (false, false)) = some (r1, r2) := by rw [if_neg (show ¬ (false = true) by decide)] at H; exact H
   clear H
   have H := H1
   clear H1
   simp only [Option.some.injEq, Prod.mk.injEq] at H
   obtain ⟨rfl, rfl⟩ := H
   go_enter Tryz.func27, Tryz.ntmps27
   go_wp2_with (first | ((with_reducible refine gate_callee (f := 17) rfl ?_); refine gcall (some 13) Tryz.func17 #[.string a0, .string a1] rfl ?_; (with_reducible refine (impl_IsReached.calls k a0 a1 t101 true _ ?side1 A3.out).mono ?_); (case side1 => (refine GoodW.below HG.out ?_); exact bel HB); rintro e w12 ⟨rfl, hb⟩; refine ⟨_, rfl, ?_⟩; have n0_ := Aside0.mk (below_step (bel HB) hb); clear HB; have HB := n0_; clear n0_; (try clear hb); (try clear hb2); (try clear hk); (try clear hi)) | ((with_reducible refine gate_callee (f := 17) rfl ?_); refine gcall (some 19) Tryz.func17 #[.string a1, .string a0] rfl ?_; (with_reducible refine (impl_IsReached.calls k a1 a0 t103 false _ ?side1 A4.out).mono ?_); (case side1 => (refine GoodW.below HG.out ?_); exact bel HB); rintro e w13 ⟨rfl, hb⟩; refine ⟨_, rfl, ?_⟩; have n0_ := Aside0.mk (below_step (bel HB) hb); clear HB; have HB := n0_; clear n0_; (try clear hb); (try clear hb2); (try clear hk); (try clear hi)))
   go_ret2
   exact ⟨by first | rfl | (simp [errW_none, errW_some] <;> rfl) | (simp [*, errW_none, errW_some] <;> rfl), bel HB⟩
 ·replace c5 := Bool.eq_false_iff.mpr c5
  subst c5
  have H1 : (some (false, false)) = some (r1, r2) := by rw [if_neg (show ¬ (false = true) by decide)] at H; exact H
  clear H
  have H := H1
  clear H1
  simp only [Option.some.injEq, Prod.mk.injEq] at H
  obtain ⟨rfl, rfl⟩ := H
  go_enter Tryz.func27, Tryz.ntmps27
  go_wp2_with (first | ((with_reducible refine gate_callee (f := 17) rfl ?_); refine gcall (some 13) Tryz.func17 #[.string a0, .string a1] rfl ?_; (with_reducible refine (impl_IsReached.calls k a0 a1 t101 false _ ?side1 A3.out).mono ?_); (case side1 => (refine GoodW.below HG.out ?_); exact bel HB); rintro e w14 ⟨rfl, hb⟩; refine ⟨_, rfl, ?_⟩; have n0_ := Aside0.mk (below_step (bel HB) hb); clear HB; have HB := n0_; clear n0_; (try clear hb); (try clear hb2); (try clear hk); (try clear hi)) | ((with_reducible refine gate_callee (f := 17) rfl ?_); refine gcall (some 19) Tryz.func17 #[.string a1, .string a0] rfl ?_; (with_reducible refine (impl_IsReached.calls k a1 a0 t103 t104 _ ?side1 A4.out).mono ?_); (case side1 => (refine GoodW.below HG.out ?_); exact bel HB); rintro e w15 ⟨rfl, hb⟩; refine ⟨_, rfl, ?_⟩; have n0_ := Aside0.mk (below_step (bel HB) hb); clear HB; have HB := n0_; clear n0_; (try clear hb); (try clear hb2); (try clear hk); (try clear hi)))
  go_ret2
  exact ⟨by first | rfl | (simp [errW_none, errW_some] <;> rfl) | (simp [*, errW_none, errW_some] <;> rfl), bel HB⟩
def laws_FnExactAreMutual.f (k : Nat) (a0 : ByteArray) (a1 : ByteArray) : Option (Bool) := if (a0.size : Int) > 1048576 then (some true) else (if (a1.size : Int) > 1048576 then (some true) else ((spec_AreMutual.f k a0 a1).bind fun bt101 => ((impl_AreMutual.f k a0 a1).bind fun bt103 => (if (bt103.1 != bt101.1) = true then (some false) else (if (bt103.2 != bt101.2) = true then (some false) else (some true))))))
set_option maxHeartbeats 8000000 in
set_option maxRecDepth 100000 in
theorem laws_FnExactAreMutual.calls (k : Nat) (a0 : ByteArray) (a1 : ByteArray) (r : Bool) (w : World) (hG : GoodW w) (h : laws_FnExactAreMutual.f k a0 a1 = some r) :
  Calls Tryz.prog 9 #[.string a0, .string a1] w fun e w' => e = .returned (.bool r) ∧ Below w.heap.size w w' := by
 have HG := Aside0.mk hG
 clear hG
 have HB := Aside0.mk (Below.refl w.heap.size w)
 have H : (if (a0.size : Int) > 1048576 then (some true) else (if (a1.size : Int) > 1048576 then (some true) else ((spec_AreMutual.f k a0 a1).bind fun bt101 => ((impl_AreMutual.f k a0 a1).bind fun bt103 => (if (bt103.1 != bt101.1) = true then (some false) else (if (bt103.2 != bt101.2) = true then (some false) else (some true))))))) = some r := h
 clear h
 by_cases c3 : (a0.size : Int) > 1048576
 ·rw [if_pos c3] at H
  have c3b0 : decide (1048576 < (a0.size : Int)) = true := decide_eq_true c3
  have c3b1 : decide (1048576 < a0.size) = true := decide_eq_true (by omega)
  clear c3
  obtain rfl := Option.some.inj H
  go_enter Tryz.func9, Tryz.ntmps9
  go_wp2
  go_ret
  exact ⟨by first | rfl | (simp [errW_none, errW_some] <;> rfl) | (simp [*, errW_none, errW_some] <;> rfl), bel HB⟩
 ·rw [if_neg c3] at H
  have c3b0 : decide (1048576 < (a0.size : Int)) = false := decide_eq_false c3
  have c3b1 : decide (1048576 < a0.size) = false := decide_eq_false (by omega)
  clear c3
  by_cases c4 : (a1.size : Int) > 1048576
  ·rw [if_pos c4] at H
   have c4b0 : decide (1048576 < (a1.size : Int)) = true := decide_eq_true c4
   have c4b1 : decide (1048576 < a1.size) = true := decide_eq_true (by omega)
   clear c4
   obtain rfl := Option.some.inj H
   go_enter Tryz.func9, Tryz.ntmps9
   go_wp2
   go_ret
   exact ⟨by first | rfl | (simp [errW_none, errW_some] <;> rfl) | (simp [*, errW_none, errW_some] <;> rfl), bel HB⟩
  ·rw [if_neg c4] at H
   have c4b0 : decide (1048576 < (a1.size : Int)) = false := decide_eq_false c4
   have c4b1 : decide (1048576 < a1.size) = false := decide_eq_false (by omega)
   clear c4
   replace H := Option.bind_eq_some_iff.mp H
   obtain ⟨⟨t101, t102⟩, A50, H⟩ := H
   replace H : ((impl_AreMutual.f k a0 a1).bind fun bt103 => (if (bt103.1 != t101) = true then (some false) else (if (bt103.2 != t102) = true then (some false) else (some true)))) = some r := H
   have A5 := Aside0.mk A50
   clear A50
   replace H := Option.bind_eq_some_iff.mp H
   obtain ⟨⟨t103, t104⟩, A60, H⟩ := H
   replace H : (if (t103 != t101) = true then (some false) else (if (t104 != t102) = true then (some false) else (some true))) = some r := H
   have A6 := Aside0.mk A60
   clear A60
   by_cases c7 : (t103 != t101) = true
   ·rw [if_pos c7] at H
    have c7b0 : (t103 != t101) = true := c7
    (try (have c7b1 : decide (t103 = t101) = false := by simpa using c7))
    (try (have c7b2 : (t103 == t101) = false := by simpa using c7))
    (try (have c7b3 : ¬ (t103 = t101) := by simpa using c7))
    clear c7
    obtain rfl := Option.some.inj H
    go_enter Tryz.func9, Tryz.ntmps9
    go_wp2_with (first | ((with_reducible refine gate_callee (f := 26) rfl ?_); refine gcall (some 18) Tryz.func26 #[.string a0, .string a1] rfl ?_; (with_reducible refine (spec_AreMutual.calls k a0 a1 t101 t102 _ A5.out).mono ?_); rintro e w8 ⟨rfl, hb⟩; refine ⟨_, rfl, ?_⟩; have n0_ := Aside0.mk (below_step (bel HB) hb); clear HB; have HB := n0_; clear n0_; (try clear hb); (try clear hb2); (try clear hk); (try clear hi)) | ((with_reducible refine gate_callee (f := 27) rfl ?_); refine gcall (some 24) Tryz.func27 #[.string a0, .string a1] rfl ?_; (with_reducible refine (impl_AreMutual.calls k a0 a1 t103 t104 _ ?side1 A6.out).mono ?_); (case side1 => (refine GoodW.below HG.out ?_); exact bel HB); rintro e w9 ⟨rfl, hb⟩; refine ⟨_, rfl, ?_⟩; have n0_ := Aside0.mk (below_step (bel HB) hb); clear HB; have HB := n0_; clear n0_; (try clear hb); (try clear hb2); (try clear hk); (try clear hi)))
    go_ret
    exact ⟨by first | rfl | (simp [errW_none, errW_some] <;> rfl) | (simp [*, errW_none, errW_some] <;> rfl), bel HB⟩
   ·rw [if_neg c7] at H
    have c7b0 : (t103 != t101) = false := by simpa using c7
    (try (have c7b1 : decide (t103 = t101) = true := by simpa using c7))
    (try (have c7b2 : (t103 == t101) = true := by simpa using c7))
    clear c7
    by_cases c10 : (t104 != t102) = true
    ·rw [if_pos c10] at H
     have c10b0 : (t104 != t102) = true := c10
     (try (have c10b1 : decide (t104 = t102) = false := by simpa using c10))
     (try (have c10b2 : (t104 == t102) = false := by simpa using c10))
     (try (have c10b3 : ¬ (t104 = t102) := by simpa using c10))
     clear c10
     obtain rfl := Option.some.inj H
     go_enter Tryz.func9, Tryz.ntmps9
     go_wp2_with (first | ((with_reducible refine gate_callee (f := 26) rfl ?_); refine gcall (some 18) Tryz.func26 #[.string a0, .string a1] rfl ?_; (with_reducible refine (spec_AreMutual.calls k a0 a1 t101 t102 _ A5.out).mono ?_); rintro e w11 ⟨rfl, hb⟩; refine ⟨_, rfl, ?_⟩; have n0_ := Aside0.mk (below_step (bel HB) hb); clear HB; have HB := n0_; clear n0_; (try clear hb); (try clear hb2); (try clear hk); (try clear hi)) | ((with_reducible refine gate_callee (f := 27) rfl ?_); refine gcall (some 24) Tryz.func27 #[.string a0, .string a1] rfl ?_; (with_reducible refine (impl_AreMutual.calls k a0 a1 t103 t104 _ ?side1 A6.out).mono ?_); (case side1 => (refine GoodW.below HG.out ?_); exact bel HB); rintro e w12 ⟨rfl, hb⟩; refine ⟨_, rfl, ?_⟩; have n0_ := Aside0.mk (below_step (bel HB) hb); clear HB; have HB := n0_; clear n0_; (try clear hb); (try clear hb2); (try clear hk); (try clear hi)))
     go_ret
     exact ⟨by first | rfl | (simp [errW_none, errW_some] <;> rfl) | (simp [*, errW_none, errW_some] <;> rfl), bel HB⟩
    ·rw [if_neg c10] at H
     have c10b0 : (t104 != t102) = false := by simpa using c10
     (try (have c10b1 : decide (t104 = t102) = true := by simpa using c10))
     (try (have c10b2 : (t104 == t102) = true := by simpa using c10))
     clear c10
     obtain rfl := Option.some.inj H
     go_enter Tryz.func9, Tryz.ntmps9
     go_wp2_with (first | ((with_reducible refine gate_callee (f := 26) rfl ?_); refine gcall (some 18) Tryz.func26 #[.string a0, .string a1] rfl ?_; (with_reducible refine (spec_AreMutual.calls k a0 a1 t101 t102 _ A5.out).mono ?_); rintro e w13 ⟨rfl, hb⟩; refine ⟨_, rfl, ?_⟩; have n0_ := Aside0.mk (below_step (bel HB) hb); clear HB; have HB := n0_; clear n0_; (try clear hb); (try clear hb2); (try clear hk); (try clear hi)) | ((with_reducible refine gate_callee (f := 27) rfl ?_); refine gcall (some 24) Tryz.func27 #[.string a0, .string a1] rfl ?_; (with_reducible refine (impl_AreMutual.calls k a0 a1 t103 t104 _ ?side1 A6.out).mono ?_); (case side1 => (refine GoodW.below HG.out ?_); exact bel HB); rintro e w14 ⟨rfl, hb⟩; refine ⟨_, rfl, ?_⟩; have n0_ := Aside0.mk (below_step (bel HB) hb); clear HB; have HB := n0_; clear n0_; (try clear hb); (try clear hb2); (try clear hk); (try clear hi)))
     go_ret
     exact ⟨by first | rfl | (simp [errW_none, errW_some] <;> rfl) | (simp [*, errW_none, errW_some] <;> rfl), bel HB⟩
end Go.Proofs.YtchkmhbngbgjnaaGreatDoor.Q
end
section
namespace Go.Proofs.YtchkmhbngbgjnaaGreatDoor.Q
set_option linter.unusedSectionVars false
open Go.RowKit Go.Proofs.YtchkmhbngbgjnaaGreatDoorW.PrintWords Go.Proofs.YtchkmhbngbgjnaaGreatDoorW.PrintLast Go.Proofs.YtchkmhbngbgjnaaGreatDoorW.PrintMore
theorem rdOf_bool (s : List Bool) (a : Nat) : rdOf false s (a : Int) = s.getD a false := by
 unfold rdOf
 rw [Int.toNat_natCast]
theorem casts_len (l : List Nat) : (casts l).length = l.length := by unfold casts; rw [List.length_map]
theorem zRow_b : ∀ (l : List Nat) (s : List Bool) (q : List Nat), (∀ a ∈ l, a < s.length) → q.length + l.length ≤ 1000000 → zRow (casts l) s (casts q) = some ((bRow l s q).1, casts (bRow l s q).2)
 | [], s, q, _, _ => rfl
 | a :: l, s, q, hl, hq => by
  have ha : a < s.length := hl a (by simp)
  rw [List.length_cons] at hq
  show zRow ((a : Int) :: casts l) s (casts q) = _
  rw [zRow, if_pos ⟨⟨by omega, by omega⟩, by rw [casts_len]; omega⟩, rdOf_bool, bRow]
  by_cases e : s.getD a false = true
  ·rw [if_pos e, if_pos e]
   exact zRow_b l s q (fun b hb => hl b (by simp [hb])) (by omega)
  ·rw [if_neg e, if_neg e, Int.toNat_natCast, show casts q ++ [(a : Int)] = casts (q ++ [a]) from by unfold casts; rw [List.map_append]; rfl]
   exact zRow_b l (s.set a true) (q ++ [a]) (fun b hb => by rw [List.length_set]; exact hl b (by simp [hb])) (by rw [List.length_append, List.length_singleton]; omega)
section
variable {t : ByteArray} {w h : Nat} {cs : List Int} {p : List RS × List (List Nat)} (H : Found t w h cs p)
include H
theorem Found.ok : bOk p.2 := fun j nx hj a ha => by
 rw [H.nlen]
 exact H.next hj a ha
theorem zFrom_ev {i : Nat} : ∀ (m k : Nat) (s : List Bool) (q : List Nat), BInvF p.2 i s q → s.length = p.1.length → k ≤ q.length → m + k = p.1.length + 1 → Ev (fun r => zFrom r (foundZ w h p) k s (casts q)) (bFrom p.2 m k s q)
 | 0, k, s, q, hI, hs, hk, hm => by
  have := hI.sum
  omega
 | m + 1, k, s, q, hI, hs, hk, hm => by
  have hlen := H.len
  have hnl := H.nlen
  have hsum := hI.sum
  rw [bFrom]
  cases hq : q[k]? with
  | none =>
   have := List.getElem?_eq_none_iff.1 hq
   refine Ev.step (Ev.const (o := some s) rfl) fun r => ?_
   rw [zFrom, if_neg (by rw [casts_len]; omega)]
  | some j =>
   obtain ⟨hkl, he⟩ := List.getElem?_eq_some_iff.1 hq
   have hjq : j ∈ q := List.mem_of_getElem? hq
   have hjs : j < s.length := by
    rcases Nat.lt_or_ge j s.length with h1 | h1
    ·exact h1
    ·have h2 := (hI.iff j).2 hjq
     rw [List.getD_eq_getElem?_getD, List.getElem?_eq_none h1] at h2
     cases h2
   have hjl : j < p.1.length := by omega
   obtain ⟨sj, hsj⟩ : ∃ x, p.1[j]? = some x := ⟨_, List.getElem?_eq_getElem hjl⟩
   obtain ⟨nx, g1, g2, g3⟩ := H.done.next j sj hsj
   have hgd : p.2.getD j [] = nx := by rw [List.getD_eq_getElem?_getD, g1]; rfl
   obtain ⟨k1, k2, ⟨r, k3⟩, k4⟩ := b_row_inv (N := p.2) (i := i) (p.2.getD j []) s q hI fun a ha => by
    rw [hgd] at ha
    exact ⟨by rw [hs]; exact H.next g1 a ha, .go (hI.goes j hjq) g1 ha⟩
   have hrd : rd (casts q) (k : Int) = (j : Int) := by
    unfold rd casts
    rw [Int.toNat_natCast, List.getD_eq_getElem?_getD, List.getElem?_map, hq]
    rfl
   have hnx : (zAt (foundZ w h p) j).next = casts (p.2.getD j []) := by rw [H.zget hsj]; rfl
   have ih := zFrom_ev m (k + 1) _ _ k1 (by rw [k2, hs]) (by rw [k3, List.length_append]; omega) (by omega)
   refine Ev.step ih fun r => ?_
   rw [zFrom, if_pos (by rw [casts_len]; exact hkl), hrd, Int.toNat_natCast, hnx, if_pos ⟨⟨by omega, by rw [H.zlen]; omega⟩, by omega, by rw [casts_len, hgd]; omega⟩, zRow_b _ _ _ (fun a ha => by rw [hgd] at ha; rw [hs]; exact H.next g1 a ha) (by rw [hgd]; omega), Option.bind_some]
theorem reFrom_ev {j : Nat} (hj : j < p.1.length) : Ev (fun k => spec_reFrom.f k (foundZ w h p) (j : Int)) (bFrom p.2 (p.2.length + 1) 0 ((List.replicate p.2.length false).set j true) [j]) := by
 have hlen := H.len
 have hnl := H.nlen
 have h0 : (List.replicate p.2.length false).getD j false = false := by
  rw [List.getD_eq_getElem?_getD, List.getElem?_replicate]
  split <;> rfl
 have hI : BInvF p.2 j ((List.replicate p.2.length false).set j true) [j] := by
  refine ⟨fun a => ?_, fun a ha => ?_, ?_⟩
  ·rw [b_set_getD _ _ _ (by simpa using (by omega : j < p.2.length))]
   by_cases e : a = j
   ·simp [e]
   ·rw [if_neg e, List.getD_eq_getElem?_getD, List.getElem?_replicate]
    split <;> simp [e]
  ·rw [List.mem_singleton.1 ha]
   exact .here j
  ·have := b_count_set (List.replicate p.2.length false) j (by simpa using (by omega : j < p.2.length)) h0
   simp at this ⊢
   omega
 refine Ev.congr (zFrom_ev H (p.2.length + 1) 0 _ [j] hI (by simp; omega) (Nat.zero_le _) (by omega)) fun k => ?_
 unfold spec_reFrom.f
 rw [if_pos ⟨⟨by omega, by rw [H.zlen]; omega⟩, by rw [H.zlen]; omega⟩, H.zlen, hnl, Int.toNat_natCast]
 rfl
theorem from_iff {j : Nat} (hj : j < p.1.length) : (bFrom p.2 (p.2.length + 1) 0 ((List.replicate p.2.length false).set j true) [j]).getD 0 false = true ↔ BGoes p.2 j 0 := b_from_all H.ok (by rw [H.nlen]; exact hj) 0
end
theorem b_row_len : ∀ (l : List Nat) (s : List Bool) (q : List Nat), (bRow l s q).1.length = s.length
 | [], s, q => rfl
 | a :: l, s, q => by
  unfold bRow
  split
  ·exact b_row_len l s q
  ·rw [b_row_len l, List.length_set]
theorem b_from_len (N : List (List Nat)) : ∀ (m k : Nat) (s : List Bool) (q : List Nat), (bFrom N m k s q).length = s.length
 | 0, _, s, _ => rfl
 | m + 1, k, s, q => by
  unfold bFrom
  split
  ·rfl
  ·rw [b_from_len N m, b_row_len]
end Go.Proofs.YtchkmhbngbgjnaaGreatDoor.Q
end
section
namespace Go.Proofs.YtchkmhbngbgjnaaGreatDoor.Q
set_option linter.unusedSectionVars false
open Go.RowKit Go.Proofs.YtchkmhbngbgjnaaGreatDoorW.PrintWords Go.Proofs.YtchkmhbngbgjnaaGreatDoorW.PrintLast Go.Proofs.YtchkmhbngbgjnaaGreatDoorW.PrintMore
open Classical
def AreMutualR (t u : ByteArray) : Bool × Bool := if (IsReachedR t u).2 = true ∧ (IsReachedR u t).2 = true then ((IsReachedR t u).1 && (IsReachedR u t).1, true) else (false, false)
theorem implAreMutual_ev (t u : ByteArray) (ht : t.size ≤ 1048576) (hu : u.size ≤ 1048576) : Ev (fun k => impl_AreMutual.f k t u) (AreMutualR t u) := by
 refine Ev.bind (f := fun k (bt101 : Bool × Bool) => ((impl_IsReached.f k u t).bind fun bt103 => (if bt101.2 = true then (if bt103.2 = true then (if bt101.1 = true then (some (bt103.1, bt103.2)) else (some (false, bt103.2))) else (some (false, bt103.2))) else (some (false, false))))) (implIsReached_ev t u ht hu) ?_
 refine Ev.bind (f := fun _ (bt103 : Bool × Bool) => (if (IsReachedR t u).2 = true then (if bt103.2 = true then (if (IsReachedR t u).1 = true then (some (bt103.1, bt103.2)) else (some (false, bt103.2))) else (some (false, bt103.2))) else (some (false, false)))) (implIsReached_ev u t hu ht) (Ev.const ?_)
 unfold AreMutualR
 generalize IsReachedR t u = a
 generalize IsReachedR u t = b
 obtain ⟨a1, a2⟩ := a
 obtain ⟨b1, b2⟩ := b
 cases a1 <;> cases a2 <;> cases b1 <;> cases b2 <;> rfl
theorem reached_back {t u : ByteArray} {w h w' h' : Nat} {cs cs' : List Int} {p p' : List RS × List (List Nat)} (H : Found t w h cs p) (H' : Found u w' h' cs' p') {j : Nat} {s : RS} (hs : p.1[j]? = some s) (hu : tx s.x w h = u) : (bFrom p.2 (p.2.length + 1) 0 ((List.replicate p.2.length false).set j true) [j]).getD 0 false = decide (0 ≤ idxT (txs w' h' p'.1) t 0) := by
 have hj := (List.getElem?_eq_some_iff.1 hs).1
 have hgs := H.good s (List.mem_of_getElem? hs)
 have h1 := tray_read H'.tray
 rw [← hu, read_tx H.hw H.hh H.hs H.hw1 H.hh1 hgs] at h1
 have h2 := Option.some.inj h1
 have ew : w = w' := by have := congrArg (fun z => z.1) h2; simp only at this; omega
 have eh : h = h' := by have := congrArg (fun z => z.2.1) h2; simp only at this; omega
 have ec : s.x = cs' := congrArg (fun z => z.2.2) h2
 subst ew eh ec
 obtain ⟨hc, htx, _⟩ := tray_own H.tray
 obtain ⟨_, _, _, e, _, _, _, _, _, hn⟩ := tray_parts H.tray
 injection e with e1 e2
 injection e2 with e2 e3
 have hgt : goodC w h cs := ⟨hc, by rw [e3, hn]; congr 1 <;> omega⟩
 have hm := b_mutual_iff (tiT w h) H.done H'.done hs rfl
 have hf := from_iff H hj
 have hb : 0 ≤ idxT (txs w h p'.1) t 0 ↔ ∃ (k : Nat) (s' : RS), p'.1[k]? = some s' ∧ s'.x = cs := by
  rcases idxT_cases (txs w h p'.1) t 0 with ⟨h1, h2⟩ | ⟨k, h1, h2⟩
  ·rw [h1]
   refine ⟨fun h => by omega, fun ⟨k, s', hk, e⟩ => absurd ?_ (h2 (tx s'.x w h) (List.mem_map.2 ⟨s', List.mem_of_getElem? hk, rfl⟩))⟩
   rw [e, htx]
  ·rw [h1]
   refine ⟨fun _ => ?_, fun _ => by omega⟩
   unfold txs at h2
   rw [List.getElem?_map] at h2
   obtain ⟨s', hk, e⟩ := Option.map_eq_some_iff.1 h2
   refine ⟨k, s', hk, ?_⟩
   have hg' := H'.good s' (List.mem_of_getElem? hk)
   exact (tx_inj H.hw H.hh H.hs H.hw1 H.hh1 hg' hgt).1 (by rw [e, htx])
 cases hx : (bFrom p.2 (p.2.length + 1) 0 ((List.replicate p.2.length false).set j true) [j]).getD 0 false with
 | true => exact (decide_eq_true (hb.2 (hm.2 (hf.1 hx)))).symm
 | false =>
  refine (decide_eq_false fun h0 => ?_).symm
  rw [hf.2 (hm.1 (hb.1 h0))] at hx
  cases hx
theorem specAreMutual_ev (t u : ByteArray) : Ev (fun k => spec_AreMutual.f k t u) (AreMutualR t u) := by
 refine Ev.bind (f := fun k (a : List Zs × Int × Bool) => if a.2.2 = true then (spec_reAll.f k u).bind fun b => if b.2 = true then (if 0 ≤ a.2.1 then (spec_reFrom.f k a.1 a.2.1).bind fun s => if 0 < s.length then some (rdOf false s 0, true) else none else some (false, true)) else some (false, false) else some (false, false)) (reTo_ev t u) ?_
 unfold AreMutualR
 have hno : (IsReachedR t u).2 = false → Ev (fun k => (some (false, false) : Option (Bool × Bool))) (if (IsReachedR t u).2 = true ∧ (IsReachedR u t).2 = true then ((IsReachedR t u).1 && (IsReachedR u t).1, true) else (false, false)) := fun e => by
  rw [if_neg (by rw [e]; exact fun h => Bool.false_ne_true h.1)]
  exact Ev.const rfl
 rcases to_cases t u with e | ⟨w, h, cs, p, H, hu, hc⟩
 ·have hf := hno (by unfold IsReachedR; rw [e])
  rw [e]
  exact hf
 ·have h2 : (IsReachedR t u).2 = true := by
   unfold IsReachedR
   rcases hc with ⟨e, _, _⟩ | ⟨j, s, hs, h1, h2, e⟩ <;> rw [e]
  have hto : (trayOf t).isSome = true := by rw [H.tray]; rfl
  have e2 : (reToR t u).2.2 = true := h2
  refine Ev.congr (Ev.bind (f := fun k (b : List Zs × Bool) => if b.2 = true then (if 0 ≤ (reToR t u).2.1 then (spec_reFrom.f k (reToR t u).1 (reToR t u).2.1).bind fun s => if 0 < s.length then some (rdOf false s 0, true) else none else some (false, true)) else some (false, false)) (reAll_ev u) ?_) fun k => if_pos e2
  rcases found_cases u with ⟨g1, g2⟩ | ⟨w', h', cs', p', H'⟩
  ·have h3 : (IsReachedR u t).2 = false := by
    unfold IsReachedR reToR
    rw [g1]
    rfl
   rw [if_neg (by rw [h3]; exact fun h => Bool.false_ne_true h.2), g1]
   exact Ev.congr (Ev.const rfl) fun k => if_neg Bool.false_ne_true
  ·have hback : IsReachedR u t = (decide (0 ≤ idxT (txs w' h' p'.1) t 0), true) := by
    unfold IsReachedR reToR
    rw [H'.all, if_pos rfl, if_pos hto, H'.place]
   rw [if_pos ⟨h2, by rw [hback]⟩, hback, H'.all]
   rcases hc with ⟨e, g1, g2⟩ | ⟨j, s, hs, g1, g2, e⟩
   ·have h4 : IsReachedR t u = (false, true) := by unfold IsReachedR; rw [e]; rfl
    rw [h4, e]
    exact Ev.congr (Ev.const rfl) fun k => (if_pos rfl).trans (if_neg (show ¬ (0 : Int) ≤ -1 by decide))
   ·have hj := (List.getElem?_eq_some_iff.1 hs).1
    have h4 : IsReachedR t u = (true, true) := by
     unfold IsReachedR
     rw [e]
     show (decide ((0 : Int) ≤ (j : Int)), true) = (true, true)
     rw [decide_eq_true (by omega)]
    rw [h4, e, ← reached_back H H' hs g1]
    refine Ev.congr (Ev.bind (f := fun _ (s : List Bool) => if 0 < s.length then some (rdOf false s 0, true) else none) (reFrom_ev H hj) (Ev.const ?_)) fun k => (if_pos rfl).trans (if_pos (show (0 : Int) ≤ (j : Int) by omega))
    have hl := b_from_len p.2 (p.2.length + 1) 0 ((List.replicate p.2.length false).set j true) [j]
    rw [List.length_set, List.length_replicate] at hl
    have hnl := H.nlen
    rw [if_pos (by rw [hl]; omega)]
    rfl
theorem lawAreMutual_ev (t : ByteArray) (u : ByteArray) : Ev (fun k => laws_FnExactAreMutual.f k t u) true := by
 by_cases ht : t.size ≤ 1048576
 case neg =>
  refine Ev.congr (Ev.const (o := some true) rfl) fun k => ?_
  unfold laws_FnExactAreMutual.f
  exact if_pos (by omega)
 by_cases hu : u.size ≤ 1048576
 case neg =>
  refine Ev.congr (Ev.const (o := some true) rfl) fun k => ?_
  unfold laws_FnExactAreMutual.f
  rw [if_neg (by omega)]
  exact if_pos (by omega)
 have hsp := specAreMutual_ev t u
 have him := implAreMutual_ev t u ht hu
 refine Ev.congr (Ev.bind (f := fun k (bt101 : Bool × Bool) => ((impl_AreMutual.f k t u).bind fun bt103 => (if (bt103.1 != bt101.1) = true then (some false) else (if (bt103.2 != bt101.2) = true then (some false) else (some true))))) hsp (Ev.bind (f := fun _ (bt103 : Bool × Bool) => (if (bt103.1 != (AreMutualR t u).1) = true then (some false) else (if (bt103.2 != (AreMutualR t u).2) = true then (some false) else (some true)))) him (Ev.const ?_))) fun k => by unfold laws_FnExactAreMutual.f; rw [if_neg (by omega), if_neg (by omega)]
 rw [bne_self_eq_false, if_neg (by decide), bne_self_eq_false, if_neg (by decide)]
end Go.Proofs.YtchkmhbngbgjnaaGreatDoor.Q
end
