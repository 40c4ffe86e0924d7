/- Texts of this claim, joined. -/
import Derived.Test.YtchjgphnglklcaaGreatDoorJWordToCell01
import Derived.Test.YtchjgphnglklcaaGreatDoorJWordToCell05
import Derived.Test.YtchjgphnglklcaaGreatDoorJWordToCell06
import Derived.Test.YtchjgphnglklcaaGreatDoorJWordToCell04
set_option linter.unusedVariables false
set_option linter.unusedSimpArgs false
set_option linter.unusedSectionVars false
section
namespace Go.Proofs.YtchjgphnglklcaaGreatDoor.Q
open Go.RowKit Go.Proofs.YtchjgphnglklcaaGreatDoorW.PrintWords Go.Proofs.YtchjgphnglklcaaGreatDoorW.PrintLast Go.Proofs.YtchjgphnglklcaaGreatDoorW.PrintMore
attribute [local go_sem] max2_int min2_int max_two min_two max_three min_three max_four min_four
set_option linter.unusedVariables false
set_option linter.unusedSimpArgs false
def impl_reachWith.f (k : Nat) (a0 : ByteArray) (a1 : ByteArray) : Option (List ByteArray × List Int × (List (List Int)) × List ByteArray × Bool) := (impl_cellOf.f k a0 a1).bind fun bt102 => (if bt102.2 = true then ((impl_reachOf.f k a0).bind fun bt104 => (some (bt104.1, bt104.2.1, bt104.2.2.1, bt104.2.2.2.1, bt104.2.2.2.2))) else (some (([] : List ByteArray), ([] : List Int), ([] : List (List Int)), ([] : List ByteArray), false)))
set_option maxHeartbeats 8000000 in
set_option maxRecDepth 100000 in
theorem impl_reachWith.calls (k : Nat) (a0 : ByteArray) (a1 : ByteArray) (r1 : List ByteArray) (r2 : List Int) (r3 : List (List Int)) (r4 : List ByteArray) (r5 : Bool) (w : World) (hG : GoodW w) (h : impl_reachWith.f k a0 a1 = some (r1, r2, r3, r4, r5)) :
  Calls Tryz.prog 21 #[.string a0, .string a1] w fun e w' => ∃ v0_ v1_ v2_ v3_ : Value, e = .returned (.tuple #[.agg #[v0_, v1_, v2_, v3_], .bool r5]) ∧ Kd.R Kd.string 9 w' w.heap.size (fun k_ => some k_ ≠ (v3_ : Value).ownBlock) v0_ r1 ∧ Kd.R (Kd.int .i64) 3 w' w.heap.size (fun _ => True) v1_ r2 ∧ Kd.S (Kd.slice 3 (Kd.int .i64)) 39 w' w.heap.size (fun k_ => some k_ ≠ (v1_ : Value).ownBlock) v2_ r3 ∧ Kd.R Kd.string 9 w' w.heap.size (fun k_ => some k_ ≠ (v0_ : Value).ownBlock) v3_ r4 ∧ Below w.heap.size w w' := by
 have hu46 := Tryz.underlying46;have HG := Aside0.mk hG;clear hG;have HB := Aside0.mk (Below.refl w.heap.size w);have H : ((impl_cellOf.f k a0 a1).bind fun bt102 => (if bt102.2 = true then ((impl_reachOf.f k a0).bind fun bt104 => (some (bt104.1, bt104.2.1, bt104.2.2.1, bt104.2.2.2.1, bt104.2.2.2.2))) else (some (([] : List ByteArray), ([] : List Int), ([] : List (List Int)), ([] : List ByteArray), false)))) = some (r1, r2, r3, r4, r5) := h;clear h;replace H := Option.bind_eq_some_iff.mp H;obtain ⟨⟨t102, t103⟩, A30, H⟩ := H;replace H : (if t103 = true then ((impl_reachOf.f k a0).bind fun bt104 => (some (bt104.1, bt104.2.1, bt104.2.2.1, bt104.2.2.2.1, bt104.2.2.2.2))) else (some (([] : List ByteArray), ([] : List Int), ([] : List (List Int)), ([] : List ByteArray), false))) = some (r1, r2, r3, r4, r5) := H;have A3 := Aside0.mk A30;clear A30
 by_cases c4 : t103 = true
 ·subst c4
  have H1 : ((impl_reachOf.f k a0).bind fun bt104 => (some (bt104.1, bt104.2.1, bt104.2.2.1, bt104.2.2.2.1, bt104.2.2.2.2))) = some (r1, r2, r3, r4, r5) := by rw [if_pos rfl] at H; exact H
  clear H;have H := H1;clear H1;replace H := Option.bind_eq_some_iff.mp H;obtain ⟨⟨t104, t107, t110, t113, t116⟩, A50, H⟩ := H;replace H : (some (t104, t107, t110, t113, t116)) = some (r1, r2, r3, r4, r5) := H;have A5 := Aside0.mk A50;clear A50
  simp only [Option.some.injEq, Prod.mk.injEq] at H
  obtain ⟨rfl, rfl, rfl, rfl, rfl⟩ := H
  go_enter Tryz.func21, Tryz.ntmps21
  go_wp2_with (first | ((with_reducible refine gate_dst (N := 4) rfl ?_); refine boxE (N := 4) (cs := #[.slice none 0 0, .slice none 0 0, .slice none 0 0, .slice none 0 0]) (t := 46) ?_; intro gb101 hg w6 hbox hb; have n0_ := Aside0.mk (below_step (bel HB) hb); have n1_ := Aside0.mk (hbox); have n2_ := Aside0.mk (gsz hg (bel HB)); have n3_ := Aside0.mk (gsz hg (bel HB)); clear HB; have HB := n0_; have BK101 := n1_; have GW101 := n2_; have GE101 := n3_; clear n0_ n1_ n2_ n3_; clear hb hbox hg) | ((with_reducible refine gate_callee (f := 34) rfl ?_); refine gcall (some 11) Tryz.func34 #[.string a0, .string a1] rfl ?_; (with_reducible refine (impl_cellOf.calls k a0 a1 t102 true _ ?side1 A3.out).mono ?_); (case side1 => (refine GoodW.below HG.out ?_); exact bel HB); rintro e w7 ⟨rfl, hb⟩; refine ⟨_, rfl, ?_⟩; have n0_ := Aside0.mk (blk_below (g := gb101) (o := .cells #[.slice none 0 0, .slice none 0 0, .slice none 0 0, .slice none 0 0] 46 (0, 0)) blc hb); have n1_ := Aside0.mk (below_step (bel HB) hb); clear BK101; clear HB; have BK101 := n0_; have HB := n1_; clear n0_ n1_; (try clear hb); (try clear hb2); (try clear hk); (try clear hi)) | ((with_reducible refine gate_callee (f := 26) rfl ?_); refine gcall (some 18) Tryz.func26 #[.string a0] rfl ?_; (with_reducible refine (impl_reachOf.calls k a0 t104 t107 t110 t113 t116 _ ?side1 A5.out).mono ?_); (case side1 => (refine GoodW.below HG.out ?_); exact bel HB); rintro e w8 ⟨v105, v108, v111, v114, rfl, ho0, ho1, ho2, ho3, hb⟩; refine ⟨_, rfl, ?_⟩; have n0_ := Aside0.mk (Kd.R_lower ho0 (below_size (bel HB))); have n1_ := Aside0.mk (Kd.R_lower ho1 (below_size (bel HB))); have n2_ := Aside0.mk (Kd.S_lower ho2 (below_size (bel HB))); have n3_ := Aside0.mk (Kd.R_lower ho3 (below_size (bel HB))); have n4_ := Aside0.mk (blk_below (g := gb101) (o := .cells #[.slice none 0 0, .slice none 0 0, .slice none 0 0, .slice none 0 0] 46 (0, 0)) blc hb); have n5_ := Aside0.mk (below_step (bel HB) hb); clear BK101; clear HB; have HO106 := n0_; have HO109 := n1_; have HO112 := n2_; have HO115 := n3_; have BK101 := n4_; have HB := n5_; clear n0_ n1_ n2_ n3_ n4_ n5_; (try clear hb); (try clear hb2); (try clear hk); (try clear hi); (try clear ho0); (try clear ho1); (try clear ho2); (try clear ho3); obtain ⟨Ao9, co9, eo9⟩ := Kd.R_slice HO106.out; subst eo9; have hcz10_0 : w8.cell? ⟨gb101, 0, none⟩ = some (.slice none 0 0) := (blk_cell BK101.out 0).trans rfl; have hcz10_1 : w8.cell? ⟨gb101, 1, none⟩ = some (.slice none 0 0) := (blk_cell BK101.out 1).trans rfl; have hcz10_2 : w8.cell? ⟨gb101, 2, none⟩ = some (.slice none 0 0) := (blk_cell BK101.out 2).trans rfl; have hcz10_3 : w8.cell? ⟨gb101, 3, none⟩ = some (.slice none 0 0) := (blk_cell BK101.out 3).trans rfl; have hfz10_0 := blk_frozen BK101.out 0; have hfz10_1 := blk_frozen BK101.out 1; have hfz10_2 := blk_frozen BK101.out 2; have hfz10_3 := blk_frozen BK101.out 3; obtain ⟨Ao11, co11, eo11⟩ := Kd.R_slice HO109.out; subst eo11; obtain ⟨Ao12, co12, eo12⟩ := Kd.S_slice HO112.out; subst eo12; obtain ⟨Ao13, co13, eo13⟩ := Kd.R_slice HO115.out; subst eo13))
  refine bodyPost_ret (results_ct rfl _ _ gb101 46 #[.slice Ao9 t104.length co9, .slice Ao11 t107.length co11, .slice Ao12 t110.length co12, .slice Ao13 t113.length co13] (0, 0) _ rfl (by (with_reducible repeat (first | refine blk_drewN ?_ _ | refine blk_drew ?_ | refine blk_alloc ?_ _)); refine blk_put (cs := #[.slice Ao9 t104.length co9, .slice Ao11 t107.length co11, .slice Ao12 t110.length co12, .slice none 0 0]) ?_ 3 _ rfl; (with_reducible repeat (first | refine blk_drewN ?_ _ | refine blk_drew ?_ | refine blk_alloc ?_ _)); refine blk_put (cs := #[.slice Ao9 t104.length co9, .slice Ao11 t107.length co11, .slice none 0 0, .slice none 0 0]) ?_ 2 _ rfl; (with_reducible repeat (first | refine blk_drewN ?_ _ | refine blk_drew ?_ | refine blk_alloc ?_ _)); refine blk_put (cs := #[.slice Ao9 t104.length co9, .slice none 0 0, .slice none 0 0, .slice none 0 0]) ?_ 1 _ rfl; (with_reducible repeat (first | refine blk_drewN ?_ _ | refine blk_drew ?_ | refine blk_alloc ?_ _)); refine blk_put (cs := #[.slice none 0 0, .slice none 0 0, .slice none 0 0, .slice none 0 0]) ?_ 0 _ rfl; exact blc) Tryz.underlying46 rfl (by kernel_rfl)) rfl ?_
  exact ⟨_, _, _, _, by first | rfl | (simp [errW_none, errW_some] <;> rfl) | (simp [*, errW_none, errW_some] <;> rfl), by (with_reducible repeat (first | apply Kd.R_alloc | apply Kd.R_drewN | apply Kd.R_drew)); exact Kd.R_mono (Kd.R_far (p := ⟨gb101, 3, none⟩) (Kd.R_far (p := ⟨gb101, 2, none⟩) (Kd.R_far (p := ⟨gb101, 1, none⟩) (Kd.R_far (p := ⟨gb101, 0, none⟩) (Kd.R_types HO106.out BK101.out (by decide)) (fun _ hk => hk.2) (.slice Ao9 t104.length co9)) (fun _ hk => hk.2) (.slice Ao11 t107.length co11)) (fun _ hk => hk.2) (.slice Ao12 t110.length co12)) (fun _ hk => hk.2) (.slice Ao13 t113.length co13)) (fun _ hk => hk.1), by (with_reducible repeat (first | apply Kd.R_alloc | apply Kd.R_drewN | apply Kd.R_drew)); exact Kd.R_mono (Kd.R_far (p := ⟨gb101, 3, none⟩) (Kd.R_far (p := ⟨gb101, 2, none⟩) (Kd.R_far (p := ⟨gb101, 1, none⟩) (Kd.R_far (p := ⟨gb101, 0, none⟩) (Kd.R_types HO109.out BK101.out (by decide)) (fun _ hk => hk.2) (.slice Ao9 t104.length co9)) (fun _ hk => hk.2) (.slice Ao11 t107.length co11)) (fun _ hk => hk.2) (.slice Ao12 t110.length co12)) (fun _ hk => hk.2) (.slice Ao13 t113.length co13)) (fun _ hk => trivial), by (with_reducible repeat (first | apply Kd.S_alloc | apply Kd.S_drewN | apply Kd.S_drew)); exact Kd.S_mono (Kd.S_far (p := ⟨gb101, 3, none⟩) (Kd.S_far (p := ⟨gb101, 2, none⟩) (Kd.S_far (p := ⟨gb101, 1, none⟩) (Kd.S_far (p := ⟨gb101, 0, none⟩) (Kd.S_types HO112.out BK101.out (by decide)) (fun _ hk => hk.2) (.slice Ao9 t104.length co9)) (fun _ hk => hk.2) (.slice Ao11 t107.length co11)) (fun _ hk => hk.2) (.slice Ao12 t110.length co12)) (fun _ hk => hk.2) (.slice Ao13 t113.length co13)) (fun _ hk => hk.1), by (with_reducible repeat (first | apply Kd.R_alloc | apply Kd.R_drewN | apply Kd.R_drew)); exact Kd.R_mono (Kd.R_far (p := ⟨gb101, 3, none⟩) (Kd.R_far (p := ⟨gb101, 2, none⟩) (Kd.R_far (p := ⟨gb101, 1, none⟩) (Kd.R_far (p := ⟨gb101, 0, none⟩) (Kd.R_types HO115.out BK101.out (by decide)) (fun _ hk => hk.2) (.slice Ao9 t104.length co9)) (fun _ hk => hk.2) (.slice Ao11 t107.length co11)) (fun _ hk => hk.2) (.slice Ao12 t110.length co12)) (fun _ hk => hk.2) (.slice Ao13 t113.length co13)) (fun _ hk => hk.1), bel HB⟩
 ·replace c4 := Bool.eq_false_iff.mpr c4
  subst c4
  have H1 : (some (([] : List ByteArray), ([] : List Int), ([] : List (List Int)), ([] : List ByteArray), false)) = some (r1, r2, r3, r4, r5) := by rw [if_neg (show ¬ (false = true) by decide)] at H; exact H
  clear H;have H := H1;clear H1
  simp only [Option.some.injEq, Prod.mk.injEq] at H
  obtain ⟨rfl, rfl, rfl, rfl, rfl⟩ := H
  go_enter Tryz.func21, Tryz.ntmps21
  go_wp2_with (first | ((with_reducible refine gate_dst (N := 4) rfl ?_); refine boxE (N := 4) (cs := #[.slice none 0 0, .slice none 0 0, .slice none 0 0, .slice none 0 0]) (t := 46) ?_; intro gb101 hg w14 hbox hb; have n0_ := Aside0.mk (below_step (bel HB) hb); have n1_ := Aside0.mk (hbox); have n2_ := Aside0.mk (gsz hg (bel HB)); have n3_ := Aside0.mk (gsz hg (bel HB)); clear HB; have HB := n0_; have BK101 := n1_; have GW101 := n2_; have GE101 := n3_; clear n0_ n1_ n2_ n3_; clear hb hbox hg) | ((with_reducible refine gate_callee (f := 34) rfl ?_); refine gcall (some 11) Tryz.func34 #[.string a0, .string a1] rfl ?_; (with_reducible refine (impl_cellOf.calls k a0 a1 t102 false _ ?side1 A3.out).mono ?_); (case side1 => (refine GoodW.below HG.out ?_); exact bel HB); rintro e w15 ⟨rfl, hb⟩; refine ⟨_, rfl, ?_⟩; have n0_ := Aside0.mk (blk_below (g := gb101) (o := .cells #[.slice none 0 0, .slice none 0 0, .slice none 0 0, .slice none 0 0] 46 (0, 0)) blc hb); have n1_ := Aside0.mk (below_step (bel HB) hb); clear BK101; clear HB; have BK101 := n0_; have HB := n1_; clear n0_ n1_; (try clear hb); (try clear hb2); (try clear hk); (try clear hi); have hcz16_0 : w15.cell? ⟨gb101, 0, none⟩ = some (.slice none 0 0) := (blk_cell BK101.out 0).trans rfl; have hcz16_1 : w15.cell? ⟨gb101, 1, none⟩ = some (.slice none 0 0) := (blk_cell BK101.out 1).trans rfl; have hcz16_2 : w15.cell? ⟨gb101, 2, none⟩ = some (.slice none 0 0) := (blk_cell BK101.out 2).trans rfl; have hcz16_3 : w15.cell? ⟨gb101, 3, none⟩ = some (.slice none 0 0) := (blk_cell BK101.out 3).trans rfl; have hfz16_0 := blk_frozen BK101.out 0; have hfz16_1 := blk_frozen BK101.out 1; have hfz16_2 := blk_frozen BK101.out 2; have hfz16_3 := blk_frozen BK101.out 3))
  refine bodyPost_ret (results_ct rfl _ _ gb101 46 #[.slice none 0 0, .slice none 0 0, .slice none 0 0, .slice none 0 0] (0, 0) _ rfl (by (with_reducible repeat (first | refine blk_drewN ?_ _ | refine blk_drew ?_ | refine blk_alloc ?_ _)); refine blk_put (cs := #[.slice none 0 0, .slice none 0 0, .slice none 0 0, .slice none 0 0]) ?_ 3 _ rfl; (with_reducible repeat (first | refine blk_drewN ?_ _ | refine blk_drew ?_ | refine blk_alloc ?_ _)); refine blk_put (cs := #[.slice none 0 0, .slice none 0 0, .slice none 0 0, .slice none 0 0]) ?_ 2 _ rfl; (with_reducible repeat (first | refine blk_drewN ?_ _ | refine blk_drew ?_ | refine blk_alloc ?_ _)); refine blk_put (cs := #[.slice none 0 0, .slice none 0 0, .slice none 0 0, .slice none 0 0]) ?_ 1 _ rfl; (with_reducible repeat (first | refine blk_drewN ?_ _ | refine blk_drew ?_ | refine blk_alloc ?_ _)); refine blk_put (cs := #[.slice none 0 0, .slice none 0 0, .slice none 0 0, .slice none 0 0]) ?_ 0 _ rfl; exact blc) Tryz.underlying46 rfl (by kernel_rfl)) rfl ?_
  exact ⟨_, _, _, _, by first | rfl | (simp [errW_none, errW_some] <;> rfl) | (simp [*, errW_none, errW_some] <;> rfl), by first | exact Kd.R_nil _ _ _ _ _ | exact Kd.N_nil _ _ _ _ _ | exact Kd.V_nil _ _ _ _ _ | exact Kd.Q_nil _ _ _ _ _ | exact Kd.S_nil _ _ _ _ _, by first | exact Kd.R_nil _ _ _ _ _ | exact Kd.N_nil _ _ _ _ _ | exact Kd.V_nil _ _ _ _ _ | exact Kd.Q_nil _ _ _ _ _ | exact Kd.S_nil _ _ _ _ _, by first | exact Kd.S_nil _ _ _ _ _ | exact Kd.N_nil _ _ _ _ _ | exact Kd.V_nil _ _ _ _ _ | exact Kd.Q_nil _ _ _ _ _ | exact Kd.R_nil _ _ _ _ _, by first | exact Kd.R_nil _ _ _ _ _ | exact Kd.N_nil _ _ _ _ _ | exact Kd.V_nil _ _ _ _ _ | exact Kd.Q_nil _ _ _ _ _ | exact Kd.S_nil _ _ _ _ _, bel HB⟩
end Go.Proofs.YtchjgphnglklcaaGreatDoor.Q
end
section
namespace Go.Proofs.YtchjgphnglklcaaGreatDoor.Q
open Go.RowKit Go.Proofs.YtchjgphnglklcaaGreatDoorW.PrintWords Go.Proofs.YtchjgphnglklcaaGreatDoorW.PrintLast Go.Proofs.YtchjgphnglklcaaGreatDoorW.PrintMore
attribute [local go_sem] max2_int min2_int max_two min_two max_three min_three max_four min_four
set_option linter.unusedVariables false
set_option linter.unusedSimpArgs false
def spec_reName.f (a0 : ByteArray) : Option (Bool) := if (a0.size : Int) = 1 then (if 0 < (a0.size : Int) then (if (bt a0 0) ≥ 97 then (some (decide ((bt a0 0) ≤ 102))) else (some false)) else (none)) else (some false)
set_option maxHeartbeats 8000000 in
set_option maxRecDepth 100000 in
theorem spec_reName.calls (a0 : ByteArray) (r : Bool) (w : World) (h : spec_reName.f a0 = some r) :
  Calls Tryz.prog 31 #[.string a0] w fun e w' => e = .returned (.bool r) ∧ Drawn0 w w' := by
 have H : (if (a0.size : Int) = 1 then (if 0 < (a0.size : Int) then (if (bt a0 0) ≥ 97 then (some (decide ((bt a0 0) ≤ 102))) else (some false)) else (none)) else (some false)) = some r := h;clear h
 by_cases c2 : (a0.size : Int) = 1
 ·rw [if_pos c2] at H
  have c2b0 : ((a0.size : Int) == 1) = true := beq_iff_eq.mpr c2;have c2b1 : ((a0.size : Int) != 1) = false := bne_eq_false_iff_eq.mpr c2;clear c2
  by_cases c3 : 0 < (a0.size : Int)
  ·rw [if_pos c3] at H
   have c3b0 : decide (0 < (a0.size : Int)) = true := decide_eq_true c3;have c3b1 : decide (0 < a0.size) = true := decide_eq_true (by omega);clear c3
   by_cases c5 : (bt a0 0) ≥ 97
   ·rw [if_pos c5] at H
    have c5b0 : decide (97 ≤ (bt a0 0)) = true := decide_eq_true c5;clear c5;obtain rfl := Option.some.inj H;have p4 : 0 ≤ (0 : Int) := (by omega);have q4 : 0 < a0.size := (by have : (0 : Int) < (a0.size : Int) := of_decide_eq_true (by first | (with_reducible assumption) | assumption); omega);have hx4 : ∀ h : 0 < a0.size, ((a0[0]'h).toNat : Int) = bt a0 0 := bt_at a0 0;clear p4;have qi4 : (0 < (a0.size : Int)) = True := eq_true (of_decide_eq_true (by first | (with_reducible assumption) | assumption));replace q4 := eq_true q4;have p6 : 0 ≤ (0 : Int) := (by omega);have q6 : 0 < a0.size := (by have : (0 : Int) < (a0.size : Int) := of_decide_eq_true (by first | (with_reducible assumption) | assumption); omega);have hx6 : ∀ h : 0 < a0.size, ((a0[0]'h).toNat : Int) = bt a0 0 := bt_at a0 0;clear p6;have qi6 : (0 < (a0.size : Int)) = True := eq_true (of_decide_eq_true (by first | (with_reducible assumption) | assumption));replace q6 := eq_true q6
    go_enter Tryz.func31, Tryz.ntmps31
    go_wp2
    go_ret
    exact ⟨by first | rfl | (simp; done) | (simp [*]; done), by repeat (first | exact Drawn0.refl _ | apply Drawn0.step)⟩
   ·rw [if_neg c5] at H
    have c5b0 : decide (97 ≤ (bt a0 0)) = false := decide_eq_false c5;clear c5;obtain rfl := Option.some.inj H;have p4 : 0 ≤ (0 : Int) := (by omega);have q4 : 0 < a0.size := (by have : (0 : Int) < (a0.size : Int) := of_decide_eq_true (by first | (with_reducible assumption) | assumption); omega);have hx4 : ∀ h : 0 < a0.size, ((a0[0]'h).toNat : Int) = bt a0 0 := bt_at a0 0;clear p4;have qi4 : (0 < (a0.size : Int)) = True := eq_true (of_decide_eq_true (by first | (with_reducible assumption) | assumption));replace q4 := eq_true q4
    go_enter Tryz.func31, Tryz.ntmps31
    go_wp2
    go_ret
    exact ⟨by first | rfl | (simp; done) | (simp [*]; done), by repeat (first | exact Drawn0.refl _ | apply Drawn0.step)⟩
  ·rw [if_neg c3] at H
   exact absurd H (by simp)
 ·rw [if_neg c2] at H
  have c2b0 : ((a0.size : Int) == 1) = false := beq_eq_false_iff_ne.mpr c2;have c2b1 : ((a0.size : Int) != 1) = true := bne_iff_ne.mpr c2;obtain rfl := Option.some.inj H
  go_enter Tryz.func31, Tryz.ntmps31
  go_wp2
  go_ret
  exact ⟨by first | rfl | (simp; done) | (simp [*]; done), by repeat (first | exact Drawn0.refl _ | apply Drawn0.step)⟩
end Go.Proofs.YtchjgphnglklcaaGreatDoor.Q
end
section
namespace Go.Proofs.YtchjgphnglklcaaGreatDoor.Q
set_option linter.unusedSectionVars false
set_option linter.unusedSimpArgs false
open Go.RowKit Go.Proofs.YtchjgphnglklcaaGreatDoorW.PrintWords Go.Proofs.YtchjgphnglklcaaGreatDoorW.PrintLast Go.Proofs.YtchjgphnglklcaaGreatDoorW.PrintMore
def spec_reBall.f (k : Nat) (t s : ByteArray) : Option (List Zs × Bool) := (spec_tyRead.f k t).bind fun g => if g.2.2.2 = true then (spec_reName.f s).bind fun b => if b = true then (if 0 < s.size then (spec_tiPlace.f k g.1 g.2.1 g.2.2.1 (bt s 0)).bind fun p => if p < 0 then some ([], false) else spec_reAll.f k t else none) else some ([], false) else some ([], false)
theorem name_quiet {s : ByteArray} {b : Bool} (h : spec_reName.f s = some b) (w : World) (n : Nat) : Calls Tryz.prog 31 #[.string s] (w.drewN n) fun e w'' => e = .returned (.bool b) ∧ ∃ m, w'' = w.drewN m :=
 Calls.quiet_of ((spec_reName.calls s b (w.drewN n) h).mono fun _ _ h => ⟨h.1, h.2.out⟩)
set_option maxHeartbeats 16000000 in
set_option maxRecDepth 100000 in
theorem spec_reBall.calls (k : Nat) (a0 a1 : ByteArray) (r1 : List Zs) (r2 : Bool) (w : World) (h : spec_reBall.f k a0 a1 = some (r1, r2)) :
  Calls Tryz.prog 18 #[.string a0, .string a1] w fun e w' => ∃ (A : Option Addr) (c : Nat), e = .returned (.tuple #[.slice A r1.length c, .bool r2]) ∧ r1.length ≤ c ∧ r1.length ≤ 300 ∧ StC w' A r1 ∧ Below w.heap.size w w' := by
 unfold spec_reBall.f at h;obtain ⟨⟨gw, gh, gc, gok⟩, ht, h⟩ := Option.bind_eq_some_iff.1 h;have HT := Aside0.mk ht;clear ht
 cases gok with
 | false =>
  rw [if_neg Bool.false_ne_true] at h
  simp only [Option.some.injEq, Prod.mk.injEq] at h
  obtain ⟨rfl, rfl⟩ := h
  go_enter Tryz.func18, Tryz.ntmps18
  go_wp2_with (first
   | (go_at_call 30; refine (spec_tyRead.calls k a0 gw gh gc false _ HT.out).mono ?_; rintro e w1 ⟨v1, rfl, ho1, hb1⟩; (have HB1 := Aside0.mk hb1); (obtain ⟨A1, c1, e1⟩ := Kd.R_slice ho1); subst e1; clear ho1 hb1))
  have HB2 := Aside0.mk (below_alloc HB1.out (.cells #[.int .i64 gw, .int .i64 gh, .slice A1 gc.length c1] 38));generalize w1.alloc (.cells #[.int .i64 gw, .int .i64 gh, .slice A1 gc.length c1] 38) = w2 at HB2 ⊢
  go_quiet (fail)
  go_wp2
  go_ret2
  exact ⟨none, 0, rfl, Nat.le_refl _, Nat.zero_le _, StC.nil _ _, pw_below_drewN HB2.out nq⟩
 | true =>
  rw [if_pos rfl] at h
  obtain ⟨b, hb, h⟩ := Option.bind_eq_some_iff.1 h;have HN := Aside0.mk hb;clear hb
  cases b with
  | false =>
   rw [if_neg Bool.false_ne_true] at h
   simp only [Option.some.injEq, Prod.mk.injEq] at h
   obtain ⟨rfl, rfl⟩ := h
   go_enter Tryz.func18, Tryz.ntmps18
   go_wp2_with (first
    | (go_at_call 30; refine (spec_tyRead.calls k a0 gw gh gc true _ HT.out).mono ?_; rintro e w1 ⟨v1, rfl, ho1, hb1⟩; (have HB1 := Aside0.mk hb1); (obtain ⟨A1, c1, e1⟩ := Kd.R_slice ho1); subst e1; clear ho1 hb1))
   have HB2 := Aside0.mk (below_alloc HB1.out (.cells #[.int .i64 gw, .int .i64 gh, .slice A1 gc.length c1] 38));generalize w1.alloc (.cells #[.int .i64 gw, .int .i64 gh, .slice A1 gc.length c1] 38) = w2 at HB2 ⊢
   go_quiet (exact name_quiet HN.out _ _)
   go_wp2
   go_ret2
   exact ⟨none, 0, rfl, Nat.le_refl _, Nat.zero_le _, StC.nil _ _, pw_below_drewN HB2.out nq⟩
  | true =>
   rw [if_pos rfl] at h
   split at h
   case isFalse => cases h
   rename_i hsz
   obtain ⟨p, hp, h⟩ := Option.bind_eq_some_iff.1 h;have HP := Aside0.mk hp;have q4 : 0 < a1.size := hsz;have hx4 : ∀ h : 0 < a1.size, ((a1[0]'h).toNat : Int) = bt a1 0 := bt_at a1 0;have qi4 : (0 < (a1.size : Int)) = True := eq_true (by omega);clear hp
   by_cases hn : p < 0
   ·have c4 : decide (p < 0) = true := decide_eq_true hn
    rw [if_pos hn] at h
    simp only [Option.some.injEq, Prod.mk.injEq] at h
    obtain ⟨rfl, rfl⟩ := h;clear hn hsz
    go_enter Tryz.func18, Tryz.ntmps18
    go_wp2_with (first
     | (go_at_call 30; refine (spec_tyRead.calls k a0 gw gh gc true _ HT.out).mono ?_; rintro e w1 ⟨v1, rfl, ho1, hb1⟩; (have HB1 := Aside0.mk hb1); (obtain ⟨A1, c1, e1⟩ := Kd.R_slice ho1); subst e1; (have HO1 := Aside0.mk ho1); clear ho1 hb1))
    have HB2 := Aside0.mk (below_alloc HB1.out (.cells #[.int .i64 gw, .int .i64 gh, .slice A1 gc.length c1] 38));have HO2 := Aside0.mk (Kd.R_below HO1.out (below_alloc (Below.refl _ w1) (.cells #[.int .i64 gw, .int .i64 gh, .slice A1 gc.length c1] 38)));have hbk := World.alloc_heap_new w1 (.cells #[.int .i64 gw, .int .i64 gh, .slice A1 gc.length c1] 38);generalize w1.alloc (.cells #[.int .i64 gw, .int .i64 gh, .slice A1 gc.length c1] 38) = w2 at HB2 HO2 hbk ⊢;generalize w1.heap.size = go at hbk ⊢;have y0 := (blk_cell hbk 0).trans rfl;have y1 := (blk_cell hbk 1).trans rfl;have y2 := (blk_cell hbk 2).trans rfl
    go_region_with (first | (refine (spec_reName.calls a1 true _ HN.out).mono ?_; rintro e w3 ⟨rfl, ⟨m3, rfl⟩⟩) | (refine (spec_tiPlace.calls k gw gh A1 c1 gc (bt a1 0) p _ (Kd.C_below (Kd.R_reads' HO2.out).2.2 (pw_below_drewN (Below.refl _ _) _)) (Kd.R_reads' HO2.out).2.1 HP.out).mono ?_; rintro e w4 ⟨rfl, hb4⟩))
    all_goals
     have HB4 := Aside0.mk (below_then (pw_below_drewN HB2.out _) (pw_below_drewN HB2.out _).size hb4);clear hb4
     go_wp2
     go_ret2
     exact ⟨none, 0, rfl, Nat.le_refl _, Nat.zero_le _, StC.nil _ _, by first | exact HB4.out | exact pw_below_drewN HB4.out _⟩
   ·have c4 : decide (p < 0) = false := decide_eq_false hn
    rw [if_neg hn] at h
    have HRA := Aside0.mk h;clear hn hsz h
    go_enter Tryz.func18, Tryz.ntmps18
    go_wp2_with (first
     | (go_at_call 30; refine (spec_tyRead.calls k a0 gw gh gc true _ HT.out).mono ?_; rintro e w1 ⟨v1, rfl, ho1, hb1⟩; (have HB1 := Aside0.mk hb1); (obtain ⟨A1, c1, e1⟩ := Kd.R_slice ho1); subst e1; (have HO1 := Aside0.mk ho1); clear ho1 hb1))
    have HB2 := Aside0.mk (below_alloc HB1.out (.cells #[.int .i64 gw, .int .i64 gh, .slice A1 gc.length c1] 38));have HO2 := Aside0.mk (Kd.R_below HO1.out (below_alloc (Below.refl _ w1) (.cells #[.int .i64 gw, .int .i64 gh, .slice A1 gc.length c1] 38)));have hbk := World.alloc_heap_new w1 (.cells #[.int .i64 gw, .int .i64 gh, .slice A1 gc.length c1] 38);generalize w1.alloc (.cells #[.int .i64 gw, .int .i64 gh, .slice A1 gc.length c1] 38) = w2 at HB2 HO2 hbk ⊢;generalize w1.heap.size = go at hbk ⊢;have y0 := (blk_cell hbk 0).trans rfl;have y1 := (blk_cell hbk 1).trans rfl;have y2 := (blk_cell hbk 2).trans rfl
    go_region_with (first | (refine (spec_reName.calls a1 true _ HN.out).mono ?_; rintro e w3 ⟨rfl, ⟨m3, rfl⟩⟩) | (refine (spec_tiPlace.calls k gw gh A1 c1 gc (bt a1 0) p _ (Kd.C_below (Kd.R_reads' HO2.out).2.2 (pw_below_drewN (Below.refl _ _) _)) (Kd.R_reads' HO2.out).2.1 HP.out).mono ?_; rintro e w4 ⟨rfl, hb4⟩))
    all_goals
     have HB4 := Aside0.mk (below_then (pw_below_drewN HB2.out _) (pw_below_drewN HB2.out _).size hb4);clear hb4
     go_wp2_with (first
      | (go_at_call 32; refine (spec_reAll.calls k a0 r1 r2 _ HRA.out).mono ?_; rintro e w6 ⟨A6, c6, rfl, hc6, hl6, hs6, hb6⟩; (have HC6 := Aside0.mk (show (r1.length ≤ c6 ∧ r1.length ≤ 300) ∧ StC w6 A6 r1 from ⟨⟨hc6, hl6⟩, hs6⟩)); (have HB6 := Aside0.mk hb6); clear hc6 hl6 hs6 hb6))
     go_ret2
     exact ⟨A6, c6, rfl, HC6.out.1.1, HC6.out.1.2, HC6.out.2, by first | exact below_then HB4.out HB4.out.size HB6.out | exact below_then (pw_below_drewN HB4.out _) (pw_below_drewN HB4.out _).size HB6.out⟩
def wtcZ (k : Nat) (cell c : Int) (L : List Zs) : List Zs → Nat → Option (ByteArray × Bool)
 | [], _ => some (⟨#[]⟩, false)
 | z :: R, i => (spec_tiPlace.f k z.w z.h z.cs c).bind fun p => if p = cell then (if z.far ≤ 40 then (reW k L i ⟨#[]⟩).bind fun wd => some (wd, true) else wtcZ k cell c L R (i + 1)) else wtcZ k cell c L R (i + 1)
def spec_WordToCell.f (k : Nat) (t s : ByteArray) (cell : Int) : Option (ByteArray × Bool) := (spec_reBall.f k t s).bind fun a => if a.2 = true then (if 0 < s.size then wtcZ k cell (bt s 0) a.1 a.1 0 else none) else some (⟨#[]⟩, false)
set_option maxHeartbeats 16000000 in
set_option maxRecDepth 100000 in
theorem spec_WordToCell.calls (k : Nat) (a0 a1 : ByteArray) (a2 : Int) (r1 : ByteArray) (r2 : Bool) (w : World) (h : spec_WordToCell.f k a0 a1 a2 = some (r1, r2)) :
  Calls Tryz.prog 8 #[.string a0, .string a1, .int .i64 a2] w fun e w' => e = .returned (.tuple #[.string r1, .bool r2]) ∧ Below w.heap.size w w' := by
 unfold spec_WordToCell.f at h;obtain ⟨⟨L, ok⟩, ha, h⟩ := Option.bind_eq_some_iff.1 h;have HA := Aside0.mk ha;clear ha
 cases ok with
 | false =>
  rw [if_neg Bool.false_ne_true] at h
  simp only [Option.some.injEq, Prod.mk.injEq] at h
  obtain ⟨rfl, rfl⟩ := h
  go_enter Tryz.func8, Tryz.ntmps8
  go_wp2_with (first
   | (go_at_call 18; refine (spec_reBall.calls k a0 a1 L false _ HA.out).mono ?_; rintro e w1 ⟨A1, c1, rfl, hc1, hl1, hs1, hb1⟩; (have HB1 := Aside0.mk hb1); clear hc1 hl1 hs1 hb1))
  go_ret2
  exact ⟨rfl, HB1.out⟩
 | true =>
  rw [if_pos rfl] at h
  split at h
  case isFalse => cases h
  rename_i hsz
  have H := Aside0.mk h;have q4 : 0 < a1.size := hsz;have hx4 : ∀ h : 0 < a1.size, ((a1[0]'h).toNat : Int) = bt a1 0 := bt_at a1 0;have qi4 : (0 < (a1.size : Int)) = True := eq_true (by omega);clear h hsz
  go_enter Tryz.func8, Tryz.ntmps8
  go_wp2_with (first
   | (go_at_call 18; refine (spec_reBall.calls k a0 a1 L true _ HA.out).mono ?_; rintro e w1 ⟨A1, c1, rfl, hc1, hl1, hs1, hb1⟩; (have HB1 := Aside0.mk hb1); (have HC1 := Aside0.mk (show L.length ≤ c1 ∧ L.length ≤ 300 from ⟨hc1, hl1⟩)); (have HS1 := Aside0.mk hs1); clear hc1 hl1 hs1 hb1))
  go_loopg [22] L.length (fun gg v22 wr => ∃ (i : Nat), v22 = .int .i64 i ∧ Aside0 ((i ≤ L.length ∧ L.length - i ≤ gg) ∧ wtcZ k a2 (bt a1 0) L (L.drop i) i = some (r1, r2)) ∧ Aside0 (Below w1.heap.size w1 wr))
  case atStart => exact ⟨0, by first | rfl | (simp; done), ⟨⟨Nat.zero_le _, Nat.le_refl _⟩, H.out⟩, ⟨Below.refl _ _⟩⟩
  case round =>
   clear H;obtain ⟨i, rfl, HA2, HB⟩ := hrel
   by_cases hli : i < L.length
   ·have c2 : decide ((i : Int) < (L.length : Int)) = true := decide_eq_true (by omega)
    have p1 : (0 ≤ (i : Int)) = True := eq_true (by omega);have p2 : ((i : Int) < (L.length : Int)) = True := eq_true (by omega);have hsp := HA2.out.2
    rw [(drop_zAt hli).1, wtcZ] at hsp
    obtain ⟨p, hp, hsp⟩ := Option.bind_eq_some_iff.1 hsp;have HP := Aside0.mk hp;have HGK := Aside0.mk (show L.length - i ≤ gk ∧ i < L.length from ⟨HA2.out.1.2, hli⟩);obtain ⟨ad, g, Ag, An, cg, cn, e1, x1, x2, hg, _⟩ := HS1.out.get hli
    cases e1
    have y1 := pw_cell_below HB.out x1;have y2 : wr.cell? ⟨g, 0, none⟩ = some (.int .i64 (zAt L i).w) := pw_cell_below HB.out ((blk_cell x2 0).trans rfl);have y3 : wr.cell? ⟨g, 1, none⟩ = some (.int .i64 (zAt L i).h) := pw_cell_below HB.out ((blk_cell x2 1).trans rfl);have y4 : wr.cell? ⟨g, 2, none⟩ = some (.slice Ag (zAt L i).cs.length cg) := pw_cell_below HB.out ((blk_cell x2 2).trans rfl);have HFA := Aside0.mk (show w1.cell? ⟨g, 4, none⟩ = some (.int .i64 (zAt L i).far) from (blk_cell x2 4).trans rfl);have HCG := Aside0.mk (show (zAt L i).cs.length ≤ cg ∧ Kd.C (Kd.int .u8) wr Ag (zAt L i).cs.length (zAt L i).cs from ⟨hg.1, Kd.C_below hg.2 HB.out⟩);clear HA2 hli hp x1 x2 hg;generalize zAt L i = z at hsp HP y2 y3 y4 HFA HCG
    by_cases hpc : p = a2
    ·have c5 : (p == a2) = true := beq_iff_eq.mpr hpc
     rw [if_pos hpc] at hsp
     have y5 := pw_cell_below HB.out HFA.out
     by_cases h40 : z.far ≤ 40
     ·have c6 : decide (z.far ≤ 40) = true := decide_eq_true h40
      rw [if_pos h40] at hsp
      obtain ⟨wd, hw, hsp⟩ := Option.bind_eq_some_iff.1 hsp
      simp only [Option.some.injEq, Prod.mk.injEq] at hsp
      obtain ⟨rfl, rfl⟩ := hsp;have HW := Aside0.mk hw;clear hw h40 hpc
      go_wp2_with fail
      go_region_with (first | (refine (spec_tiPlace.calls k z.w z.h Ag cg z.cs (bt a1 0) p _ (Kd.C_below HCG.out.2 (pw_below_drewN (Below.refl _ _) _)) HCG.out.1 HP.out).mono ?_; rintro e w4 ⟨rfl, hb4⟩; (have y6 := pw_cell_below hb4 y5)))
      all_goals
       have HB4 := Aside0.mk (below_then (pw_below_drewN HB.out _) (pw_below_drewN HB.out _).size hb4);clear hb4
       go_wp2_with (first
        | (go_at_call 20; refine (spec_reWord.calls k (some ad) c1 L i wd _ (by first | exact HS1.out.below HB4.out | exact HS1.out.below (pw_below_drewN HB4.out _)) HC1.out.1 HW.out).mono ?_; rintro e w5 ⟨rfl, ⟨m5, rfl⟩⟩))
       go_ret2
       exact ⟨rfl, by first | exact below_then HB1.out HB1.out.size (pw_below_drewN HB4.out _) | exact below_then HB1.out HB1.out.size (pw_below_drewN (pw_below_drewN HB4.out _) _)⟩
     ·have c6 : decide (z.far ≤ 40) = false := decide_eq_false h40
      rw [if_neg h40] at hsp
      have HN := Aside0.mk hsp;clear h40 hpc hsp
      go_wp2_with fail
      go_region_with (first | (refine (spec_tiPlace.calls k z.w z.h Ag cg z.cs (bt a1 0) p _ (Kd.C_below HCG.out.2 (pw_below_drewN (Below.refl _ _) _)) HCG.out.1 HP.out).mono ?_; rintro e w4 ⟨rfl, hb4⟩; (have y6 := pw_cell_below hb4 y5)))
      all_goals
       have HB4 := Aside0.mk (below_then (pw_below_drewN HB.out _) (pw_below_drewN HB.out _).size hb4);clear hb4
       go_wp2
       go_roundg (L.length - (i + 1))
       case measure => have := HGK.out; omega
       case rel => exact ⟨i + 1, by first | rfl | rw [wrap64_nat i (by have := HGK.out; have := HC1.out; omega)] | simp, ⟨⟨by have := HGK.out; omega, Nat.le_refl _⟩, HN.out⟩, ⟨by first | exact HB4.out | exact pw_below_drewN HB4.out _⟩⟩
    ·have c5 : (p == a2) = false := beq_eq_false_iff_ne.mpr hpc
     rw [if_neg hpc] at hsp
     have HN := Aside0.mk hsp;clear hpc hsp
     go_wp2_with fail
     refine start_ (n := 16) (S := fun w' => w'.cell? ⟨g, 0, none⟩ = some (.int .i64 z.w) ∧ w'.cell? ⟨g, 1, none⟩ = some (.int .i64 z.h) ∧ w'.cell? ⟨g, 2, none⟩ = some (.slice Ag z.cs.length cg)) (ds := []) #[false, false, false, false, false, false, false, false, false, false, false, false, false, false, false, false] (by kernel_rfl) rfl rfl ⟨y2, y3, y4⟩ (fun hHeld => ?_)
     refine pure_ (i := 0) (N := some 27) (v := ?_) (a' := ?_) #[true, false, false, false, false, false, false, false, false, false, false, false, false, false, false, false] rfl rfl (by kernel_rfl) (fun _ _ _ h => h) (Or.inl ⟨by rfl, ?_⟩) ?_ ?_
     rotate_left
     ·intro w'
      go_simp
      with_reducible rfl
     rotate_left
     ·simp only [Act.put, List.setIfInBounds_toArray, List.set_cons_zero, List.set_cons_succ, i64_w, i32_w]
      rfl
     refine pure_ (i := 1) (N := some 28) (v := ?_) (a' := ?_) #[true, true, false, false, false, false, false, false, false, false, false, false, false, false, false, false] rfl rfl (by kernel_rfl) (fun _ _ _ h => h) (Or.inl ⟨by rfl, ?_⟩) ?_ ?_
     rotate_left
     ·intro w'
      go_simp
      with_reducible rfl
     rotate_left
     ·simp only [Act.put, List.setIfInBounds_toArray, List.set_cons_zero, List.set_cons_succ, i64_w, i32_w]
      rfl
     refine pure_ (i := 2) (N := some 29) (v := ?_) (a' := ?_) #[true, true, true, false, false, false, false, false, false, false, false, false, false, false, false, false] rfl rfl (by kernel_rfl) (fun _ _ _ h => h) (Or.inl ⟨by rfl, ?_⟩) ?_ ?_
     rotate_left
     ·intro w'
      go_simp
      with_reducible rfl
     rotate_left
     ·simp only [Act.put, List.setIfInBounds_toArray, List.set_cons_zero, List.set_cons_succ, i64_w, i32_w]
      rfl
     refine pure_ (i := 4) (N := some 31) (v := ?_) (a' := ?_) #[true, true, true, false, true, false, false, false, false, false, false, false, false, false, false, false] rfl rfl (by kernel_rfl) (fun _ _ _ h => h) (Or.inl ⟨by rfl, ?_⟩) ?_ ?_
     rotate_left
     ·intro w'
      go_simp
      with_reducible rfl
     rotate_left
     ·simp only [Act.put, List.setIfInBounds_toArray, List.set_cons_zero, List.set_cons_succ, i64_w, i32_w]
      rfl
     refine pure_ (i := 7) (N := some 34) (v := ?_) (a' := ?_) #[true, true, true, false, true, false, false, true, false, false, false, false, false, false, false, false] rfl rfl (by kernel_rfl) (fun _ _ _ h => h) (Or.inl ⟨by rfl, ?_⟩) ?_ ?_
     rotate_left
     ·intro w'
      go_simp
      with_reducible rfl
     rotate_left
     ·simp only [Act.put, List.setIfInBounds_toArray, List.set_cons_zero, List.set_cons_succ, i64_w, i32_w]
      rfl
     refine take_ (i := 3) (N := some 30) (v := ?_) (a' := ?_) #[true, true, true, true, true, false, false, true, false, false, false, false, false, false, false, false] rfl rfl (by kernel_rfl) (fun _ _ _ h => h) (Or.inl ⟨by rfl, ?_⟩) hHeld ?_ ?_
     rotate_left
     ·rintro w' ⟨s0, s1, s2⟩
      go_simp
      with_reducible rfl
     rotate_left
     ·simp only [Act.put, List.setIfInBounds_toArray, List.set_cons_zero, List.set_cons_succ, i64_w, i32_w]
      rfl
     refine take_ (i := 5) (N := some 32) (v := ?_) (a' := ?_) #[true, true, true, true, true, true, false, true, false, false, false, false, false, false, false, false] rfl rfl (by kernel_rfl) (fun _ _ _ h => h) (Or.inl ⟨by rfl, ?_⟩) hHeld ?_ ?_
     rotate_left
     ·rintro w' ⟨s0, s1, s2⟩
      go_simp
      with_reducible rfl
     rotate_left
     ·simp only [Act.put, List.setIfInBounds_toArray, List.set_cons_zero, List.set_cons_succ, i64_w, i32_w]
      rfl
     refine one_ (i := 6) (N := some 33) #[true, true, true, true, true, true, true, true, false, false, false, false, false, false, false, false] rfl rfl (by kernel_rfl) (by decide) (fun K hK => ?_)
     refine goes_ Tryz.func19 (by kernel_rfl) rfl #[.agg #[.int .i64 z.w, .int .i64 z.h, .slice Ag z.cs.length cg], .int .u8 (bt a1 0)] (by rfl) rfl rfl (by simp only [List.map_toArray, List.map_cons, List.map_nil]; rfl) ?_
     with_reducible refine (spec_tiPlace.calls k z.w z.h Ag cg z.cs (bt a1 0) p _ (Kd.C_below HCG.out.2 (below_drew (Below.refl _ _))) HCG.out.1 HP.out).mono ?_
     rintro e w4 ⟨rfl, hb4⟩
     refine ⟨_, rfl, ?_⟩
     refine hK.out _ _ ⟨(pw_cell_below hb4 y2), (pw_cell_below hb4 y3), (pw_cell_below hb4 y4)⟩ (fun hHeld => ?_)
     clear hK K
     refine norm_ (a' := ?_) ?_ ?_
     rotate_left
     ·show Act.put _ (some 33) _ = _
      simp only [Act.put, List.setIfInBounds_toArray, List.set_cons_zero, List.set_cons_succ, i64_w, i32_w]
      rfl
     refine pure_ (i := 8) (N := some 35) (v := ?_) (a' := ?_) #[true, true, true, true, true, true, true, true, true, false, false, false, false, false, false, false] rfl rfl (by kernel_rfl) (fun _ _ _ h => h) (Or.inl ⟨by rfl, ?_⟩) ?_ ?_
     rotate_left
     ·intro w'
      go_simp
      with_reducible rfl
     rotate_left
     ·simp only [Act.put, List.setIfInBounds_toArray, List.set_cons_zero, List.set_cons_succ, i64_w, i32_w]
      rfl
     refine pure_ (i := 9) (N := some 36) (v := ?_) (a' := ?_) #[true, true, true, true, true, true, true, true, true, true, false, false, false, false, false, false] rfl rfl (by kernel_rfl) (fun _ _ _ h => h) (Or.inl ⟨by rfl, ?_⟩) ?_ ?_
     rotate_left
     ·intro w'
      go_simp
      with_reducible rfl
     rotate_left
     ·simp only [Act.put, List.setIfInBounds_toArray, List.set_cons_zero, List.set_cons_succ, i64_w, i32_w]
      rfl
     refine pure_ (i := 10) (N := some 37) (v := undef) (a' := ?_) #[true, true, true, true, true, true, true, true, true, true, true, false, false, false, false, false] rfl rfl (by kernel_rfl) (fun _ _ _ h => h) (Or.inr ⟨by rfl, rfl⟩) ?_ ?_
     rotate_left
     ·simp only [Act.put, List.setIfInBounds_toArray, List.set_cons_zero, List.set_cons_succ, i64_w, i32_w]
      rfl
     refine pure_ (i := 11) (N := some 38) (v := undef) (a' := ?_) #[true, true, true, true, true, true, true, true, true, true, true, true, false, false, false, false] rfl rfl (by kernel_rfl) (fun _ _ _ h => h) (Or.inr ⟨by rfl, rfl⟩) ?_ ?_
     rotate_left
     ·simp only [Act.put, List.setIfInBounds_toArray, List.set_cons_zero, List.set_cons_succ, i64_w, i32_w]
      rfl
     refine pure_ (i := 12) (N := some 39) (v := undef) (a' := ?_) #[true, true, true, true, true, true, true, true, true, true, true, true, true, false, false, false] rfl rfl (by kernel_rfl) (fun _ _ _ h => h) (Or.inr ⟨by rfl, rfl⟩) ?_ ?_
     rotate_left
     ·simp only [Act.put, List.setIfInBounds_toArray, List.set_cons_zero, List.set_cons_succ, i64_w, i32_w]
      rfl
     refine pure_ (i := 13) (N := some 40) (v := undef) (a' := ?_) #[true, true, true, true, true, true, true, true, true, true, true, true, true, true, false, false] rfl rfl (by kernel_rfl) (fun _ _ _ h => h) (Or.inr ⟨by rfl, rfl⟩) ?_ ?_
     rotate_left
     ·simp only [Act.put, List.setIfInBounds_toArray, List.set_cons_zero, List.set_cons_succ, i64_w, i32_w]
      rfl
     refine pure_ (i := 14) (N := some 41) (v := undef) (a' := ?_) #[true, true, true, true, true, true, true, true, true, true, true, true, true, true, true, false] rfl rfl (by kernel_rfl) (fun _ _ _ h => h) (Or.inr ⟨by rfl, rfl⟩) ?_ ?_
     rotate_left
     ·simp only [Act.put, List.setIfInBounds_toArray, List.set_cons_zero, List.set_cons_succ, i64_w, i32_w]
      rfl
     refine pure_ (i := 15) (N := some 42) (v := ?_) (a' := ?_) #[true, true, true, true, true, true, true, true, true, true, true, true, true, true, true, true] rfl rfl (by kernel_rfl) (fun _ _ _ h => h) (Or.inl ⟨by rfl, ?_⟩) ?_ ?_
     rotate_left
     ·intro w'
      go_simp
      with_reducible rfl
     rotate_left
     ·simp only [Act.put, List.setIfInBounds_toArray, List.set_cons_zero, List.set_cons_succ, i64_w, i32_w]
      rfl
     refine done_ (by kernel_rfl) ?_
     have HB4 := Aside0.mk (below_then (below_drew HB.out) (below_drew HB.out).size hb4);clear hb4
     go_wp2
     go_roundg (L.length - (i + 1))
     case measure => have := HGK.out; omega
     case rel => exact ⟨i + 1, by first | rfl | rw [wrap64_nat i (by have := HGK.out; have := HC1.out; omega)] | simp, ⟨⟨by have := HGK.out; omega, Nat.le_refl _⟩, HN.out⟩, ⟨by first | exact HB4.out | exact pw_below_drewN HB4.out _⟩⟩
   ·obtain rfl : i = L.length := by have := HA2.out.1.1; omega
    have c2 : decide ((L.length : Int) < (L.length : Int)) = false := decide_eq_false (by omega);have hsp := HA2.out.2
    rw [List.drop_length, wtcZ] at hsp
    simp only [Option.some.injEq, Prod.mk.injEq] at hsp
    obtain ⟨rfl, rfl⟩ := hsp;clear HA2 hli
    go_wp2
    go_ret2
    exact ⟨rfl, below_then HB1.out HB1.out.size HB.out⟩
end Go.Proofs.YtchjgphnglklcaaGreatDoor.Q
end
section
namespace Go.Proofs.YtchjgphnglklcaaGreatDoor.Q
open Go.RowKit Go.Proofs.YtchjgphnglklcaaGreatDoorW.PrintWords Go.Proofs.YtchjgphnglklcaaGreatDoorW.PrintLast Go.Proofs.YtchjgphnglklcaaGreatDoorW.PrintMore
attribute [local go_sem] max2_int min2_int max_two min_two max_three min_three max_four min_four
set_option linter.unusedVariables false
set_option linter.unusedSimpArgs false
def impl_WordToCell.j0 : Nat → ByteArray → Int → Bool → List ByteArray → List Int → List (List Int) → List ByteArray → Option (ByteArray × Bool)
 | 0, _, _, _, _, _, _, _ => none
 | k + 1, x1, x2, x25, x115000, x115001, x115002, x115003 => if x25 = true then (some ((⟨#[]⟩ : ByteArray), false)) else ((impl_reach_cells.f k x115000 x115001 x115002 x115003 x1).bind fun t119 => ((slices_Index_int_int.f k t119 x2).bind fun t122 => (if t122 < 0 then (some ((⟨#[]⟩ : ByteArray), false)) else (if 0 ≤ t122 then (if t122 < (x115001.length : Int) then (if (rd x115001 t122) > 40 then (some ((⟨#[]⟩ : ByteArray), false)) else (if t122 < (x115003.length : Int) then (some (rdOf ByteArray.empty x115003 t122, true)) else (none))) else (none)) else (none)))))
def impl_WordToCell.f (k : Nat) (a0 : ByteArray) (a1 : ByteArray) (a2 : Int) : Option (ByteArray × Bool) := (impl_reachWith.f k a0 a1).bind fun bt101 => (if bt101.2.2.2.2 = true then ((impl_isNumber.f k a0 (([a2] : List Int))).bind fun t118 => (impl_WordToCell.j0 k a1 a2 (!t118) bt101.1 bt101.2.1 bt101.2.2.1 bt101.2.2.2.1)) else (impl_WordToCell.j0 k a1 a2 true bt101.1 bt101.2.1 bt101.2.2.1 bt101.2.2.2.1))
set_option maxHeartbeats 8000000 in
set_option maxRecDepth 100000 in
theorem impl_WordToCell.calls (k : Nat) (a0 : ByteArray) (a1 : ByteArray) (a2 : Int) (r1 : ByteArray) (r2 : Bool) (w : World) (hG : GoodW w) (h : impl_WordToCell.f k a0 a1 a2 = some (r1, r2)) :
  Calls Tryz.prog 9 #[.string a0, .string a1, .int .i64 a2] w fun e w' => e = .returned (.tuple #[.string r1, .bool r2]) ∧ Below w.heap.size w w' := by
 have hu46 := Tryz.underlying46;have HG := Aside0.mk hG;clear hG;have HB := Aside0.mk (Below.refl w.heap.size w);have H : ((impl_reachWith.f k a0 a1).bind fun bt101 => (if bt101.2.2.2.2 = true then ((impl_isNumber.f k a0 (([a2] : List Int))).bind fun t118 => (impl_WordToCell.j0 k a1 a2 (!t118) bt101.1 bt101.2.1 bt101.2.2.1 bt101.2.2.2.1)) else (impl_WordToCell.j0 k a1 a2 true bt101.1 bt101.2.1 bt101.2.2.1 bt101.2.2.2.1))) = some (r1, r2) := h;clear h;replace H := Option.bind_eq_some_iff.mp H;obtain ⟨⟨t101, t104, t107, t110, t113⟩, A40, H⟩ := H;replace H : (if t113 = true then ((impl_isNumber.f k a0 (([a2] : List Int))).bind fun t118 => (impl_WordToCell.j0 k a1 a2 (!t118) t101 t104 t107 t110)) else (impl_WordToCell.j0 k a1 a2 true t101 t104 t107 t110)) = some (r1, r2) := H;have A4 := Aside0.mk A40;clear A40;have HC5 := Aside0.mk H;clear H
 go_enter Tryz.func9, Tryz.ntmps9
 go_upto_region 2 with (first | ((with_reducible refine gate_callee (f := 21) rfl ?_); refine gcall (some 14) Tryz.func21 #[.string a0, .string a1] rfl ?_; (with_reducible refine (impl_reachWith.calls k a0 a1 t101 t104 t107 t110 t113 _ ?side1 A4.out).mono ?_); (case side1 => (refine GoodW.below HG.out ?_); exact bel HB); rintro e w6 ⟨v102, v105, v108, v111, rfl, ho0, ho1, ho2, ho3, hb⟩; refine ⟨_, rfl, ?_⟩; have n0_ := Aside0.mk (Kd.R_lower ho0 (below_size (bel HB))); have n1_ := Aside0.mk (Kd.R_lower ho1 (below_size (bel HB))); have n2_ := Aside0.mk (Kd.S_lower ho2 (below_size (bel HB))); have n3_ := Aside0.mk (Kd.R_lower ho3 (below_size (bel HB))); have n4_ := Aside0.mk (below_step (bel HB) hb); clear HB; have HO103 := n0_; have HO106 := n1_; have HO109 := n2_; have HO112 := n3_; have HB := n4_; clear n0_ n1_ n2_ n3_ n4_; (try clear hb); (try clear hb2); (try clear hk); (try clear hi); (try clear ho0); (try clear ho1); (try clear ho2); (try clear ho3)) | ((with_reducible refine gate_dst (N := 8) rfl ?_); refine boxE (N := 8) (cs := #[.slice none 0 0, .slice none 0 0, .slice none 0 0, .slice none 0 0]) (t := 46) ?_; intro gb114 hg w7 hbox hb; have n0_ := Aside0.mk (Kd.R_below (rch HO103) hb); have n1_ := Aside0.mk (Kd.R_below (rch HO106) hb); have n2_ := Aside0.mk (Kd.S_below (by (with_reducible repeat (first | apply Kd.S_alloc | apply Kd.S_drewN | apply Kd.S_drew)); (first | exact HO109.out | exact R_any HO109.out)) hb); have n3_ := Aside0.mk (Kd.R_below (rch HO112) hb); have n4_ := Aside0.mk (below_step (bel HB) hb); have n5_ := Aside0.mk (hbox); have n6_ := Aside0.mk (gsz hg (bel HB)); have n7_ := Aside0.mk (gsz hg (bel HB)); clear HO103; clear HO106; clear HO109; clear HO112; clear HB; have HO103 := n0_; have HO106 := n1_; have HO109 := n2_; have HO112 := n3_; have HB := n4_; have BK114 := n5_; have GW114 := n6_; have GE114 := n7_; clear n0_ n1_ n2_ n3_ n4_ n5_ n6_ n7_; clear hb hbox hg; obtain ⟨Ao8, co8, eo8⟩ := Kd.R_slice HO103.out; subst eo8; have hcz9_0 : w7.cell? ⟨gb114, 0, none⟩ = some (.slice none 0 0) := (blk_cell BK114.out 0).trans rfl; have hcz9_1 : w7.cell? ⟨gb114, 1, none⟩ = some (.slice none 0 0) := (blk_cell BK114.out 1).trans rfl; have hcz9_2 : w7.cell? ⟨gb114, 2, none⟩ = some (.slice none 0 0) := (blk_cell BK114.out 2).trans rfl; have hcz9_3 : w7.cell? ⟨gb114, 3, none⟩ = some (.slice none 0 0) := (blk_cell BK114.out 3).trans rfl; have hfz9_0 := blk_frozen BK114.out 0; have hfz9_1 := blk_frozen BK114.out 1; have hfz9_2 := blk_frozen BK114.out 2; have hfz9_3 := blk_frozen BK114.out 3; obtain ⟨Ao10, co10, eo10⟩ := Kd.R_slice HO106.out; subst eo10; obtain ⟨Ao11, co11, eo11⟩ := Kd.S_slice HO109.out; subst eo11; obtain ⟨Ao12, co12, eo12⟩ := Kd.R_slice HO112.out; subst eo12))
 (try simp only [Act.put, List.setIfInBounds_toArray, List.set_cons_zero, List.set_cons_succ])
 go_cut [25] (fun v25 wc => ∃ (kq : Nat) (x25_4 : Bool), v25 = .bool x25_4 ∧ Aside0 (impl_WordToCell.j0 kq a1 a2 x25_4 t101 t104 t107 t110 = some (r1, r2)) ∧ Aside0 (kq ≤ k) ∧ Aside0 (Kd.R Kd.string 9 wc w.heap.size (fun k_ => some k_ ≠ ((.slice Ao12 t110.length co12) : Value).ownBlock) (.slice Ao8 t101.length co8) t101) ∧ Aside0 (Kd.R (Kd.int .i64) 3 wc w.heap.size (fun _ => True) (.slice Ao10 t104.length co10) t104) ∧ Aside0 (Kd.S (Kd.slice 3 (Kd.int .i64)) 39 wc w.heap.size (fun k_ => some k_ ≠ ((.slice Ao10 t104.length co10) : Value).ownBlock) (.slice Ao11 t107.length co11) t107) ∧ Aside0 (Kd.R Kd.string 9 wc w.heap.size (fun k_ => some k_ ≠ ((.slice Ao8 t101.length co8) : Value).ownBlock) (.slice Ao12 t110.length co12) t110) ∧ Aside0 (wc.heap[gb114]? = some (.cells #[(.slice Ao8 t101.length co8), (.slice Ao10 t104.length co10), (.slice Ao11 t107.length co11), (.slice Ao12 t110.length co12)] 46 (0, 0))) ∧ Aside0 (Below w.heap.size w wc))
 case first =>
  have H := HC5.out;clear HC5
  by_cases c13 : t113 = true
  ·subst c13
   have H1 : ((impl_isNumber.f k a0 (([a2] : List Int))).bind fun t118 => (impl_WordToCell.j0 k a1 a2 (!t118) t101 t104 t107 t110)) = some (r1, r2) := by rw [if_pos rfl] at H; exact H
   clear H;have H := H1;clear H1;obtain ⟨y115, hy115⟩ : ∃ y_ : List Int, y_ = (([a2] : List Int)) := ⟨_, rfl⟩;replace H : ((impl_isNumber.f k a0 y115).bind fun t118 => (impl_WordToCell.j0 k a1 a2 (!t118) t101 t104 t107 t110)) = some (r1, r2) := rH hy115 H;have Ny115 := Aside0.mk hy115;clear hy115;replace H := Option.bind_eq_some_iff.mp H;obtain ⟨t118, A140, H⟩ := H;replace H : (impl_WordToCell.j0 k a1 a2 (!t118) t101 t104 t107 t110) = some (r1, r2) := H;have A14 := Aside0.mk A140;clear A140;have H' := Aside0.mk H;clear H
   go_wp2_with (first | ((with_reducible refine gate_dst (N := 22) rfl ?_); refine R_litG (Kd.int .i64) _ 3 ?hg (N := 22) ?hd (xs := ([a2] : List Int)) (inner := [.int .i64 a2]) (ok := fun _ => True) (okp := fun _ => True) ?hr ?hp (fun _ hk => hk) trivial (Below.refl _ _) (Nat.le_refl _) (by simp) ?_; (case hd => rfl); (case hg => first | rfl | decide | (simp [Region.wanted, yielded]; done) | (go_simp; done)); (case hr => first | (go_simp; done) | (go_simp; rfl)); (case hp => exact (Reps.one (show Kd.M (Kd.int .i64) _ _ _ a2 [.int .i64 a2] from rfl) (Reps.none _ _))); intro v116 w15 ho16 hb hg_ hnew_; clear hg_ hnew_; (first | rw [← Ny115.out] at ho16 | (simp only [Int.reduceToNat] at ho16; rw [← Ny115.out] at ho16)); have n0_ := Aside0.mk (Kd.R_below (by (with_reducible repeat (first | apply Kd.R_alloc | apply Kd.R_drewN | apply Kd.R_drew)); exact (Kd.R_mono (Kd.R_far (p := ⟨gb114, 3, none⟩) (Kd.R_far (p := ⟨gb114, 2, none⟩) (Kd.R_far (p := ⟨gb114, 1, none⟩) (Kd.R_far (p := ⟨gb114, 0, none⟩) (Kd.R_types HO103.out BK114.out (by decide)) (fun _ hk => hk.2) (.slice Ao8 t101.length co8)) (fun _ hk => hk.2) (.slice Ao10 t104.length co10)) (fun _ hk => hk.2) (.slice Ao11 t107.length co11)) (fun _ hk => hk.2) (.slice Ao12 t110.length co12)) (fun _ h_ => h_.1))) hb); have n1_ := Aside0.mk (Kd.R_elder' (by (with_reducible repeat (first | apply Kd.R_alloc | apply Kd.R_drewN | apply Kd.R_drew)); exact (Kd.R_mono (Kd.R_far (p := ⟨gb114, 3, none⟩) (Kd.R_far (p := ⟨gb114, 2, none⟩) (Kd.R_far (p := ⟨gb114, 1, none⟩) (Kd.R_far (p := ⟨gb114, 0, none⟩) (Kd.R_types HO106.out BK114.out (by decide)) (fun _ hk => hk.2) (.slice Ao8 t101.length co8)) (fun _ hk => hk.2) (.slice Ao10 t104.length co10)) (fun _ hk => hk.2) (.slice Ao11 t107.length co11)) (fun _ hk => hk.2) (.slice Ao12 t110.length co12)) (fun _ h_ => h_.1))) (Kd.R_base ho16) hb); have n2_ := Aside0.mk (Kd.S_elder' (by (with_reducible repeat (first | apply Kd.S_alloc | apply Kd.S_drewN | apply Kd.S_drew)); exact (Kd.S_mono (Kd.S_far (p := ⟨gb114, 3, none⟩) (Kd.S_far (p := ⟨gb114, 2, none⟩) (Kd.S_far (p := ⟨gb114, 1, none⟩) (Kd.S_far (p := ⟨gb114, 0, none⟩) (Kd.S_types HO109.out BK114.out (by decide)) (fun _ hk => hk.2) (.slice Ao8 t101.length co8)) (fun _ hk => hk.2) (.slice Ao10 t104.length co10)) (fun _ hk => hk.2) (.slice Ao11 t107.length co11)) (fun _ hk => hk.2) (.slice Ao12 t110.length co12)) (fun _ h_ => h_.1))) (Kd.R_base ho16) hb); have n3_ := Aside0.mk (Kd.R_below (by (with_reducible repeat (first | apply Kd.R_alloc | apply Kd.R_drewN | apply Kd.R_drew)); exact (Kd.R_mono (Kd.R_far (p := ⟨gb114, 3, none⟩) (Kd.R_far (p := ⟨gb114, 2, none⟩) (Kd.R_far (p := ⟨gb114, 1, none⟩) (Kd.R_far (p := ⟨gb114, 0, none⟩) (Kd.R_types HO112.out BK114.out (by decide)) (fun _ hk => hk.2) (.slice Ao8 t101.length co8)) (fun _ hk => hk.2) (.slice Ao10 t104.length co10)) (fun _ hk => hk.2) (.slice Ao11 t107.length co11)) (fun _ hk => hk.2) (.slice Ao12 t110.length co12)) (fun _ h_ => h_.1))) hb); have n4_ := Aside0.mk (Kd.R_lower (Kd.R_new' ho16 (Kd.R_lt (by (with_reducible repeat (first | apply Kd.R_alloc | apply Kd.R_drewN | apply Kd.R_drew)); exact (Kd.R_mono (Kd.R_far (p := ⟨gb114, 3, none⟩) (Kd.R_far (p := ⟨gb114, 2, none⟩) (Kd.R_far (p := ⟨gb114, 1, none⟩) (Kd.R_far (p := ⟨gb114, 0, none⟩) (Kd.R_types HO106.out BK114.out (by decide)) (fun _ hk => hk.2) (.slice Ao8 t101.length co8)) (fun _ hk => hk.2) (.slice Ao10 t104.length co10)) (fun _ hk => hk.2) (.slice Ao11 t107.length co11)) (fun _ hk => hk.2) (.slice Ao12 t110.length co12)) (fun _ h_ => h_.1))))) (below_size (bel HB))); have n5_ := Aside0.mk (blk_below (g := gb114) (o := .cells #[.slice Ao8 t101.length co8, .slice Ao10 t104.length co10, .slice Ao11 t107.length co11, .slice Ao12 t110.length co12] 46 (0, 0)) (by (with_reducible repeat (first | refine blk_drewN ?_ _ | refine blk_drew ?_ | refine blk_alloc ?_ _)); refine blk_put (cs := #[.slice Ao8 t101.length co8, .slice Ao10 t104.length co10, .slice Ao11 t107.length co11, .slice none 0 0]) ?_ 3 _ rfl; (with_reducible repeat (first | refine blk_drewN ?_ _ | refine blk_drew ?_ | refine blk_alloc ?_ _)); refine blk_put (cs := #[.slice Ao8 t101.length co8, .slice Ao10 t104.length co10, .slice none 0 0, .slice none 0 0]) ?_ 2 _ rfl; (with_reducible repeat (first | refine blk_drewN ?_ _ | refine blk_drew ?_ | refine blk_alloc ?_ _)); refine blk_put (cs := #[.slice Ao8 t101.length co8, .slice none 0 0, .slice none 0 0, .slice none 0 0]) ?_ 1 _ rfl; (with_reducible repeat (first | refine blk_drewN ?_ _ | refine blk_drew ?_ | refine blk_alloc ?_ _)); refine blk_put (cs := #[.slice none 0 0, .slice none 0 0, .slice none 0 0, .slice none 0 0]) ?_ 0 _ rfl; exact blc) hb); have n6_ := Aside0.mk (below_step (bel HB) hb); clear HO103; clear HO106; clear HO109; clear HO112; clear BK114; clear HB; have HO103 := n0_; have HO106 := n1_; have HO109 := n2_; have HO112 := n3_; have HO117 := n4_; have BK114 := n5_; have HB := n6_; clear n0_ n1_ n2_ n3_ n4_ n5_ n6_; clear hb ho16; obtain ⟨Ao17, co17, eo17⟩ := Kd.R_slice HO117.out; subst eo17) | (go_at_call 22; (with_reducible refine (impl_isNumber.calls k a0 _ _ y115 t118 _ ?side1 ?side2 ?side3 A14.out).mono ?_); (case side1 => (refine GoodW.below HG.out ?_); exact bel HB); (case side2 => repeat (first | exact (Kd.R_reads' HO117.out).2.2 | (with_reducible refine Kd.C_alloc ?_ _) | (with_reducible refine Kd.C_drewN ?_ _) | (with_reducible refine Kd.C_drew ?_))); (case side3 => exact (Kd.R_reads' HO117.out).2.1); rintro e w18 ⟨rfl, hb⟩; have n0_ := Aside0.mk (Kd.R_below (rch HO103) hb); have n1_ := Aside0.mk (Kd.R_below (rch HO106) hb); have n2_ := Aside0.mk (Kd.S_below (by (with_reducible repeat (first | apply Kd.S_alloc | apply Kd.S_drewN | apply Kd.S_drew)); (first | exact HO109.out | exact R_any HO109.out)) hb); have n3_ := Aside0.mk (Kd.R_below (rch HO112) hb); have n4_ := Aside0.mk (Kd.R_below (rch HO117) hb); have n5_ := Aside0.mk (blk_below (g := gb114) (o := .cells #[.slice Ao8 t101.length co8, .slice Ao10 t104.length co10, .slice Ao11 t107.length co11, .slice Ao12 t110.length co12] 46 (0, 0)) blc hb); have n6_ := Aside0.mk (below_step (bel HB) hb); clear HO103; clear HO106; clear HO109; clear HO112; clear HO117; clear BK114; clear HB; have HO103 := n0_; have HO106 := n1_; have HO109 := n2_; have HO112 := n3_; have HO117 := n4_; have BK114 := n5_; have HB := n6_; clear n0_ n1_ n2_ n3_ n4_ n5_ n6_; (try clear hb); (try clear hb2); (try clear hk); (try clear hi)))
   go_meet
   case rel => exact ⟨_, (!t118), (by first | rfl | (simp; done) | (simp [*]; done)), H', ⟨by first | omega | exact Nat.le_refl _⟩, ⟨rch HO103⟩, ⟨by (with_reducible repeat (first | apply Kd.R_alloc | apply Kd.R_drewN | apply Kd.R_drew)); exact Kd.R_mono HO106.out (fun _ hk => trivial)⟩, ⟨by (with_reducible repeat (first | apply Kd.S_alloc | apply Kd.S_drewN | apply Kd.S_drew)); exact Kd.S_mono HO109.out (fun _ hk => hk.1)⟩, ⟨rch HO112⟩, ⟨blc⟩, ⟨bel HB⟩⟩
  ·replace c13 := Bool.eq_false_iff.mpr c13
   subst c13
   have H1 : (impl_WordToCell.j0 k a1 a2 true t101 t104 t107 t110) = some (r1, r2) := by rw [if_neg (show ¬ (false = true) by decide)] at H; exact H
   clear H;have H := H1;clear H1;have H' := Aside0.mk H;clear H
   go_wp2
   go_meet
   case rel => exact ⟨_, (true), (by first | rfl | (simp; done) | (simp [*]; done)), H', ⟨by first | omega | exact Nat.le_refl _⟩, ⟨by (with_reducible repeat (first | apply Kd.R_alloc | apply Kd.R_drewN | apply Kd.R_drew)); exact Kd.R_mono (Kd.R_far (p := ⟨gb114, 3, none⟩) (Kd.R_far (p := ⟨gb114, 2, none⟩) (Kd.R_far (p := ⟨gb114, 1, none⟩) (Kd.R_far (p := ⟨gb114, 0, none⟩) (Kd.R_types HO103.out BK114.out (by decide)) (fun _ hk => hk.2) (.slice Ao8 t101.length co8)) (fun _ hk => hk.2) (.slice Ao10 t104.length co10)) (fun _ hk => hk.2) (.slice Ao11 t107.length co11)) (fun _ hk => hk.2) (.slice Ao12 t110.length co12)) (fun _ hk => hk.1)⟩, ⟨by (with_reducible repeat (first | apply Kd.R_alloc | apply Kd.R_drewN | apply Kd.R_drew)); exact Kd.R_mono (Kd.R_far (p := ⟨gb114, 3, none⟩) (Kd.R_far (p := ⟨gb114, 2, none⟩) (Kd.R_far (p := ⟨gb114, 1, none⟩) (Kd.R_far (p := ⟨gb114, 0, none⟩) (Kd.R_types HO106.out BK114.out (by decide)) (fun _ hk => hk.2) (.slice Ao8 t101.length co8)) (fun _ hk => hk.2) (.slice Ao10 t104.length co10)) (fun _ hk => hk.2) (.slice Ao11 t107.length co11)) (fun _ hk => hk.2) (.slice Ao12 t110.length co12)) (fun _ hk => trivial)⟩, ⟨by (with_reducible repeat (first | apply Kd.S_alloc | apply Kd.S_drewN | apply Kd.S_drew)); exact Kd.S_mono (Kd.S_far (p := ⟨gb114, 3, none⟩) (Kd.S_far (p := ⟨gb114, 2, none⟩) (Kd.S_far (p := ⟨gb114, 1, none⟩) (Kd.S_far (p := ⟨gb114, 0, none⟩) (Kd.S_types HO109.out BK114.out (by decide)) (fun _ hk => hk.2) (.slice Ao8 t101.length co8)) (fun _ hk => hk.2) (.slice Ao10 t104.length co10)) (fun _ hk => hk.2) (.slice Ao11 t107.length co11)) (fun _ hk => hk.2) (.slice Ao12 t110.length co12)) (fun _ hk => hk.1)⟩, ⟨by (with_reducible repeat (first | apply Kd.R_alloc | apply Kd.R_drewN | apply Kd.R_drew)); exact Kd.R_mono (Kd.R_far (p := ⟨gb114, 3, none⟩) (Kd.R_far (p := ⟨gb114, 2, none⟩) (Kd.R_far (p := ⟨gb114, 1, none⟩) (Kd.R_far (p := ⟨gb114, 0, none⟩) (Kd.R_types HO112.out BK114.out (by decide)) (fun _ hk => hk.2) (.slice Ao8 t101.length co8)) (fun _ hk => hk.2) (.slice Ao10 t104.length co10)) (fun _ hk => hk.2) (.slice Ao11 t107.length co11)) (fun _ hk => hk.2) (.slice Ao12 t110.length co12)) (fun _ hk => hk.1)⟩, ⟨by (with_reducible repeat (first | refine blk_drewN ?_ _ | refine blk_drew ?_ | refine blk_alloc ?_ _)); refine blk_put (cs := #[.slice Ao8 t101.length co8, .slice Ao10 t104.length co10, .slice Ao11 t107.length co11, .slice none 0 0]) ?_ 3 _ rfl; (with_reducible repeat (first | refine blk_drewN ?_ _ | refine blk_drew ?_ | refine blk_alloc ?_ _)); refine blk_put (cs := #[.slice Ao8 t101.length co8, .slice Ao10 t104.length co10, .slice none 0 0, .slice none 0 0]) ?_ 2 _ rfl; (with_reducible repeat (first | refine blk_drewN ?_ _ | refine blk_drew ?_ | refine blk_alloc ?_ _)); refine blk_put (cs := #[.slice Ao8 t101.length co8, .slice none 0 0, .slice none 0 0, .slice none 0 0]) ?_ 1 _ rfl; (with_reducible repeat (first | refine blk_drewN ?_ _ | refine blk_drew ?_ | refine blk_alloc ?_ _)); refine blk_put (cs := #[.slice none 0 0, .slice none 0 0, .slice none 0 0, .slice none 0 0]) ?_ 0 _ rfl; exact blc⟩, ⟨bel HB⟩⟩
 case rest =>
  clear HC5
  try clear c1
  try clear c2
  try clear p2
  try clear c9
  try clear c13
  try clear hcz9_0
  try clear hcz9_1
  try clear hcz9_2
  try clear hcz9_3
  try clear hfz9_0
  try clear hfz9_1
  try clear hfz9_2
  try clear hfz9_3
  obtain ⟨kq, x25_4, rfl, HA, HJ4, HO_115000, HO_115001, HO_115002, HO_115003, BK114, HB⟩ := hcut
  cases kq with
  | zero => exact absurd HA.out (by simp [impl_WordToCell.j0])
  | succ kj4 =>
   have H := HA.out;clear HA
   simp only [impl_WordToCell.j0] at H
   by_cases c19 : x25_4 = true
   ·subst c19
    have H1 : (some ((⟨#[]⟩ : ByteArray), false)) = some (r1, r2) := by rw [if_pos rfl] at H; exact H
    clear H;have H := H1;clear H1
    simp only [Option.some.injEq, Prod.mk.injEq] at H
    obtain ⟨rfl, rfl⟩ := H
    go_wp2
    go_ret2
    exact ⟨by first | rfl | (simp [errW_none, errW_some] <;> rfl) | (simp [*, errW_none, errW_some] <;> rfl), bel HB⟩
   ·replace c19 := Bool.eq_false_iff.mpr c19
    subst c19
    have H1 : ((impl_reach_cells.f kj4 t101 t104 t107 t110 a1).bind fun t119 => ((slices_Index_int_int.f kj4 t119 a2).bind fun t122 => (if t122 < 0 then (some ((⟨#[]⟩ : ByteArray), false)) else (if 0 ≤ t122 then (if t122 < (t104.length : Int) then (if (rd t104 t122) > 40 then (some ((⟨#[]⟩ : ByteArray), false)) else (if t122 < (t110.length : Int) then (some (rdOf ByteArray.empty t110 t122, true)) else (none))) else (none)) else (none))))) = some (r1, r2) := by rw [if_neg (show ¬ (false = true) by decide)] at H; exact H
    clear H;have H := H1;clear H1;replace H := Option.bind_eq_some_iff.mp H;obtain ⟨t119, A200, H⟩ := H;replace H : ((slices_Index_int_int.f kj4 t119 a2).bind fun t122 => (if t122 < 0 then (some ((⟨#[]⟩ : ByteArray), false)) else (if 0 ≤ t122 then (if t122 < (t104.length : Int) then (if (rd t104 t122) > 40 then (some ((⟨#[]⟩ : ByteArray), false)) else (if t122 < (t110.length : Int) then (some (rdOf ByteArray.empty t110 t122, true)) else (none))) else (none)) else (none)))) = some (r1, r2) := H;have A20 := Aside0.mk A200;clear A200;replace H := Option.bind_eq_some_iff.mp H;obtain ⟨t122, A210, H⟩ := H;replace H : (if t122 < 0 then (some ((⟨#[]⟩ : ByteArray), false)) else (if 0 ≤ t122 then (if t122 < (t104.length : Int) then (if (rd t104 t122) > 40 then (some ((⟨#[]⟩ : ByteArray), false)) else (if t122 < (t110.length : Int) then (some (rdOf ByteArray.empty t110 t122, true)) else (none))) else (none)) else (none))) = some (r1, r2) := H;have A21 := Aside0.mk A210;clear A210
    by_cases c22 : t122 < 0
    ·rw [if_pos c22] at H
     have c22b0 : decide (t122 < 0) = true := decide_eq_true c22;clear c22
     simp only [Option.some.injEq, Prod.mk.injEq] at H
     obtain ⟨rfl, rfl⟩ := H;have hcz23_0 : wc.cell? ⟨gb114, 0, none⟩ = some (.slice Ao8 t101.length co8) := (blk_cell BK114.out 0).trans rfl;have hcz23_1 : wc.cell? ⟨gb114, 1, none⟩ = some (.slice Ao10 t104.length co10) := (blk_cell BK114.out 1).trans rfl;have hcz23_2 : wc.cell? ⟨gb114, 2, none⟩ = some (.slice Ao11 t107.length co11) := (blk_cell BK114.out 2).trans rfl;have hcz23_3 : wc.cell? ⟨gb114, 3, none⟩ = some (.slice Ao12 t110.length co12) := (blk_cell BK114.out 3).trans rfl;have hfz23_0 := blk_frozen BK114.out 0;have hfz23_1 := blk_frozen BK114.out 1;have hfz23_2 := blk_frozen BK114.out 2;have hfz23_3 := blk_frozen BK114.out 3
     go_wp2_with (first | ((with_reducible refine gate_callee (f := 24) rfl ?_); refine gcall (some 28) Tryz.func24 #[.agg #[.slice Ao8 t101.length co8, .slice Ao10 t104.length co10, .slice Ao11 t107.length co11, .slice Ao12 t110.length co12], .string a1] rfl ?_; (with_reducible refine (impl_reach_cells.calls kj4 _ _ t101 _ _ t104 _ _ t107 _ _ t110 a1 t119 _ ?side1 ?side2 ?side3 ?side4 ?side5 ?side6 ?side7 ?side8 ?side9 A20.out).mono ?_); (case side1 => (refine GoodW.below HG.out ?_); exact bel HB); (case side2 => repeat (first | exact (Kd.R_reads' HO_115000.out).2.2 | (with_reducible refine Kd.C_alloc ?_ _) | (with_reducible refine Kd.C_drewN ?_ _) | (with_reducible refine Kd.C_drew ?_))); (case side3 => exact (Kd.R_reads' HO_115000.out).2.1); (case side4 => repeat (first | exact (Kd.R_reads' HO_115001.out).2.2 | (with_reducible refine Kd.C_alloc ?_ _) | (with_reducible refine Kd.C_drewN ?_ _) | (with_reducible refine Kd.C_drew ?_))); (case side5 => exact (Kd.R_reads' HO_115001.out).2.1); (case side6 => repeat (first | exact (Kd.S_reads' HO_115002.out).2.2 | (with_reducible refine Kd.C_alloc ?_ _) | (with_reducible refine Kd.C_drewN ?_ _) | (with_reducible refine Kd.C_drew ?_))); (case side7 => exact (Kd.S_reads' HO_115002.out).2.1); (case side8 => repeat (first | exact (Kd.R_reads' HO_115003.out).2.2 | (with_reducible refine Kd.C_alloc ?_ _) | (with_reducible refine Kd.C_drewN ?_ _) | (with_reducible refine Kd.C_drew ?_))); (case side9 => exact (Kd.R_reads' HO_115003.out).2.1); rintro e w24 ⟨v120, rfl, ho0, hb⟩; refine ⟨_, rfl, ?_⟩; have n0_ := Aside0.mk (Kd.R_below (rch HO_115000) hb); have n1_ := Aside0.mk (Kd.R_elder' (rch HO_115001) (Kd.R_base ho0) hb); have n2_ := Aside0.mk (Kd.S_elder' (by (with_reducible repeat (first | apply Kd.S_alloc | apply Kd.S_drewN | apply Kd.S_drew)); (first | exact HO_115002.out | exact R_any HO_115002.out)) (Kd.R_base ho0) hb); have n3_ := Aside0.mk (Kd.R_below (rch HO_115003) hb); have n4_ := Aside0.mk (Kd.R_lower (Kd.R_new' ho0 (Kd.R_lt (rch HO_115001))) (below_size (bel HB))); have n5_ := Aside0.mk (blk_below (g := gb114) (o := .cells #[.slice Ao8 t101.length co8, .slice Ao10 t104.length co10, .slice Ao11 t107.length co11, .slice Ao12 t110.length co12] 46 (0, 0)) blc hb); have n6_ := Aside0.mk (below_step (bel HB) hb); clear HO_115000; clear HO_115001; clear HO_115002; clear HO_115003; clear BK114; clear HB; have HO_115000 := n0_; have HO_115001 := n1_; have HO_115002 := n2_; have HO_115003 := n3_; have HO121 := n4_; have BK114 := n5_; have HB := n6_; clear n0_ n1_ n2_ n3_ n4_ n5_ n6_; (try clear hb); (try clear hb2); (try clear hk); (try clear hi); (try clear ho0); obtain ⟨Ao25, co25, eo25⟩ := Kd.R_slice HO121.out; subst eo25) | ((with_reducible refine gate_callee (f := 23) rfl ?_); refine gcall (some 30) Tryz.func23 #[.slice Ao25 t119.length co25, .int .i64 a2] rfl ?_; (with_reducible refine (slices_Index_int_int.calls kj4 _ _ t119 a2 t122 _ ?side1 ?side2 A21.out).mono ?_); (case side1 => repeat (first | exact (Kd.R_reads' HO121.out).2.2 | (with_reducible refine Kd.C_alloc ?_ _) | (with_reducible refine Kd.C_drewN ?_ _) | (with_reducible refine Kd.C_drew ?_))); (case side2 => exact (Kd.R_reads' HO121.out).2.1); rintro e w' ⟨rfl, ⟨nd, rfl⟩⟩; refine ⟨_, rfl, ?_⟩))
     go_ret2
     exact ⟨by first | rfl | (simp [errW_none, errW_some] <;> rfl) | (simp [*, errW_none, errW_some] <;> rfl), bel HB⟩
    ·rw [if_neg c22] at H
     have c22b0 : decide (t122 < 0) = false := decide_eq_false c22;clear c22
     by_cases c26 : 0 ≤ t122
     ·rw [if_pos c26] at H
      have c26b0 : decide (0 ≤ t122) = true := decide_eq_true c26;clear c26
      by_cases c27 : t122 < (t104.length : Int)
      ·rw [if_pos c27] at H
       have c27b0 : decide (t122 < (t104.length : Int)) = true := decide_eq_true c27;clear c27
       by_cases c28 : (rd t104 t122) > 40
       ·rw [if_pos c28] at H
        have c28b0 : decide (40 < (rd t104 t122)) = true := decide_eq_true c28;clear c28
        simp only [Option.some.injEq, Prod.mk.injEq] at H
        obtain ⟨rfl, rfl⟩ := H;have hcz29_0 : wc.cell? ⟨gb114, 0, none⟩ = some (.slice Ao8 t101.length co8) := (blk_cell BK114.out 0).trans rfl;have hcz29_1 : wc.cell? ⟨gb114, 1, none⟩ = some (.slice Ao10 t104.length co10) := (blk_cell BK114.out 1).trans rfl;have hcz29_2 : wc.cell? ⟨gb114, 2, none⟩ = some (.slice Ao11 t107.length co11) := (blk_cell BK114.out 2).trans rfl;have hcz29_3 : wc.cell? ⟨gb114, 3, none⟩ = some (.slice Ao12 t110.length co12) := (blk_cell BK114.out 3).trans rfl;have hfz29_0 := blk_frozen BK114.out 0;have hfz29_1 := blk_frozen BK114.out 1;have hfz29_2 := blk_frozen BK114.out 2;have hfz29_3 := blk_frozen BK114.out 3
        go_wp2_with (first | ((with_reducible refine gate_callee (f := 24) rfl ?_); refine gcall (some 28) Tryz.func24 #[.agg #[.slice Ao8 t101.length co8, .slice Ao10 t104.length co10, .slice Ao11 t107.length co11, .slice Ao12 t110.length co12], .string a1] rfl ?_; (with_reducible refine (impl_reach_cells.calls kj4 _ _ t101 _ _ t104 _ _ t107 _ _ t110 a1 t119 _ ?side1 ?side2 ?side3 ?side4 ?side5 ?side6 ?side7 ?side8 ?side9 A20.out).mono ?_); (case side1 => (refine GoodW.below HG.out ?_); exact bel HB); (case side2 => repeat (first | exact (Kd.R_reads' HO_115000.out).2.2 | (with_reducible refine Kd.C_alloc ?_ _) | (with_reducible refine Kd.C_drewN ?_ _) | (with_reducible refine Kd.C_drew ?_))); (case side3 => exact (Kd.R_reads' HO_115000.out).2.1); (case side4 => repeat (first | exact (Kd.R_reads' HO_115001.out).2.2 | (with_reducible refine Kd.C_alloc ?_ _) | (with_reducible refine Kd.C_drewN ?_ _) | (with_reducible refine Kd.C_drew ?_))); (case side5 => exact (Kd.R_reads' HO_115001.out).2.1); (case side6 => repeat (first | exact (Kd.S_reads' HO_115002.out).2.2 | (with_reducible refine Kd.C_alloc ?_ _) | (with_reducible refine Kd.C_drewN ?_ _) | (with_reducible refine Kd.C_drew ?_))); (case side7 => exact (Kd.S_reads' HO_115002.out).2.1); (case side8 => repeat (first | exact (Kd.R_reads' HO_115003.out).2.2 | (with_reducible refine Kd.C_alloc ?_ _) | (with_reducible refine Kd.C_drewN ?_ _) | (with_reducible refine Kd.C_drew ?_))); (case side9 => exact (Kd.R_reads' HO_115003.out).2.1); rintro e w30 ⟨v120, rfl, ho0, hb⟩; refine ⟨_, rfl, ?_⟩; have n0_ := Aside0.mk (Kd.R_below (rch HO_115000) hb); have n1_ := Aside0.mk (Kd.R_elder' (rch HO_115001) (Kd.R_base ho0) hb); have n2_ := Aside0.mk (Kd.S_elder' (by (with_reducible repeat (first | apply Kd.S_alloc | apply Kd.S_drewN | apply Kd.S_drew)); (first | exact HO_115002.out | exact R_any HO_115002.out)) (Kd.R_base ho0) hb); have n3_ := Aside0.mk (Kd.R_below (rch HO_115003) hb); have n4_ := Aside0.mk (Kd.R_lower (Kd.R_new' ho0 (Kd.R_lt (rch HO_115001))) (below_size (bel HB))); have n5_ := Aside0.mk (blk_below (g := gb114) (o := .cells #[.slice Ao8 t101.length co8, .slice Ao10 t104.length co10, .slice Ao11 t107.length co11, .slice Ao12 t110.length co12] 46 (0, 0)) blc hb); have n6_ := Aside0.mk (below_step (bel HB) hb); clear HO_115000; clear HO_115001; clear HO_115002; clear HO_115003; clear BK114; clear HB; have HO_115000 := n0_; have HO_115001 := n1_; have HO_115002 := n2_; have HO_115003 := n3_; have HO121 := n4_; have BK114 := n5_; have HB := n6_; clear n0_ n1_ n2_ n3_ n4_ n5_ n6_; (try clear hb); (try clear hb2); (try clear hk); (try clear hi); (try clear ho0); obtain ⟨Ao31, co31, eo31⟩ := Kd.R_slice HO121.out; subst eo31) | ((with_reducible refine gate_callee (f := 23) rfl ?_); refine gcall (some 30) Tryz.func23 #[.slice Ao31 t119.length co31, .int .i64 a2] rfl ?_; (with_reducible refine (slices_Index_int_int.calls kj4 _ _ t119 a2 t122 _ ?side1 ?side2 A21.out).mono ?_); (case side1 => repeat (first | exact (Kd.R_reads' HO121.out).2.2 | (with_reducible refine Kd.C_alloc ?_ _) | (with_reducible refine Kd.C_drewN ?_ _) | (with_reducible refine Kd.C_drew ?_))); (case side2 => exact (Kd.R_reads' HO121.out).2.1); rintro e w' ⟨rfl, ⟨nd, rfl⟩⟩; refine ⟨_, rfl, ?_⟩; have hcz32_0 : w30.cell? ⟨gb114, 0, none⟩ = some (.slice Ao8 t101.length co8) := (blk_cell BK114.out 0).trans rfl; have hcz32_1 : w30.cell? ⟨gb114, 1, none⟩ = some (.slice Ao10 t104.length co10) := (blk_cell BK114.out 1).trans rfl; have hcz32_2 : w30.cell? ⟨gb114, 2, none⟩ = some (.slice Ao11 t107.length co11) := (blk_cell BK114.out 2).trans rfl; have hcz32_3 : w30.cell? ⟨gb114, 3, none⟩ = some (.slice Ao12 t110.length co12) := (blk_cell BK114.out 3).trans rfl; have hfz32_0 := blk_frozen BK114.out 0; have hfz32_1 := blk_frozen BK114.out 1; have hfz32_2 := blk_frozen BK114.out 2; have hfz32_3 := blk_frozen BK114.out 3; have p123 : 0 ≤ (t122 : Int) := of_decide_eq_true (by first | (with_reducible assumption) | assumption); have q123 : t122 < (t104.length : Int) := of_decide_eq_true (by first | (with_reducible assumption) | assumption); obtain ⟨ad123, e123, hx123_0⟩ := Kd.at_int (Kd.R_reads' HO_115001.out).2.2 t122 p123 q123; cases e123; replace p123 := eq_true p123; replace q123 := eq_true q123))
        go_ret2
        exact ⟨by first | rfl | (simp [errW_none, errW_some] <;> rfl) | (simp [*, errW_none, errW_some] <;> rfl), bel HB⟩
       ·rw [if_neg c28] at H
        have c28b0 : decide (40 < (rd t104 t122)) = false := decide_eq_false c28;clear c28
        by_cases c33 : t122 < (t110.length : Int)
        ·rw [if_pos c33] at H
         have c33b0 : decide (t122 < (t110.length : Int)) = true := decide_eq_true c33;clear c33
         simp only [Option.some.injEq, Prod.mk.injEq] at H
         obtain ⟨rfl, rfl⟩ := H;have hcz34_0 : wc.cell? ⟨gb114, 0, none⟩ = some (.slice Ao8 t101.length co8) := (blk_cell BK114.out 0).trans rfl;have hcz34_1 : wc.cell? ⟨gb114, 1, none⟩ = some (.slice Ao10 t104.length co10) := (blk_cell BK114.out 1).trans rfl;have hcz34_2 : wc.cell? ⟨gb114, 2, none⟩ = some (.slice Ao11 t107.length co11) := (blk_cell BK114.out 2).trans rfl;have hcz34_3 : wc.cell? ⟨gb114, 3, none⟩ = some (.slice Ao12 t110.length co12) := (blk_cell BK114.out 3).trans rfl;have hfz34_0 := blk_frozen BK114.out 0;have hfz34_1 := blk_frozen BK114.out 1;have hfz34_2 := blk_frozen BK114.out 2;have hfz34_3 := blk_frozen BK114.out 3
         go_wp2_with (first | ((with_reducible refine gate_callee (f := 24) rfl ?_); refine gcall (some 28) Tryz.func24 #[.agg #[.slice Ao8 t101.length co8, .slice Ao10 t104.length co10, .slice Ao11 t107.length co11, .slice Ao12 t110.length co12], .string a1] rfl ?_; (with_reducible refine (impl_reach_cells.calls kj4 _ _ t101 _ _ t104 _ _ t107 _ _ t110 a1 t119 _ ?side1 ?side2 ?side3 ?side4 ?side5 ?side6 ?side7 ?side8 ?side9 A20.out).mono ?_); (case side1 => (refine GoodW.below HG.out ?_); exact bel HB); (case side2 => repeat (first | exact (Kd.R_reads' HO_115000.out).2.2 | (with_reducible refine Kd.C_alloc ?_ _) | (with_reducible refine Kd.C_drewN ?_ _) | (with_reducible refine Kd.C_drew ?_))); (case side3 => exact (Kd.R_reads' HO_115000.out).2.1); (case side4 => repeat (first | exact (Kd.R_reads' HO_115001.out).2.2 | (with_reducible refine Kd.C_alloc ?_ _) | (with_reducible refine Kd.C_drewN ?_ _) | (with_reducible refine Kd.C_drew ?_))); (case side5 => exact (Kd.R_reads' HO_115001.out).2.1); (case side6 => repeat (first | exact (Kd.S_reads' HO_115002.out).2.2 | (with_reducible refine Kd.C_alloc ?_ _) | (with_reducible refine Kd.C_drewN ?_ _) | (with_reducible refine Kd.C_drew ?_))); (case side7 => exact (Kd.S_reads' HO_115002.out).2.1); (case side8 => repeat (first | exact (Kd.R_reads' HO_115003.out).2.2 | (with_reducible refine Kd.C_alloc ?_ _) | (with_reducible refine Kd.C_drewN ?_ _) | (with_reducible refine Kd.C_drew ?_))); (case side9 => exact (Kd.R_reads' HO_115003.out).2.1); rintro e w35 ⟨v120, rfl, ho0, hb⟩; refine ⟨_, rfl, ?_⟩; have n0_ := Aside0.mk (Kd.R_below (rch HO_115000) hb); have n1_ := Aside0.mk (Kd.R_elder' (rch HO_115001) (Kd.R_base ho0) hb); have n2_ := Aside0.mk (Kd.S_elder' (by (with_reducible repeat (first | apply Kd.S_alloc | apply Kd.S_drewN | apply Kd.S_drew)); (first | exact HO_115002.out | exact R_any HO_115002.out)) (Kd.R_base ho0) hb); have n3_ := Aside0.mk (Kd.R_below (rch HO_115003) hb); have n4_ := Aside0.mk (Kd.R_lower (Kd.R_new' ho0 (Kd.R_lt (rch HO_115001))) (below_size (bel HB))); have n5_ := Aside0.mk (blk_below (g := gb114) (o := .cells #[.slice Ao8 t101.length co8, .slice Ao10 t104.length co10, .slice Ao11 t107.length co11, .slice Ao12 t110.length co12] 46 (0, 0)) blc hb); have n6_ := Aside0.mk (below_step (bel HB) hb); clear HO_115000; clear HO_115001; clear HO_115002; clear HO_115003; clear BK114; clear HB; have HO_115000 := n0_; have HO_115001 := n1_; have HO_115002 := n2_; have HO_115003 := n3_; have HO121 := n4_; have BK114 := n5_; have HB := n6_; clear n0_ n1_ n2_ n3_ n4_ n5_ n6_; (try clear hb); (try clear hb2); (try clear hk); (try clear hi); (try clear ho0); obtain ⟨Ao36, co36, eo36⟩ := Kd.R_slice HO121.out; subst eo36) | ((with_reducible refine gate_callee (f := 23) rfl ?_); refine gcall (some 30) Tryz.func23 #[.slice Ao36 t119.length co36, .int .i64 a2] rfl ?_; (with_reducible refine (slices_Index_int_int.calls kj4 _ _ t119 a2 t122 _ ?side1 ?side2 A21.out).mono ?_); (case side1 => repeat (first | exact (Kd.R_reads' HO121.out).2.2 | (with_reducible refine Kd.C_alloc ?_ _) | (with_reducible refine Kd.C_drewN ?_ _) | (with_reducible refine Kd.C_drew ?_))); (case side2 => exact (Kd.R_reads' HO121.out).2.1); rintro e w' ⟨rfl, ⟨nd, rfl⟩⟩; refine ⟨_, rfl, ?_⟩; have hcz37_0 : w35.cell? ⟨gb114, 0, none⟩ = some (.slice Ao8 t101.length co8) := (blk_cell BK114.out 0).trans rfl; have hcz37_1 : w35.cell? ⟨gb114, 1, none⟩ = some (.slice Ao10 t104.length co10) := (blk_cell BK114.out 1).trans rfl; have hcz37_2 : w35.cell? ⟨gb114, 2, none⟩ = some (.slice Ao11 t107.length co11) := (blk_cell BK114.out 2).trans rfl; have hcz37_3 : w35.cell? ⟨gb114, 3, none⟩ = some (.slice Ao12 t110.length co12) := (blk_cell BK114.out 3).trans rfl; have hfz37_0 := blk_frozen BK114.out 0; have hfz37_1 := blk_frozen BK114.out 1; have hfz37_2 := blk_frozen BK114.out 2; have hfz37_3 := blk_frozen BK114.out 3; have p123 : 0 ≤ (t122 : Int) := of_decide_eq_true (by first | (with_reducible assumption) | assumption); have q123 : t122 < (t104.length : Int) := of_decide_eq_true (by first | (with_reducible assumption) | assumption); obtain ⟨ad123, e123, hx123_0⟩ := Kd.at_int (Kd.R_reads' HO_115001.out).2.2 t122 p123 q123; cases e123; replace p123 := eq_true p123; replace q123 := eq_true q123; have p124 : 0 ≤ (t122 : Int) := of_decide_eq_true (by first | (with_reducible assumption) | assumption); have q124 : t122 < (t110.length : Int) := of_decide_eq_true (by first | (with_reducible assumption) | assumption); obtain ⟨ad124, e124, hx124_0⟩ := Kd.at_string (Kd.R_reads' HO_115003.out).2.2 t122 p124 q124; cases e124; replace p124 := eq_true p124; replace q124 := eq_true q124))
         go_ret2
         exact ⟨by first | rfl | (simp [errW_none, errW_some] <;> rfl) | (simp [*, errW_none, errW_some] <;> rfl), bel HB⟩
        ·rw [if_neg c33] at H
         exact absurd H (by simp)
      ·rw [if_neg c27] at H
       exact absurd H (by simp)
     ·rw [if_neg c26] at H
      exact absurd H (by simp)
def laws_FnExactWordToCell.f (k : Nat) (a0 : ByteArray) (a1 : ByteArray) (a2 : Int) : Option (Bool) := if (a0.size : Int) > 1048576 then (some true) else (if (a1.size : Int) > 1048576 then (some true) else ((spec_WordToCell.f k a0 a1 a2).bind fun bt101 => ((impl_WordToCell.f k a0 a1 a2).bind fun bt103 => (if bt103.1.toList = bt101.1.toList then (if (bt103.2 != bt101.2) = true then (some false) else (some true)) else (some false)))))
set_option maxHeartbeats 8000000 in
set_option maxRecDepth 100000 in
theorem laws_FnExactWordToCell.calls (k : Nat) (a0 : ByteArray) (a1 : ByteArray) (a2 : Int) (r : Bool) (w : World) (hG : GoodW w) (h : laws_FnExactWordToCell.f k a0 a1 a2 = some r) :
  Calls Tryz.prog 3 #[.string a0, .string a1, .int .i64 a2] w fun e w' => e = .returned (.bool r) ∧ Below w.heap.size w w' := by
 have HG := Aside0.mk hG;clear hG;have HB := Aside0.mk (Below.refl w.heap.size w);have H : (if (a0.size : Int) > 1048576 then (some true) else (if (a1.size : Int) > 1048576 then (some true) else ((spec_WordToCell.f k a0 a1 a2).bind fun bt101 => ((impl_WordToCell.f k a0 a1 a2).bind fun bt103 => (if bt103.1.toList = bt101.1.toList then (if (bt103.2 != bt101.2) = true then (some false) else (some true)) else (some false)))))) = some r := h;clear h
 by_cases c4 : (a0.size : Int) > 1048576
 ·rw [if_pos c4] at H
  have c4b0 : decide (1048576 < (a0.size : Int)) = true := decide_eq_true c4;have c4b1 : decide (1048576 < a0.size) = true := decide_eq_true (by omega);clear c4;obtain rfl := Option.some.inj H
  go_enter Tryz.func3, Tryz.ntmps3
  go_wp2
  go_ret
  exact ⟨by first | rfl | (simp [errW_none, errW_some] <;> rfl) | (simp [*, errW_none, errW_some] <;> rfl), bel HB⟩
 ·rw [if_neg c4] at H
  have c4b0 : decide (1048576 < (a0.size : Int)) = false := decide_eq_false c4;have c4b1 : decide (1048576 < a0.size) = false := decide_eq_false (by omega);clear c4
  by_cases c5 : (a1.size : Int) > 1048576
  ·rw [if_pos c5] at H
   have c5b0 : decide (1048576 < (a1.size : Int)) = true := decide_eq_true c5;have c5b1 : decide (1048576 < a1.size) = true := decide_eq_true (by omega);clear c5;obtain rfl := Option.some.inj H
   go_enter Tryz.func3, Tryz.ntmps3
   go_wp2
   go_ret
   exact ⟨by first | rfl | (simp [errW_none, errW_some] <;> rfl) | (simp [*, errW_none, errW_some] <;> rfl), bel HB⟩
  ·rw [if_neg c5] at H
   have c5b0 : decide (1048576 < (a1.size : Int)) = false := decide_eq_false c5;have c5b1 : decide (1048576 < a1.size) = false := decide_eq_false (by omega);clear c5;replace H := Option.bind_eq_some_iff.mp H;obtain ⟨⟨t101, t102⟩, A60, H⟩ := H;replace H : ((impl_WordToCell.f k a0 a1 a2).bind fun bt103 => (if bt103.1.toList = t101.toList then (if (bt103.2 != t102) = true then (some false) else (some true)) else (some false))) = some r := H;have A6 := Aside0.mk A60;clear A60;replace H := Option.bind_eq_some_iff.mp H;obtain ⟨⟨t103, t104⟩, A70, H⟩ := H;replace H : (if t103.toList = t101.toList then (if (t104 != t102) = true then (some false) else (some true)) else (some false)) = some r := H;have A7 := Aside0.mk A70;clear A70
   by_cases c8 : t103.toList = t101.toList
   ·rw [if_pos c8] at H
    have c8b0 : (t103.toList == t101.toList) = true := beq_iff_eq.mpr c8;have c8b1 : (t103.toList != t101.toList) = false := bne_eq_false_iff_eq.mpr c8;clear c8
    by_cases c9 : (t104 != t102) = true
    ·rw [if_pos c9] at H
     have c9b0 : (t104 != t102) = true := c9
     (try (have c9b1 : decide (t104 = t102) = false := by simpa using c9))
     (try (have c9b2 : (t104 == t102) = false := by simpa using c9))
     (try (have c9b3 : ¬ (t104 = t102) := by simpa using c9))
     clear c9;obtain rfl := Option.some.inj H
     go_enter Tryz.func3, Tryz.ntmps3
     go_wp2_with (first | ((with_reducible refine gate_callee (f := 8) rfl ?_); refine gcall (some 21) Tryz.func8 #[.string a0, .string a1, .int .i64 a2] rfl ?_; (with_reducible refine (spec_WordToCell.calls k a0 a1 a2 t101 t102 _ A6.out).mono ?_); rintro e w10 ⟨rfl, hb⟩; refine ⟨_, rfl, ?_⟩; have n0_ := Aside0.mk (below_step (bel HB) hb); clear HB; have HB := n0_; clear n0_; (try clear hb); (try clear hb2); (try clear hk); (try clear hi)) | ((with_reducible refine gate_callee (f := 9) rfl ?_); refine gcall (some 28) Tryz.func9 #[.string a0, .string a1, .int .i64 a2] rfl ?_; (with_reducible refine (impl_WordToCell.calls k a0 a1 a2 t103 t104 _ ?side1 A7.out).mono ?_); (case side1 => (refine GoodW.below HG.out ?_); exact bel HB); rintro e w11 ⟨rfl, hb⟩; refine ⟨_, rfl, ?_⟩; have n0_ := Aside0.mk (below_step (bel HB) hb); clear HB; have HB := n0_; clear n0_; (try clear hb); (try clear hb2); (try clear hk); (try clear hi)))
     go_ret
     exact ⟨by first | rfl | (simp [errW_none, errW_some] <;> rfl) | (simp [*, errW_none, errW_some] <;> rfl), bel HB⟩
    ·rw [if_neg c9] at H
     have c9b0 : (t104 != t102) = false := by simpa using c9
     (try (have c9b1 : decide (t104 = t102) = true := by simpa using c9))
     (try (have c9b2 : (t104 == t102) = true := by simpa using c9))
     clear c9;obtain rfl := Option.some.inj H
     go_enter Tryz.func3, Tryz.ntmps3
     go_wp2_with (first | ((with_reducible refine gate_callee (f := 8) rfl ?_); refine gcall (some 21) Tryz.func8 #[.string a0, .string a1, .int .i64 a2] rfl ?_; (with_reducible refine (spec_WordToCell.calls k a0 a1 a2 t101 t102 _ A6.out).mono ?_); rintro e w12 ⟨rfl, hb⟩; refine ⟨_, rfl, ?_⟩; have n0_ := Aside0.mk (below_step (bel HB) hb); clear HB; have HB := n0_; clear n0_; (try clear hb); (try clear hb2); (try clear hk); (try clear hi)) | ((with_reducible refine gate_callee (f := 9) rfl ?_); refine gcall (some 28) Tryz.func9 #[.string a0, .string a1, .int .i64 a2] rfl ?_; (with_reducible refine (impl_WordToCell.calls k a0 a1 a2 t103 t104 _ ?side1 A7.out).mono ?_); (case side1 => (refine GoodW.below HG.out ?_); exact bel HB); rintro e w13 ⟨rfl, hb⟩; refine ⟨_, rfl, ?_⟩; have n0_ := Aside0.mk (below_step (bel HB) hb); clear HB; have HB := n0_; clear n0_; (try clear hb); (try clear hb2); (try clear hk); (try clear hi)))
     go_ret
     exact ⟨by first | rfl | (simp [errW_none, errW_some] <;> rfl) | (simp [*, errW_none, errW_some] <;> rfl), bel HB⟩
   ·rw [if_neg c8] at H
    have c8b0 : (t103.toList == t101.toList) = false := beq_eq_false_iff_ne.mpr c8;have c8b1 : (t103.toList != t101.toList) = true := bne_iff_ne.mpr c8;obtain rfl := Option.some.inj H
    go_enter Tryz.func3, Tryz.ntmps3
    go_wp2_with (first | ((with_reducible refine gate_callee (f := 8) rfl ?_); refine gcall (some 21) Tryz.func8 #[.string a0, .string a1, .int .i64 a2] rfl ?_; (with_reducible refine (spec_WordToCell.calls k a0 a1 a2 t101 t102 _ A6.out).mono ?_); rintro e w14 ⟨rfl, hb⟩; refine ⟨_, rfl, ?_⟩; have n0_ := Aside0.mk (below_step (bel HB) hb); clear HB; have HB := n0_; clear n0_; (try clear hb); (try clear hb2); (try clear hk); (try clear hi)) | ((with_reducible refine gate_callee (f := 9) rfl ?_); refine gcall (some 28) Tryz.func9 #[.string a0, .string a1, .int .i64 a2] rfl ?_; (with_reducible refine (impl_WordToCell.calls k a0 a1 a2 t103 t104 _ ?side1 A7.out).mono ?_); (case side1 => (refine GoodW.below HG.out ?_); exact bel HB); rintro e w15 ⟨rfl, hb⟩; refine ⟨_, rfl, ?_⟩; have n0_ := Aside0.mk (below_step (bel HB) hb); clear HB; have HB := n0_; clear n0_; (try clear hb); (try clear hb2); (try clear hk); (try clear hi)))
    go_ret
    exact ⟨by first | rfl | (simp [errW_none, errW_some] <;> rfl) | (simp [*, errW_none, errW_some] <;> rfl), bel HB⟩
end Go.Proofs.YtchjgphnglklcaaGreatDoor.Q
end
section
namespace Go.Proofs.YtchjgphnglklcaaGreatDoor.Q
set_option linter.unusedSectionVars false
open Go.RowKit Go.Proofs.YtchjgphnglklcaaGreatDoorW.PrintWords Go.Proofs.YtchjgphnglklcaaGreatDoorW.PrintLast Go.Proofs.YtchjgphnglklcaaGreatDoorW.PrintMore
open Classical
section
variable {w h : Nat} (hw : w ≤ 7) (hh : h ≤ 7) (hs : w * h ≤ 36) (hw1 : 0 < w) (hh1 : 0 < h)
include hw hh hs hw1 hh1
theorem way_only {t y : List Int} {c : Int} (hc : isB c = true) (ht : goodC w h t) (hy : BWay (tiT w h) t y) : ∀ x, only t c x → ∃ x', only y c x' := by
 induction hy with
 | here => exact fun x h => ⟨x, h⟩
 | go d hd hb ih =>
  intro x h0;obtain ⟨x', hx⟩ := ih x h0;have hg := way_good hw hh hs hw1 hh1 ht hb
  exact ⟨_, only_tilt hw hh hs hd hg.2 hc hx⟩
end
def resW (L : List RS) (r : Int) : ByteArray × Bool := if r < 0 then (⟨#[]⟩, false) else if 40 < (((L.getD r.toNat ⟨[], 0, [], 0, 0⟩).far : Nat) : Int) then (⟨#[]⟩, false) else (wordT (L.getD r.toNat ⟨[], 0, [], 0, 0⟩).word, true)
def placeL (c : Int) (L : List RS) : List Int := L.map fun q => idxL q.x c 0
def WordToCellR (t s : ByteArray) (cell : Int) : ByteArray × Bool := if (cellOfR t s).2 = true then (match found t with
 | none => (⟨#[]⟩, false)
 | some p => resW p.1 (idxL (placeL (bt s 0) p.1) cell 0)) else (⟨#[]⟩, false)
theorem resW_at {L : List RS} {j : Nat} {s : RS} (hs : L[j]? = some s) : resW L (j : Int) = if 40 < ((s.far : Nat) : Int) then (⟨#[]⟩, false) else (wordT s.word, true) := by
 unfold resW
 rw [if_neg (by omega), Int.toNat_natCast, show L.getD j ⟨[], 0, [], 0, 0⟩ = s from by rw [List.getD_eq_getElem?_getD, hs]; rfl]
theorem name_eq (s : ByteArray) : spec_reName.f s = some (nameOK s) := by
 unfold spec_reName.f nameOK
 by_cases h1 : (s.size : Int) = 1
 ·rw [if_pos h1, if_pos (by omega)]
  by_cases h2 : bt s 0 ≥ 97
  ·rw [if_pos h2]
   congr 1
   exact decide_eq_decide.2 ⟨fun h => ⟨h1, h2, h⟩, fun h => h.2.2⟩
  ·rw [if_neg h2, decide_eq_false fun h => h2 h.2.1]
 ·rw [if_neg h1, decide_eq_false fun h => h1 h.1]
theorem idxI_l0 (L : List Int) (c : Int) (hl : L.length ≤ 1000) : ∀ (l : List Int) (i : Nat), L.drop i = l → i ≤ L.length → Ev (fun k => slices_Index_int_int.l0 k L c (L.length : Int) (i : Int)) (idxL l c i)
 | [], i, hd, hi => by
  have h1 : i = L.length := by
   have := congrArg List.length hd
   simp at this
   omega
  subst h1
  refine Ev.step (Ev.const rfl) fun k => ?_
  rw [slices_Index_int_int.l0, if_neg (by omega)]
  rfl
 | x :: l, i, hd, _ => by
  obtain ⟨h1, h2, h3⟩ := rd_drop hd;have ih := idxI_l0 L c hl l (i + 1) h3 h1
  rw [← wr1 i (by omega)] at ih
  unfold idxL
  by_cases e : x = c
  ·rw [if_pos e]
   refine Ev.step (Ev.const rfl) fun k => ?_
   rw [slices_Index_int_int.l0, if_pos (by omega), if_pos (by omega), if_pos (by omega), h2, if_pos e.symm]
  ·rw [if_neg e]
   refine Ev.step ih fun k => ?_
   rw [slices_Index_int_int.l0, if_pos (by omega), if_pos (by omega), if_pos (by omega), h2, if_neg fun e2 => e e2.symm]
theorem idxL_cases : ∀ (l : List Int) (c : Int) (k : Nat), (idxL l c k = -1 ∧ ∀ x ∈ l, x ≠ c) ∨ ∃ j : Nat, idxL l c k = ((k + j : Nat) : Int) ∧ l[j]? = some c
 | [], _, _ => .inl ⟨rfl, fun x hx => by simp at hx⟩
 | x :: l, c, k => by
  unfold idxL
  by_cases e : x = c
  ·rw [if_pos e]
   exact .inr ⟨0, rfl, by rw [e]; rfl⟩
  ·rw [if_neg e]
   rcases idxL_cases l c (k + 1) with ⟨h1, h2⟩ | ⟨j, h1, h2⟩
   ·refine .inl ⟨h1, fun y hy => ?_⟩
    rcases List.mem_cons.1 hy with rfl | hy
    ·exact e
    ·exact h2 y hy
   ·exact .inr ⟨j + 1, by rw [h1]; congr 1; omega, h2⟩
section
variable {t : ByteArray} {w h : Nat} {cs : List Int} {p : List RS × List (List Nat)} (H : Found t w h cs p)
include H
theorem cells_l0 (s : ByteArray) (h0 : 0 < s.size) : ∀ (l : List RS) (i : Nat) (out : List Int), p.1.drop i = l → i ≤ p.1.length → out.length ≤ i → Ev (fun k => impl_reach_cells.l0 k s out (txs w h p.1) ((txs w h p.1).length : Int) (i : Int)) (out ++ placeL (bt s 0) l)
 | [], i, out, hd, hi, _ => by
  have htl : (txs w h p.1).length = p.1.length := by unfold txs; rw [List.length_map]
  have h1 : i = p.1.length := by
   have := congrArg List.length hd
   simp at this
   omega
  refine Ev.step (Ev.const (o := some out) ?_) fun k => ?_
  ·rw [show placeL (bt s 0) [] = [] from rfl, List.append_nil]
  ·rw [impl_reach_cells.l0, if_neg (by rw [htl]; omega)]
 | q :: l, i, out, hd, hi, ho => by
  have htl : (txs w h p.1).length = p.1.length := by unfold txs; rw [List.length_map]
  have hlen := H.len
  have hq : p.1[i]? = some q := by rw [← List.head?_drop, hd]; rfl
  have hil := (List.getElem?_eq_some_iff.1 hq).1
  have h3 : p.1.drop (i + 1) = l := by rw [← List.tail_drop, hd]; rfl
  have hx : rdOf ByteArray.empty (txs w h p.1) (i : Int) = tx q.x w h := rdOf_map ByteArray.empty (fun s : RS => tx s.x w h) hq;have hg := H.good q (List.mem_of_getElem? hq)
  have hql : q.x.length ≤ 1000 := by have := hg.2; have := H.hs; omega
  have ih := cells_l0 s h0 l (i + 1) (out ++ [idxL q.x (bt s 0) 0]) h3 hil (by rw [List.length_append, List.length_singleton]; omega)
  rw [← wr1 i (by omega), List.append_assoc] at ih
  refine Ev.step (Ev.bind (f := fun k t111 => (if out.length < 17592186044416 then (impl_reach_cells.l0 k s (out ++ [t111]) (txs w h p.1) ((txs w h p.1).length : Int) (wrap64 ((i : Int) + 1))) else (none))) (index_ev q.x (bt s 0) hql) (Ev.congr ih fun k => if_pos (Nat.lt_of_le_of_lt ho (Nat.lt_of_lt_of_le hil (Nat.le_trans hlen (by decide)))))) fun k => ?_
  rw [impl_reach_cells.l0, if_pos (by rw [htl]; omega), if_pos (by omega), if_pos (by rw [htl]; omega), hx, read_tx H.hw H.hh H.hs H.hw1 H.hh1 hg, Option.bind_some, if_pos (by omega)]
theorem cells_ev (s : ByteArray) (h0 : 0 < s.size) : Ev (fun k => impl_reach_cells.f k (txs w h p.1) (fars p.1) (p.2.map casts) (wds p.1) s) (placeL (bt s 0) p.1) :=
 cells_l0 H s h0 p.1 0 [] rfl (Nat.zero_le _) (Nat.zero_le _)
theorem wtc_far (cell c : Int) : ∀ (R : List RS) (i : Nat), p.1.drop i = R → (∀ q ∈ R, 40 < q.far) → Ev (fun k => wtcZ k cell c (foundZ w h p) ((foundZ w h p).drop i) i) (⟨#[]⟩, false)
 | [], i, hd, hf => by
  have h1 : p.1.length ≤ i := by simpa using hd
  rw [List.drop_eq_nil_of_le (by rw [H.zlen]; exact h1)]
  exact Ev.const rfl
 | q :: R, i, hd, hf => by
  have hq : p.1[i]? = some q := by rw [← List.head?_drop, hd]; rfl
  have hil := (List.getElem?_eq_some_iff.1 hq).1
  have h3 : p.1.drop (i + 1) = R := by rw [← List.tail_drop, hd]; rfl
  have hg := H.good q (List.mem_of_getElem? hq)
  have hz : (foundZ w h p).drop i = zOf w h (vRows p.1 0 V0 p.2) (fun q => p.2.getD q []) i q :: (foundZ w h p).drop (i + 1) := by
   rw [List.drop_eq_getElem_cons (by rw [H.zlen]; exact hil)]
   congr 1
   have h4 := zL_at w h p.1 (vRows p.1 0 V0 p.2) (fun q => p.2.getD q []) i
   rw [hq] at h4
   exact (List.getElem?_eq_some_iff.1 h4).2
  have ih := wtc_far cell c R (i + 1) h3 fun x hx => hf x (by simp [hx])
  have h40 := hf q (by simp)
  rw [hz]
  refine Ev.bind (f := fun k (a : Int) => if a = cell then (if ((q.far : Nat) : Int) ≤ 40 then (reW k (foundZ w h p) i ⟨#[]⟩).bind fun wd => some (wd, true) else wtcZ k cell c (foundZ w h p) ((foundZ w h p).drop (i + 1)) (i + 1)) else wtcZ k cell c (foundZ w h p) ((foundZ w h p).drop (i + 1)) (i + 1)) (tiPlace_ev q.x c w h (by have := hg.2; have := H.hs; omega)) (Ev.congr ih fun k => ?_)
  by_cases e : idxL q.x c 0 = cell
  ·rw [if_pos e, if_neg (by omega)]
  ·rw [if_neg e]
theorem wtc_ev (cell c : Int) : ∀ (R : List RS) (i : Nat), p.1.drop i = R → Ev (fun k => wtcZ k cell c (foundZ w h p) ((foundZ w h p).drop i) i) (resW p.1 (idxL (placeL c R) cell i))
 | [], i, hd => by
  have h1 : p.1.length ≤ i := by simpa using hd
  rw [List.drop_eq_nil_of_le (by rw [H.zlen]; exact h1)]
  exact Ev.const rfl
 | q :: R, i, hd => by
  have hq : p.1[i]? = some q := by rw [← List.head?_drop, hd]; rfl
  have hil := (List.getElem?_eq_some_iff.1 hq).1
  have h3 : p.1.drop (i + 1) = R := by rw [← List.tail_drop, hd]; rfl
  have hg := H.good q (List.mem_of_getElem? hq)
  have hz : (foundZ w h p).drop i = zOf w h (vRows p.1 0 V0 p.2) (fun q => p.2.getD q []) i q :: (foundZ w h p).drop (i + 1) := by
   rw [List.drop_eq_getElem_cons (by rw [H.zlen]; exact hil)]
   congr 1
   have h4 := zL_at w h p.1 (vRows p.1 0 V0 p.2) (fun q => p.2.getD q []) i
   rw [hq] at h4
   exact (List.getElem?_eq_some_iff.1 h4).2
  rw [hz]
  show Ev _ (resW p.1 (if idxL q.x c 0 = cell then (i : Int) else idxL (placeL c R) cell (i + 1)))
  refine Ev.bind (f := fun k (a : Int) => if a = cell then (if ((q.far : Nat) : Int) ≤ 40 then (reW k (foundZ w h p) i ⟨#[]⟩).bind fun wd => some (wd, true) else wtcZ k cell c (foundZ w h p) ((foundZ w h p).drop (i + 1)) (i + 1)) else wtcZ k cell c (foundZ w h p) ((foundZ w h p).drop (i + 1)) (i + 1)) (tiPlace_ev q.x c w h (by have := hg.2; have := H.hs; omega)) ?_
  by_cases e : idxL q.x c 0 = cell
  ·rw [if_pos e, resW_at hq]
   by_cases hf : ((q.far : Nat) : Int) ≤ 40
   ·rw [if_neg (by omega)]
    have hr := reW_ev H i q hq ⟨#[]⟩ (by show 0 + q.far ≤ 1000; omega)
    refine Ev.congr (Ev.bind (f := fun _ wd => some (wd, true)) hr (Ev.const ?_)) fun k => (if_pos e).trans (if_pos hf)
    rw [ByteArray.append_empty']
   ·rw [if_pos (by omega)]
    obtain ⟨m, hup⟩ := H.up
    refine Ev.congr (wtc_far H cell c R (i + 1) h3 fun x hx => ?_) fun k => (if_pos e).trans (if_neg hf)
    obtain ⟨j, hj⟩ := List.getElem?_of_mem hx
    rw [← h3, List.getElem?_drop] at hj
    have := hup.up i (i + 1 + j) q x (by omega) hq hj
    omega
  ·rw [if_neg e]
   exact Ev.congr (wtc_ev cell c R (i + 1) h3) fun k => if_neg e
theorem place_in {s : ByteArray} (hk : nameOK s = true) (h0 : 0 ≤ idxL cs (bt s 0) 0) : ∀ x ∈ placeL (bt s 0) p.1, inCells cs x := fun x hx => by
 unfold placeL at hx;obtain ⟨q, hq, rfl⟩ := List.mem_map.1 hx;obtain ⟨k, hk2⟩ := List.getElem?_of_mem hq;obtain ⟨hc, htx, _⟩ := tray_own H.tray;obtain ⟨_, _, _, e, _, _, _, _, _, hn⟩ := tray_parts H.tray
 injection e with e1 e2
 injection e2 with e2 e3
 have hgt : goodC w h cs := ⟨hc, by rw [e3, hn]; congr 1 <;> omega⟩;have ho := name_only (tray_named H.tray) hk h0;obtain ⟨x', hx'⟩ := way_only H.hw H.hh H.hs H.hw1 H.hh1 (name_ball hk) hgt (H.done.inv.way (tiT w h) k q hk2) _ ho;have hg := H.good q hq
 rw [idx_only hx']
 have h1 := hx'.1;have h2 := hx'.2.1
 exact ⟨h1, by have := hg.2; have := hgt.2; omega⟩
end
theorem specWordToCell_ev (t s : ByteArray) (cell : Int) : Ev (fun k => spec_WordToCell.f k t s cell) (WordToCellR t s cell) := by
 have hball : Ev (fun k => spec_reBall.f k t s) (if (cellOfR t s).2 = true then reAllR t else ([], false)) := by
  refine Ev.bind (f := fun k (g : Int × Int × List Int × Bool) => if g.2.2.2 = true then (spec_reName.f s).bind fun b => if b = true then (if 0 < s.size then (spec_tiPlace.f k g.1 g.2.1 g.2.2.1 (bt s 0)).bind fun p => if p < 0 then some ([], false) else spec_reAll.f k t else none) else some ([], false) else some ([], false)) (tyRead_ev t) ?_
  unfold cellOfR
  rcases ht : trayOf t with _ | ⟨w, h, cs⟩
  ·exact Ev.congr (Ev.const rfl) fun k => if_neg Bool.false_ne_true
  ·have hl := form_len ht
   by_cases hk : nameOK s = true
   ·obtain ⟨hz, _, _⟩ := of_decide_eq_true hk
    have hz0 : 0 < s.size := by omega
    show Ev _ (if (if nameOK s = true then (idxL cs (bt s 0) 0, decide (idxL cs (bt s 0) 0 ≥ 0)) else (0, false)).2 = true then _ else _)
    rw [if_pos hk]
    refine Ev.congr (Ev.bind (f := fun k (p : Int) => if p < 0 then some (([] : List Zs), false) else spec_reAll.f k t) (tiPlace_ev cs (bt s 0) w h (Nat.le_trans hl (by decide))) ?_) fun k => ?_
    ·by_cases h0 : idxL cs (bt s 0) 0 < 0
     ·rw [if_neg (show ¬ decide (idxL cs (bt s 0) 0 ≥ 0) = true from by rw [decide_eq_false (by omega)]; decide)]
      exact Ev.congr (Ev.const rfl) fun k => if_pos h0
     ·rw [if_pos (show decide (idxL cs (bt s 0) 0 ≥ 0) = true from decide_eq_true (by omega))]
      exact Ev.congr (reAll_ev t) fun k => if_neg h0
    ·show (if true = true then _ else _) = _
     rw [if_pos rfl, name_eq, Option.bind_some, if_pos hk, if_pos hz0]
     rfl
   ·show Ev _ (if (if nameOK s = true then (idxL cs (bt s 0) 0, decide (idxL cs (bt s 0) 0 ≥ 0)) else (0, false)).2 = true then _ else _)
    rw [if_neg hk]
    refine Ev.congr (Ev.const (o := some (([] : List Zs), false)) rfl) fun k => ?_
    show (if true = true then _ else _) = _
    rw [if_pos rfl, name_eq, Option.bind_some, if_neg hk]
 refine Ev.bind (f := fun k (a : List Zs × Bool) => if a.2 = true then (if 0 < s.size then wtcZ k cell (bt s 0) a.1 a.1 0 else none) else some (⟨#[]⟩, false)) hball ?_
 unfold WordToCellR
 by_cases hc : (cellOfR t s).2 = true
 ·rw [if_pos hc, if_pos hc]
  have hz0 : 0 < s.size := by
   unfold cellOfR at hc
   rcases ht : trayOf t with _ | ⟨w, h, cs⟩
   ·rw [ht] at hc
    cases hc
   ·rw [ht] at hc
    by_cases hk : nameOK s = true
    ·obtain ⟨hz, _, _⟩ := of_decide_eq_true hk
     omega
    ·have hc2 : (if nameOK s = true then (idxL cs (bt s 0) 0, decide (idxL cs (bt s 0) 0 ≥ 0)) else (0, false)).2 = true := hc
     rw [if_neg hk] at hc2
     cases hc2
  rcases found_cases t with ⟨h1, h2⟩ | ⟨w, h, cs, p, H⟩
  ·rw [h1, found_none h1]
   exact Ev.congr (Ev.const rfl) fun k => if_neg Bool.false_ne_true
  ·rw [H.all, H.found]
   exact Ev.congr (wtc_ev H cell (bt s 0) p.1 0 rfl) fun k => (if_pos rfl).trans (if_pos hz0)
 ·rw [if_neg hc, if_neg hc]
  exact Ev.congr (Ev.const rfl) fun k => if_neg Bool.false_ne_true
theorem implWordToCell_ev (t s : ByteArray) (cell : Int) (ht0 : t.size ≤ 1048576) (_hs0 : s.size ≤ 1048576) : Ev (fun k => impl_WordToCell.f k t s cell) (WordToCellR t s cell) := by
 have hwith : Ev (fun k => impl_reachWith.f k t s) (if (cellOfR t s).2 = true then reachR t else failI) := by
  refine Ev.bind (f := fun k (bt102 : Int × Bool) => (if bt102.2 = true then ((impl_reachOf.f k t).bind fun bt104 => (some (bt104.1, bt104.2.1, bt104.2.2.1, bt104.2.2.2.1, bt104.2.2.2.2))) else (some (([] : List ByteArray), ([] : List Int), ([] : List (List Int)), ([] : List ByteArray), false)))) (cellOf_ev t s ht0) ?_
  by_cases hc : (cellOfR t s).2 = true
  ·rw [if_pos hc]
   exact Ev.congr (Ev.bind (f := fun _ (bt104 : ReR) => some (bt104.1, bt104.2.1, bt104.2.2.1, bt104.2.2.2.1, bt104.2.2.2.2)) (reachOf_ev t ht0) (Ev.const rfl)) fun k => if_pos hc
  ·rw [if_neg hc]
   exact Ev.congr (Ev.const rfl) fun k => if_neg hc
 have hno : ∀ (a : List ByteArray) (b : List Int) (c : List (List Int)) (d : List ByteArray), Ev (fun k => impl_WordToCell.j0 k s cell true a b c d) (⟨#[]⟩, false) := fun a b c d => by
  refine Ev.step (Ev.const (o := some ((⟨#[]⟩ : ByteArray), false)) rfl) fun k => ?_
  rw [impl_WordToCell.j0, if_pos rfl]
 refine Ev.bind (f := fun k (bt101 : ReR) => (if bt101.2.2.2.2 = true then ((impl_isNumber.f k t (([cell] : List Int))).bind fun t118 => (impl_WordToCell.j0 k s cell (!t118) bt101.1 bt101.2.1 bt101.2.2.1 bt101.2.2.2.1)) else (impl_WordToCell.j0 k s cell true bt101.1 bt101.2.1 bt101.2.2.1 bt101.2.2.2.1))) hwith ?_
 unfold WordToCellR
 by_cases hc : (cellOfR t s).2 = true
 ·rw [if_pos hc, if_pos hc]
  rcases found_cases t with ⟨h1, h2⟩ | ⟨w, h, cs, p, H⟩
  ·rw [h2, found_none h1]
   exact Ev.congr (hno _ _ _ _) fun k => if_neg Bool.false_ne_true
  ·rw [H.prog, H.found]
   have hlen := H.len
   have hk : nameOK s = true ∧ 0 ≤ idxL cs (bt s 0) 0 := by
    unfold cellOfR at hc
    rw [H.tray] at hc
    have hc2 : (if nameOK s = true then (idxL cs (bt s 0) 0, decide (idxL cs (bt s 0) 0 ≥ 0)) else (0, false)).2 = true := hc
    by_cases hk : nameOK s = true
    ·rw [if_pos hk] at hc2
     exact ⟨hk, of_decide_eq_true hc2⟩
    ·rw [if_neg hk] at hc2
     cases hc2
   obtain ⟨hz, _, _⟩ := of_decide_eq_true hk.1;have hin := place_in H hk.1 hk.2;have hnum := isNumber_ev t ht0 [cell] (by show 1 ≤ 1000000; omega)
   rw [H.tray] at hnum
   refine Ev.congr (Ev.bind (f := fun k t118 => (impl_WordToCell.j0 k s cell (!t118) (txs w h p.1) (fars p.1) (p.2.map casts) (wds p.1))) hnum ?_) fun k => if_pos rfl
   show Ev (fun k => impl_WordToCell.j0 k s cell (!(allCells cs [cell])) (txs w h p.1) (fars p.1) (p.2.map casts) (wds p.1)) (resW p.1 (idxL (placeL (bt s 0) p.1) cell 0))
   have hall : allCells cs [cell] = decide (inCells cs cell) := by unfold allCells; rw [List.all_cons, List.all_nil, Bool.and_true]
   by_cases hcell : inCells cs cell
   ·rw [hall, decide_eq_true hcell]
    have hpl : (placeL (bt s 0) p.1).length = p.1.length := by unfold placeL; rw [List.length_map]
    have hfl : (fars p.1).length = p.1.length := by unfold fars; rw [List.length_map]
    have hwl : (wds p.1).length = p.1.length := by unfold wds; rw [List.length_map]
    refine Ev.step (Ev.bind (f := fun k t119 => ((slices_Index_int_int.f k t119 cell).bind fun t122 => (if t122 < 0 then (some ((⟨#[]⟩ : ByteArray), false)) else (if 0 ≤ t122 then (if t122 < ((fars p.1).length : Int) then (if (rd (fars p.1) t122) > 40 then (some ((⟨#[]⟩ : ByteArray), false)) else (if t122 < ((wds p.1).length : Int) then (some (rdOf ByteArray.empty (wds p.1) t122, true)) else (none))) else (none)) else (none))))) (cells_ev H s (by omega)) ?_) fun k => ?_
    ·refine Ev.bind (f := fun _ t122 => (if t122 < 0 then (some ((⟨#[]⟩ : ByteArray), false)) else (if 0 ≤ t122 then (if t122 < ((fars p.1).length : Int) then (if (rd (fars p.1) t122) > 40 then (some ((⟨#[]⟩ : ByteArray), false)) else (if t122 < ((wds p.1).length : Int) then (some (rdOf ByteArray.empty (wds p.1) t122, true)) else (none))) else (none)) else (none)))) (idxI_l0 (placeL (bt s 0) p.1) cell (by omega) _ 0 rfl (Nat.zero_le _)) (Ev.const ?_)
     rcases idxL_cases (placeL (bt s 0) p.1) cell 0 with ⟨h1, _⟩ | ⟨j, h1, h2⟩
     ·rw [List.drop_zero, h1]
      rfl
     ·rw [Nat.zero_add] at h1
      unfold placeL at h2
      rw [List.getElem?_map] at h2
      obtain ⟨q, hq, _⟩ := Option.map_eq_some_iff.1 h2;have hjl := (List.getElem?_eq_some_iff.1 hq).1
      rw [List.drop_zero, h1, resW_at hq, if_neg (by omega), if_pos (by omega), if_pos (by rw [hfl]; omega), rd_fars hq]
      by_cases hf : ((q.far : Nat) : Int) > 40
      ·rw [if_pos hf, if_pos hf]
      ·rw [if_neg hf, if_neg hf, if_pos (by rw [hwl]; omega)]
       exact congrArg (fun z => some (z, true)) (rdOf_map ByteArray.empty (fun s : RS => wordT s.word) hq)
    ·rw [impl_WordToCell.j0, if_neg (by decide)]
   ·rw [hall, decide_eq_false hcell]
    have hi : idxL (placeL (bt s 0) p.1) cell 0 = -1 := by
     rcases idxL_cases (placeL (bt s 0) p.1) cell 0 with ⟨h1, _⟩ | ⟨j, h1, h2⟩
     ·exact h1
     ·exact absurd (hin cell (List.mem_of_getElem? h2)) hcell
    rw [hi]
    exact hno _ _ _ _
 ·rw [if_neg hc, if_neg hc]
  exact Ev.congr (hno _ _ _ _) fun k => if_neg Bool.false_ne_true
theorem lawWordToCell_ev (t : ByteArray) (s : ByteArray) (cell : Int) : Ev (fun k => laws_FnExactWordToCell.f k t s cell) true := by
 by_cases ht : t.size ≤ 1048576
 case neg =>
  refine Ev.congr (Ev.const (o := some true) rfl) fun k => ?_
  unfold laws_FnExactWordToCell.f
  exact if_pos (by omega)
 by_cases hs : s.size ≤ 1048576
 case neg =>
  refine Ev.congr (Ev.const (o := some true) rfl) fun k => ?_
  unfold laws_FnExactWordToCell.f
  rw [if_neg (by omega)]
  exact if_pos (by omega)
 have hsp := specWordToCell_ev t s cell;have him := implWordToCell_ev t s cell ht hs
 refine Ev.congr (Ev.bind (f := fun k (bt101 : ByteArray × Bool) => ((impl_WordToCell.f k t s cell).bind fun bt103 => (if bt103.1.toList = bt101.1.toList then (if (bt103.2 != bt101.2) = true then (some false) else (some true)) else (some false)))) hsp (Ev.bind (f := fun _ (bt103 : ByteArray × Bool) => (if bt103.1.toList = (WordToCellR t s cell).1.toList then (if (bt103.2 != (WordToCellR t s cell).2) = true then (some false) else (some true)) else (some false))) him (Ev.const ?_))) fun k => by unfold laws_FnExactWordToCell.f; rw [if_neg (by omega), if_neg (by omega)]
 rw [if_pos rfl, bne_self_eq_false, if_neg (by decide)]
end Go.Proofs.YtchjgphnglklcaaGreatDoor.Q
end
