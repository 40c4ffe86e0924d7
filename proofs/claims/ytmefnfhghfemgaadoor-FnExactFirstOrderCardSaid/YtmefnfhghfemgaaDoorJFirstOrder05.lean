/- Texts of this claim, joined. -/
import Derived.Test.YtmefnfhghfemgaaDoorJFirstOrder01
import Derived.Test.YtmefnfhghfemgaaDoorJFirstOrder03
import Derived.Test.YtmefnfhghfemgaaDoorJFirstOrder04
import Derived.Test.YtmefnfhghfemgaaDoorJFirstOrder02
import Derived.Laws.AppendOwn
import Derived.Lib.ConvBytes
import Derived.Laws.BytesArg
import Derived.Deep.LoopGhost
import Derived.RangeFuncBox
import Derived.WalkKit
import Derived.Shelf.SlicesE.Clone
set_option linter.unusedVariables false
set_option linter.unusedSimpArgs false
set_option linter.unusedSectionVars false
section
namespace Go.Proofs.YtmefnfhghfemgaaDoor.Q
open Go.RowKit Go.Proofs.YtmefnfhghfemgaaDoorW.PrintWords Go.Proofs.YtmefnfhghfemgaaDoorW.PrintLast Go.Proofs.YtmefnfhghfemgaaDoorW.PrintMore
attribute [local go_sem] max2_int min2_int max_two min_two max_three min_three max_four min_four
set_option linter.unusedVariables false
set_option linter.unusedSimpArgs false
def impl_IsForm.j0 : Nat → ByteArray → Bool → Option (Bool)
 | 0, _, _ => none
 | k + 1, x0, x11 => if x11 = true then (some false) else ((impl_read.f x0).bind fun bt103 => ((impl_tray_pieces.f k bt103.1 bt103.2.1 bt103.2.2).bind fun t109 => (if (t109.length : Int) = 1 then ((impl_tray_indices_isBall.f k bt103.1 bt103.2.1 bt103.2.2 ()).bind fun t112 => (some (decide ((t112.length : Int) ≤ 10)))) else (some false))))
def impl_IsForm.f (k : Nat) (a0 : ByteArray) : Option (Bool) := (impl_IsTray.f k a0).bind fun t101 => (if t101 = true then ((strings_Trim.f a0 (⟨#[46, 111, 47]⟩ : ByteArray)).bind fun t102 => (impl_IsForm.j0 k a0 (t102.toList != ([] : List UInt8)))) else (impl_IsForm.j0 k a0 true))
set_option maxHeartbeats 8000000 in
set_option maxRecDepth 100000 in
theorem impl_IsForm.calls (k : Nat) (a0 : ByteArray) (r : Bool) (w : World) (hG : GoodW w) (h : impl_IsForm.f k a0 = some r) :
  Calls Tryd.prog 31 #[.string a0] w fun e w' => e = .returned (.bool r) ∧ Below w.heap.size w w' := by
 have hu46 := Tryd.underlying46
 have HG := Aside0.mk hG
 clear hG
 have HB := Aside0.mk (Below.refl w.heap.size w)
 have H : ((impl_IsTray.f k a0).bind fun t101 => (if t101 = true then ((strings_Trim.f a0 (⟨#[46, 111, 47]⟩ : ByteArray)).bind fun t102 => (impl_IsForm.j0 k a0 (t102.toList != ([] : List UInt8)))) else (impl_IsForm.j0 k a0 true))) = some r := h
 clear h
 have HC2 := Aside0.mk H
 clear H
 go_enter Tryd.func31, Tryd.ntmps31
 go_upto_region 1 with (fail)
 go_cut [11] (fun v11 wc => ∃ (kq : Nat) (x11_1 : Bool), v11 = .bool x11_1 ∧ Aside0 (impl_IsForm.j0 kq a0 x11_1 = some r) ∧ Aside0 (kq ≤ k) ∧ Aside0 (Below w.heap.size w wc))
 case first =>
  have H := HC2.out
  clear HC2
  replace H := Option.bind_eq_some_iff.mp H
  obtain ⟨t101, A30, H⟩ := H
  replace H : (if t101 = true then ((strings_Trim.f a0 (⟨#[46, 111, 47]⟩ : ByteArray)).bind fun t102 => (impl_IsForm.j0 k a0 (t102.toList != ([] : List UInt8)))) else (impl_IsForm.j0 k a0 true)) = some r := H
  have A3 := Aside0.mk A30
  clear A30
  by_cases c4 : t101 = true
  ·subst c4
   have H1 : ((strings_Trim.f a0 (⟨#[46, 111, 47]⟩ : ByteArray)).bind fun t102 => (impl_IsForm.j0 k a0 (t102.toList != ([] : List UInt8)))) = some r := by rw [if_pos rfl] at H; exact H
   clear H
   have H := H1
   clear H1
   replace H := Option.bind_eq_some_iff.mp H
   obtain ⟨t102, A50, H⟩ := H
   replace H : (impl_IsForm.j0 k a0 (t102.toList != ([] : List UInt8))) = some r := H
   have A5 := Aside0.mk A50
   clear A50
   have H' := Aside0.mk H
   clear H
   go_wp2_with (first | ((with_reducible refine gate_callee (f := 63) rfl ?_); refine gcall (some 5) Tryd.func63 #[.string a0] rfl ?_; (with_reducible refine (impl_IsTray.calls k a0 true _ ?side1 A3.out).mono ?_); (case side1 => (refine GoodW.below HG.out ?_); exact bel HB); rintro e w6 ⟨rfl, hb⟩; refine ⟨_, rfl, ?_⟩; have n0_ := Aside0.mk (below_step (bel HB) hb); clear HB; have HB := n0_; clear n0_; (try clear hb); (try clear hb2); (try clear hk); (try clear hi)) | (go_at_call 64; (with_reducible refine (strings_Trim.calls a0 (⟨#[46, 111, 47]⟩ : ByteArray) t102 _ A5.out).mono ?_); rintro e w7 ⟨rfl, hb⟩; have n0_ := Aside0.mk (below_step (bel HB) hb); clear HB; have HB := n0_; clear n0_; (try clear hb); (try clear hb2); (try clear hk); (try clear hi)))
   go_meet
   case rel => exact ⟨_, ((t102.toList != ([] : List UInt8))), (by first | rfl | (simp; done) | (simp [*]; done) | (simp [nil_bool]; done)), H', ⟨by first | omega | exact Nat.le_refl _⟩, ⟨bel HB⟩⟩
  ·replace c4 := Bool.eq_false_iff.mpr c4
   subst c4
   have H1 : (impl_IsForm.j0 k a0 true) = some r := by rw [if_neg (show ¬ (false = true) by decide)] at H; exact H
   clear H
   have H := H1
   clear H1
   have H' := Aside0.mk H
   clear H
   go_wp2_with (first | ((with_reducible refine gate_callee (f := 63) rfl ?_); refine gcall (some 5) Tryd.func63 #[.string a0] rfl ?_; (with_reducible refine (impl_IsTray.calls k a0 false _ ?side1 A3.out).mono ?_); (case side1 => (refine GoodW.below HG.out ?_); exact bel HB); rintro e w8 ⟨rfl, hb⟩; refine ⟨_, rfl, ?_⟩; have n0_ := Aside0.mk (below_step (bel HB) hb); clear HB; have HB := n0_; clear n0_; (try clear hb); (try clear hb2); (try clear hk); (try clear hi)))
   go_meet
   case rel => exact ⟨_, (true), (by first | rfl | (simp; done) | (simp [*]; done) | (simp [nil_bool]; done)), H', ⟨by first | omega | exact Nat.le_refl _⟩, ⟨bel HB⟩⟩
 case rest =>
  clear HC2
  try clear p2
  try clear c3
  try clear c4
  try clear c6
  obtain ⟨kq, x11_1, rfl, HA, HJ1, HB⟩ := hcut
  cases kq with
  | zero => exact absurd HA.out (by simp [impl_IsForm.j0])
  | succ kj1 =>
   have H := HA.out
   clear HA
   simp only [impl_IsForm.j0] at H
   by_cases c9 : x11_1 = true
   ·subst c9
    have H1 : (some false) = some r := by rw [if_pos rfl] at H; exact H
    clear H
    have H := H1
    clear H1
    obtain rfl := Option.some.inj H
    go_wp2
    go_ret
    exact ⟨by first | rfl | (simp [errW_none, errW_some] <;> rfl) | (simp [*, errW_none, errW_some] <;> rfl), bel HB⟩
   ·replace c9 := Bool.eq_false_iff.mpr c9
    subst c9
    have H1 : ((impl_read.f a0).bind fun bt103 => ((impl_tray_pieces.f kj1 bt103.1 bt103.2.1 bt103.2.2).bind fun t109 => (if (t109.length : Int) = 1 then ((impl_tray_indices_isBall.f kj1 bt103.1 bt103.2.1 bt103.2.2 ()).bind fun t112 => (some (decide ((t112.length : Int) ≤ 10)))) else (some false)))) = some r := by rw [if_neg (show ¬ (false = true) by decide)] at H; exact H
    clear H
    have H := H1
    clear H1
    replace H := Option.bind_eq_some_iff.mp H
    obtain ⟨⟨t103, t104, t105⟩, A100, H⟩ := H
    replace H : ((impl_tray_pieces.f kj1 t103 t104 t105).bind fun t109 => (if (t109.length : Int) = 1 then ((impl_tray_indices_isBall.f kj1 t103 t104 t105 ()).bind fun t112 => (some (decide ((t112.length : Int) ≤ 10)))) else (some false))) = some r := H
    have A10 := Aside0.mk A100
    clear A100
    replace H := Option.bind_eq_some_iff.mp H
    obtain ⟨t109, A110, H⟩ := H
    replace H : (if (t109.length : Int) = 1 then ((impl_tray_indices_isBall.f kj1 t103 t104 t105 ()).bind fun t112 => (some (decide ((t112.length : Int) ≤ 10)))) else (some false)) = some r := H
    have A11 := Aside0.mk A110
    clear A110
    by_cases c12 : (t109.length : Int) = 1
    ·rw [if_pos c12] at H
     have c12b0 : ((t109.length : Int) == 1) = true := beq_iff_eq.mpr c12
     have c12b1 : ((t109.length : Int) != 1) = false := bne_eq_false_iff_eq.mpr c12
     clear c12
     replace H := Option.bind_eq_some_iff.mp H
     obtain ⟨t112, A130, H⟩ := H
     replace H : (some (decide ((t112.length : Int) ≤ 10))) = some r := H
     have A13 := Aside0.mk A130
     clear A130
     obtain rfl := Option.some.inj H
     go_wp2_with (first | ((with_reducible refine gate_callee (f := 27) rfl ?_); refine gcall (some 13) Tryd.func27 #[.string a0] rfl ?_; (with_reducible refine (impl_read.calls a0 t103 t104 t105 _ ?side1 A10.out).mono ?_); (case side1 => (refine GoodW.below HG.out ?_); exact bel HB); rintro e w14 ⟨v106, rfl, ho0, hb⟩; refine ⟨_, rfl, ?_⟩; have n0_ := Aside0.mk (Kd.V_lower (Kd.V_mono (ok' := fun k_ => True) ho0 (fun k_ hk_ => trivial)) (below_size (bel HB))); have n1_ := Aside0.mk (below_step (bel HB) hb); clear HB; have HO107 := n0_; have HB := n1_; clear n0_ n1_; (try clear hb); (try clear hb2); (try clear hk); (try clear hi); (try clear ho0)) | ((with_reducible refine gate_dst (N := 3) rfl ?_); refine boxE (N := 3) (cs := #[.int .i64 0, .int .i64 0, .slice none 0 0]) (t := 46) ?_; intro gb108 hg w15 hbox hb; have n0_ := Aside0.mk (Kd.V_below (Kd.V_elderB (by (with_reducible repeat (first | apply Kd.V_alloc | apply Kd.V_drewN | apply Kd.V_drew)); (first | exact HO107.out | exact R_any HO107.out)) gb108 (Nat.le_of_eq hg.symm)) hb); have n1_ := Aside0.mk (below_step (bel HB) hb); have n2_ := Aside0.mk (hbox); have n3_ := Aside0.mk (gsz hg (bel HB)); have n4_ := Aside0.mk (gsz hg (bel HB)); clear HO107; clear HB; have HO107 := n0_; have HB := n1_; have BK108 := n2_; have GW108 := n3_; have GE108 := n4_; clear n0_ n1_ n2_ n3_ n4_; clear hb hbox hg; have hcz16_0 : w15.cell? ⟨gb108, 0, none⟩ = some (.int .i64 0) := (blk_cell BK108.out 0).trans rfl; have hcz16_1 : w15.cell? ⟨gb108, 1, none⟩ = some (.int .i64 0) := (blk_cell BK108.out 1).trans rfl; have hcz16_2 : w15.cell? ⟨gb108, 2, none⟩ = some (.slice none 0 0) := (blk_cell BK108.out 2).trans rfl; have hfz16_0 := blk_frozen BK108.out 0; have hfz16_1 := blk_frozen BK108.out 1; have hfz16_2 := blk_frozen BK108.out 2; obtain ⟨Ao17, co17, eo17⟩ := Kd.V_slice HO107.out; subst eo17) | ((with_reducible refine gate_callee (f := 53) rfl ?_); refine gcall (some 15) Tryd.func53 #[.agg #[.int .i64 t103, .int .i64 t104, .slice Ao17 t105.length co17]] rfl ?_; (with_reducible refine (impl_tray_pieces.calls kj1 t103 t104 _ _ t105 t109 _ ?side1 ?side2 A11.out).mono ?_); (case side1 => refine (Kd.V_reads' (e := 5) (base := w.heap.size) (ok := fun k_ => (True ∧ k_ ≠ gb108)) (n := t105.length) (c := co17) ?_).2.2; exact (by (with_reducible repeat (first | apply Kd.V_alloc | apply Kd.V_drewN | apply Kd.V_drew)); exact (Kd.V_mono (Kd.V_far (p := ⟨gb108, 2, none⟩) (Kd.V_far (p := ⟨gb108, 1, none⟩) (Kd.V_far (p := ⟨gb108, 0, none⟩) (Kd.V_mono HO107.out (fun k_ hk => (⟨hk, hk.2⟩ : _ ∧ k_ ≠ gb108))) (fun _ hk => hk.2) (.int .i64 t103)) (fun _ hk => hk.2) (.int .i64 t104)) (fun _ hk => hk.2) (.slice Ao17 t105.length co17)) (fun _ h_ => h_.1)))); (case side2 => exact (Kd.V_reads' HO107.out).2.1); rintro e w18 ⟨v110, rfl, ho0, hb⟩; refine ⟨_, rfl, ?_⟩; have n0_ := Aside0.mk (Kd.V_elder' (by (with_reducible repeat (first | apply Kd.V_alloc | apply Kd.V_drewN | apply Kd.V_drew)); exact (Kd.V_mono (Kd.V_far (p := ⟨gb108, 2, none⟩) (Kd.V_far (p := ⟨gb108, 1, none⟩) (Kd.V_far (p := ⟨gb108, 0, none⟩) (Kd.V_mono HO107.out (fun k_ hk => (⟨hk, hk.2⟩ : _ ∧ k_ ≠ gb108))) (fun _ hk => hk.2) (.int .i64 t103)) (fun _ hk => hk.2) (.int .i64 t104)) (fun _ hk => hk.2) (.slice Ao17 t105.length co17)) (fun _ h_ => h_.1))) (Kd.S_base ho0) hb); have n1_ := Aside0.mk (Kd.S_lower ho0 (below_size (bel HB))); have n2_ := Aside0.mk (blk_below (g := gb108) (o := .cells #[.int .i64 t103, .int .i64 t104, .slice Ao17 t105.length co17] 46 (0, 0)) (by (with_reducible repeat (first | refine blk_drewN ?_ _ | refine blk_drew ?_ | refine blk_alloc ?_ _)); refine blk_put (cs := #[.int .i64 t103, .int .i64 t104, .slice none 0 0]) ?_ 2 _ rfl; (with_reducible repeat (first | refine blk_drewN ?_ _ | refine blk_drew ?_ | refine blk_alloc ?_ _)); refine blk_put (cs := #[.int .i64 t103, .int .i64 0, .slice none 0 0]) ?_ 1 _ rfl; (with_reducible repeat (first | refine blk_drewN ?_ _ | refine blk_drew ?_ | refine blk_alloc ?_ _)); refine blk_put (cs := #[.int .i64 0, .int .i64 0, .slice none 0 0]) ?_ 0 _ rfl; exact blc) hb); have n3_ := Aside0.mk (below_step (bel HB) hb); clear HO107; clear BK108; clear HB; have HO107 := n0_; have HO111 := n1_; have BK108 := n2_; have HB := n3_; clear n0_ n1_ n2_ n3_; (try clear hb); (try clear hb2); (try clear hk); (try clear hi); (try clear ho0); obtain ⟨Ao19, co19, eo19⟩ := Kd.S_slice HO111.out; subst eo19; have hcz20_0 : w18.cell? ⟨gb108, 0, none⟩ = some (.int .i64 t103) := (blk_cell BK108.out 0).trans rfl; have hcz20_1 : w18.cell? ⟨gb108, 1, none⟩ = some (.int .i64 t104) := (blk_cell BK108.out 1).trans rfl; have hcz20_2 : w18.cell? ⟨gb108, 2, none⟩ = some (.slice Ao17 t105.length co17) := (blk_cell BK108.out 2).trans rfl; have hfz20_0 := blk_frozen BK108.out 0; have hfz20_1 := blk_frozen BK108.out 1; have hfz20_2 := blk_frozen BK108.out 2) | (go_at_call 65; (with_reducible refine (impl_tray_indices_isBall.calls kj1 t103 t104 _ _ t105 () t112 _ ?side1 ?side2 A13.out).mono ?_); (case side1 => repeat (first | exact (Kd.V_reads' HO107.out).2.2 | (with_reducible refine Kd.C_alloc ?_ _) | (with_reducible refine Kd.C_drewN ?_ _) | (with_reducible refine Kd.C_drew ?_))); (case side2 => exact (Kd.V_reads' HO107.out).2.1); rintro e w21 ⟨v113, rfl, ho0, hb⟩; have n0_ := Aside0.mk (Kd.V_elder' (by (with_reducible repeat (first | apply Kd.V_alloc | apply Kd.V_drewN | apply Kd.V_drew)); (first | exact HO107.out | exact R_any HO107.out)) (Kd.R_base ho0) hb); have n1_ := Aside0.mk (Kd.S_elder' (by (with_reducible repeat (first | apply Kd.S_alloc | apply Kd.S_drewN | apply Kd.S_drew)); (first | exact HO111.out | exact R_any HO111.out)) (Kd.R_base ho0) hb); have n2_ := Aside0.mk (Kd.R_lower ho0 (below_size (bel HB))); have n3_ := Aside0.mk (blk_below (g := gb108) (o := .cells #[.int .i64 t103, .int .i64 t104, .slice Ao17 t105.length co17] 46 (0, 0)) blc hb); have n4_ := Aside0.mk (below_step (bel HB) hb); clear HO107; clear HO111; clear BK108; clear HB; have HO107 := n0_; have HO111 := n1_; have HO114 := n2_; have BK108 := n3_; have HB := n4_; clear n0_ n1_ n2_ n3_ n4_; (try clear hb); (try clear hb2); (try clear hk); (try clear hi); (try clear ho0); obtain ⟨Ao22, co22, eo22⟩ := Kd.R_slice HO114.out; subst eo22))
     go_ret
     exact ⟨by first | rfl | (simp [errW_none, errW_some] <;> rfl) | (simp [*, errW_none, errW_some] <;> rfl), bel HB⟩
    ·rw [if_neg c12] at H
     have c12b0 : ((t109.length : Int) == 1) = false := beq_eq_false_iff_ne.mpr c12
     have c12b1 : ((t109.length : Int) != 1) = true := bne_iff_ne.mpr c12
     obtain rfl := Option.some.inj H
     go_wp2_with (first | ((with_reducible refine gate_callee (f := 27) rfl ?_); refine gcall (some 13) Tryd.func27 #[.string a0] rfl ?_; (with_reducible refine (impl_read.calls a0 t103 t104 t105 _ ?side1 A10.out).mono ?_); (case side1 => (refine GoodW.below HG.out ?_); exact bel HB); rintro e w23 ⟨v106, rfl, ho0, hb⟩; refine ⟨_, rfl, ?_⟩; have n0_ := Aside0.mk (Kd.V_lower (Kd.V_mono (ok' := fun k_ => True) ho0 (fun k_ hk_ => trivial)) (below_size (bel HB))); have n1_ := Aside0.mk (below_step (bel HB) hb); clear HB; have HO107 := n0_; have HB := n1_; clear n0_ n1_; (try clear hb); (try clear hb2); (try clear hk); (try clear hi); (try clear ho0)) | ((with_reducible refine gate_dst (N := 3) rfl ?_); refine boxE (N := 3) (cs := #[.int .i64 0, .int .i64 0, .slice none 0 0]) (t := 46) ?_; intro gb108 hg w24 hbox hb; have n0_ := Aside0.mk (Kd.V_below (Kd.V_elderB (by (with_reducible repeat (first | apply Kd.V_alloc | apply Kd.V_drewN | apply Kd.V_drew)); (first | exact HO107.out | exact R_any HO107.out)) gb108 (Nat.le_of_eq hg.symm)) hb); have n1_ := Aside0.mk (below_step (bel HB) hb); have n2_ := Aside0.mk (hbox); have n3_ := Aside0.mk (gsz hg (bel HB)); have n4_ := Aside0.mk (gsz hg (bel HB)); clear HO107; clear HB; have HO107 := n0_; have HB := n1_; have BK108 := n2_; have GW108 := n3_; have GE108 := n4_; clear n0_ n1_ n2_ n3_ n4_; clear hb hbox hg; have hcz25_0 : w24.cell? ⟨gb108, 0, none⟩ = some (.int .i64 0) := (blk_cell BK108.out 0).trans rfl; have hcz25_1 : w24.cell? ⟨gb108, 1, none⟩ = some (.int .i64 0) := (blk_cell BK108.out 1).trans rfl; have hcz25_2 : w24.cell? ⟨gb108, 2, none⟩ = some (.slice none 0 0) := (blk_cell BK108.out 2).trans rfl; have hfz25_0 := blk_frozen BK108.out 0; have hfz25_1 := blk_frozen BK108.out 1; have hfz25_2 := blk_frozen BK108.out 2; obtain ⟨Ao26, co26, eo26⟩ := Kd.V_slice HO107.out; subst eo26) | ((with_reducible refine gate_callee (f := 53) rfl ?_); refine gcall (some 15) Tryd.func53 #[.agg #[.int .i64 t103, .int .i64 t104, .slice Ao26 t105.length co26]] rfl ?_; (with_reducible refine (impl_tray_pieces.calls kj1 t103 t104 _ _ t105 t109 _ ?side1 ?side2 A11.out).mono ?_); (case side1 => refine (Kd.V_reads' (e := 5) (base := w.heap.size) (ok := fun k_ => (True ∧ k_ ≠ gb108)) (n := t105.length) (c := co26) ?_).2.2; exact (by (with_reducible repeat (first | apply Kd.V_alloc | apply Kd.V_drewN | apply Kd.V_drew)); exact (Kd.V_mono (Kd.V_far (p := ⟨gb108, 2, none⟩) (Kd.V_far (p := ⟨gb108, 1, none⟩) (Kd.V_far (p := ⟨gb108, 0, none⟩) (Kd.V_mono HO107.out (fun k_ hk => (⟨hk, hk.2⟩ : _ ∧ k_ ≠ gb108))) (fun _ hk => hk.2) (.int .i64 t103)) (fun _ hk => hk.2) (.int .i64 t104)) (fun _ hk => hk.2) (.slice Ao26 t105.length co26)) (fun _ h_ => h_.1)))); (case side2 => exact (Kd.V_reads' HO107.out).2.1); rintro e w27 ⟨v110, rfl, ho0, hb⟩; refine ⟨_, rfl, ?_⟩; have n0_ := Aside0.mk (Kd.V_elder' (by (with_reducible repeat (first | apply Kd.V_alloc | apply Kd.V_drewN | apply Kd.V_drew)); exact (Kd.V_mono (Kd.V_far (p := ⟨gb108, 2, none⟩) (Kd.V_far (p := ⟨gb108, 1, none⟩) (Kd.V_far (p := ⟨gb108, 0, none⟩) (Kd.V_mono HO107.out (fun k_ hk => (⟨hk, hk.2⟩ : _ ∧ k_ ≠ gb108))) (fun _ hk => hk.2) (.int .i64 t103)) (fun _ hk => hk.2) (.int .i64 t104)) (fun _ hk => hk.2) (.slice Ao26 t105.length co26)) (fun _ h_ => h_.1))) (Kd.S_base ho0) hb); have n1_ := Aside0.mk (Kd.S_lower ho0 (below_size (bel HB))); have n2_ := Aside0.mk (blk_below (g := gb108) (o := .cells #[.int .i64 t103, .int .i64 t104, .slice Ao26 t105.length co26] 46 (0, 0)) (by (with_reducible repeat (first | refine blk_drewN ?_ _ | refine blk_drew ?_ | refine blk_alloc ?_ _)); refine blk_put (cs := #[.int .i64 t103, .int .i64 t104, .slice none 0 0]) ?_ 2 _ rfl; (with_reducible repeat (first | refine blk_drewN ?_ _ | refine blk_drew ?_ | refine blk_alloc ?_ _)); refine blk_put (cs := #[.int .i64 t103, .int .i64 0, .slice none 0 0]) ?_ 1 _ rfl; (with_reducible repeat (first | refine blk_drewN ?_ _ | refine blk_drew ?_ | refine blk_alloc ?_ _)); refine blk_put (cs := #[.int .i64 0, .int .i64 0, .slice none 0 0]) ?_ 0 _ rfl; exact blc) hb); have n3_ := Aside0.mk (below_step (bel HB) hb); clear HO107; clear BK108; clear HB; have HO107 := n0_; have HO111 := n1_; have BK108 := n2_; have HB := n3_; clear n0_ n1_ n2_ n3_; (try clear hb); (try clear hb2); (try clear hk); (try clear hi); (try clear ho0); obtain ⟨Ao28, co28, eo28⟩ := Kd.S_slice HO111.out; subst eo28))
     go_ret
     exact ⟨by first | rfl | (simp [errW_none, errW_some] <;> rfl) | (simp [*, errW_none, errW_some] <;> rfl), bel HB⟩
end Go.Proofs.YtmefnfhghfemgaaDoor.Q
end
section
namespace Go.Proofs.YtmefnfhghfemgaaDoor.Q
open Go.RowKit Go.Proofs.YtmefnfhghfemgaaDoorW.PrintWords Go.Proofs.YtmefnfhghfemgaaDoorW.PrintLast Go.Proofs.YtmefnfhghfemgaaDoorW.PrintMore
set_option linter.unusedSectionVars false
def ballsTo (cs : List Int) (t : Nat) : List Int := ((List.range t).filter (fun j : Nat => bI cs (j : Int))).map (fun j : Nat => (j : Int))
def ballsOf (cs : List Int) : List Int := ballsTo cs cs.length
theorem ballsTo_succ (cs : List Int) (t : Nat) : ballsTo cs (t + 1) = ballsTo cs t ++ if bI cs (t : Int) = true then [(t : Int)] else [] := by
 unfold ballsTo
 rw [List.range_succ, List.filter_append, List.map_append]
 congr 1
 by_cases hm : bI cs (t : Int) = true
 ·rw [if_pos hm]; simp [hm]
 ·rw [if_neg hm]; simp [hm]
theorem ballsTo_len (cs : List Int) (t : Nat) : (ballsTo cs t).length ≤ t := by
 unfold ballsTo
 rw [List.length_map]
 have := List.length_filter_le (fun j : Nat => bI cs (j : Int)) (List.range t)
 rw [List.length_range] at this
 exact this
theorem tyBalls_l0 (cs : List Int) (hc : cs.length ≤ 36) : ∀ (m t : Nat), t + m = cs.length → Ev (fun k => spec_tyBalls.l0 k (ballsTo cs t) cs cs.length t) (ballsOf cs)
 | 0, t, ht => by
  obtain rfl : t = cs.length := by omega
  refine Ev.step (Ev.const (o := some (ballsOf cs)) rfl) fun k => ?_
  rw [spec_tyBalls.l0, if_neg (by omega)]
  rfl
 | m + 1, t, ht => by
  have ih := tyBalls_l0 cs hc m (t + 1) (by omega)
  have hwt : wrap64 ((t : Int) + 1) = ((t + 1 : Nat) : Int) := by rw [w64 (by omega) (by omega)]; omega
  have c1 : (t : Int) < (cs.length : Int) := by omega
  have c0 : (0 : Int) ≤ (t : Int) := by omega
  have c6 : (ballsTo cs t).length < 17592186044416 := Nat.lt_of_le_of_lt (Nat.le_trans (ballsTo_len cs t) (show t ≤ 36 by omega)) (by decide)
  rw [ballsTo_succ] at ih
  refine Ev.step ih fun k => ?_
  rw [spec_tyBalls.l0, if_pos c1, if_pos c0, if_pos c1, tyBall_eq, Option.bind_some, hwt]
  show (if bI cs t = true then _ else _) = _
  by_cases h1 : bI cs t = true
  ·rw [if_pos h1, if_pos c6, if_pos h1]
  ·rw [if_neg h1, if_neg h1, List.append_nil]
theorem tyBalls_ev (cs : List Int) (hc : cs.length ≤ 36) (w h : Int) : Ev (fun k => spec_tyBalls.f k w h cs) (ballsOf cs) := tyBalls_l0 cs hc cs.length 0 (by omega)
theorem rows_mem (c b : UInt8) : ∀ l, b ∈ (rows c l).flatten ↔ b ∈ l ∧ b ≠ c
 | [] => by simp [rows]
 | a :: l => by
  have ih := rows_mem c b l
  unfold rows
  split
  ·rename_i e
   subst e
   rw [List.flatten_cons, List.nil_append, ih, List.mem_cons]
   constructor
   ·rintro ⟨h1, h2⟩; exact ⟨Or.inr h1, h2⟩
   ·rintro ⟨h1, h2⟩; exact ⟨h1.resolve_left h2, h2⟩
  ·rename_i hne
   split
   ·rename_i e; exact absurd e (rows_ne c l)
   ·rename_i r rs e
    rw [e, List.flatten_cons] at ih
    rw [List.flatten_cons, List.cons_append, List.mem_cons, ih, List.mem_cons]
    constructor
    ·rintro (h1 | ⟨h1, h2⟩)
     ·exact ⟨Or.inl h1, by rw [h1]; exact hne⟩
     ·exact ⟨Or.inr h1, h2⟩
    ·rintro ⟨h1 | h1, h2⟩
     ·exact Or.inl h1
     ·exact Or.inr ⟨h1, h2⟩
end Go.Proofs.YtmefnfhghfemgaaDoor.Q
end
section
namespace Go.Proofs.YtmefnfhghfemgaaDoor.Q
open Go.RowKit Go.Proofs.YtmefnfhghfemgaaDoorW.PrintWords Go.Proofs.YtmefnfhghfemgaaDoorW.PrintLast Go.Proofs.YtmefnfhghfemgaaDoorW.PrintMore
set_option linter.unusedSectionVars false
theorem indices_l0 (cs : List Int) (hc : cs.length ≤ 36) : ∀ (m t : Nat), t + m = cs.length → Ev (fun k => impl_tray_indices_isBall.l0 k (ballsTo cs t) cs cs.length t) (ballsOf cs)
 | 0, t, ht => by
  obtain rfl : t = cs.length := by omega
  refine Ev.step (Ev.const (o := some (ballsOf cs)) rfl) fun k => ?_
  rw [impl_tray_indices_isBall.l0, if_neg (by omega)]
  rfl
 | m + 1, t, ht => by
  have ih := indices_l0 cs hc m (t + 1) (by omega)
  have hwt : wrap64 ((t : Int) + 1) = ((t + 1 : Nat) : Int) := by rw [w64 (by omega) (by omega)]; omega
  have c1 : (t : Int) < (cs.length : Int) := by omega
  have c0 : (0 : Int) ≤ (t : Int) := by omega
  have c6 : (ballsTo cs t).length < 17592186044416 := Nat.lt_of_le_of_lt (Nat.le_trans (ballsTo_len cs t) (show t ≤ 36 by omega)) (by decide)
  rw [ballsTo_succ] at ih
  refine Ev.step ih fun k => ?_
  rw [impl_tray_indices_isBall.l0, if_pos c1, if_pos c0, if_pos c1, isBall_eq, Option.bind_some, hwt]
  show (if bI cs t = true then _ else _) = _
  by_cases h1 : bI cs t = true
  ·rw [if_pos h1, if_pos c6, if_pos h1]
  ·rw [if_neg h1, if_neg h1, List.append_nil]
theorem indices_ev (cs : List Int) (hc : cs.length ≤ 36) (w h : Int) : Ev (fun k => impl_tray_indices_isBall.f k w h cs ()) (ballsOf cs) := indices_l0 cs hc cs.length 0 (by omega)
def open2 (cs : List Int) : Prop := ∀ c ∈ cs, c = 46 ∨ c = 111
instance (cs : List Int) : Decidable (open2 cs) := inferInstanceAs (Decidable (∀ c ∈ cs, _))
def cutForm : ByteArray := ⟨#[46, 111, 47]⟩
theorem open2_trim (s : ByteArray) : (∀ b ∈ s.data.toList, cutForm.data.toList.contains b = true) ↔ open2 (ints (rows 47 s.data.toList).flatten) := by
 have hc : ∀ b : UInt8, cutForm.data.toList.contains b = true ↔ (b = 46 ∨ b = 111 ∨ b = 47) := by
  intro b
  show [46, 111, 47].contains b = true ↔ _
  simp
 have hi : ∀ b : UInt8, ((b.toNat : Int) = 46 ∨ (b.toNat : Int) = 111) ↔ (b = 46 ∨ b = 111) := by
  intro b
  have e1 : ((b.toNat : Int) = 46) ↔ b = 46 := ⟨fun h => UInt8.toNat_inj.1 (show b.toNat = 46 by omega), fun h => by rw [h]; rfl⟩
  have e2 : ((b.toNat : Int) = 111) ↔ b = 111 := ⟨fun h => UInt8.toNat_inj.1 (show b.toNat = 111 by omega), fun h => by rw [h]; rfl⟩
  rw [e1, e2]
 unfold open2 ints
 constructor
 ·intro h c hcm
  obtain ⟨b, hb, rfl⟩ := List.mem_map.1 hcm
  have h1 := (rows_mem 47 b _).1 hb
  refine (hi b).2 ?_
  rcases (hc b).1 (h b h1.1) with h2 | h2 | h2
  ·exact Or.inl h2
  ·exact Or.inr h2
  ·exact absurd h2 h1.2
 ·intro h b hb
  refine (hc b).2 ?_
  by_cases h1 : b = 47
  ·exact Or.inr (Or.inr h1)
  ·have h2 := (hi b).1 (h _ (List.mem_map.2 ⟨b, (rows_mem 47 b _).2 ⟨hb, h1⟩, rfl⟩))
   exact h2.elim Or.inl fun h3 => Or.inr (Or.inl h3)
noncomputable def formOK (w h : Nat) (cs : List Int) : Prop := open2 cs ∧ (1 ≤ (ballsOf cs).length ∧ (ballsOf cs).length ≤ 10) ∧ (mins w h cs (w * h)).length = 1
open Classical in
noncomputable def formOf (s : ByteArray) : Option (Int × Int × List Int) := (trayOf s).bind fun t => if formOK t.1.toNat t.2.1.toNat t.2.2 then some t else none
theorem l1In_eq (a lo hi : Int) : spec_l1In.f a lo hi = some (decide (lo ≤ a ∧ a ≤ hi)) := by
 unfold spec_l1In.f
 by_cases h : a ≥ lo
 ·rw [if_pos h]
  congr 1
  exact decide_eq_decide.2 (by omega)
 ·rw [if_neg h, decide_eq_false (by omega)]
open Classical in
theorem balls_pos (cs : List Int) (w h : Nat) (hn : cs.length = w * h) (hm : 0 < (mins w h cs (w * h)).length) : 1 ≤ (ballsOf cs).length := by
 obtain ⟨m, hmm⟩ := List.exists_mem_of_length_pos hm
 have h1 := List.mem_filter.1 hmm
 have h2 := (of_decide_eq_true h1.2).1
 have h3 : (m : Int) ∈ ballsOf cs := List.mem_map.2 ⟨m, List.mem_filter.2 ⟨List.mem_range.2 (by rw [hn]; exact List.mem_range.1 h1.1), h2⟩, rfl⟩
 exact List.length_pos_of_mem h3
section
open Classical
variable {w h : Nat} {cs : List Int} (hw : w ≤ 7) (hh : h ≤ 7) (hs : w * h ≤ 36) (hn : cs.length = w * h)
include hw hh hs hn
theorem buIs_ev : Ev (fun k => spec_buIs.f k w h cs) (decide ((1 ≤ (ballsOf cs).length ∧ (ballsOf cs).length ≤ 10) ∧ (mins w h cs (w * h)).length = 1)) := by
 obtain ⟨L, _, hL⟩ := pieces_ev hw hh hs hn
 refine Ev.bind (f := fun k t102 => (spec_skPieces.f k w h cs).bind fun bt105 => ((spec_l1In.f (t102.length : Int) 1 10).bind fun t109 => (if t109 = true then (some (bt105.2 == 1)) else (some false)))) (tyBalls_ev cs (by omega) w h) ?_
 refine Ev.bind (f := fun k bt105 => ((spec_l1In.f ((ballsOf cs).length : Int) 1 10).bind fun t109 => (if t109 = true then (some (bt105.2 == 1)) else (some false)))) hL (Ev.const ?_)
 rw [l1In_eq, Option.bind_some]
 by_cases h1 : 1 ≤ (ballsOf cs).length ∧ (ballsOf cs).length ≤ 10
 ·rw [decide_eq_true (show (1 : Int) ≤ _ ∧ _ by omega), if_pos rfl]
  congr 1
  by_cases h2 : (mins w h cs (w * h)).length = 1
  ·rw [decide_eq_true ⟨h1, h2⟩, h2]
   rfl
  ·rw [decide_eq_false fun h3 => h2 h3.2]
   simp
   omega
 ·rw [decide_eq_false (show ¬ ((1 : Int) ≤ _ ∧ _) by omega), if_neg (by decide), decide_eq_false fun h3 => h1 h3.1]
theorem bu_l0 : ∀ (m t : Nat), t + m = cs.length → (∀ c ∈ cs.take t, c = 46 ∨ c = 111) → Ev (fun k => spec_buRead.l0 k cs cs.length t w h cs) ((w : Int), (h : Int), cs, decide (formOK w h cs))
 | 0, t, ht, ho => by
  rw [List.take_of_length_le (by omega)] at ho
  refine Ev.step (Ev.bind (f := fun _ t110 => some ((w : Int), (h : Int), cs, t110)) (buIs_ev hw hh hs hn) (Ev.const ?_)) fun k => ?_
  ·congr 4
   exact decide_eq_decide.2 ⟨fun h1 => ⟨ho, h1⟩, fun h1 => h1.2⟩
  ·rw [spec_buRead.l0, if_neg (by omega)]
 | m + 1, t, ht, ho => by
  have hwt : wrap64 ((t : Int) + 1) = ((t + 1 : Nat) : Int) := by rw [w64 (by omega) (by omega)]; omega
  have hlt : t < cs.length := by omega
  have c1 : (t : Int) < (cs.length : Int) := by omega
  have c0 : (0 : Int) ≤ (t : Int) := by omega
  have hrd := rd_nat cs t hlt
  have htk : cs.take (t + 1) = cs.take t ++ [cs[t]] := List.take_succ_eq_append_getElem hlt
  have hmem : cs[t] ∈ cs := List.getElem_mem hlt
  generalize cs[t] = v at hrd htk hmem
  by_cases hv : v = 46 ∨ v = 111
  ·have ih := bu_l0 m (t + 1) (by omega) (fun c hc => by
    rw [htk] at hc
    rcases List.mem_append.1 hc with h1 | h1
    ·exact ho c h1
    ·rw [List.mem_singleton.1 h1]; exact hv)
   refine Ev.step ih fun k => ?_
   rw [spec_buRead.l0, if_pos c1, if_pos c0, if_pos c1, hrd, hwt]
   by_cases h1 : v = 46
   ·rw [if_pos h1]
   ·rw [if_neg h1, if_pos (hv.resolve_left h1)]
  ·rw [decide_eq_false fun h1 => hv (h1.1 v hmem)]
   refine Ev.step (Ev.const (o := some ((w : Int), (h : Int), cs, false)) rfl) fun k => ?_
   rw [spec_buRead.l0, if_pos c1, if_pos c0, if_pos c1, hrd, if_neg fun h1 => hv (Or.inl h1), if_neg fun h1 => hv (Or.inr h1)]
end
open Classical in
theorem buRead_ev (s : ByteArray) : Ev (fun k => spec_buRead.f k s) (match trayOf s with | none => failT | some (w, h, cs) => (w, h, cs, decide (formOK w.toNat h.toNat cs))) := by
 refine Ev.bind (f := fun k bt102 => (if bt102.2.2.2 = true then (spec_buRead.l0 k bt102.2.2.1 (bt102.2.2.1.length : Int) 0 bt102.1 bt102.2.1 bt102.2.2.1) else (some (bt102.1, bt102.2.1, bt102.2.2.1, false)))) (tyRead_ev s) ?_
 rcases ht : trayOf s with _ | t
 ·exact Ev.const rfl
 ·obtain ⟨w, h, rfl, h1, h2, h3, h4, h5, h6⟩ := trayOf_some ht
  have h7 := bu_l0 h2 h4 h5 h6 _ 0 (Nat.zero_add _) (fun c hc => by simp at hc)
  exact Ev.congr h7 fun k => if_pos rfl
open Classical in
theorem isForm_ev (s : ByteArray) (hs : s.size ≤ 1048576) : Ev (fun k => impl_IsForm.f k s) (formOf s).isSome := by
 refine Ev.bind (f := fun k t101 => (if t101 = true then ((strings_Trim.f s (⟨#[46, 111, 47]⟩ : ByteArray)).bind fun t102 => (impl_IsForm.j0 k s (t102.toList != ([] : List UInt8)))) else (impl_IsForm.j0 k s true))) (isTray_ev s hs) ?_
 have hfail : Ev (fun k => impl_IsForm.j0 k s true) false := Ev.step (Ev.const (o := some false) rfl) fun k => by rw [impl_IsForm.j0, if_pos rfl]
 unfold formOf
 rcases ht : trayOf s with _ | t
 ·exact Ev.congr hfail fun k => if_neg (by decide)
 ·obtain ⟨w, h, rfl, h1, h2, h3, h4, h5, h6⟩ := trayOf_some ht
  obtain ⟨t, et, htr⟩ := trim_tell s cutForm hs (by decide) (by decide)
  rw [open2_trim] at htr
  have hread : impl_read.f s = trayOf s := ((trayOf_row s).resolve_left (by rw [ht]; exact fun e => nomatch e)).2
  rw [ht] at hread
  generalize ints (rows 47 s.data.toList).flatten = cs at h6 htr hread
  simp only [Option.bind_some, Int.toNat_natCast]
  refine Ev.congr (g' := fun k => impl_IsForm.j0 k s (t.toList != [])) ?_ fun k => ?_
  ·by_cases ho : open2 cs
   ·rw [show (t.toList != ([] : List UInt8)) = false by rw [htr.2 ho]; rfl]
    refine Ev.step (Ev.bind (f := fun k t109 => (if ((t109 : List (List Int)).length : Int) = 1 then ((impl_tray_indices_isBall.f k w h cs ()).bind fun t112 => (some (decide ((t112.length : Int) ≤ 10)))) else (some false))) (parts_ev h2 h4 h5 h6) ?_) fun k => ?_
    ·have hpl : (parts w h cs (w * h)).length = (mins w h cs (w * h)).length := by unfold parts; rw [List.length_map]
     by_cases hm : (mins w h cs (w * h)).length = 1
     ·have hb1 := balls_pos cs w h h6 (by omega)
      have e : (if formOK w h cs then some ((w : Int), (h : Int), cs) else none).isSome = decide ((ballsOf cs).length ≤ 10) := by
       by_cases h9 : (ballsOf cs).length ≤ 10
       ·rw [if_pos ⟨ho, ⟨hb1, h9⟩, hm⟩, decide_eq_true h9]
        rfl
       ·rw [if_neg fun h10 => h9 h10.2.1.2, decide_eq_false h9]
        rfl
      rw [e]
      refine Ev.congr (Ev.bind (f := fun _ t112 => some (decide ((t112.length : Int) ≤ 10))) (indices_ev cs (by omega) w h) (Ev.const ?_)) fun k => if_pos (by omega)
      congr 1
      exact decide_eq_decide.2 (by omega)
     ·rw [if_neg fun h8 => hm h8.2.2]
      exact Ev.congr (Ev.const (o := some false) rfl) fun k => if_neg (by omega)
    ·rw [impl_IsForm.j0, if_neg (by decide), hread, Option.bind_some]
   ·rw [show (t.toList != ([] : List UInt8)) = true from bne_iff_ne.2 fun h8 => ho (htr.1 h8), if_neg fun h8 => ho h8.1]
    exact hfail
  ·show (if true = true then _ else _) = _
   rw [if_pos rfl]
   show (strings_Trim.f s cutForm).bind _ = _
   rw [et, Option.bind_some]
theorem formOf_some {s : ByteArray} {t : Int × Int × List Int} (ht : formOf s = some t) : trayOf s = some t ∧ formOK t.1.toNat t.2.1.toNat t.2.2 := by
 unfold formOf at ht
 obtain ⟨t', h1, h2⟩ := Option.bind_eq_some_iff.1 ht
 split at h2
 ·rename_i h3
  obtain rfl := Option.some.inj h2
  exact ⟨h1, h3⟩
 ·cases h2
end Go.Proofs.YtmefnfhghfemgaaDoor.Q
end
section
namespace Go.Proofs.YtmefnfhghfemgaaDoor.Q
open Go.RowKit Go.Proofs.YtmefnfhghfemgaaDoorW.PrintWords Go.Proofs.YtmefnfhghfemgaaDoorW.PrintLast Go.Proofs.YtmefnfhghfemgaaDoorW.PrintMore
attribute [local go_sem] max2_int min2_int max_two min_two max_three min_three max_four min_four
set_option linter.unusedVariables false
set_option linter.unusedSimpArgs false
def spec_tyCell.f (a0_0 : Int) (a0_1 : Int) (l0_2 : List Int) (a1 : Int) (a2 : Int) : Option (Bool) := (spec_l1In.f a1 0 (wrap64 (a0_0 - 1))).bind fun t102 => (if t102 = true then ((spec_l1In.f a2 0 (wrap64 (a0_1 - 1))).bind fun t103 => (some t103)) else (some false))
set_option maxHeartbeats 8000000 in
set_option maxRecDepth 100000 in
theorem spec_tyCell.calls (a0_0 : Int) (a0_1 : Int) (A0_2 : Option Addr) (c0_2 : Nat) (l0_2 : List Int) (a1 : Int) (a2 : Int) (r : Bool) (w : World) (hr0_2 : Kd.C (Kd.int .u8) w A0_2 l0_2.length l0_2) (hc0_2 : l0_2.length ≤ c0_2) (h : spec_tyCell.f a0_0 a0_1 l0_2 a1 a2 = some r) :
  Calls Tryd.prog 159 #[.agg #[.int .i64 a0_0, .int .i64 a0_1, .slice A0_2 l0_2.length c0_2], .int .i64 a1, .int .i64 a2] w fun e w' => e = .returned (.bool r) ∧ Below w.heap.size w w' := by
 have hu40 := Tryd.underlying40
 have HR0_2 := Aside0.mk hr0_2
 have HC0_2 := Aside0.mk hc0_2
 clear hr0_2 hc0_2
 have HB := Aside0.mk (Below.refl w.heap.size w)
 have H : ((spec_l1In.f a1 0 (wrap64 (a0_0 - 1))).bind fun t102 => (if t102 = true then ((spec_l1In.f a2 0 (wrap64 (a0_1 - 1))).bind fun t103 => (some t103)) else (some false))) = some r := h
 clear h
 replace H := Option.bind_eq_some_iff.mp H
 obtain ⟨t102, A40, H⟩ := H
 replace H : (if t102 = true then ((spec_l1In.f a2 0 (wrap64 (a0_1 - 1))).bind fun t103 => (some t103)) else (some false)) = some r := H
 have A4 := Aside0.mk A40
 clear A40
 by_cases c5 : t102 = true
 ·subst c5
  have H1 : ((spec_l1In.f a2 0 (wrap64 (a0_1 - 1))).bind fun t103 => (some t103)) = some r := by rw [if_pos rfl] at H; exact H
  clear H
  have H := H1
  clear H1
  replace H := Option.bind_eq_some_iff.mp H
  obtain ⟨t103, A60, H⟩ := H
  replace H : (some t103) = some r := H
  have A6 := Aside0.mk A60
  clear A60
  obtain rfl := Option.some.inj H
  go_enter Tryd.func159, Tryd.ntmps159
  go_wp2_with (first | ((with_reducible refine gate_dst (N := 3) rfl ?_); refine boxE (N := 3) (cs := #[.int .i64 a0_0, .int .i64 a0_1, .slice A0_2 l0_2.length c0_2]) (t := 40) ?_; intro gb101 hg w7 hbox hb; have n0_ := Aside0.mk (below_step (bel HB) hb); have n1_ := Aside0.mk (hbox); have n2_ := Aside0.mk (gsz hg (bel HB)); have n3_ := Aside0.mk (gsz hg (bel HB)); clear HB; have HB := n0_; have BK101 := n1_; have GW101 := n2_; have GE101 := n3_; clear n0_ n1_ n2_ n3_; clear hb hbox hg; have hcz8_0 : w7.cell? ⟨gb101, 0, none⟩ = some (.int .i64 a0_0) := (blk_cell BK101.out 0).trans rfl; have hcz8_1 : w7.cell? ⟨gb101, 1, none⟩ = some (.int .i64 a0_1) := (blk_cell BK101.out 1).trans rfl; have hcz8_2 : w7.cell? ⟨gb101, 2, none⟩ = some (.slice A0_2 l0_2.length c0_2) := (blk_cell BK101.out 2).trans rfl; have hfz8_0 := blk_frozen BK101.out 0; have hfz8_1 := blk_frozen BK101.out 1; have hfz8_2 := blk_frozen BK101.out 2) | ((with_reducible refine gate_callee (f := 42) rfl ?_); refine gcall (some 11) Tryd.func42 #[.int .i64 a1, .int .i64 0, .int .i64 (wrap64 (a0_0 - 1))] rfl ?_; (with_reducible refine (spec_l1In.calls a1 0 (wrap64 (a0_0 - 1)) true _ A4.out).mono ?_); rintro e w' ⟨rfl, ⟨nd, rfl⟩⟩; refine ⟨_, rfl, ?_⟩) | (go_at_call 42; (with_reducible refine (spec_l1In.calls a2 0 (wrap64 (a0_1 - 1)) t103 _ A6.out).mono ?_); rintro e w' ⟨rfl, ⟨nd, rfl⟩⟩))
  go_ret
  exact ⟨by first | rfl | (simp [errW_none, errW_some] <;> rfl) | (simp [*, errW_none, errW_some] <;> rfl), bel HB⟩
 ·replace c5 := Bool.eq_false_iff.mpr c5
  subst c5
  have H1 : (some false) = some r := by rw [if_neg (show ¬ (false = true) by decide)] at H; exact H
  clear H
  have H := H1
  clear H1
  obtain rfl := Option.some.inj H
  go_enter Tryd.func159, Tryd.ntmps159
  go_wp2_with (first | ((with_reducible refine gate_dst (N := 3) rfl ?_); refine boxE (N := 3) (cs := #[.int .i64 a0_0, .int .i64 a0_1, .slice A0_2 l0_2.length c0_2]) (t := 40) ?_; intro gb101 hg w9 hbox hb; have n0_ := Aside0.mk (below_step (bel HB) hb); have n1_ := Aside0.mk (hbox); have n2_ := Aside0.mk (gsz hg (bel HB)); have n3_ := Aside0.mk (gsz hg (bel HB)); clear HB; have HB := n0_; have BK101 := n1_; have GW101 := n2_; have GE101 := n3_; clear n0_ n1_ n2_ n3_; clear hb hbox hg; have hcz10_0 : w9.cell? ⟨gb101, 0, none⟩ = some (.int .i64 a0_0) := (blk_cell BK101.out 0).trans rfl; have hcz10_1 : w9.cell? ⟨gb101, 1, none⟩ = some (.int .i64 a0_1) := (blk_cell BK101.out 1).trans rfl; have hcz10_2 : w9.cell? ⟨gb101, 2, none⟩ = some (.slice A0_2 l0_2.length c0_2) := (blk_cell BK101.out 2).trans rfl; have hfz10_0 := blk_frozen BK101.out 0; have hfz10_1 := blk_frozen BK101.out 1; have hfz10_2 := blk_frozen BK101.out 2) | ((with_reducible refine gate_callee (f := 42) rfl ?_); refine gcall (some 11) Tryd.func42 #[.int .i64 a1, .int .i64 0, .int .i64 (wrap64 (a0_0 - 1))] rfl ?_; (with_reducible refine (spec_l1In.calls a1 0 (wrap64 (a0_0 - 1)) false _ A4.out).mono ?_); rintro e w' ⟨rfl, ⟨nd, rfl⟩⟩; refine ⟨_, rfl, ?_⟩))
  go_ret
  exact ⟨by first | rfl | (simp [errW_none, errW_some] <;> rfl) | (simp [*, errW_none, errW_some] <;> rfl), bel HB⟩
end Go.Proofs.YtmefnfhghfemgaaDoor.Q
end
section
namespace Go.Proofs.YtmefnfhghfemgaaDoor.Q
set_option linter.unusedSectionVars false
open Go.RowKit Go.Proofs.YtmefnfhghfemgaaDoorW.PrintWords Go.Proofs.YtmefnfhghfemgaaDoorW.PrintLast Go.Proofs.YtmefnfhghfemgaaDoorW.PrintMore
structure Bx (W : World) (g : Nat) (a b : Int) (A : Option Addr) (c : Nat) (l : List Int) : Prop where
 c0 : W.cell? ⟨g, 0, none⟩ = some (.int .i64 a)
 c1 : W.cell? ⟨g, 1, none⟩ = some (.int .i64 b)
 c2 : W.cell? ⟨g, 2, none⟩ = some (.slice A l.length c)
 lt : g < W.heap.size
 reads : Kd.C (Kd.int .u8) W A l.length l
theorem Bx.below {W W' : World} {g : Nat} {a b : Int} {A : Option Addr} {c : Nat} {l : List Int} (h : Bx W g a b A c l) (hb : Below W.heap.size W W') : Bx W' g a b A c l :=
 ⟨(hb.cell (p := ⟨g, 0, none⟩) h.lt).trans h.c0, (hb.cell (p := ⟨g, 1, none⟩) h.lt).trans h.c1, (hb.cell (p := ⟨g, 2, none⟩) h.lt).trans h.c2, Nat.lt_of_lt_of_le h.lt hb.size, Kd.C_below h.reads hb⟩
end Go.Proofs.YtmefnfhghfemgaaDoor.Q
end
section
namespace Go.Proofs.YtmefnfhghfemgaaDoor.Q
set_option linter.unusedVariables false
set_option linter.unusedSectionVars false
open Go.RowKit Go.Proofs.YtmefnfhghfemgaaDoorW.PrintWords Go.Proofs.YtmefnfhghfemgaaDoorW.PrintLast Go.Proofs.YtmefnfhghfemgaaDoorW.PrintMore
def spec_tiAhead.f (a0_0 : Int) (a0_1 : Int) (l0_2 : List Int) (a1 : Int) (a2 : Int) : Option (Int) := if a0_0 = 0 then (none) else (if a2 = 0 then ((spec_tyCell.f a0_0 a0_1 l0_2 (Int.tmod a1 a0_0) (wrap64 ((wrap64 (Int.tdiv a1 a0_0)) - 1))).bind fun t102 => (if t102 = true then (if 0 ≤ (wrap64 ((wrap64 ((wrap64 ((wrap64 (Int.tdiv a1 a0_0)) - 1)) * a0_0)) + (Int.tmod a1 a0_0))) then (if (wrap64 ((wrap64 ((wrap64 ((wrap64 (Int.tdiv a1 a0_0)) - 1)) * a0_0)) + (Int.tmod a1 a0_0))) < (l0_2.length : Int) then (if (rd l0_2 (wrap64 ((wrap64 ((wrap64 ((wrap64 (Int.tdiv a1 a0_0)) - 1)) * a0_0)) + (Int.tmod a1 a0_0)))) = 35 then (some (-1)) else (some (wrap64 ((wrap64 ((wrap64 ((wrap64 (Int.tdiv a1 a0_0)) - 1)) * a0_0)) + (Int.tmod a1 a0_0))))) else (none)) else (none)) else (some (-1)))) else (if a2 = 1 then ((spec_tyCell.f a0_0 a0_1 l0_2 (wrap64 ((Int.tmod a1 a0_0) + 1)) (wrap64 (Int.tdiv a1 a0_0))).bind fun t104 => (if t104 = true then (if 0 ≤ (wrap64 ((wrap64 ((wrap64 (Int.tdiv a1 a0_0)) * a0_0)) + (wrap64 ((Int.tmod a1 a0_0) + 1)))) then (if (wrap64 ((wrap64 ((wrap64 (Int.tdiv a1 a0_0)) * a0_0)) + (wrap64 ((Int.tmod a1 a0_0) + 1)))) < (l0_2.length : Int) then (if (rd l0_2 (wrap64 ((wrap64 ((wrap64 (Int.tdiv a1 a0_0)) * a0_0)) + (wrap64 ((Int.tmod a1 a0_0) + 1))))) = 35 then (some (-1)) else (some (wrap64 ((wrap64 ((wrap64 (Int.tdiv a1 a0_0)) * a0_0)) + (wrap64 ((Int.tmod a1 a0_0) + 1)))))) else (none)) else (none)) else (some (-1)))) else (if a2 = 2 then ((spec_tyCell.f a0_0 a0_1 l0_2 (Int.tmod a1 a0_0) (wrap64 ((wrap64 (Int.tdiv a1 a0_0)) + 1))).bind fun t106 => (if t106 = true then (if 0 ≤ (wrap64 ((wrap64 ((wrap64 ((wrap64 (Int.tdiv a1 a0_0)) + 1)) * a0_0)) + (Int.tmod a1 a0_0))) then (if (wrap64 ((wrap64 ((wrap64 ((wrap64 (Int.tdiv a1 a0_0)) + 1)) * a0_0)) + (Int.tmod a1 a0_0))) < (l0_2.length : Int) then (if (rd l0_2 (wrap64 ((wrap64 ((wrap64 ((wrap64 (Int.tdiv a1 a0_0)) + 1)) * a0_0)) + (Int.tmod a1 a0_0)))) = 35 then (some (-1)) else (some (wrap64 ((wrap64 ((wrap64 ((wrap64 (Int.tdiv a1 a0_0)) + 1)) * a0_0)) + (Int.tmod a1 a0_0))))) else (none)) else (none)) else (some (-1)))) else ((spec_tyCell.f a0_0 a0_1 l0_2 (wrap64 ((Int.tmod a1 a0_0) - 1)) (wrap64 (Int.tdiv a1 a0_0))).bind fun t108 => (if t108 = true then (if 0 ≤ (wrap64 ((wrap64 ((wrap64 (Int.tdiv a1 a0_0)) * a0_0)) + (wrap64 ((Int.tmod a1 a0_0) - 1)))) then (if (wrap64 ((wrap64 ((wrap64 (Int.tdiv a1 a0_0)) * a0_0)) + (wrap64 ((Int.tmod a1 a0_0) - 1)))) < (l0_2.length : Int) then (if (rd l0_2 (wrap64 ((wrap64 ((wrap64 (Int.tdiv a1 a0_0)) * a0_0)) + (wrap64 ((Int.tmod a1 a0_0) - 1))))) = 35 then (some (-1)) else (some (wrap64 ((wrap64 ((wrap64 (Int.tdiv a1 a0_0)) * a0_0)) + (wrap64 ((Int.tmod a1 a0_0) - 1)))))) else (none)) else (none)) else (some (-1)))))))
def tailA (w h : Int) (cs : List Int) (x y : Int) : Option Int := (spec_tyCell.f w h cs x y).bind fun t => (if t = true then (if 0 ≤ (wrap64 ((wrap64 (y * w)) + x)) then (if (wrap64 ((wrap64 (y * w)) + x)) < (cs.length : Int) then (if (rd cs (wrap64 ((wrap64 (y * w)) + x))) = 35 then (some (-1)) else (some (wrap64 ((wrap64 (y * w)) + x)))) else (none)) else (none)) else (some (-1)))
theorem tiA_tail {w h : Int} {cs : List Int} {a d r : Int} (hr : spec_tiAhead.f w h cs a d = some r) : w ≠ 0 ∧ ∃ x y, ((d = 0 ∧ x = Int.tmod a w ∧ y = wrap64 ((wrap64 (Int.tdiv a w)) - 1)) ∨ (d = 1 ∧ x = wrap64 ((Int.tmod a w) + 1) ∧ y = wrap64 (Int.tdiv a w)) ∨ (d = 2 ∧ x = Int.tmod a w ∧ y = wrap64 ((wrap64 (Int.tdiv a w)) + 1)) ∨ ((d == 0) = false ∧ (d == 1) = false ∧ (d == 2) = false ∧ x = wrap64 ((Int.tmod a w) - 1) ∧ y = wrap64 (Int.tdiv a w))) ∧ tailA w h cs x y = some r := by
 unfold spec_tiAhead.f at hr
 by_cases h0 : w = 0
 ·rw [if_pos h0] at hr
  cases hr
 ·rw [if_neg h0] at hr
  refine ⟨h0, ?_⟩
  by_cases d0 : d = 0
  ·rw [if_pos d0] at hr
   exact ⟨_, _, .inl ⟨d0, rfl, rfl⟩, hr⟩
  ·rw [if_neg d0] at hr
   by_cases d1 : d = 1
   ·rw [if_pos d1] at hr
    exact ⟨_, _, .inr (.inl ⟨d1, rfl, rfl⟩), hr⟩
   ·rw [if_neg d1] at hr
    by_cases d2 : d = 2
    ·rw [if_pos d2] at hr
     exact ⟨_, _, .inr (.inr (.inl ⟨d2, rfl, rfl⟩)), hr⟩
    ·rw [if_neg d2] at hr
     exact ⟨_, _, .inr (.inr (.inr ⟨beq_eq_false_iff_ne.2 d0, beq_eq_false_iff_ne.2 d1, beq_eq_false_iff_ne.2 d2, rfl, rfl⟩)), hr⟩
set_option maxHeartbeats 16000000 in
set_option maxRecDepth 100000 in
theorem spec_tiAhead.calls (a0_0 : Int) (a0_1 : Int) (A0_2 : Option Addr) (c0_2 : Nat) (l0_2 : List Int) (a1 : Int) (a2 : Int) (r : Int) (w : World) (hr0_2 : Kd.C (Kd.int .u8) w A0_2 l0_2.length l0_2) (hc0_2 : l0_2.length ≤ c0_2) (h : spec_tiAhead.f a0_0 a0_1 l0_2 a1 a2 = some r) :
  Calls Tryd.prog 137 #[.agg #[.int .i64 a0_0, .int .i64 a0_1, .slice A0_2 l0_2.length c0_2], .int .i64 a1, .int .i64 a2] w fun e w' => e = .returned (.int .i64 r) ∧ Below w.heap.size w w' := by
 have hu := Tryd.underlying40
 have HR := Aside0.mk hr0_2
 have HC := Aside0.mk hc0_2
 obtain ⟨hw0, x, y, hsw, ht⟩ := tiA_tail h
 have e0 : (a0_0 == 0) = false := beq_eq_false_iff_ne.2 hw0
 have e1 : (a0_0 != 0) = true := bne_iff_ne.2 hw0
 unfold tailA at ht
 obtain ⟨t, hcell, ht2⟩ := Option.bind_eq_some_iff.1 ht
 clear ht
 have ht := ht2
 clear ht2
 have HT := Aside0.mk hcell
 have HB := Aside0.mk (Below.refl w.heap.size w)
 have key : ∃ b : Bool, (t = true → (0 ≤ (wrap64 ((wrap64 (y * a0_0)) + x)) ∧ (wrap64 ((wrap64 (y * a0_0)) + x)) < (l0_2.length : Int)) ∧ (rd l0_2 (wrap64 ((wrap64 (y * a0_0)) + x)) == 35) = b) ∧ r = if t = true ∧ b = false then (wrap64 ((wrap64 (y * a0_0)) + x)) else -1 := by
  refine ⟨rd l0_2 (wrap64 ((wrap64 (y * a0_0)) + x)) == 35, ?_⟩
  cases t with
  | false =>
   refine ⟨fun h => (by cases h), ?_⟩
   rw [if_neg (by simp)]
   exact (Option.some.inj ht).symm
  | true =>
   rw [if_pos rfl] at ht
   split at ht
   ·rename_i g0
    split at ht
    ·rename_i g1
     refine ⟨fun _ => ⟨⟨g0, g1⟩, rfl⟩, ?_⟩
     split at ht
     ·rename_i g2
      rw [if_neg (by simp [g2])]
      exact (Option.some.inj ht).symm
     ·rename_i g2
      rw [if_pos ⟨rfl, beq_eq_false_iff_ne.2 g2⟩]
      exact (Option.some.inj ht).symm
    ·cases ht
   ·cases ht
 obtain ⟨b, hk, rfl⟩ := key
 obtain ⟨j, hj⟩ : ∃ j : Int, (wrap64 ((wrap64 (y * a0_0)) + x)) = j := ⟨_, rfl⟩
 have hjw : IntKind.i64.wrap ((wrap64 (y * a0_0)) + x) = j := (i64_w _).trans hj
 rw [hj] at hk
 rw [hj]
 have HK := Aside0.mk hk
 clear ht hcell hr0_2 hc0_2 h hk HB
 cases t with
 | false =>
  rw [if_neg (show ¬ (false = true ∧ b = false) by simp)]
  rcases hsw with ⟨rfl, rfl, rfl⟩ | ⟨rfl, rfl, rfl⟩ | ⟨rfl, rfl, rfl⟩ | ⟨d0, d1, d2, rfl, rfl⟩ <;> (
   go_enter Tryd.func137, Tryd.ntmps137
   go_wp2_with ((with_reducible refine gate_dst (N := 3) rfl ?_); refine boxE (N := 3) (cs := #[.int .i64 a0_0, .int .i64 a0_1, .slice A0_2 l0_2.length c0_2]) (t := 40) ?_; intro gt hg w3 hbox hb; (have HB3 := Aside0.mk hb); (have HX3 := Aside0.mk (Bx.mk ((blk_cell hbox 0).trans rfl) ((blk_cell hbox 1).trans rfl) ((blk_cell hbox 2).trans rfl) (blk_lt hbox) (Kd.C_below HR.out hb) : Bx w3 gt a0_0 a0_1 A0_2 c0_2 l0_2)); clear hbox hg hb; (have z0 := HX3.out.c0); (have z1 := HX3.out.c1); (have z2 := HX3.out.c2))
   repeat (go_quiet (fail); try go_wp2_with (go_at_call 159; (with_reducible refine (spec_tyCell.calls a0_0 a0_1 _ _ l0_2 _ _ _ _ ?side1 ?side2 HT.out).mono ?_); (case side1 => repeat (first | exact HX3.out.reads | (with_reducible refine Kd.C_alloc ?_ _) | (with_reducible refine Kd.C_drewN ?_ _) | (with_reducible refine Kd.C_drew ?_))); (case side2 => exact HC.out); rintro e w5 ⟨rfl, hb⟩; (have HX5 := Aside0.mk ((HX3.out.below (by (with_reducible repeat (first | apply pw_below_drewN | apply below_drew1)); exact Below.refl _ _)).below hb)); (have HB5 := Aside0.mk (below_step (bel HB3) hb)); clear HX3 HB3 z0 z1 z2 hb; (have z0 := HX5.out.c0); (have z1 := HX5.out.c1); (have z2 := HX5.out.c2)))
   go_ret
   exact ⟨by first | rfl | simp, bel HB5⟩)
 | true =>
  obtain ⟨⟨g0, g1⟩, g2⟩ := HK.out rfl
  have p0 := eq_true g0
  have p1 := eq_true g1
  have HG := Aside0.mk (And.intro g0 g1)
  clear g0 g1
  rcases hsw with ⟨rfl, rfl, rfl⟩ | ⟨rfl, rfl, rfl⟩ | ⟨rfl, rfl, rfl⟩ | ⟨d0, d1, d2, rfl, rfl⟩ <;> rcases b with _ | _ <;> (
   first | rw [if_pos (And.intro rfl rfl)] | rw [if_neg (show ¬ (true = true ∧ true = false) by simp)]
   go_enter Tryd.func137, Tryd.ntmps137
   go_wp2_with ((with_reducible refine gate_dst (N := 3) rfl ?_); refine boxE (N := 3) (cs := #[.int .i64 a0_0, .int .i64 a0_1, .slice A0_2 l0_2.length c0_2]) (t := 40) ?_; intro gt hg w3 hbox hb; (have HB3 := Aside0.mk hb); (have HX3 := Aside0.mk (Bx.mk ((blk_cell hbox 0).trans rfl) ((blk_cell hbox 1).trans rfl) ((blk_cell hbox 2).trans rfl) (blk_lt hbox) (Kd.C_below HR.out hb) : Bx w3 gt a0_0 a0_1 A0_2 c0_2 l0_2)); clear hbox hg hb; (have z0 := HX3.out.c0); (have z1 := HX3.out.c1); (have z2 := HX3.out.c2))
   repeat (go_quiet (fail); try go_wp2_with (go_at_call 159; (with_reducible refine (spec_tyCell.calls a0_0 a0_1 _ _ l0_2 _ _ _ _ ?side1 ?side2 HT.out).mono ?_); (case side1 => repeat (first | exact HX3.out.reads | (with_reducible refine Kd.C_alloc ?_ _) | (with_reducible refine Kd.C_drewN ?_ _) | (with_reducible refine Kd.C_drew ?_))); (case side2 => exact HC.out); rintro e w5 ⟨rfl, hb⟩; (have HX5 := Aside0.mk ((HX3.out.below (by (with_reducible repeat (first | apply pw_below_drewN | apply below_drew1)); exact Below.refl _ _)).below hb)); (have HB5 := Aside0.mk (below_step (bel HB3) hb)); clear HX3 HB3 z0 z1 z2 hb; obtain ⟨ad, ead, hx⟩ := Kd.at_int HX5.out.reads _ HG.out.1 HG.out.2; cases ead; (have z0 := HX5.out.c0); (have z1 := HX5.out.c1); (have z2 := HX5.out.c2)))
   go_ret
   exact ⟨by first | rfl | simp, bel HB5⟩)
end Go.Proofs.YtmefnfhghfemgaaDoor.Q
end
section
namespace Go.Proofs.YtmefnfhghfemgaaDoor.Q
open Go.RowKit Go.Proofs.YtmefnfhghfemgaaDoorW.PrintWords Go.Proofs.YtmefnfhghfemgaaDoorW.PrintLast Go.Proofs.YtmefnfhghfemgaaDoorW.PrintMore
set_option linter.unusedSectionVars false
def dirC (d : Nat) : Int := ([117, 114, 100, 108] : List Int).getD d 0
def seen (cs : List Int) (j : Int) : Option Int := if 0 ≤ j then (if j < (cs.length : Int) then (if rd cs j = 35 then some (-1) else some j) else none) else none
theorem seen_rep (cs : List Int) (n : Nat) (hn : cs.length = n) (j r : Int) (h : seen (List.replicate n 0) j = some r) : j = r ∧ seen cs j = some (if rd cs j = 35 then -1 else j) ∧ 0 ≤ j := by
 unfold seen at h ⊢
 rw [List.length_replicate] at h
 by_cases h1 : 0 ≤ j
 ·rw [if_pos h1] at h ⊢
  by_cases h2 : j < (n : Int)
  ·rw [if_pos h2] at h
   rw [if_pos (by omega)]
   have h3 : rd (List.replicate n (0 : Int)) j = 0 := by
    unfold rd
    rw [List.getD_eq_getElem?_getD, List.getElem?_replicate, if_pos (by omega)]
    rfl
   rw [if_neg (by omega)] at h
   refine ⟨Option.some.inj h, ?_, h1⟩
   split <;> rfl
  ·rw [if_neg h2] at h
   cases h
 ·rw [if_neg h1] at h
  cases h
theorem tiAhead_of (cs : List Int) (n : Nat) (hn : cs.length = n) (w h i d r : Int) (hr : spec_tiAhead.f w h (List.replicate n 0) i d = some r) : spec_tiAhead.f w h cs i d = some (if r < 0 then r else if rd cs r = 35 then -1 else r) := by
 have key : ∀ (x y j : Int), ((spec_tyCell.f w h (List.replicate n 0) x y).bind fun t => if t = true then seen (List.replicate n 0) j else some (-1)) = some r →
   ((spec_tyCell.f w h cs x y).bind fun t => if t = true then seen cs j else some (-1)) = some (if r < 0 then r else if rd cs r = 35 then -1 else r) := by
  intro x y j hx
  obtain ⟨t, h1, h2⟩ := Option.bind_eq_some_iff.1 hx
  have h3 : spec_tyCell.f w h cs x y = some t := h1
  rw [h3, Option.bind_some]
  by_cases ht : t = true
  ·rw [if_pos ht] at h2 ⊢
   obtain ⟨rfl, h4, h5⟩ := seen_rep cs n hn j r h2
   rw [h4, if_neg (show ¬ j < 0 by omega)]
  ·rw [if_neg ht] at h2 ⊢
   obtain rfl := Option.some.inj h2
   rfl
 unfold spec_tiAhead.f at hr ⊢
 by_cases h0 : w = 0
 ·rw [if_pos h0] at hr
  cases hr
 rw [if_neg h0] at hr ⊢
 by_cases h1 : d = 0
 ·rw [if_pos h1] at hr ⊢
  exact key _ _ _ hr
 rw [if_neg h1] at hr ⊢
 by_cases h2 : d = 1
 ·rw [if_pos h2] at hr ⊢
  exact key _ _ _ hr
 rw [if_neg h2] at hr ⊢
 by_cases h3 : d = 2
 ·rw [if_pos h3] at hr ⊢
  exact key _ _ _ hr
 rw [if_neg h3] at hr ⊢
 exact key _ _ _ hr
end Go.Proofs.YtmefnfhghfemgaaDoor.Q
end
section
namespace Go.Proofs.YtmefnfhghfemgaaDoor.Q
open Go.RowKit Go.Proofs.YtmefnfhghfemgaaDoorW.PrintWords Go.Proofs.YtmefnfhghfemgaaDoorW.PrintLast Go.Proofs.YtmefnfhghfemgaaDoorW.PrintMore
attribute [local go_sem] max2_int min2_int max_two min_two max_three min_three max_four min_four
set_option linter.unusedVariables false
set_option linter.unusedSimpArgs false
def impl_tray_ahead.j0 : Nat → Int → Int → Int → Int → List Int → Option (Int)
 | 0, _, _, _, _, _ => none
 | k + 1, x7, x8, x102000, x102001, x102002 => (impl_within.f x7 0 (wrap64 (x102000 - 1))).bind fun t102 => (if t102 = true then ((impl_within.f x8 0 (wrap64 (x102001 - 1))).bind fun t103 => (if t103 = true then ((impl_tray_number.f x102000 x102001 x102002 x7 x8).bind fun t104 => (some t104)) else (some (-1)))) else (some (-1)))
def impl_tray_ahead.f (k : Nat) (a0_0 : Int) (a0_1 : Int) (l0_2 : List Int) (a1 : Int) (a2 : Int) : Option (Int) := if a0_0 = 0 then (none) else (if a2 = 117 then (impl_tray_ahead.j0 k (Int.tmod a1 a0_0) (wrap64 ((wrap64 (Int.tdiv a1 a0_0)) - 1)) a0_0 a0_1 l0_2) else (if a2 = 114 then (impl_tray_ahead.j0 k (wrap64 ((Int.tmod a1 a0_0) + 1)) (wrap64 (Int.tdiv a1 a0_0)) a0_0 a0_1 l0_2) else (if a2 = 100 then (impl_tray_ahead.j0 k (Int.tmod a1 a0_0) (wrap64 ((wrap64 (Int.tdiv a1 a0_0)) + 1)) a0_0 a0_1 l0_2) else (impl_tray_ahead.j0 k (wrap64 ((Int.tmod a1 a0_0) - 1)) (wrap64 (Int.tdiv a1 a0_0)) a0_0 a0_1 l0_2))))
theorem impl_tray_ahead.mono_l : ∀ k, (∀ y0 y1 y2 y3 y4, LeO (impl_tray_ahead.j0 k y0 y1 y2 y3 y4) (impl_tray_ahead.j0 (k + 1) y0 y1 y2 y3 y4))
 | 0 => fun _ _ _ _ _ r h => by simp [impl_tray_ahead.j0] at h
 | k + 1 => by
  have ih0 := impl_tray_ahead.mono_l k
  ·intro y0 y1 y2 y3 y4
   unfold impl_tray_ahead.j0
   repeat' first
   | (with_reducible apply ih0)
   | (with_reducible exact LeO.refl _)
   | (with_reducible exact LeO.none _)
   | (with_reducible refine LeO.ite ?_ ?_)
   | (with_reducible refine LeO.bind ?_ (fun _ => ?_))
   | apply ih0
   | exact LeO.none _
   | refine LeO.ite ?_ ?_
   | refine LeO.bind ?_ (fun _ => ?_)
theorem impl_tray_ahead.mono : ∀ a0 a1 a2 a3 a4 k, LeO (impl_tray_ahead.f k a0 a1 a2 a3 a4) (impl_tray_ahead.f (k + 1) a0 a1 a2 a3 a4) := by
 intro a0 a1 a2 a3 a4 k
 have ih0 := impl_tray_ahead.mono_l k
 unfold impl_tray_ahead.f
 repeat' first
   | (with_reducible apply ih0)
   | (with_reducible exact LeO.refl _)
   | (with_reducible exact LeO.none _)
   | (with_reducible refine LeO.ite ?_ ?_)
   | (with_reducible refine LeO.bind ?_ (fun _ => ?_))
   | apply ih0
   | exact LeO.none _
   | refine LeO.ite ?_ ?_
   | refine LeO.bind ?_ (fun _ => ?_)
set_option maxHeartbeats 8000000 in
set_option maxRecDepth 100000 in
theorem impl_tray_ahead.calls (k : Nat) (a0_0 : Int) (a0_1 : Int) (A0_2 : Option Addr) (c0_2 : Nat) (l0_2 : List Int) (a1 : Int) (a2 : Int) (r : Int) (w : World) (hr0_2 : Kd.C (Kd.int .u8) w A0_2 l0_2.length l0_2) (hc0_2 : l0_2.length ≤ c0_2) (h : impl_tray_ahead.f k a0_0 a0_1 l0_2 a1 a2 = some r) :
  Calls Tryd.prog 136 #[.agg #[.int .i64 a0_0, .int .i64 a0_1, .slice A0_2 l0_2.length c0_2], .int .i64 a1, .int .u8 a2] w fun e w' => e = .returned (.int .i64 r) ∧ Below w.heap.size w w' := by
 have hu46 := Tryd.underlying46
 have HR0_2 := Aside0.mk hr0_2
 have HC0_2 := Aside0.mk hc0_2
 clear hr0_2 hc0_2
 have HB := Aside0.mk (Below.refl w.heap.size w)
 have H : (if a0_0 = 0 then (none) else (if a2 = 117 then (impl_tray_ahead.j0 k (Int.tmod a1 a0_0) (wrap64 ((wrap64 (Int.tdiv a1 a0_0)) - 1)) a0_0 a0_1 l0_2) else (if a2 = 114 then (impl_tray_ahead.j0 k (wrap64 ((Int.tmod a1 a0_0) + 1)) (wrap64 (Int.tdiv a1 a0_0)) a0_0 a0_1 l0_2) else (if a2 = 100 then (impl_tray_ahead.j0 k (Int.tmod a1 a0_0) (wrap64 ((wrap64 (Int.tdiv a1 a0_0)) + 1)) a0_0 a0_1 l0_2) else (impl_tray_ahead.j0 k (wrap64 ((Int.tmod a1 a0_0) - 1)) (wrap64 (Int.tdiv a1 a0_0)) a0_0 a0_1 l0_2))))) = some r := h
 clear h
 by_cases c4 : a0_0 = 0
 ·rw [if_pos c4] at H
  exact absurd H (by simp)
 ·rw [if_neg c4] at H
  have c4b0 : (a0_0 == 0) = false := beq_eq_false_iff_ne.mpr c4
  have c4b1 : (a0_0 != 0) = true := bne_iff_ne.mpr c4
  have HC5 := Aside0.mk H
  clear H
  go_enter Tryd.func136, Tryd.ntmps136
  go_upto_block 0 with (first | ((with_reducible refine gate_dst (N := 3) rfl ?_); refine boxE (N := 3) (cs := #[.int .i64 a0_0, .int .i64 a0_1, .slice A0_2 l0_2.length c0_2]) (t := 46) ?_; intro gb101 hg w6 hbox hb; have n0_ := Aside0.mk (below_step (bel HB) hb); have n1_ := Aside0.mk (hbox); have n2_ := Aside0.mk (gsz hg (bel HB)); have n3_ := Aside0.mk (gsz hg (bel HB)); clear HB; have HB := n0_; have BK101 := n1_; have GW101 := n2_; have GE101 := n3_; clear n0_ n1_ n2_ n3_; clear hb hbox hg; have hcz7_0 : w6.cell? ⟨gb101, 0, none⟩ = some (.int .i64 a0_0) := (blk_cell BK101.out 0).trans rfl; have hcz7_1 : w6.cell? ⟨gb101, 1, none⟩ = some (.int .i64 a0_1) := (blk_cell BK101.out 1).trans rfl; have hcz7_2 : w6.cell? ⟨gb101, 2, none⟩ = some (.slice A0_2 l0_2.length c0_2) := (blk_cell BK101.out 2).trans rfl; have hfz7_0 := blk_frozen BK101.out 0; have hfz7_1 := blk_frozen BK101.out 1; have hfz7_2 := blk_frozen BK101.out 2))
  repeat (go_quiet (first | ((with_reducible refine gate_dst (N := 3) rfl ?_); refine boxE (N := 3) (cs := #[.int .i64 a0_0, .int .i64 a0_1, .slice A0_2 l0_2.length c0_2]) (t := 46) ?_; intro gb101 hg w6 hbox hb; have n0_ := Aside0.mk (below_step (bel HB) hb); have n1_ := Aside0.mk (hbox); have n2_ := Aside0.mk (gsz hg (bel HB)); have n3_ := Aside0.mk (gsz hg (bel HB)); clear HB; have HB := n0_; have BK101 := n1_; have GW101 := n2_; have GE101 := n3_; clear n0_ n1_ n2_ n3_; clear hb hbox hg; have hcz7_0 : w6.cell? ⟨gb101, 0, none⟩ = some (.int .i64 a0_0) := (blk_cell BK101.out 0).trans rfl; have hcz7_1 : w6.cell? ⟨gb101, 1, none⟩ = some (.int .i64 a0_1) := (blk_cell BK101.out 1).trans rfl; have hcz7_2 : w6.cell? ⟨gb101, 2, none⟩ = some (.slice A0_2 l0_2.length c0_2) := (blk_cell BK101.out 2).trans rfl; have hfz7_0 := blk_frozen BK101.out 0; have hfz7_1 := blk_frozen BK101.out 1; have hfz7_2 := blk_frozen BK101.out 2)); go_upto_block 0 with (first | ((with_reducible refine gate_dst (N := 3) rfl ?_); refine boxE (N := 3) (cs := #[.int .i64 a0_0, .int .i64 a0_1, .slice A0_2 l0_2.length c0_2]) (t := 46) ?_; intro gb101 hg w6 hbox hb; have n0_ := Aside0.mk (below_step (bel HB) hb); have n1_ := Aside0.mk (hbox); have n2_ := Aside0.mk (gsz hg (bel HB)); have n3_ := Aside0.mk (gsz hg (bel HB)); clear HB; have HB := n0_; have BK101 := n1_; have GW101 := n2_; have GE101 := n3_; clear n0_ n1_ n2_ n3_; clear hb hbox hg; have hcz7_0 : w6.cell? ⟨gb101, 0, none⟩ = some (.int .i64 a0_0) := (blk_cell BK101.out 0).trans rfl; have hcz7_1 : w6.cell? ⟨gb101, 1, none⟩ = some (.int .i64 a0_1) := (blk_cell BK101.out 1).trans rfl; have hcz7_2 : w6.cell? ⟨gb101, 2, none⟩ = some (.slice A0_2 l0_2.length c0_2) := (blk_cell BK101.out 2).trans rfl; have hfz7_0 := blk_frozen BK101.out 0; have hfz7_1 := blk_frozen BK101.out 1; have hfz7_2 := blk_frozen BK101.out 2)))
  (try simp only [Act.put, List.setIfInBounds_toArray, List.set_cons_zero, List.set_cons_succ])
  go_cut [7, 8] (fun v7 v8 wc => ∃ (kq : Nat) (x7_4 : Int) (x8_4 : Int), v7 = .int .i64 x7_4 ∧ v8 = .int .i64 x8_4 ∧ Aside0 (impl_tray_ahead.j0 kq x7_4 x8_4 a0_0 a0_1 l0_2 = some r) ∧ Aside0 (kq ≤ k) ∧ Aside0 (wc.heap[gb101]? = some (.cells #[.int .i64 a0_0, .int .i64 a0_1, (.slice A0_2 l0_2.length c0_2)] 46 (0, 0))) ∧ Aside0 (Below w.heap.size w wc))
  case first =>
   have H := HC5.out
   clear HC5
   by_cases c8 : a2 = 117
   ·rw [if_pos c8] at H
    have c8b0 : (a2 == 117) = true := beq_iff_eq.mpr c8
    have c8b1 : (a2 != 117) = false := bne_eq_false_iff_eq.mpr c8
    clear c8
    (first | rw [c8b0] | (simp only [i64_w, i32_w]; rw [c8b0]) | skip)
    have H' := Aside0.mk H
    clear H
    go_wp2
    repeat (go_quiet (fail); try go_wp2)
    go_meet
    case rel => exact ⟨_, (Int.tmod a1 a0_0), (wrap64 ((wrap64 (Int.tdiv a1 a0_0)) - 1)), (by first | rfl | (simp; done) | (simp [*]; done)), (by first | rfl | (simp; done) | (simp [*]; done)), H', ⟨by first | omega | exact Nat.le_refl _⟩, ⟨blc⟩, ⟨bel HB⟩⟩
   ·rw [if_neg c8] at H
    have c8b0 : (a2 == 117) = false := beq_eq_false_iff_ne.mpr c8
    have c8b1 : (a2 != 117) = true := bne_iff_ne.mpr c8
    (first | rw [c8b0] | (simp only [i64_w, i32_w]; rw [c8b0]) | skip)
    by_cases c9 : a2 = 114
    ·rw [if_pos c9] at H
     have c9b0 : (a2 == 114) = true := beq_iff_eq.mpr c9
     have c9b1 : (a2 != 114) = false := bne_eq_false_iff_eq.mpr c9
     clear c9
     have H' := Aside0.mk H
     clear H
     go_wp2
     repeat (go_quiet (fail); try go_wp2)
     go_meet
     case rel => exact ⟨_, (wrap64 ((Int.tmod a1 a0_0) + 1)), (wrap64 (Int.tdiv a1 a0_0)), (by first | rfl | (simp; done) | (simp [*]; done)), (by first | rfl | (simp; done) | (simp [*]; done)), H', ⟨by first | omega | exact Nat.le_refl _⟩, ⟨blc⟩, ⟨bel HB⟩⟩
    ·rw [if_neg c9] at H
     have c9b0 : (a2 == 114) = false := beq_eq_false_iff_ne.mpr c9
     have c9b1 : (a2 != 114) = true := bne_iff_ne.mpr c9
     by_cases c10 : a2 = 100
     ·rw [if_pos c10] at H
      have c10b0 : (a2 == 100) = true := beq_iff_eq.mpr c10
      have c10b1 : (a2 != 100) = false := bne_eq_false_iff_eq.mpr c10
      clear c10
      have H' := Aside0.mk H
      clear H
      go_wp2
      repeat (go_quiet (fail); try go_wp2)
      go_meet
      case rel => exact ⟨_, (Int.tmod a1 a0_0), (wrap64 ((wrap64 (Int.tdiv a1 a0_0)) + 1)), (by first | rfl | (simp; done) | (simp [*]; done)), (by first | rfl | (simp; done) | (simp [*]; done)), H', ⟨by first | omega | exact Nat.le_refl _⟩, ⟨blc⟩, ⟨bel HB⟩⟩
     ·rw [if_neg c10] at H
      have c10b0 : (a2 == 100) = false := beq_eq_false_iff_ne.mpr c10
      have c10b1 : (a2 != 100) = true := bne_iff_ne.mpr c10
      have H' := Aside0.mk H
      clear H
      go_wp2
      repeat (go_quiet (fail); try go_wp2)
      go_meet
      case rel => exact ⟨_, (wrap64 ((Int.tmod a1 a0_0) - 1)), (wrap64 (Int.tdiv a1 a0_0)), (by first | rfl | (simp; done) | (simp [*]; done)), (by first | rfl | (simp; done) | (simp [*]; done)), H', ⟨by first | omega | exact Nat.le_refl _⟩, ⟨blc⟩, ⟨bel HB⟩⟩
  case rest =>
   clear HC5
   try clear c1
   try clear p2
   try clear c4
   try clear c4b0
   try clear c4b0y
   try clear c4b1
   try clear p6
   try clear c8
   try clear c8b0
   try clear c8b0y
   try clear c8b1
   try clear c9
   try clear c9b0
   try clear c9b0y
   try clear c9b1
   try clear c10
   try clear c10b0
   try clear c10b0y
   try clear c10b1
   try clear hcz7_0
   try clear hcz7_1
   try clear hcz7_2
   try clear hfz7_0
   try clear hfz7_1
   try clear hfz7_2
   obtain ⟨kq, x7_4, x8_4, rfl, rfl, HA, HJ4, BK101, HB⟩ := hcut
   cases kq with
   | zero => exact absurd HA.out (by simp [impl_tray_ahead.j0])
   | succ kj4 =>
    have H := HA.out
    clear HA
    simp only [impl_tray_ahead.j0] at H
    replace H := Option.bind_eq_some_iff.mp H
    obtain ⟨t102, A110, H⟩ := H
    replace H : (if t102 = true then ((impl_within.f x8_4 0 (wrap64 (a0_1 - 1))).bind fun t103 => (if t103 = true then ((impl_tray_number.f a0_0 a0_1 l0_2 x7_4 x8_4).bind fun t104 => (some t104)) else (some (-1)))) else (some (-1))) = some r := H
    have A11 := Aside0.mk A110
    clear A110
    by_cases c12 : t102 = true
    ·subst c12
     have H1 : ((impl_within.f x8_4 0 (wrap64 (a0_1 - 1))).bind fun t103 => (if t103 = true then ((impl_tray_number.f a0_0 a0_1 l0_2 x7_4 x8_4).bind fun t104 => (some t104)) else (some (-1)))) = some r := by rw [if_pos rfl] at H; exact H
     clear H
     have H := H1
     clear H1
     replace H := Option.bind_eq_some_iff.mp H
     obtain ⟨t103, A130, H⟩ := H
     replace H : (if t103 = true then ((impl_tray_number.f a0_0 a0_1 l0_2 x7_4 x8_4).bind fun t104 => (some t104)) else (some (-1))) = some r := H
     have A13 := Aside0.mk A130
     clear A130
     by_cases c14 : t103 = true
     ·subst c14
      have H1 : ((impl_tray_number.f a0_0 a0_1 l0_2 x7_4 x8_4).bind fun t104 => (some t104)) = some r := by rw [if_pos rfl] at H; exact H
      clear H
      have H := H1
      clear H1
      replace H := Option.bind_eq_some_iff.mp H
      obtain ⟨t104, A150, H⟩ := H
      replace H : (some t104) = some r := H
      have A15 := Aside0.mk A150
      clear A150
      obtain rfl := Option.some.inj H
      have hcz16_0 : wc.cell? ⟨gb101, 0, none⟩ = some (.int .i64 a0_0) := (blk_cell BK101.out 0).trans rfl
      have hcz16_1 : wc.cell? ⟨gb101, 1, none⟩ = some (.int .i64 a0_1) := (blk_cell BK101.out 1).trans rfl
      have hcz16_2 : wc.cell? ⟨gb101, 2, none⟩ = some (.slice A0_2 l0_2.length c0_2) := (blk_cell BK101.out 2).trans rfl
      have hfz16_0 := blk_frozen BK101.out 0
      have hfz16_1 := blk_frozen BK101.out 1
      have hfz16_2 := blk_frozen BK101.out 2
      go_wp2_with (first | (go_at_call 44; (with_reducible refine (impl_within.calls x7_4 0 (wrap64 (a0_0 - 1)) true _ A11.out).mono ?_); rintro e w' ⟨rfl, ⟨nd, rfl⟩⟩; (try first | exact ⟨rfl, _, World.drewN_drewN _ _ _⟩ | exact ⟨rfl, _, Eq.trans (World.drewN_drewN _ _ _) (congrArg (World.drewN _) (Nat.add_assoc _ _ _))⟩)) | (go_at_call 44; (with_reducible refine (impl_within.calls x8_4 0 (wrap64 (a0_1 - 1)) true _ A13.out).mono ?_); rintro e w' ⟨rfl, ⟨nd, rfl⟩⟩; (try first | exact ⟨rfl, _, World.drewN_drewN _ _ _⟩ | exact ⟨rfl, _, Eq.trans (World.drewN_drewN _ _ _) (congrArg (World.drewN _) (Nat.add_assoc _ _ _))⟩)) | (go_at_call 75; (with_reducible refine (impl_tray_number.calls a0_0 a0_1 _ _ l0_2 x7_4 x8_4 t104 _ ?side1 ?side2 A15.out).mono ?_); (case side1 => repeat (first | exact (Kd.C_below HR0_2.out (bel HB)) | (with_reducible refine Kd.C_alloc ?_ _) | (with_reducible refine Kd.C_drewN ?_ _) | (with_reducible refine Kd.C_drew ?_))); (case side2 => exact HC0_2.out); rintro e w17 ⟨rfl, hb⟩; have n0_ := Aside0.mk (blk_below (g := gb101) (o := .cells #[.int .i64 a0_0, .int .i64 a0_1, .slice A0_2 l0_2.length c0_2] 46 (0, 0)) blc hb); have n1_ := Aside0.mk (below_step (bel HB) hb); clear BK101; clear HB; have BK101 := n0_; have HB := n1_; clear n0_ n1_; (try clear hb); (try clear hb2); (try clear hk); (try clear hi)))
      repeat (go_quiet (first | (go_at_call 44; (with_reducible refine (impl_within.calls x7_4 0 (wrap64 (a0_0 - 1)) true _ A11.out).mono ?_); rintro e w' ⟨rfl, ⟨nd, rfl⟩⟩; (try first | exact ⟨rfl, _, World.drewN_drewN _ _ _⟩ | exact ⟨rfl, _, Eq.trans (World.drewN_drewN _ _ _) (congrArg (World.drewN _) (Nat.add_assoc _ _ _))⟩)) | (go_at_call 44; (with_reducible refine (impl_within.calls x8_4 0 (wrap64 (a0_1 - 1)) true _ A13.out).mono ?_); rintro e w' ⟨rfl, ⟨nd, rfl⟩⟩; (try first | exact ⟨rfl, _, World.drewN_drewN _ _ _⟩ | exact ⟨rfl, _, Eq.trans (World.drewN_drewN _ _ _) (congrArg (World.drewN _) (Nat.add_assoc _ _ _))⟩)) | (go_at_call 75; (with_reducible refine (impl_tray_number.calls a0_0 a0_1 _ _ l0_2 x7_4 x8_4 t104 _ ?side1 ?side2 A15.out).mono ?_); (case side1 => repeat (first | exact (Kd.C_below HR0_2.out (bel HB)) | (with_reducible refine Kd.C_alloc ?_ _) | (with_reducible refine Kd.C_drewN ?_ _) | (with_reducible refine Kd.C_drew ?_))); (case side2 => exact HC0_2.out); rintro e w17 ⟨rfl, hb⟩; have n0_ := Aside0.mk (blk_below (g := gb101) (o := .cells #[.int .i64 a0_0, .int .i64 a0_1, .slice A0_2 l0_2.length c0_2] 46 (0, 0)) blc hb); have n1_ := Aside0.mk (below_step (bel HB) hb); clear BK101; clear HB; have BK101 := n0_; have HB := n1_; clear n0_ n1_; (try clear hb); (try clear hb2); (try clear hk); (try clear hi))); try go_wp2_with (first | (go_at_call 44; (with_reducible refine (impl_within.calls x7_4 0 (wrap64 (a0_0 - 1)) true _ A11.out).mono ?_); rintro e w' ⟨rfl, ⟨nd, rfl⟩⟩; (try first | exact ⟨rfl, _, World.drewN_drewN _ _ _⟩ | exact ⟨rfl, _, Eq.trans (World.drewN_drewN _ _ _) (congrArg (World.drewN _) (Nat.add_assoc _ _ _))⟩)) | (go_at_call 44; (with_reducible refine (impl_within.calls x8_4 0 (wrap64 (a0_1 - 1)) true _ A13.out).mono ?_); rintro e w' ⟨rfl, ⟨nd, rfl⟩⟩; (try first | exact ⟨rfl, _, World.drewN_drewN _ _ _⟩ | exact ⟨rfl, _, Eq.trans (World.drewN_drewN _ _ _) (congrArg (World.drewN _) (Nat.add_assoc _ _ _))⟩)) | (go_at_call 75; (with_reducible refine (impl_tray_number.calls a0_0 a0_1 _ _ l0_2 x7_4 x8_4 t104 _ ?side1 ?side2 A15.out).mono ?_); (case side1 => repeat (first | exact (Kd.C_below HR0_2.out (bel HB)) | (with_reducible refine Kd.C_alloc ?_ _) | (with_reducible refine Kd.C_drewN ?_ _) | (with_reducible refine Kd.C_drew ?_))); (case side2 => exact HC0_2.out); rintro e w17 ⟨rfl, hb⟩; have n0_ := Aside0.mk (blk_below (g := gb101) (o := .cells #[.int .i64 a0_0, .int .i64 a0_1, .slice A0_2 l0_2.length c0_2] 46 (0, 0)) blc hb); have n1_ := Aside0.mk (below_step (bel HB) hb); clear BK101; clear HB; have BK101 := n0_; have HB := n1_; clear n0_ n1_; (try clear hb); (try clear hb2); (try clear hk); (try clear hi))))
      go_ret
      exact ⟨by first | rfl | (simp [errW_none, errW_some] <;> rfl) | (simp [*, errW_none, errW_some] <;> rfl), bel HB⟩
     ·replace c14 := Bool.eq_false_iff.mpr c14
      subst c14
      have H1 : (some (-1)) = some r := by rw [if_neg (show ¬ (false = true) by decide)] at H; exact H
      clear H
      have H := H1
      clear H1
      obtain rfl := Option.some.inj H
      have hcz18_0 : wc.cell? ⟨gb101, 0, none⟩ = some (.int .i64 a0_0) := (blk_cell BK101.out 0).trans rfl
      have hcz18_1 : wc.cell? ⟨gb101, 1, none⟩ = some (.int .i64 a0_1) := (blk_cell BK101.out 1).trans rfl
      have hcz18_2 : wc.cell? ⟨gb101, 2, none⟩ = some (.slice A0_2 l0_2.length c0_2) := (blk_cell BK101.out 2).trans rfl
      have hfz18_0 := blk_frozen BK101.out 0
      have hfz18_1 := blk_frozen BK101.out 1
      have hfz18_2 := blk_frozen BK101.out 2
      go_wp2_with (first | (go_at_call 44; (with_reducible refine (impl_within.calls x7_4 0 (wrap64 (a0_0 - 1)) true _ A11.out).mono ?_); rintro e w' ⟨rfl, ⟨nd, rfl⟩⟩; (try first | exact ⟨rfl, _, World.drewN_drewN _ _ _⟩ | exact ⟨rfl, _, Eq.trans (World.drewN_drewN _ _ _) (congrArg (World.drewN _) (Nat.add_assoc _ _ _))⟩)) | (go_at_call 44; (with_reducible refine (impl_within.calls x8_4 0 (wrap64 (a0_1 - 1)) false _ A13.out).mono ?_); rintro e w' ⟨rfl, ⟨nd, rfl⟩⟩; (try first | exact ⟨rfl, _, World.drewN_drewN _ _ _⟩ | exact ⟨rfl, _, Eq.trans (World.drewN_drewN _ _ _) (congrArg (World.drewN _) (Nat.add_assoc _ _ _))⟩)))
      repeat (go_quiet (first | (go_at_call 44; (with_reducible refine (impl_within.calls x7_4 0 (wrap64 (a0_0 - 1)) true _ A11.out).mono ?_); rintro e w' ⟨rfl, ⟨nd, rfl⟩⟩; (try first | exact ⟨rfl, _, World.drewN_drewN _ _ _⟩ | exact ⟨rfl, _, Eq.trans (World.drewN_drewN _ _ _) (congrArg (World.drewN _) (Nat.add_assoc _ _ _))⟩)) | (go_at_call 44; (with_reducible refine (impl_within.calls x8_4 0 (wrap64 (a0_1 - 1)) false _ A13.out).mono ?_); rintro e w' ⟨rfl, ⟨nd, rfl⟩⟩; (try first | exact ⟨rfl, _, World.drewN_drewN _ _ _⟩ | exact ⟨rfl, _, Eq.trans (World.drewN_drewN _ _ _) (congrArg (World.drewN _) (Nat.add_assoc _ _ _))⟩))); try go_wp2_with (first | (go_at_call 44; (with_reducible refine (impl_within.calls x7_4 0 (wrap64 (a0_0 - 1)) true _ A11.out).mono ?_); rintro e w' ⟨rfl, ⟨nd, rfl⟩⟩; (try first | exact ⟨rfl, _, World.drewN_drewN _ _ _⟩ | exact ⟨rfl, _, Eq.trans (World.drewN_drewN _ _ _) (congrArg (World.drewN _) (Nat.add_assoc _ _ _))⟩)) | (go_at_call 44; (with_reducible refine (impl_within.calls x8_4 0 (wrap64 (a0_1 - 1)) false _ A13.out).mono ?_); rintro e w' ⟨rfl, ⟨nd, rfl⟩⟩; (try first | exact ⟨rfl, _, World.drewN_drewN _ _ _⟩ | exact ⟨rfl, _, Eq.trans (World.drewN_drewN _ _ _) (congrArg (World.drewN _) (Nat.add_assoc _ _ _))⟩))))
      go_ret
      exact ⟨by first | rfl | (simp [errW_none, errW_some] <;> rfl) | (simp [*, errW_none, errW_some] <;> rfl), bel HB⟩
    ·replace c12 := Bool.eq_false_iff.mpr c12
     subst c12
     have H1 : (some (-1)) = some r := by rw [if_neg (show ¬ (false = true) by decide)] at H; exact H
     clear H
     have H := H1
     clear H1
     obtain rfl := Option.some.inj H
     have hcz19_0 : wc.cell? ⟨gb101, 0, none⟩ = some (.int .i64 a0_0) := (blk_cell BK101.out 0).trans rfl
     have hcz19_1 : wc.cell? ⟨gb101, 1, none⟩ = some (.int .i64 a0_1) := (blk_cell BK101.out 1).trans rfl
     have hcz19_2 : wc.cell? ⟨gb101, 2, none⟩ = some (.slice A0_2 l0_2.length c0_2) := (blk_cell BK101.out 2).trans rfl
     have hfz19_0 := blk_frozen BK101.out 0
     have hfz19_1 := blk_frozen BK101.out 1
     have hfz19_2 := blk_frozen BK101.out 2
     go_wp2_with (first | (go_at_call 44; (with_reducible refine (impl_within.calls x7_4 0 (wrap64 (a0_0 - 1)) false _ A11.out).mono ?_); rintro e w' ⟨rfl, ⟨nd, rfl⟩⟩; (try first | exact ⟨rfl, _, World.drewN_drewN _ _ _⟩ | exact ⟨rfl, _, Eq.trans (World.drewN_drewN _ _ _) (congrArg (World.drewN _) (Nat.add_assoc _ _ _))⟩)))
     repeat (go_quiet (first | (go_at_call 44; (with_reducible refine (impl_within.calls x7_4 0 (wrap64 (a0_0 - 1)) false _ A11.out).mono ?_); rintro e w' ⟨rfl, ⟨nd, rfl⟩⟩; (try first | exact ⟨rfl, _, World.drewN_drewN _ _ _⟩ | exact ⟨rfl, _, Eq.trans (World.drewN_drewN _ _ _) (congrArg (World.drewN _) (Nat.add_assoc _ _ _))⟩))); try go_wp2_with (first | (go_at_call 44; (with_reducible refine (impl_within.calls x7_4 0 (wrap64 (a0_0 - 1)) false _ A11.out).mono ?_); rintro e w' ⟨rfl, ⟨nd, rfl⟩⟩; (try first | exact ⟨rfl, _, World.drewN_drewN _ _ _⟩ | exact ⟨rfl, _, Eq.trans (World.drewN_drewN _ _ _) (congrArg (World.drewN _) (Nat.add_assoc _ _ _))⟩))))
     go_ret
     exact ⟨by first | rfl | (simp [errW_none, errW_some] <;> rfl) | (simp [*, errW_none, errW_some] <;> rfl), bel HB⟩
end Go.Proofs.YtmefnfhghfemgaaDoor.Q
end
section
namespace Go.Proofs.YtmefnfhghfemgaaDoor.Q
set_option linter.unusedSectionVars false
open Go.RowKit Go.Proofs.YtmefnfhghfemgaaDoorW.PrintWords Go.Proofs.YtmefnfhghfemgaaDoorW.PrintLast Go.Proofs.YtmefnfhghfemgaaDoorW.PrintMore
def ah (w h : Nat) (i : Nat) (d : Nat) : Int := (impl_tray_ahead.f 1 w h [] i (dirC d)).getD (-1)
def left (w h i d : Nat) : Nat := if d = 0 then i / w else if d = 1 then w - 1 - i % w else if d = 2 then h - 1 - i / w else i % w
theorem ah_all : ∀ (w h : Fin 8) (i : Fin 36) (d : Fin 4), i.val < w.val * h.val → impl_tray_ahead.f 1 w.val h.val [] i.val (dirC d.val) = some (ah w.val h.val i.val d.val) ∧
  spec_tiAhead.f w.val h.val (List.replicate (w.val * h.val) 0) i.val d.val = some (ah w.val h.val i.val d.val) ∧
  -1 ≤ ah w.val h.val i.val d.val ∧ ah w.val h.val i.val d.val < ((w.val * h.val : Nat) : Int) ∧ left w.val h.val i.val d.val ≤ 6 ∧
  (0 ≤ ah w.val h.val i.val d.val → left w.val h.val (ah w.val h.val i.val d.val).toNat d.val < left w.val h.val i.val d.val) := by decide +kernel
theorem ahead_l (k : Nat) (w h : Int) (l : List Int) (i c : Int) : impl_tray_ahead.f k w h l i c = impl_tray_ahead.f k w h [] i c := by
 have h0 : ∀ k a b w h, impl_tray_ahead.j0 k a b w h l = impl_tray_ahead.j0 k a b w h [] := by
  intro k a b w h
  cases k with
  | zero => rfl
  | succ k => rfl
 simp only [impl_tray_ahead.f, h0]
section
variable {w h i d : Nat} (hw : w ≤ 7) (hh : h ≤ 7) (hs : w * h ≤ 36) (hi : i < w * h) (hd : d < 4)
include hw hh hs hi hd
theorem ahead_ev (cs : List Int) : Ev (fun k => impl_tray_ahead.f k w h cs i (dirC d)) (ah w h i d) := by
 refine Ev.of_mono (fun k => impl_tray_ahead.mono _ _ _ _ _ k) 1 ?_
 rw [ahead_l]
 exact (ah_all ⟨w, by omega⟩ ⟨h, by omega⟩ ⟨i, by omega⟩ ⟨d, hd⟩ hi).1
theorem tiAhead_eq (cs : List Int) (hn : cs.length = w * h) : spec_tiAhead.f w h cs i d = some (if ah w h i d < 0 then -1 else if rd cs (ah w h i d) = 35 then -1 else ah w h i d) := by
 obtain ⟨_, h2, h3, _⟩ := ah_all ⟨w, by omega⟩ ⟨h, by omega⟩ ⟨i, by omega⟩ ⟨d, hd⟩ hi
 have h4 := tiAhead_of cs (w * h) hn w h i d _ h2
 simp only at h3 h4
 rw [h4]
 congr 1
 by_cases h5 : ah w h i d < 0
 ·rw [if_pos h5, if_pos h5]
  omega
 ·rw [if_neg h5, if_neg h5]
theorem ah_lt : -1 ≤ ah w h i d ∧ ah w h i d < ((w * h : Nat) : Int) := by
 have h1 := ah_all ⟨w, by omega⟩ ⟨h, by omega⟩ ⟨i, by omega⟩ ⟨d, hd⟩ hi
 exact ⟨h1.2.2.1, h1.2.2.2.1⟩
theorem left_le : left w h i d ≤ 6 := (ah_all ⟨w, by omega⟩ ⟨h, by omega⟩ ⟨i, by omega⟩ ⟨d, hd⟩ hi).2.2.2.2.1
theorem left_lt (h0 : 0 ≤ ah w h i d) : left w h (ah w h i d).toNat d < left w h i d := (ah_all ⟨w, by omega⟩ ⟨h, by omega⟩ ⟨i, by omega⟩ ⟨d, hd⟩ hi).2.2.2.2.2 h0
end
end Go.Proofs.YtmefnfhghfemgaaDoor.Q
end
section
namespace Go.Proofs.YtmefnfhghfemgaaDoor.Q
open Go.RowKit Go.Proofs.YtmefnfhghfemgaaDoorW.PrintWords Go.Proofs.YtmefnfhghfemgaaDoorW.PrintLast Go.Proofs.YtmefnfhghfemgaaDoorW.PrintMore
attribute [local go_sem] max2_int min2_int max_two min_two max_three min_three max_four min_four
set_option linter.unusedVariables false
set_option linter.unusedSimpArgs false
def spec_buFree.l0 : Nat → Int → Int → Int → Int → List Int → Option (Bool)
 | 0, _, _, _, _, _ => none
 | k + 1, x2, x7, x102000, x102001, x102002 => if x7 ≥ 0 then (if 0 ≤ x7 then (if x7 < (x102002.length : Int) then (if (rd x102002 x7) = 46 then ((spec_tiAhead.f x102000 x102001 x102002 x7 (Int.tmod (wrap64 (x2 + 2)) 4)).bind fun t103 => (spec_buFree.l0 k x2 t103 x102000 x102001 x102002)) else (some false)) else (none)) else (none)) else (some true)
def spec_buFree.f (k : Nat) (a0_0 : Int) (a0_1 : Int) (l0_2 : List Int) (a1 : Int) (a2 : Int) : Option (Bool) := spec_buFree.l0 k a2 a1 a0_0 a0_1 l0_2
set_option maxHeartbeats 8000000 in
set_option maxRecDepth 100000 in
theorem spec_buFree.calls (k : Nat) (a0_0 : Int) (a0_1 : Int) (A0_2 : Option Addr) (c0_2 : Nat) (l0_2 : List Int) (a1 : Int) (a2 : Int) (r : Bool) (w : World) (hr0_2 : Kd.C (Kd.int .u8) w A0_2 l0_2.length l0_2) (hc0_2 : l0_2.length ≤ c0_2) (h : spec_buFree.f k a0_0 a0_1 l0_2 a1 a2 = some r) :
  Calls Tryd.prog 109 #[.agg #[.int .i64 a0_0, .int .i64 a0_1, .slice A0_2 l0_2.length c0_2], .int .i64 a1, .int .i64 a2] w fun e w' => e = .returned (.bool r) ∧ Below w.heap.size w w' := by
 have hu40 := Tryd.underlying40
 have HR0_2 := Aside0.mk hr0_2
 have HC0_2 := Aside0.mk hc0_2
 clear hr0_2 hc0_2
 have HB := Aside0.mk (Below.refl w.heap.size w)
 have H : (spec_buFree.l0 k a2 a1 a0_0 a0_1 l0_2) = some r := h
 clear h
 have H' := Aside0.mk H
 clear H
 go_enter Tryd.func109, Tryd.ntmps109
 go_wp2_with (first | ((with_reducible refine gate_dst (N := 3) rfl ?_); refine boxE (N := 3) (cs := #[.int .i64 a0_0, .int .i64 a0_1, .slice A0_2 l0_2.length c0_2]) (t := 40) ?_; intro gb101 hg w4 hbox hb; have n0_ := Aside0.mk (below_step (bel HB) hb); have n1_ := Aside0.mk (hbox); have n2_ := Aside0.mk (gsz hg (bel HB)); have n3_ := Aside0.mk (gsz hg (bel HB)); clear HB; have HB := n0_; have BK101 := n1_; have GW101 := n2_; have GE101 := n3_; clear n0_ n1_ n2_ n3_; clear hb hbox hg))
 go_loopg [7] k (fun kq v7 w' => ∃ (x7_1 : Int), v7 = .int .i64 x7_1 ∧ Aside0 (spec_buFree.l0 kq a2 x7_1 a0_0 a0_1 l0_2 = some r) ∧ Aside0 (kq ≤ k) ∧ Aside0 (w'.heap[gb101]? = some (.cells #[.int .i64 a0_0, .int .i64 a0_1, (.slice A0_2 l0_2.length c0_2)] 40 (0, 0))) ∧ Aside0 (Below w.heap.size w w'))
 case atStart => exact ⟨(a1), (by first | rfl | (simp; done) | (simp [*]; done)), H', ⟨Nat.le_refl _⟩, ⟨blc⟩, ⟨bel HB⟩⟩
 case round =>
  clear H'
  try clear c1
  try clear p2
  obtain ⟨x7_1, rfl, HA, HK1, BK101, HB⟩ := hrel
  cases gk with
  | zero => exact absurd HA.out (by simp [spec_buFree.l0])
  | succ k1 =>
   have H := HA.out
   clear HA
   simp only [spec_buFree.l0] at H
   by_cases c5 : x7_1 ≥ 0
   ·rw [if_pos c5] at H
    have c5b0 : decide (0 ≤ x7_1) = true := decide_eq_true c5
    clear c5
    by_cases c6 : 0 ≤ x7_1
    ·rw [if_pos c6] at H
     have c6b0 : decide (0 ≤ x7_1) = true := decide_eq_true c6
     clear c6
     by_cases c7 : x7_1 < (l0_2.length : Int)
     ·rw [if_pos c7] at H
      have c7b0 : decide (x7_1 < (l0_2.length : Int)) = true := decide_eq_true c7
      clear c7
      by_cases c8 : (rd l0_2 x7_1) = 46
      ·rw [if_pos c8] at H
       have c8b0 : ((rd l0_2 x7_1) == 46) = true := beq_iff_eq.mpr c8
       have c8b1 : ((rd l0_2 x7_1) != 46) = false := bne_eq_false_iff_eq.mpr c8
       clear c8
       replace H := Option.bind_eq_some_iff.mp H
       obtain ⟨t103, A90, H⟩ := H
       replace H : (spec_buFree.l0 k1 a2 t103 a0_0 a0_1 l0_2) = some r := H
       have A9 := Aside0.mk A90
       clear A90
       have H' := Aside0.mk H
       clear H
       have hcz10_0 : wr.cell? ⟨gb101, 0, none⟩ = some (.int .i64 a0_0) := (blk_cell BK101.out 0).trans rfl
       have hcz10_1 : wr.cell? ⟨gb101, 1, none⟩ = some (.int .i64 a0_1) := (blk_cell BK101.out 1).trans rfl
       have hcz10_2 : wr.cell? ⟨gb101, 2, none⟩ = some (.slice A0_2 l0_2.length c0_2) := (blk_cell BK101.out 2).trans rfl
       have hfz10_0 := blk_frozen BK101.out 0
       have hfz10_1 := blk_frozen BK101.out 1
       have hfz10_2 := blk_frozen BK101.out 2
       have p102 : 0 ≤ (x7_1 : Int) := of_decide_eq_true (by first | (with_reducible assumption) | assumption)
       have q102 : x7_1 < (l0_2.length : Int) := of_decide_eq_true (by first | (with_reducible assumption) | assumption)
       obtain ⟨ad102, e102, hx102_0⟩ := Kd.at_int HR0_2.out x7_1 p102 q102
       cases e102
       (try replace hx102_0 := (HB.out.cell (World.block_lt_of_cell? w _ hx102_0)).trans hx102_0)
       replace p102 := eq_true p102
       replace q102 := eq_true q102
       go_wp2_with (first | ((with_reducible refine gate_callee (f := 137) rfl ?_); refine gcall (some 16) Tryd.func137 #[.agg #[.int .i64 a0_0, .int .i64 a0_1, .slice (some ad102) l0_2.length c0_2], .int .i64 x7_1, .int .i64 (Int.tmod (wrap64 (a2 + 2)) 4)] rfl ?_; (with_reducible refine (spec_tiAhead.calls a0_0 a0_1 _ _ l0_2 x7_1 (Int.tmod (wrap64 (a2 + 2)) 4) t103 _ ?side1 ?side2 A9.out).mono ?_); (case side1 => repeat (first | exact (Kd.C_below HR0_2.out HB.out) | (with_reducible refine Kd.C_alloc ?_ _) | (with_reducible refine Kd.C_drewN ?_ _) | (with_reducible refine Kd.C_drew ?_))); (case side2 => exact HC0_2.out); rintro e w11 ⟨rfl, hb⟩; refine ⟨_, rfl, ?_⟩; have n0_ := Aside0.mk (blk_below (g := gb101) (o := .cells #[.int .i64 a0_0, .int .i64 a0_1, .slice (some ad102) l0_2.length c0_2] 40 (0, 0)) blc hb); have n1_ := Aside0.mk (below_step (bel HB) hb); clear BK101; clear HB; have BK101 := n0_; have HB := n1_; clear n0_ n1_; (try clear hb); (try clear hb2); (try clear hk); (try clear hi)))
       go_roundg k1
       case measure => have := HK1.out; omega
       case rel => exact ⟨(t103), (by first | rfl | (simp; done) | (simp [*]; done)), H', ⟨by have := HK1.out; omega⟩, ⟨blc⟩, ⟨bel HB⟩⟩
      ·rw [if_neg c8] at H
       have c8b0 : ((rd l0_2 x7_1) == 46) = false := beq_eq_false_iff_ne.mpr c8
       have c8b1 : ((rd l0_2 x7_1) != 46) = true := bne_iff_ne.mpr c8
       obtain rfl := Option.some.inj H
       have hcz12_0 : wr.cell? ⟨gb101, 0, none⟩ = some (.int .i64 a0_0) := (blk_cell BK101.out 0).trans rfl
       have hcz12_1 : wr.cell? ⟨gb101, 1, none⟩ = some (.int .i64 a0_1) := (blk_cell BK101.out 1).trans rfl
       have hcz12_2 : wr.cell? ⟨gb101, 2, none⟩ = some (.slice A0_2 l0_2.length c0_2) := (blk_cell BK101.out 2).trans rfl
       have hfz12_0 := blk_frozen BK101.out 0
       have hfz12_1 := blk_frozen BK101.out 1
       have hfz12_2 := blk_frozen BK101.out 2
       have p102 : 0 ≤ (x7_1 : Int) := of_decide_eq_true (by first | (with_reducible assumption) | assumption)
       have q102 : x7_1 < (l0_2.length : Int) := of_decide_eq_true (by first | (with_reducible assumption) | assumption)
       obtain ⟨ad102, e102, hx102_0⟩ := Kd.at_int HR0_2.out x7_1 p102 q102
       cases e102
       (try replace hx102_0 := (HB.out.cell (World.block_lt_of_cell? w _ hx102_0)).trans hx102_0)
       replace p102 := eq_true p102
       replace q102 := eq_true q102
       go_wp2
       go_ret
       exact ⟨by first | rfl | (simp [errW_none, errW_some] <;> rfl) | (simp [*, errW_none, errW_some] <;> rfl), bel HB⟩
     ·rw [if_neg c7] at H
      exact absurd H (by simp)
    ·rw [if_neg c6] at H
     exact absurd H (by simp)
   ·rw [if_neg c5] at H
    have c5b0 : decide (0 ≤ x7_1) = false := decide_eq_false c5
    clear c5
    obtain rfl := Option.some.inj H
    go_wp2
    go_ret
    exact ⟨by first | rfl | (simp [errW_none, errW_some] <;> rfl) | (simp [*, errW_none, errW_some] <;> rfl), bel HB⟩
end Go.Proofs.YtmefnfhghfemgaaDoor.Q
end
section
namespace Go.Proofs.YtmefnfhghfemgaaDoor.Q
open Go.RowKit Go.Shelf Go.Proofs.YtmefnfhghfemgaaDoorW.PrintWords Go.Proofs.YtmefnfhghfemgaaDoorW.PrintLast Go.Proofs.YtmefnfhghfemgaaDoorW.PrintMore
def impl_turnedWord.f (a0 : ByteArray) (a1 : Int) : Option ByteArray :=
 if a1 = 2 then (if a0.data.toList = [117] then some ⟨#[100]⟩ else if a0.data.toList = [114] then some ⟨#[108]⟩ else if a0.data.toList = [100] then some ⟨#[117]⟩ else if a0.data.toList = [108] then some ⟨#[114]⟩ else none) else none
theorem one_of_list (s : ByteArray) (b : UInt8) (h : s.data.toList = [b]) : s = ⟨#[b]⟩ := by
 obtain ⟨⟨l⟩⟩ := s
 simp at h
 subst h
 rfl
theorem bytesWorld_thawed (w : World) (e : TypeId) (s : ByteArray) (j : Nat) (hj : j < s.size) : (Lib.bytesWorld w e s).frozen? ⟨w.heap.size, j, none⟩ = false := by
 have h := Lib.bytesWorld_at_new w e s
 have h2 : (Lib.bytesCells w e s).size ≥ s.size := by simp [Lib.bytesCells]
 simp [World.frozen?, h]
 omega
set_option maxHeartbeats 4000000 in
set_option maxRecDepth 100000 in
theorem turned_u (w : World) : Calls Tryd.prog 135 #[.string ⟨#[117]⟩, .int .i64 2] w fun e w' => e = .returned (.string ⟨#[100]⟩) ∧ Below w.heap.size w w' := by
 have kb := Lib.run_convert_string_bytes (P := Tryd.prog) w 9 38 5 ⟨#[117]⟩ Tryd.underlying9 Tryd.underlying38 Tryd.underlying5
 have hc0 := Lib.bytesWorld_cell w 5 ⟨#[117]⟩ 0 (by decide)
 have hf0 := bytesWorld_thawed w 5 ⟨#[117]⟩ 0 (by decide)
 have hB0 : Below w.heap.size w (Lib.bytesWorld w 5 ⟨#[117]⟩) := ⟨rfl, rfl, rfl, by rw [Lib.bytesWorld_size]; omega, fun i hi => Lib.bytesWorld_at_old w 5 _ i hi⟩
 have hsz : (⟨#[117]⟩ : ByteArray).size = 1 := rfl
 have hv0 : ((((⟨#[117]⟩ : ByteArray).data.toList.getD 0 0).toNat : Nat) : Int) = 117 := rfl
 rw [hsz] at kb
 rw [hv0] at hc0
 have hix : ∀ W, Calls Tryd.prog 158 #[.string ⟨#[117, 114, 100, 108]⟩, .int .u8 117] W fun e w' => e = .returned (.int .i64 0) ∧ w' = W := fun W => by
  have h := Tryd.strings_IndexByte ⟨#[117, 114, 100, 108]⟩ 117 W
  rwa [show Lib.indexByte (⟨#[117, 114, 100, 108]⟩ : ByteArray).data.toList ((117 : Int).toNat.toUInt8) = 0 from by decide] at h
 generalize grownCap w 1 0 5 = cap at kb
 generalize Lib.bytesWorld w 5 ⟨#[117]⟩ = W0 at kb hc0 hf0 hB0
 obtain ⟨W1, hW1⟩ : ∃ W1, W1 = W0.setCell ⟨w.heap.size, 0, none⟩ (.int .u8 100) := ⟨_, rfl⟩
 have hc1 : W1.cell? ⟨w.heap.size, 0, none⟩ = some (.int .u8 100) := by rw [hW1]; exact World.cell?_setCell_same' _ _ _ (by rw [hc0]; rfl)
 have hB1 : Below w.heap.size w W1 := by rw [hW1]; exact below_set hB0 (Nat.le_refl _)
 have hcv := run_convert_bytes_arg (P := Tryd.prog) W1 38 5 Tryd.underlying38 Tryd.underlying5 w.heap.size 0 1 cap [100] rfl (fun i hi => by
  obtain rfl : i = 0 := by omega
  exact hc1) 9 Tryd.underlying9
 have hst : strOfNums [100] = ⟨#[100]⟩ := by decide
 rw [hst] at hcv
 have HB1 := Aside0.mk hB1
 have HW1 := Aside0.mk hW1
 clear hB0 hB1 hsz hv0 hst hW1
 go_enter Tryd.func135, Tryd.ntmps135
 go_wp2
 go_loopg [12] 2 (fun gg v12 wr => (v12 = .int .i64 0 ∧ wr = W0 ∧ gg = 2) ∨ (v12 = .int .i64 1 ∧ wr = W1))
 case atStart => exact Or.inl ⟨rfl, rfl, rfl⟩
 case round =>
  rcases hrel with ⟨rfl, rfl, rfl⟩ | ⟨rfl, rfl⟩
  ·clear hcv hc1
   go_wp2_with fail
   refine (hix _).mono ?_
   rintro e w' ⟨rfl, rfl⟩
   go_wp2
   go_roundg 1
   case measure => omega
   case rel => exact Or.inr ⟨rfl, HW1.out.symm⟩
  ·clear hix kb
   go_wp2
   go_ret
   exact ⟨rfl, HB1.out⟩
set_option maxHeartbeats 4000000 in
set_option maxRecDepth 100000 in
theorem turned_r (w : World) : Calls Tryd.prog 135 #[.string ⟨#[114]⟩, .int .i64 2] w fun e w' => e = .returned (.string ⟨#[108]⟩) ∧ Below w.heap.size w w' := by
 have kb := Lib.run_convert_string_bytes (P := Tryd.prog) w 9 38 5 ⟨#[114]⟩ Tryd.underlying9 Tryd.underlying38 Tryd.underlying5
 have hc0 := Lib.bytesWorld_cell w 5 ⟨#[114]⟩ 0 (by decide)
 have hf0 := bytesWorld_thawed w 5 ⟨#[114]⟩ 0 (by decide)
 have hB0 : Below w.heap.size w (Lib.bytesWorld w 5 ⟨#[114]⟩) := ⟨rfl, rfl, rfl, by rw [Lib.bytesWorld_size]; omega, fun i hi => Lib.bytesWorld_at_old w 5 _ i hi⟩
 have hsz : (⟨#[114]⟩ : ByteArray).size = 1 := rfl
 have hv0 : ((((⟨#[114]⟩ : ByteArray).data.toList.getD 0 0).toNat : Nat) : Int) = 114 := rfl
 rw [hsz] at kb
 rw [hv0] at hc0
 have hix : ∀ W, Calls Tryd.prog 158 #[.string ⟨#[117, 114, 100, 108]⟩, .int .u8 114] W fun e w' => e = .returned (.int .i64 1) ∧ w' = W := fun W => by
  have h := Tryd.strings_IndexByte ⟨#[117, 114, 100, 108]⟩ 114 W
  rwa [show Lib.indexByte (⟨#[117, 114, 100, 108]⟩ : ByteArray).data.toList ((114 : Int).toNat.toUInt8) = 1 from by decide] at h
 generalize grownCap w 1 0 5 = cap at kb
 generalize Lib.bytesWorld w 5 ⟨#[114]⟩ = W0 at kb hc0 hf0 hB0
 obtain ⟨W1, hW1⟩ : ∃ W1, W1 = W0.setCell ⟨w.heap.size, 0, none⟩ (.int .u8 108) := ⟨_, rfl⟩
 have hc1 : W1.cell? ⟨w.heap.size, 0, none⟩ = some (.int .u8 108) := by rw [hW1]; exact World.cell?_setCell_same' _ _ _ (by rw [hc0]; rfl)
 have hB1 : Below w.heap.size w W1 := by rw [hW1]; exact below_set hB0 (Nat.le_refl _)
 have hcv := run_convert_bytes_arg (P := Tryd.prog) W1 38 5 Tryd.underlying38 Tryd.underlying5 w.heap.size 0 1 cap [108] rfl (fun i hi => by
  obtain rfl : i = 0 := by omega
  exact hc1) 9 Tryd.underlying9
 have hst : strOfNums [108] = ⟨#[108]⟩ := by decide
 rw [hst] at hcv
 have HB1 := Aside0.mk hB1
 have HW1 := Aside0.mk hW1
 clear hB0 hB1 hsz hv0 hst hW1
 go_enter Tryd.func135, Tryd.ntmps135
 go_wp2
 go_loopg [12] 2 (fun gg v12 wr => (v12 = .int .i64 0 ∧ wr = W0 ∧ gg = 2) ∨ (v12 = .int .i64 1 ∧ wr = W1))
 case atStart => exact Or.inl ⟨rfl, rfl, rfl⟩
 case round =>
  rcases hrel with ⟨rfl, rfl, rfl⟩ | ⟨rfl, rfl⟩
  ·clear hcv hc1
   go_wp2_with fail
   refine (hix _).mono ?_
   rintro e w' ⟨rfl, rfl⟩
   go_wp2
   go_roundg 1
   case measure => omega
   case rel => exact Or.inr ⟨rfl, HW1.out.symm⟩
  ·clear hix kb
   go_wp2
   go_ret
   exact ⟨rfl, HB1.out⟩
set_option maxHeartbeats 4000000 in
set_option maxRecDepth 100000 in
theorem turned_d (w : World) : Calls Tryd.prog 135 #[.string ⟨#[100]⟩, .int .i64 2] w fun e w' => e = .returned (.string ⟨#[117]⟩) ∧ Below w.heap.size w w' := by
 have kb := Lib.run_convert_string_bytes (P := Tryd.prog) w 9 38 5 ⟨#[100]⟩ Tryd.underlying9 Tryd.underlying38 Tryd.underlying5
 have hc0 := Lib.bytesWorld_cell w 5 ⟨#[100]⟩ 0 (by decide)
 have hf0 := bytesWorld_thawed w 5 ⟨#[100]⟩ 0 (by decide)
 have hB0 : Below w.heap.size w (Lib.bytesWorld w 5 ⟨#[100]⟩) := ⟨rfl, rfl, rfl, by rw [Lib.bytesWorld_size]; omega, fun i hi => Lib.bytesWorld_at_old w 5 _ i hi⟩
 have hsz : (⟨#[100]⟩ : ByteArray).size = 1 := rfl
 have hv0 : ((((⟨#[100]⟩ : ByteArray).data.toList.getD 0 0).toNat : Nat) : Int) = 100 := rfl
 rw [hsz] at kb
 rw [hv0] at hc0
 have hix : ∀ W, Calls Tryd.prog 158 #[.string ⟨#[117, 114, 100, 108]⟩, .int .u8 100] W fun e w' => e = .returned (.int .i64 2) ∧ w' = W := fun W => by
  have h := Tryd.strings_IndexByte ⟨#[117, 114, 100, 108]⟩ 100 W
  rwa [show Lib.indexByte (⟨#[117, 114, 100, 108]⟩ : ByteArray).data.toList ((100 : Int).toNat.toUInt8) = 2 from by decide] at h
 generalize grownCap w 1 0 5 = cap at kb
 generalize Lib.bytesWorld w 5 ⟨#[100]⟩ = W0 at kb hc0 hf0 hB0
 obtain ⟨W1, hW1⟩ : ∃ W1, W1 = W0.setCell ⟨w.heap.size, 0, none⟩ (.int .u8 117) := ⟨_, rfl⟩
 have hc1 : W1.cell? ⟨w.heap.size, 0, none⟩ = some (.int .u8 117) := by rw [hW1]; exact World.cell?_setCell_same' _ _ _ (by rw [hc0]; rfl)
 have hB1 : Below w.heap.size w W1 := by rw [hW1]; exact below_set hB0 (Nat.le_refl _)
 have hcv := run_convert_bytes_arg (P := Tryd.prog) W1 38 5 Tryd.underlying38 Tryd.underlying5 w.heap.size 0 1 cap [117] rfl (fun i hi => by
  obtain rfl : i = 0 := by omega
  exact hc1) 9 Tryd.underlying9
 have hst : strOfNums [117] = ⟨#[117]⟩ := by decide
 rw [hst] at hcv
 have HB1 := Aside0.mk hB1
 have HW1 := Aside0.mk hW1
 clear hB0 hB1 hsz hv0 hst hW1
 go_enter Tryd.func135, Tryd.ntmps135
 go_wp2
 go_loopg [12] 2 (fun gg v12 wr => (v12 = .int .i64 0 ∧ wr = W0 ∧ gg = 2) ∨ (v12 = .int .i64 1 ∧ wr = W1))
 case atStart => exact Or.inl ⟨rfl, rfl, rfl⟩
 case round =>
  rcases hrel with ⟨rfl, rfl, rfl⟩ | ⟨rfl, rfl⟩
  ·clear hcv hc1
   go_wp2_with fail
   refine (hix _).mono ?_
   rintro e w' ⟨rfl, rfl⟩
   go_wp2
   go_roundg 1
   case measure => omega
   case rel => exact Or.inr ⟨rfl, HW1.out.symm⟩
  ·clear hix kb
   go_wp2
   go_ret
   exact ⟨rfl, HB1.out⟩
set_option maxHeartbeats 4000000 in
set_option maxRecDepth 100000 in
theorem turned_l (w : World) : Calls Tryd.prog 135 #[.string ⟨#[108]⟩, .int .i64 2] w fun e w' => e = .returned (.string ⟨#[114]⟩) ∧ Below w.heap.size w w' := by
 have kb := Lib.run_convert_string_bytes (P := Tryd.prog) w 9 38 5 ⟨#[108]⟩ Tryd.underlying9 Tryd.underlying38 Tryd.underlying5
 have hc0 := Lib.bytesWorld_cell w 5 ⟨#[108]⟩ 0 (by decide)
 have hf0 := bytesWorld_thawed w 5 ⟨#[108]⟩ 0 (by decide)
 have hB0 : Below w.heap.size w (Lib.bytesWorld w 5 ⟨#[108]⟩) := ⟨rfl, rfl, rfl, by rw [Lib.bytesWorld_size]; omega, fun i hi => Lib.bytesWorld_at_old w 5 _ i hi⟩
 have hsz : (⟨#[108]⟩ : ByteArray).size = 1 := rfl
 have hv0 : ((((⟨#[108]⟩ : ByteArray).data.toList.getD 0 0).toNat : Nat) : Int) = 108 := rfl
 rw [hsz] at kb
 rw [hv0] at hc0
 have hix : ∀ W, Calls Tryd.prog 158 #[.string ⟨#[117, 114, 100, 108]⟩, .int .u8 108] W fun e w' => e = .returned (.int .i64 3) ∧ w' = W := fun W => by
  have h := Tryd.strings_IndexByte ⟨#[117, 114, 100, 108]⟩ 108 W
  rwa [show Lib.indexByte (⟨#[117, 114, 100, 108]⟩ : ByteArray).data.toList ((108 : Int).toNat.toUInt8) = 3 from by decide] at h
 generalize grownCap w 1 0 5 = cap at kb
 generalize Lib.bytesWorld w 5 ⟨#[108]⟩ = W0 at kb hc0 hf0 hB0
 obtain ⟨W1, hW1⟩ : ∃ W1, W1 = W0.setCell ⟨w.heap.size, 0, none⟩ (.int .u8 114) := ⟨_, rfl⟩
 have hc1 : W1.cell? ⟨w.heap.size, 0, none⟩ = some (.int .u8 114) := by rw [hW1]; exact World.cell?_setCell_same' _ _ _ (by rw [hc0]; rfl)
 have hB1 : Below w.heap.size w W1 := by rw [hW1]; exact below_set hB0 (Nat.le_refl _)
 have hcv := run_convert_bytes_arg (P := Tryd.prog) W1 38 5 Tryd.underlying38 Tryd.underlying5 w.heap.size 0 1 cap [114] rfl (fun i hi => by
  obtain rfl : i = 0 := by omega
  exact hc1) 9 Tryd.underlying9
 have hst : strOfNums [114] = ⟨#[114]⟩ := by decide
 rw [hst] at hcv
 have HB1 := Aside0.mk hB1
 have HW1 := Aside0.mk hW1
 clear hB0 hB1 hsz hv0 hst hW1
 go_enter Tryd.func135, Tryd.ntmps135
 go_wp2
 go_loopg [12] 2 (fun gg v12 wr => (v12 = .int .i64 0 ∧ wr = W0 ∧ gg = 2) ∨ (v12 = .int .i64 1 ∧ wr = W1))
 case atStart => exact Or.inl ⟨rfl, rfl, rfl⟩
 case round =>
  rcases hrel with ⟨rfl, rfl, rfl⟩ | ⟨rfl, rfl⟩
  ·clear hcv hc1
   go_wp2_with fail
   refine (hix _).mono ?_
   rintro e w' ⟨rfl, rfl⟩
   go_wp2
   go_roundg 1
   case measure => omega
   case rel => exact Or.inr ⟨rfl, HW1.out.symm⟩
  ·clear hix kb
   go_wp2
   go_ret
   exact ⟨rfl, HB1.out⟩
theorem impl_turnedWord.calls (a0 : ByteArray) (a1 : Int) (r : ByteArray) (w : World) (h : impl_turnedWord.f a0 a1 = some r) :
  Calls Tryd.prog 135 #[.string a0, .int .i64 a1] w fun e w' => e = .returned (.string r) ∧ Below w.heap.size w w' := by
 unfold impl_turnedWord.f at h
 split at h
 case isFalse => cases h
 rename_i h2
 subst h2
 split at h
 ·rename_i h1
  obtain rfl := Option.some.inj h
  rw [one_of_list _ _ h1]
  exact turned_u w
 split at h
 ·rename_i h1
  obtain rfl := Option.some.inj h
  rw [one_of_list _ _ h1]
  exact turned_r w
 split at h
 ·rename_i h1
  obtain rfl := Option.some.inj h
  rw [one_of_list _ _ h1]
  exact turned_d w
 split at h
 ·rename_i h1
  obtain rfl := Option.some.inj h
  rw [one_of_list _ _ h1]
  exact turned_l w
 cases h
end Go.Proofs.YtmefnfhghfemgaaDoor.Q
end
section
namespace Go.Proofs.YtmefnfhghfemgaaDoor.Q
open Go.RowKit Go.Proofs.YtmefnfhghfemgaaDoorW.PrintWords Go.Proofs.YtmefnfhghfemgaaDoorW.PrintLast Go.Proofs.YtmefnfhghfemgaaDoorW.PrintMore
attribute [local go_sem] max2_int min2_int max_two min_two max_three min_three max_four min_four
set_option linter.unusedVariables false
set_option linter.unusedSimpArgs false
mutual
def impl_tray_freeWays.l0 : Nat → Int → List Int → List Int → Int → Int → Int → Int → List Int → Option (ByteArray)
 | 0, _, _, _, _, _, _, _, _ => none
 | k + 1, x1, x5, x12, x13, x14, x102000, x102001, x102002 => if x14 < x13 then (if 0 ≤ x14 then (if x14 < (x12.length : Int) then ((impl_turnedWord.f (strOfNums (([rd x12 x14] : List Int))) 2).bind fun t112 => (if 0 < (t112.size : Int) then (impl_tray_freeWays.l1 k x1 x5 (rd x12 x14) x1 (bt t112 0) x12 x13 x14 x102000 x102001 x102002) else (none))) else (none)) else (none)) else (some (strOfNums x5))
def impl_tray_freeWays.l1 : Nat → Int → List Int → Int → Int → Int → List Int → Int → Int → Int → Int → List Int → Option (ByteArray)
 | 0, _, _, _, _, _, _, _, _, _, _, _ => none
 | k + 1, x1, x5, x7, x8, x9, x12, x13, x14, x102000, x102001, x102002 => if x8 ≥ 0 then (if 0 ≤ x8 then (if x8 < (x102002.length : Int) then (if (rd x102002 x8) = 46 then ((impl_tray_ahead.f k x102000 x102001 x102002 x8 x9).bind fun t114 => (impl_tray_freeWays.l1 k x1 x5 x7 t114 x9 x12 x13 x14 x102000 x102001 x102002)) else (if x8 < 0 then (if x5.length < 140737488355328 then (impl_tray_freeWays.l0 k x1 (x5 ++ [x7]) x12 x13 (wrap64 (x14 + 1)) x102000 x102001 x102002) else (none)) else (impl_tray_freeWays.l0 k x1 x5 x12 x13 (wrap64 (x14 + 1)) x102000 x102001 x102002))) else (none)) else (none)) else (if x8 < 0 then (if x5.length < 140737488355328 then (impl_tray_freeWays.l0 k x1 (x5 ++ [x7]) x12 x13 (wrap64 (x14 + 1)) x102000 x102001 x102002) else (none)) else (impl_tray_freeWays.l0 k x1 x5 x12 x13 (wrap64 (x14 + 1)) x102000 x102001 x102002))
end
def impl_tray_freeWays.f (k : Nat) (a0_0 : Int) (a0_1 : Int) (l0_2 : List Int) (a1 : Int) : Option (ByteArray) := (litB.f ([117, 114, 100, 108] : List Int)).bind fun t105 => (impl_tray_freeWays.l0 k a1 (([] : List Int)) t105 (t105.length : Int) 0 a0_0 a0_1 l0_2)
theorem impl_tray_freeWays.mono_l : ∀ k, (∀ y0 y1 y2 y3 y4 y5 y6 y7, LeO (impl_tray_freeWays.l0 k y0 y1 y2 y3 y4 y5 y6 y7) (impl_tray_freeWays.l0 (k + 1) y0 y1 y2 y3 y4 y5 y6 y7)) ∧ (∀ y0 y1 y2 y3 y4 y5 y6 y7 y8 y9 y10, LeO (impl_tray_freeWays.l1 k y0 y1 y2 y3 y4 y5 y6 y7 y8 y9 y10) (impl_tray_freeWays.l1 (k + 1) y0 y1 y2 y3 y4 y5 y6 y7 y8 y9 y10))
 | 0 => ⟨fun _ _ _ _ _ _ _ _ r h => by simp [impl_tray_freeWays.l0] at h, fun _ _ _ _ _ _ _ _ _ _ _ r h => by simp [impl_tray_freeWays.l1] at h⟩
 | k + 1 => by
  obtain ⟨ih0, ih1⟩ := impl_tray_freeWays.mono_l k
  refine ⟨?_, ?_⟩
  ·intro y0 y1 y2 y3 y4 y5 y6 y7
   unfold impl_tray_freeWays.l0
   repeat' first
   | (with_reducible apply ih0)
   | (with_reducible apply ih1)
   | (with_reducible exact impl_tray_ahead.mono _ _ _ _ _ _)
   | (with_reducible exact LeO.refl _)
   | (with_reducible exact LeO.none _)
   | (with_reducible refine LeO.ite ?_ ?_)
   | (with_reducible refine LeO.bind ?_ (fun _ => ?_))
   | apply ih0
   | apply ih1
   | exact impl_tray_ahead.mono _ _ _ _ _ _
   | exact LeO.none _
   | refine LeO.ite ?_ ?_
   | refine LeO.bind ?_ (fun _ => ?_)
  ·intro y0 y1 y2 y3 y4 y5 y6 y7 y8 y9 y10
   unfold impl_tray_freeWays.l1
   repeat' first
   | (with_reducible apply ih0)
   | (with_reducible apply ih1)
   | (with_reducible exact impl_tray_ahead.mono _ _ _ _ _ _)
   | (with_reducible exact LeO.refl _)
   | (with_reducible exact LeO.none _)
   | (with_reducible refine LeO.ite ?_ ?_)
   | (with_reducible refine LeO.bind ?_ (fun _ => ?_))
   | apply ih0
   | apply ih1
   | exact impl_tray_ahead.mono _ _ _ _ _ _
   | exact LeO.none _
   | refine LeO.ite ?_ ?_
   | refine LeO.bind ?_ (fun _ => ?_)
theorem impl_tray_freeWays.mono : ∀ a0 a1 a2 a3 k, LeO (impl_tray_freeWays.f k a0 a1 a2 a3) (impl_tray_freeWays.f (k + 1) a0 a1 a2 a3) := by
 intro a0 a1 a2 a3 k
 obtain ⟨ih0, ih1⟩ := impl_tray_freeWays.mono_l k
 unfold impl_tray_freeWays.f
 repeat' first
   | (with_reducible apply ih0)
   | (with_reducible apply ih1)
   | (with_reducible exact impl_tray_ahead.mono _ _ _ _ _ _)
   | (with_reducible exact LeO.refl _)
   | (with_reducible exact LeO.none _)
   | (with_reducible refine LeO.ite ?_ ?_)
   | (with_reducible refine LeO.bind ?_ (fun _ => ?_))
   | apply ih0
   | apply ih1
   | exact impl_tray_ahead.mono _ _ _ _ _ _
   | exact LeO.none _
   | refine LeO.ite ?_ ?_
   | refine LeO.bind ?_ (fun _ => ?_)
def impl_tray_freeWays.T5 : Bool × List (List Nat × List Nat) := (true, [([], []), ([], []), ([1], [1]), ([2], [2]), ([3], [3]), ([4], [4]), ([0, 4, 0], [0]), ([5, 6, 0, 1, 2, 3, 4, 5, 6], [5])])
def impl_tray_freeWays.B5 : List Nat := [0, 0, 2, 6, 14, 30, 31, 127]
theorem impl_tray_freeWays.tab5 : rtab .any (opsOf Tryd.f108 5) = impl_tray_freeWays.T5 := by kernel_rfl
theorem impl_tray_freeWays.bits5 : waitsOk impl_tray_freeWays.T5.2 impl_tray_freeWays.B5 = true := by kernel_rfl
set_option maxHeartbeats 8000000 in
set_option maxRecDepth 100000 in
theorem impl_tray_freeWays.calls (k : Nat) (a0_0 : Int) (a0_1 : Int) (A0_2 : Option Addr) (c0_2 : Nat) (l0_2 : List Int) (a1 : Int) (r : ByteArray) (w : World) (hr0_2 : Kd.C (Kd.int .u8) w A0_2 l0_2.length l0_2) (hc0_2 : l0_2.length ≤ c0_2) (h : impl_tray_freeWays.f k a0_0 a0_1 l0_2 a1 = some r) :
  Calls Tryd.prog 108 #[.agg #[.int .i64 a0_0, .int .i64 a0_1, .slice A0_2 l0_2.length c0_2], .int .i64 a1] w fun e w' => e = .returned (.string r) ∧ Below w.heap.size w w' := by
 have hu46 := Tryd.underlying46
 have HR0_2 := Aside0.mk hr0_2
 have HC0_2 := Aside0.mk hc0_2
 clear hr0_2 hc0_2
 have HB := Aside0.mk (Below.refl w.heap.size w)
 have H : ((litB.f ([117, 114, 100, 108] : List Int)).bind fun t105 => (impl_tray_freeWays.l0 k a1 (([] : List Int)) t105 (t105.length : Int) 0 a0_0 a0_1 l0_2)) = some r := h
 clear h
 obtain ⟨y102, hy102⟩ : ∃ y_ : List Int, y_ = (([] : List Int)) := ⟨_, rfl⟩
 replace H : ((litB.f ([117, 114, 100, 108] : List Int)).bind fun t105 => (impl_tray_freeWays.l0 k a1 y102 t105 (t105.length : Int) 0 a0_0 a0_1 l0_2)) = some r := rH hy102 H
 have Ny102 := Aside0.mk hy102
 clear hy102
 replace H := Option.bind_eq_some_iff.mp H
 obtain ⟨t105, A30, H⟩ := H
 replace H : (impl_tray_freeWays.l0 k a1 y102 t105 (t105.length : Int) 0 a0_0 a0_1 l0_2) = some r := H
 have A3 := Aside0.mk A30
 clear A30
 have H' := Aside0.mk H
 clear H
 go_enter Tryd.func108, Tryd.ntmps108
 go_wp2_with (first | ((with_reducible refine gate_dst (N := 2) rfl ?_); refine boxE (N := 2) (cs := #[.int .i64 a0_0, .int .i64 a0_1, .slice A0_2 l0_2.length c0_2]) (t := 46) ?_; intro gb101 hg w4 hbox hb; have n0_ := Aside0.mk (below_step (bel HB) hb); have n1_ := Aside0.mk (hbox); have n2_ := Aside0.mk (gsz hg (bel HB)); have n3_ := Aside0.mk (gsz hg (bel HB)); clear HB; have HB := n0_; have BK101 := n1_; have GW101 := n2_; have GE101 := n3_; clear n0_ n1_ n2_ n3_; clear hb hbox hg) | ((with_reducible refine gate_dst (N := 10) rfl ?_); refine R_litG (Kd.int .u8) _ 5 ?hg (N := 10) ?hd (xs := ([] : List Int)) (inner := []) (ok := fun _ => True) (okp := fun _ => True) ?hr ?hp (fun _ hk => hk) trivial (Below.refl _ _) (Nat.le_refl _) (by simp) ?_; (case hd => rfl); (case hg => first | rfl | decide | (simp [Region.wanted, yielded]; done) | (go_simp; done)); (case hr => first | (go_simp; done) | (go_simp; rfl)); (case hp => exact (Reps.none _ _)); intro v103 w5 ho6 hb hg_ hnew_; clear hg_ hnew_; (first | rw [← Ny102.out] at ho6 | (simp only [Int.reduceToNat] at ho6; rw [← Ny102.out] at ho6)); have n0_ := Aside0.mk (Kd.R_lower ho6 (below_size (bel HB))); have n1_ := Aside0.mk (blk_below (g := gb101) (o := .cells #[.int .i64 a0_0, .int .i64 a0_1, .slice A0_2 l0_2.length c0_2] 46 (0, 0)) blc hb); have n2_ := Aside0.mk (below_step (bel HB) hb); clear BK101; clear HB; have HO104 := n0_; have BK101 := n1_; have HB := n2_; clear n0_ n1_ n2_; clear hb ho6) | ((with_reducible refine gate_dst (N := 11) rfl ?_); refine litB.step rfl rfl (N1 := 11) (N2 := 12) rfl rfl 38 5 _ rfl Tryd.underlying38 Tryd.underlying5 ([117, 114, 100, 108] : List Int) (by decide) ?hr rfl A3.out ?_; (case hr => first | (go_simp; done) | (go_simp; rfl)); intro v106 w7 ho0 hb; have n0_ := Aside0.mk (Kd.R_below (rch HO104) hb); have n1_ := Aside0.mk (Kd.V_lower (Kd.V_mono (ok' := fun k_ => some k_ ≠ (v103 : Value).ownBlock ∧ k_ ≠ gb101) ho0 (fun k_ hk_ => ⟨(Kd.fresh' (Kd.R_lt (rch HO104)) k_ hk_), (Kd.freshB (g := gb101) (o := .cells #[.int .i64 a0_0, .int .i64 a0_1, .slice A0_2 l0_2.length c0_2] 46 (0, 0)) blc k_ hk_)⟩)) (below_size (bel HB))); have n2_ := Aside0.mk (blk_below (g := gb101) (o := .cells #[.int .i64 a0_0, .int .i64 a0_1, .slice A0_2 l0_2.length c0_2] 46 (0, 0)) blc hb); have n3_ := Aside0.mk (below_step (bel HB) hb); clear HO104; clear BK101; clear HB; have HO104 := n0_; have HO107 := n1_; have BK101 := n2_; have HB := n3_; clear n0_ n1_ n2_ n3_; (try clear hb); (try clear hb2); (try clear hk); (try clear hi); (try clear ho0); obtain ⟨Ao8, co8, eo8⟩ := Kd.V_slice HO107.out; subst eo8))
 go_loopg [5, 14] k (fun kq v5 v14 w' => ∃ (x5_1 : List Int) (x14_1 : Int), v14 = .int .i64 x14_1 ∧ Aside0 (impl_tray_freeWays.l0 kq a1 x5_1 t105 (t105.length : Int) x14_1 a0_0 a0_1 l0_2 = some r) ∧ Aside0 (kq ≤ k) ∧ Aside0 (Kd.R (Kd.int .u8) 5 w' w.heap.size (fun _ => True) v5 x5_1) ∧ Aside0 (Kd.V (Kd.int .u8) 5 w' w.heap.size (fun k_ => some k_ ≠ (v5 : Value).ownBlock ∧ k_ ≠ gb101) (.slice Ao8 t105.length co8) t105) ∧ Aside0 (w'.heap[gb101]? = some (.cells #[.int .i64 a0_0, .int .i64 a0_1, (.slice A0_2 l0_2.length c0_2)] 46 (0, 0))) ∧ Aside0 (Below w.heap.size w w'))
 case atStart => exact ⟨(y102), (0), (by first | rfl | (simp; done) | (simp [*]; done)), H', ⟨Nat.le_refl _⟩, ⟨rch HO104⟩, ⟨by (with_reducible repeat (first | apply Kd.V_alloc | apply Kd.V_drewN | apply Kd.V_drew)); (first | exact HO107.out | exact R_any HO107.out)⟩, ⟨blc⟩, ⟨bel HB⟩⟩
 case round =>
  clear H'
  try clear c1
  try clear p2
  obtain ⟨x5_1, x14_1, rfl, HA, HK1, HO_5, HO_12, BK101, HB⟩ := hrel
  cases gk with
  | zero => exact absurd HA.out (by simp [impl_tray_freeWays.l0])
  | succ k1 =>
   have H := HA.out
   clear HA
   simp only [impl_tray_freeWays.l0] at H
   by_cases c9 : x14_1 < (t105.length : Int)
   ·rw [if_pos c9] at H
    have c9b0 : decide (x14_1 < (t105.length : Int)) = true := decide_eq_true c9
    clear c9
    by_cases c10 : 0 ≤ x14_1
    ·rw [if_pos c10] at H
     have c10b0 : decide (0 ≤ x14_1) = true := decide_eq_true c10
     clear c10
     by_cases c11 : x14_1 < (t105.length : Int)
     ·rw [if_pos c11] at H
      have c11b0 : decide (x14_1 < (t105.length : Int)) = true := decide_eq_true c11
      clear c11
      obtain ⟨y109, hy109⟩ : ∃ y_ : List Int, y_ = (([rd t105 x14_1] : List Int)) := ⟨_, rfl⟩
      replace H : ((impl_turnedWord.f (strOfNums y109) 2).bind fun t112 => (if 0 < (t112.size : Int) then (impl_tray_freeWays.l1 k1 a1 x5_1 (rd t105 x14_1) a1 (bt t112 0) t105 (t105.length : Int) x14_1 a0_0 a0_1 l0_2) else (none))) = some r := rH hy109 H
      have Ny109 := Aside0.mk hy109
      clear hy109
      replace H := Option.bind_eq_some_iff.mp H
      obtain ⟨t112, A120, H⟩ := H
      replace H : (if 0 < (t112.size : Int) then (impl_tray_freeWays.l1 k1 a1 x5_1 (rd t105 x14_1) a1 (bt t112 0) t105 (t105.length : Int) x14_1 a0_0 a0_1 l0_2) else (none)) = some r := H
      have A12 := Aside0.mk A120
      clear A120
      by_cases c13 : 0 < (t112.size : Int)
      ·rw [if_pos c13] at H
       have c13b0 : decide (0 < (t112.size : Int)) = true := decide_eq_true c13
       have c13b1 : decide (0 < t112.size) = true := decide_eq_true (by omega)
       clear c13
       have H' := Aside0.mk H
       clear H
       have p108 : 0 ≤ (x14_1 : Int) := of_decide_eq_true (by first | (with_reducible assumption) | assumption)
       have q108 : x14_1 < (t105.length : Int) := of_decide_eq_true (by first | (with_reducible assumption) | assumption)
       obtain ⟨ad108, e108, hx108_0⟩ := Kd.at_int (Kd.V_reads' HO_12.out).2.2 x14_1 p108 q108
       cases e108
       replace p108 := eq_true p108
       replace q108 := eq_true q108
       try go_wp2
       have n0_ := Aside0.mk (Kd.R_drew HO_5.out)
       have n1_ := Aside0.mk (Kd.V_drew HO_12.out)
       have n2_ := Aside0.mk (blk_drew BK101.out)
       have n3_ := Aside0.mk (below_drew1 HB.out)
       clear HO_5
       clear HO_12
       clear BK101
       clear HB
       have HO_5 := n0_
       have HO_12 := n1_
       have BK101 := n2_
       have HB := n3_
       clear n0_ n1_ n2_ n3_
       refine start_ (n := 8) (S := fun w' => True) (ds := []) #[false, false, false, false, false, false, false, false] (by kernel_rfl) rfl rfl trivial (fun hHeld => ?_); refine with_tabW impl_tray_freeWays.tab5 impl_tray_freeWays.bits5 (fun HT_ HW_ => ?_)
       generalize wr.drew = w15 at HO_5 HO_12 BK101 HB hHeld ⊢
       refine pure_ (i := 0) (N := some 18) (v := ?_) (a' := ?_) #[true, false, false, false, false, false, false, false] rfl rfl (any_of HT_.out (by kernel_rfl)) (fun _ _ _ h => h) (Or.inl ⟨by rfl, ?_⟩) ?_ ?_
       rotate_left
       ·intro w'
        go_simp
        with_reducible rfl
       rotate_left
       ·simp only [Act.put, List.setIfInBounds_toArray, List.set_cons_zero, List.set_cons_succ, i64_w, i32_w]
        rfl
       refine pure_ (i := 1) (N := some 19) (v := ?_) (a' := ?_) #[true, true, false, false, false, false, false, false] rfl rfl (any_of HT_.out (by kernel_rfl)) (fun _ _ _ h => h) (Or.inl ⟨by rfl, ?_⟩) ?_ ?_
       rotate_left
       ·intro w'
        go_simp
        with_reducible rfl
       rotate_left
       ·simp only [Act.put, List.setIfInBounds_toArray, List.set_cons_zero, List.set_cons_succ, i64_w, i32_w]
        rfl
       refine one_ (i := 2) (N := some 20) #[true, true, true, false, false, false, false, false] rfl rfl (one_of HT_.out (by kernel_rfl)) (by decide) (fun K hK => ?_)
       refine Kd.R_lit_step (Kd.int .u8) _ 5 ?hg (N := 20) ?hd (xs := ([rd t105 x14_1] : List Int)) (inner := [.int .u8 (rd t105 x14_1)]) (ok := fun _ => True) (okp := fun _ => True) ?hr ?hp (fun _ hk => hk) trivial (Below.refl _ _) (Nat.le_refl _) (by simp) ?_; (case hd => rfl); (case hg => rfl); (case hr => first | (go_simp; done) | (go_simp; rfl)); (case hp => exact (Reps.one (show Kd.M (Kd.int .u8) _ _ _ (rd t105 x14_1) [.int .u8 (rd t105 x14_1)] from rfl) (Reps.none _ _)))
       intro v110 w16 ho17 hb hg_ hnew_
       clear hg_ hnew_
       (first | rw [← Ny109.out] at ho17 | (simp only [Int.reduceToNat] at ho17; rw [← Ny109.out] at ho17))
       have n0_ := Aside0.mk (Kd.R_elder' (rch HO_5) (Kd.R_base ho17) hb)
       have n1_ := Aside0.mk (Kd.V_elder' (by (with_reducible repeat (first | apply Kd.V_alloc | apply Kd.V_drewN | apply Kd.V_drew)); (first | exact HO_12.out | exact R_any HO_12.out)) (Kd.R_base ho17) hb)
       have n2_ := Aside0.mk (Kd.R_lower (Kd.R_new' ho17 (Kd.R_lt (rch HO_5))) (below_size (bel HB)))
       have n3_ := Aside0.mk (blk_below (g := gb101) (o := .cells #[.int .i64 a0_0, .int .i64 a0_1, .slice A0_2 l0_2.length c0_2] 46 (0, 0)) blc hb)
       have n4_ := Aside0.mk (below_step (bel HB) hb)
       clear HO_5
       clear HO_12
       clear BK101
       clear HB
       have HO_5 := n0_
       have HO_12 := n1_
       have HO111 := n2_
       have BK101 := n3_
       have HB := n4_
       clear n0_ n1_ n2_ n3_ n4_
       clear hb ho17
       refine hK.out _ _ trivial (fun hHeld => ?_)
       clear hK K
       refine norm_ (a' := ?_) ?_ ?_
       rotate_left
       ·show Act.put _ (some 20) _ = _
        simp only [Act.put, List.setIfInBounds_toArray, List.set_cons_zero, List.set_cons_succ, i64_w, i32_w]
        rfl
       refine one_ (i := 3) (N := some 21) #[true, true, true, true, false, false, false, false] rfl rfl (one_of HT_.out (by kernel_rfl)) (by decide) (fun K hK => ?_)
       have hcv18 := own_string (P := Tryd.prog) Tryd.underlying38 Tryd.underlying5 Tryd.underlying9 (Kd.own_of_R HO111.out)
       refine value_ (w1 := ?_) (v := ?_) (by rfl) rfl ?_ ?_
       rotate_left 2
       ·go_simp
        constructor
        ·rfl
        ·rfl
       clear hcv18
       refine hK.out _ _ trivial (fun hHeld => ?_)
       clear hK K
       refine norm_ (a' := ?_) ?_ ?_
       rotate_left
       ·show Act.put _ (some 21) _ = _
        simp only [Act.put, List.setIfInBounds_toArray, List.set_cons_zero, List.set_cons_succ, i64_w, i32_w]
        rfl
       refine one_ (i := 4) (N := some 22) #[true, true, true, true, true, false, false, false] rfl rfl (one_of HT_.out (by kernel_rfl)) (by decide) (fun K hK => ?_)
       refine goes_ Tryd.func135 (by kernel_rfl) rfl #[.string (strOfNums y109), .int .i64 2] (by rfl) rfl rfl (by (try simp only [List.map_toArray, List.map_cons, List.map_nil]); first | done | rfl | (simp only [List.length_drop, List.length_take]; rfl)) ?_
       with_reducible refine (impl_turnedWord.calls (strOfNums y109) 2 t112 _ A12.out).mono ?_
       rintro e w19 ⟨rfl, hb⟩
       refine ⟨_, rfl, ?_⟩
       have n0_ := Aside0.mk (Kd.R_below (rch HO_5) hb)
       have n1_ := Aside0.mk (Kd.V_below (by (with_reducible repeat (first | apply Kd.V_alloc | apply Kd.V_drewN | apply Kd.V_drew)); (first | exact HO_12.out | exact R_any HO_12.out)) hb)
       have n2_ := Aside0.mk (Kd.R_below (rch HO111) hb)
       have n3_ := Aside0.mk (blk_below (g := gb101) (o := .cells #[.int .i64 a0_0, .int .i64 a0_1, .slice A0_2 l0_2.length c0_2] 46 (0, 0)) blc hb)
       have n4_ := Aside0.mk (below_step (bel HB) hb)
       clear HO_5
       clear HO_12
       clear HO111
       clear BK101
       clear HB
       have HO_5 := n0_
       have HO_12 := n1_
       have HO111 := n2_
       have BK101 := n3_
       have HB := n4_
       clear n0_ n1_ n2_ n3_ n4_
       (try clear hb)
       (try clear hb2)
       (try clear hk)
       (try clear hi)
       have p14 : 0 ≤ (0 : Int) := (by omega)
       have q14 : 0 < t112.size := (by have : (0 : Int) < (t112.size : Int) := of_decide_eq_true (by first | (with_reducible assumption) | assumption); omega)
       have hx14 : ∀ h : 0 < t112.size, ((t112[0]'h).toNat : Int) = bt t112 0 := bt_at t112 0
       clear p14
       have qi14 : (0 < (t112.size : Int)) = True := eq_true (of_decide_eq_true (by first | (with_reducible assumption) | assumption))
       replace q14 := eq_true q14
       refine hK.out _ _ trivial (fun hHeld => ?_)
       clear hK K
       refine norm_ (a' := ?_) ?_ ?_
       rotate_left
       ·show Act.put _ (some 22) _ = _
        simp only [Act.put, List.setIfInBounds_toArray, List.set_cons_zero, List.set_cons_succ, i64_w, i32_w]
        rfl
       refine pure_ (i := 6) (N := some 8) (v := ?_) (a' := ?_) #[true, true, true, true, true, false, true, false] rfl rfl (any_of HT_.out (by kernel_rfl)) (fun _ _ _ h => h) (Or.inl ⟨by rfl, ?_⟩) ?_ ?_
       rotate_left
       ·intro w'
        go_simp
        with_reducible rfl
       rotate_left
       ·simp only [Act.put, List.setIfInBounds_toArray, List.set_cons_zero, List.set_cons_succ, i64_w, i32_w]
        rfl
       refine take_ (i := 5) (N := some 23) (v := ?_) (a' := ?_) #[true, true, true, true, true, true, true, false] rfl rfl (take_ofW HT_.out HW_.out (by kernel_rfl)) (fun _ _ _ h => h) (Or.inl ⟨by rfl, ?_⟩) hHeld ?_ ?_
       rotate_left
       ·intro w' _
        go_simp
        with_reducible rfl
       rotate_left
       ·simp only [Act.put, List.setIfInBounds_toArray, List.set_cons_zero, List.set_cons_succ, i64_w, i32_w]
        rfl
       refine pure_ (i := 7) (N := some 9) (v := ?_) (a' := ?_) #[true, true, true, true, true, true, true, true] rfl rfl (any_of HT_.out (by kernel_rfl)) (fun _ _ _ h => h) (Or.inl ⟨by rfl, ?_⟩) ?_ ?_
       rotate_left
       ·intro w'
        go_simp
        with_reducible rfl
       rotate_left
       ·simp only [Act.put, List.setIfInBounds_toArray, List.set_cons_zero, List.set_cons_succ, i64_w, i32_w]
        rfl
       refine done_ (done_of HT_.out (by kernel_rfl)) ?_
       try go_wp2
       go_loopg [8] k1 (fun kq v8 w' => ∃ (x8_2 : Int), v8 = .int .i64 x8_2 ∧ Aside0 (impl_tray_freeWays.l1 kq a1 x5_1 (rd t105 x14_1) x8_2 (bt t112 0) t105 (t105.length : Int) x14_1 a0_0 a0_1 l0_2 = some r) ∧ Aside0 (kq ≤ k1) ∧ Aside0 (Kd.R (Kd.int .u8) 5 w' w.heap.size (fun _ => True) u5 x5_1) ∧ Aside0 (Kd.V (Kd.int .u8) 5 w' w.heap.size (fun k_ => some k_ ≠ (u5 : Value).ownBlock ∧ k_ ≠ gb101) (.slice (some ad108) t105.length co8) t105) ∧ Aside0 (w'.heap[gb101]? = some (.cells #[.int .i64 a0_0, .int .i64 a0_1, (.slice A0_2 l0_2.length c0_2)] 46 (0, 0))) ∧ Aside0 (Below w.heap.size w w'))
       case atStart => exact ⟨(a1), (by first | rfl | (simp; done) | (simp [*]; done)), H', ⟨Nat.le_refl _⟩, ⟨by (with_reducible repeat (first | apply Kd.R_alloc | apply Kd.R_drewN | apply Kd.R_drew)); exact Kd.R_mono HO_5.out (fun _ hk => trivial)⟩, ⟨by (with_reducible repeat (first | apply Kd.V_alloc | apply Kd.V_drewN | apply Kd.V_drew)); exact Kd.V_mono HO_12.out (fun _ hk => ⟨hk.1.1, hk.1.2⟩)⟩, ⟨blc⟩, ⟨bel HB⟩⟩
       case round =>
        clear H'
        try clear c1
        try clear p1
        try clear q1
        try clear hx1
        try clear hcv1
        try clear qi1
        try clear p2
        try clear c9
        try clear c9b0
        try clear c9b0y
        try clear c10
        try clear c10b0
        try clear c10b0y
        try clear p10
        try clear q10
        try clear hx10
        try clear c11
        try clear c11b0
        try clear c11b0y
        try clear c13
        try clear c13b0
        try clear c13b0y
        try clear c13b1
        try clear p14
        try clear q14
        try clear hx14
        try clear qi14
        try clear hcv18
        try clear hx108_0
        try clear p108
        try clear p14
        try clear p2
        try clear q108
        try clear q14
        obtain ⟨x8_2, rfl, HA, HK2, HO_5, HO_12, BK101, HB⟩ := hrel
        cases gk with
        | zero => exact absurd HA.out (by simp [impl_tray_freeWays.l1])
        | succ k2 =>
         have H := HA.out
         clear HA
         simp only [impl_tray_freeWays.l1] at H
         by_cases c20 : x8_2 ≥ 0
         ·rw [if_pos c20] at H
          have c20b0 : decide (0 ≤ x8_2) = true := decide_eq_true c20
          clear c20
          by_cases c21 : 0 ≤ x8_2
          ·rw [if_pos c21] at H
           have c21b0 : decide (0 ≤ x8_2) = true := decide_eq_true c21
           clear c21
           by_cases c22 : x8_2 < (l0_2.length : Int)
           ·rw [if_pos c22] at H
            have c22b0 : decide (x8_2 < (l0_2.length : Int)) = true := decide_eq_true c22
            clear c22
            by_cases c23 : (rd l0_2 x8_2) = 46
            ·rw [if_pos c23] at H
             have c23b0 : ((rd l0_2 x8_2) == 46) = true := beq_iff_eq.mpr c23
             have c23b1 : ((rd l0_2 x8_2) != 46) = false := bne_eq_false_iff_eq.mpr c23
             clear c23
             replace H := Option.bind_eq_some_iff.mp H
             obtain ⟨t114, A240, H⟩ := H
             replace H : (impl_tray_freeWays.l1 k2 a1 x5_1 (rd t105 x14_1) t114 (bt t112 0) t105 (t105.length : Int) x14_1 a0_0 a0_1 l0_2) = some r := H
             have A24 := Aside0.mk A240
             clear A240
             have H' := Aside0.mk H
             clear H
             have hcz25_0 : wr.cell? ⟨gb101, 0, none⟩ = some (.int .i64 a0_0) := (blk_cell BK101.out 0).trans rfl
             have hcz25_1 : wr.cell? ⟨gb101, 1, none⟩ = some (.int .i64 a0_1) := (blk_cell BK101.out 1).trans rfl
             have hcz25_2 : wr.cell? ⟨gb101, 2, none⟩ = some (.slice A0_2 l0_2.length c0_2) := (blk_cell BK101.out 2).trans rfl
             have hfz25_0 := blk_frozen BK101.out 0
             have hfz25_1 := blk_frozen BK101.out 1
             have hfz25_2 := blk_frozen BK101.out 2
             have p113 : 0 ≤ (x8_2 : Int) := of_decide_eq_true (by first | (with_reducible assumption) | assumption)
             have q113 : x8_2 < (l0_2.length : Int) := of_decide_eq_true (by first | (with_reducible assumption) | assumption)
             obtain ⟨ad113, e113, hx113_0⟩ := Kd.at_int HR0_2.out x8_2 p113 q113
             cases e113
             (try replace hx113_0 := (HB.out.cell (World.block_lt_of_cell? w _ hx113_0)).trans hx113_0)
             replace p113 := eq_true p113
             replace q113 := eq_true q113
             go_wp2_with (first | ((with_reducible refine gate_callee (f := 136) rfl ?_); refine gcall (some 37) Tryd.func136 #[.agg #[.int .i64 a0_0, .int .i64 a0_1, .slice (some ad113) l0_2.length c0_2], .int .i64 x8_2, .int .u8 (bt t112 0)] rfl ?_; (with_reducible refine (impl_tray_ahead.calls k2 a0_0 a0_1 _ _ l0_2 x8_2 (bt t112 0) t114 _ ?side1 ?side2 A24.out).mono ?_); (case side1 => repeat (first | exact (Kd.C_below HR0_2.out HB.out) | (with_reducible refine Kd.C_alloc ?_ _) | (with_reducible refine Kd.C_drewN ?_ _) | (with_reducible refine Kd.C_drew ?_))); (case side2 => exact HC0_2.out); rintro e w26 ⟨rfl, hb⟩; refine ⟨_, rfl, ?_⟩; have n0_ := Aside0.mk (Kd.R_below (rch HO_5) hb); have n1_ := Aside0.mk (Kd.V_below (by (with_reducible repeat (first | apply Kd.V_alloc | apply Kd.V_drewN | apply Kd.V_drew)); (first | exact HO_12.out | exact R_any HO_12.out)) hb); have n2_ := Aside0.mk (blk_below (g := gb101) (o := .cells #[.int .i64 a0_0, .int .i64 a0_1, .slice (some ad113) l0_2.length c0_2] 46 (0, 0)) blc hb); have n3_ := Aside0.mk (below_step (bel HB) hb); clear HO_5; clear HO_12; clear BK101; clear HB; have HO_5 := n0_; have HO_12 := n1_; have BK101 := n2_; have HB := n3_; clear n0_ n1_ n2_ n3_; (try clear hb); (try clear hb2); (try clear hk); (try clear hi)))
             go_roundg k2
             case measure => have := HK1.out; have := HK2.out; omega
             case rel => exact ⟨(t114), (by first | rfl | (simp; done) | (simp [*]; done)), H', ⟨by have := HK1.out; have := HK2.out; omega⟩, ⟨rch HO_5⟩, ⟨by (with_reducible repeat (first | apply Kd.V_alloc | apply Kd.V_drewN | apply Kd.V_drew)); (first | exact HO_12.out | exact R_any HO_12.out)⟩, ⟨blc⟩, ⟨bel HB⟩⟩
            ·rw [if_neg c23] at H
             have c23b0 : ((rd l0_2 x8_2) == 46) = false := beq_eq_false_iff_ne.mpr c23
             have c23b1 : ((rd l0_2 x8_2) != 46) = true := bne_iff_ne.mpr c23
             by_cases c27 : x8_2 < 0
             ·rw [if_pos c27] at H
              have c27b0 : decide (x8_2 < 0) = true := decide_eq_true c27
              clear c27
              by_cases c28 : x5_1.length < 140737488355328
              ·rw [if_pos c28] at H
               have LMc28 := Aside0.mk c28
               clear c28
               obtain ⟨y115, hy115⟩ : ∃ y_ : List Int, y_ = (x5_1 ++ [(rd t105 x14_1)]) := ⟨_, rfl⟩
               replace H : (impl_tray_freeWays.l0 k2 a1 y115 t105 (t105.length : Int) (wrap64 (x14_1 + 1)) a0_0 a0_1 l0_2) = some r := rH hy115 H
               have Ny115 := Aside0.mk hy115
               clear hy115
               have H' := Aside0.mk H
               clear H
               have hcz29_0 : wr.cell? ⟨gb101, 0, none⟩ = some (.int .i64 a0_0) := (blk_cell BK101.out 0).trans rfl
               have hcz29_1 : wr.cell? ⟨gb101, 1, none⟩ = some (.int .i64 a0_1) := (blk_cell BK101.out 1).trans rfl
               have hcz29_2 : wr.cell? ⟨gb101, 2, none⟩ = some (.slice A0_2 l0_2.length c0_2) := (blk_cell BK101.out 2).trans rfl
               have hfz29_0 := blk_frozen BK101.out 0
               have hfz29_1 := blk_frozen BK101.out 1
               have hfz29_2 := blk_frozen BK101.out 2
               have p113 : 0 ≤ (x8_2 : Int) := of_decide_eq_true (by first | (with_reducible assumption) | assumption)
               have q113 : x8_2 < (l0_2.length : Int) := of_decide_eq_true (by first | (with_reducible assumption) | assumption)
               obtain ⟨ad113, e113, hx113_0⟩ := Kd.at_int HR0_2.out x8_2 p113 q113
               cases e113
               (try replace hx113_0 := (HB.out.cell (World.block_lt_of_cell? w _ hx113_0)).trans hx113_0)
               replace p113 := eq_true p113
               replace q113 := eq_true q113
               go_wp2_with (first | ((with_reducible refine gate_builtin (b := .append) (xs := #[.tmp 40, .tmp 42]) rfl ?_); at_builtin; refine Kd.R_append (Kd.int .u8) (w0 := w) w.heap.size rfl (.tmp 40) (.tmp 42) 38 5 (.int .u8 0) 1 rfl Tryd.underlying38 info5 rfl (by decide) (by omega) u5 x5_1 (rd t105 x14_1) [.int .u8 (rd t105 x14_1)] (fun _ => True) (fun _ => False) rfl rfl ?aP (fun _ hk => hk.elim) ?aF ?aO ?aB ?aS ?aL ?_; (case aP => exact rfl); (case aB => exact (bel HB)); (case aF => exact (fun _ _ => trivial)); (case aO => exact (rch HO_5)); (case aS => exact (below_size (bel HB))); (case aL => have := LMc28.out; omega); intro v116 w30 ho hb hg hat; rw [← Ny115.out] at ho; have n0_ := Aside0.mk (Kd.V_afterv (ok := (fun k_ => k_ ≠ gb101)) (by (with_reducible repeat (first | apply Kd.V_alloc | apply Kd.V_drewN | apply Kd.V_drew)); exact Kd.V_mono HO_12.out (fun _ hk => ⟨hk.2, hk.1⟩)) hg hat); have n1_ := Aside0.mk (blk_grown (g := gb101) (o := .cells #[.int .i64 a0_0, .int .i64 a0_1, .slice (some ad113) l0_2.length c0_2] 46 (0, 0)) blc hg (Kd.R_ne HO_5.out BK101.out (by decide))); have n2_ := Aside0.mk (hb); have n3_ := Aside0.mk (ho); clear HO_12; clear BK101; clear HB; clear HO_5; have HO_12 := n0_; have BK101 := n1_; have HB := n2_; have HO117 := n3_; clear n0_ n1_ n2_ n3_; clear ho hb hg hat))
               go_roundg k2
               case measure => have := HK1.out; have := HK2.out; omega
               case rel => exact ⟨(y115), (wrap64 (x14_1 + 1)), (by first | rfl | (simp; done) | (simp [*]; done)), H', ⟨by have := HK1.out; have := HK2.out; omega⟩, ⟨rch HO117⟩, ⟨by (with_reducible repeat (first | apply Kd.V_alloc | apply Kd.V_drewN | apply Kd.V_drew)); exact Kd.V_mono HO_12.out (fun _ hk => ⟨hk.2, hk.1⟩)⟩, ⟨blc⟩, ⟨bel HB⟩⟩
              ·rw [if_neg c28] at H
               exact absurd H (by simp)
             ·rw [if_neg c27] at H
              have c27b0 : decide (x8_2 < 0) = false := decide_eq_false c27
              clear c27
              have H' := Aside0.mk H
              clear H
              have hcz31_0 : wr.cell? ⟨gb101, 0, none⟩ = some (.int .i64 a0_0) := (blk_cell BK101.out 0).trans rfl
              have hcz31_1 : wr.cell? ⟨gb101, 1, none⟩ = some (.int .i64 a0_1) := (blk_cell BK101.out 1).trans rfl
              have hcz31_2 : wr.cell? ⟨gb101, 2, none⟩ = some (.slice A0_2 l0_2.length c0_2) := (blk_cell BK101.out 2).trans rfl
              have hfz31_0 := blk_frozen BK101.out 0
              have hfz31_1 := blk_frozen BK101.out 1
              have hfz31_2 := blk_frozen BK101.out 2
              have p113 : 0 ≤ (x8_2 : Int) := of_decide_eq_true (by first | (with_reducible assumption) | assumption)
              have q113 : x8_2 < (l0_2.length : Int) := of_decide_eq_true (by first | (with_reducible assumption) | assumption)
              obtain ⟨ad113, e113, hx113_0⟩ := Kd.at_int HR0_2.out x8_2 p113 q113
              cases e113
              (try replace hx113_0 := (HB.out.cell (World.block_lt_of_cell? w _ hx113_0)).trans hx113_0)
              replace p113 := eq_true p113
              replace q113 := eq_true q113
              go_wp2
              go_roundg k2
              case measure => have := HK1.out; have := HK2.out; omega
              case rel => exact ⟨(x5_1), (wrap64 (x14_1 + 1)), (by first | rfl | (simp; done) | (simp [*]; done)), H', ⟨by have := HK1.out; have := HK2.out; omega⟩, ⟨rch HO_5⟩, ⟨by (with_reducible repeat (first | apply Kd.V_alloc | apply Kd.V_drewN | apply Kd.V_drew)); (first | exact HO_12.out | exact R_any HO_12.out)⟩, ⟨blc⟩, ⟨bel HB⟩⟩
           ·rw [if_neg c22] at H
            exact absurd H (by simp)
          ·rw [if_neg c21] at H
           exact absurd H (by simp)
         ·rw [if_neg c20] at H
          have c20b0 : decide (0 ≤ x8_2) = false := decide_eq_false c20
          clear c20
          by_cases c32 : x8_2 < 0
          ·rw [if_pos c32] at H
           have c32b0 : decide (x8_2 < 0) = true := decide_eq_true c32
           clear c32
           by_cases c33 : x5_1.length < 140737488355328
           ·rw [if_pos c33] at H
            have LMc33 := Aside0.mk c33
            clear c33
            obtain ⟨y118, hy118⟩ : ∃ y_ : List Int, y_ = (x5_1 ++ [(rd t105 x14_1)]) := ⟨_, rfl⟩
            replace H : (impl_tray_freeWays.l0 k2 a1 y118 t105 (t105.length : Int) (wrap64 (x14_1 + 1)) a0_0 a0_1 l0_2) = some r := rH hy118 H
            have Ny118 := Aside0.mk hy118
            clear hy118
            have H' := Aside0.mk H
            clear H
            go_wp2_with (first | ((with_reducible refine gate_builtin (b := .append) (xs := #[.tmp 40, .tmp 42]) rfl ?_); at_builtin; refine Kd.R_append (Kd.int .u8) (w0 := w) w.heap.size rfl (.tmp 40) (.tmp 42) 38 5 (.int .u8 0) 1 rfl Tryd.underlying38 info5 rfl (by decide) (by omega) u5 x5_1 (rd t105 x14_1) [.int .u8 (rd t105 x14_1)] (fun _ => True) (fun _ => False) rfl rfl ?aP (fun _ hk => hk.elim) ?aF ?aO ?aB ?aS ?aL ?_; (case aP => exact rfl); (case aB => exact (bel HB)); (case aF => exact (fun _ _ => trivial)); (case aO => exact (rch HO_5)); (case aS => exact (below_size (bel HB))); (case aL => have := LMc33.out; omega); intro v119 w34 ho hb hg hat; rw [← Ny118.out] at ho; have n0_ := Aside0.mk (Kd.V_afterv (ok := (fun k_ => k_ ≠ gb101)) (by (with_reducible repeat (first | apply Kd.V_alloc | apply Kd.V_drewN | apply Kd.V_drew)); exact Kd.V_mono HO_12.out (fun _ hk => ⟨hk.2, hk.1⟩)) hg hat); have n1_ := Aside0.mk (blk_grown (g := gb101) (o := .cells #[.int .i64 a0_0, .int .i64 a0_1, .slice A0_2 l0_2.length c0_2] 46 (0, 0)) blc hg (Kd.R_ne HO_5.out BK101.out (by decide))); have n2_ := Aside0.mk (hb); have n3_ := Aside0.mk (ho); clear HO_12; clear BK101; clear HB; clear HO_5; have HO_12 := n0_; have BK101 := n1_; have HB := n2_; have HO120 := n3_; clear n0_ n1_ n2_ n3_; clear ho hb hg hat))
            go_roundg k2
            case measure => have := HK1.out; have := HK2.out; omega
            case rel => exact ⟨(y118), (wrap64 (x14_1 + 1)), (by first | rfl | (simp; done) | (simp [*]; done)), H', ⟨by have := HK1.out; have := HK2.out; omega⟩, ⟨rch HO120⟩, ⟨by (with_reducible repeat (first | apply Kd.V_alloc | apply Kd.V_drewN | apply Kd.V_drew)); exact Kd.V_mono HO_12.out (fun _ hk => ⟨hk.2, hk.1⟩)⟩, ⟨blc⟩, ⟨bel HB⟩⟩
           ·rw [if_neg c33] at H
            exact absurd H (by simp)
          ·rw [if_neg c32] at H
           have c32b0 : decide (x8_2 < 0) = false := decide_eq_false c32
           clear c32
           have H' := Aside0.mk H
           clear H
           go_wp2
           go_roundg k2
           case measure => have := HK1.out; have := HK2.out; omega
           case rel => exact ⟨(x5_1), (wrap64 (x14_1 + 1)), (by first | rfl | (simp; done) | (simp [*]; done)), H', ⟨by have := HK1.out; have := HK2.out; omega⟩, ⟨rch HO_5⟩, ⟨by (with_reducible repeat (first | apply Kd.V_alloc | apply Kd.V_drewN | apply Kd.V_drew)); (first | exact HO_12.out | exact R_any HO_12.out)⟩, ⟨blc⟩, ⟨bel HB⟩⟩
      ·rw [if_neg c13] at H
       exact absurd H (by simp)
     ·rw [if_neg c11] at H
      exact absurd H (by simp)
    ·rw [if_neg c10] at H
     exact absurd H (by simp)
   ·rw [if_neg c9] at H
    have c9b0 : decide (x14_1 < (t105.length : Int)) = false := decide_eq_false c9
    clear c9
    obtain rfl := Option.some.inj H
    have hcv35 := own_string (P := Tryd.prog) Tryd.underlying38 Tryd.underlying5 Tryd.underlying9 (Kd.own_of_R HO_5.out)
    go_wp2
    go_ret
    exact ⟨by first | rfl | (simp [errW_none, errW_some] <;> rfl) | (simp [*, errW_none, errW_some] <;> rfl), bel HB⟩
end Go.Proofs.YtmefnfhghfemgaaDoor.Q
end
section
namespace Go.Proofs.YtmefnfhghfemgaaDoor.Q
set_option linter.unusedSectionVars false
open Go.RowKit Go.Proofs.YtmefnfhghfemgaaDoorW.PrintWords Go.Proofs.YtmefnfhghfemgaaDoorW.PrintLast Go.Proofs.YtmefnfhghfemgaaDoorW.PrintMore
def fr (w h : Nat) (cs : List Int) (d : Nat) : Nat → Int → Bool
 | 0, _ => true
 | n + 1, i => if i < 0 then true else if rd cs i = 46 then fr w h cs d n (ah w h i.toNat d) else false
def opp (d : Nat) : Nat := (d + 2) % 4
def freeAt (w h : Nat) (cs : List Int) (a : Int) (d : Nat) : Bool := fr w h cs (opp d) 8 a
section
variable {w h : Nat} {cs : List Int} (hw : w ≤ 7) (hh : h ≤ 7) (hs : w * h ≤ 36) (hn : cs.length = w * h)
include hw hh hs hn
theorem free_l0 (ho : ∀ c ∈ cs, c ≠ 35) (d : Nat) (hd : d < 4) : ∀ (n : Nat) (i : Int), -1 ≤ i → i < ((w * h : Nat) : Int) → (0 ≤ i → left w h i.toNat (opp d) + 1 < n) → 0 < n → Ev (fun k => spec_buFree.l0 k d i w h cs) (fr w h cs (opp d) n i)
 | 0, i, _, _, _, hz => absurd hz (Nat.lt_irrefl _)
 | n + 1, i, h0, h1, hl, _ => by
  unfold fr
  by_cases hi : i < 0
  ·rw [if_pos hi]
   refine Ev.step (Ev.const (o := some true) rfl) fun k => ?_
   rw [spec_buFree.l0, if_neg (by omega)]
  ·rw [if_neg hi]
   obtain ⟨j, rfl⟩ : ∃ j : Nat, i = j := ⟨i.toNat, by omega⟩
   have hj : j < w * h := by omega
   have hod : opp d < 4 := Nat.mod_lt _ (by decide)
   have hto := tiAhead_eq hw hh hs hj hod cs hn
   have hlt := ah_lt hw hh hs hj hod
   have hw2 : wrap64 ((d : Int) + 2) = ((d + 2 : Nat) : Int) := by rw [w64 (by omega) (by omega)]; omega
   have hm : Int.tmod ((d + 2 : Nat) : Int) 4 = (opp d : Int) := by
    unfold opp
    rw [Int.tmod_eq_emod_of_nonneg (by omega)]
    omega
   have e1 : (if ah w h j (opp d) < 0 then -1 else if rd cs (ah w h j (opp d)) = 35 then -1 else ah w h j (opp d)) = ah w h j (opp d) := by
    by_cases h5 : ah w h j (opp d) < 0
    ·rw [if_pos h5]; omega
    ·rw [if_neg h5, if_neg]
     intro h6
     refine ho _ ?_ h6
     have h7 : (ah w h j (opp d)).toNat < cs.length := by omega
     unfold rd
     rw [List.getD_eq_getElem?_getD, List.getElem?_eq_getElem h7]
     exact List.getElem_mem h7
   rw [e1] at hto
   have c0 : (0 : Int) ≤ (j : Int) := by omega
   have c1 : (j : Int) < (cs.length : Int) := by omega
   by_cases hr : rd cs (j : Int) = 46
   ·rw [if_pos hr]
    have h8 := hl (by omega)
    rw [Int.toNat_natCast] at h8
    by_cases hneg : ah w h j (opp d) < 0
    ·have ih := free_l0 ho d hd n (ah w h j (opp d)) hlt.1 hlt.2 (fun h6 => by omega) (by omega)
     rw [show ((j : Int)).toNat = j from Int.toNat_natCast j]
     refine Ev.step ih fun k => ?_
     rw [spec_buFree.l0, if_pos (by omega), if_pos c0, if_pos c1, if_pos hr, hw2, hm, hto, Option.bind_some]
    ·have hll := left_lt hw hh hs hj hod (by omega)
     have ih := free_l0 ho d hd n (ah w h j (opp d)) hlt.1 hlt.2 (fun h6 => by omega) (by omega)
     rw [show ((j : Int)).toNat = j from Int.toNat_natCast j]
     refine Ev.step ih fun k => ?_
     rw [spec_buFree.l0, if_pos (by omega), if_pos c0, if_pos c1, if_pos hr, hw2, hm, hto, Option.bind_some]
   ·rw [if_neg hr]
    refine Ev.step (Ev.const (o := some false) rfl) fun k => ?_
    rw [spec_buFree.l0, if_pos (by omega), if_pos c0, if_pos c1, if_neg hr]
theorem buFree_ev (ho : ∀ c ∈ cs, c ≠ 35) (d : Nat) (hd : d < 4) (a : Int) (ha : inCells cs a) : Ev (fun k => spec_buFree.f k w h cs a d) (freeAt w h cs a d) := by
 unfold inCells at ha
 have hod : opp d < 4 := Nat.mod_lt _ (by decide)
 refine free_l0 hw hh hs hn ho d hd 8 a (by omega) (by omega) (fun h0 => ?_) (by omega)
 have := left_le hw hh hs (i := a.toNat) (by omega) hod
 omega
theorem walk_l1 (a : Int) (x5 : List Int) (x7 : Int) (L : List Int) (x14 : Int) (e : Nat) (he : e < 4) (hx : x5.length ≤ 4) (r : ByteArray) :
  ∀ (n : Nat) (i : Int), -1 ≤ i → i < ((w * h : Nat) : Int) → (0 ≤ i → left w h i.toNat e + 1 < n) → 0 < n →
   Ev (fun k => if fr w h cs e n i = true then impl_tray_freeWays.l0 k a (x5 ++ [x7]) L L.length (wrap64 (x14 + 1)) w h cs else impl_tray_freeWays.l0 k a x5 L L.length (wrap64 (x14 + 1)) w h cs) r →
   Ev (fun k => impl_tray_freeWays.l1 k a x5 x7 i (dirC e) L L.length x14 w h cs) r
 | 0, i, _, _, _, hz => absurd hz (Nat.lt_irrefl _)
 | n + 1, i, h0, hi1, hl, _ => fun hr0 => by
  have c6 : x5.length < 140737488355328 := Nat.lt_of_le_of_lt hx (by decide)
  unfold fr at hr0
  by_cases hi : i < 0
  ·rw [if_pos hi] at hr0
   refine Ev.step hr0 fun k => ?_
   rw [impl_tray_freeWays.l1, if_neg (by omega), if_pos hi, if_pos c6, if_pos rfl]
  ·rw [if_neg hi] at hr0
   obtain ⟨j, rfl⟩ : ∃ j : Nat, i = j := ⟨i.toNat, by omega⟩
   have hj : j < w * h := by omega
   have hlt := ah_lt hw hh hs hj he
   have hah := ahead_ev hw hh hs hj he cs
   have c0 : (0 : Int) ≤ (j : Int) := by omega
   have c1 : (j : Int) < (cs.length : Int) := by omega
   by_cases hr : rd cs (j : Int) = 46
   ·rw [if_pos hr] at hr0
    have h8 := hl (by omega)
    rw [Int.toNat_natCast] at h8 hr0
    have ih := walk_l1 a x5 x7 L x14 e he hx r n (ah w h j e) hlt.1 hlt.2 (fun h6 => by
     have := left_lt hw hh hs hj he h6
     omega) (by omega) hr0
    refine Ev.step (Ev.bind (f := fun k t114 => impl_tray_freeWays.l1 k a x5 x7 t114 (dirC e) L L.length x14 w h cs) hah ih) fun k => ?_
    rw [impl_tray_freeWays.l1, if_pos (by omega), if_pos c0, if_pos c1, if_pos hr]
   ·rw [if_neg hr] at hr0
    refine Ev.step hr0 fun k => ?_
    rw [impl_tray_freeWays.l1, if_pos (by omega), if_pos c0, if_pos c1, if_neg hr, if_neg hi, if_neg (by decide)]
end
def freeTo (w h : Nat) (cs : List Int) (a : Int) (t : Nat) : List Int := ((List.range t).filter fun d => freeAt w h cs a d).map dirC
theorem freeTo_succ (w h : Nat) (cs : List Int) (a : Int) (t : Nat) : freeTo w h cs a (t + 1) = if freeAt w h cs a t = true then freeTo w h cs a t ++ [dirC t] else freeTo w h cs a t := by
 unfold freeTo
 rw [List.range_succ, List.filter_append, List.map_append]
 by_cases hm : freeAt w h cs a t = true
 ·rw [if_pos hm]; simp [hm]
 ·rw [if_neg hm]; simp [hm]
theorem freeTo_len (w h : Nat) (cs : List Int) (a : Int) (t : Nat) : (freeTo w h cs a t).length ≤ t := by
 unfold freeTo
 rw [List.length_map]
 have := List.length_filter_le (fun d => freeAt w h cs a d) (List.range t)
 rw [List.length_range] at this
 exact this
theorem turned_dir : ∀ d : Fin 4, impl_turnedWord.f (strOfNums [dirC d.val]) 2 = some (strOfNums [dirC (opp d.val)]) ∧ (0 : Int) < ((strOfNums [dirC (opp d.val)]).size : Int) ∧ bt (strOfNums [dirC (opp d.val)]) 0 = dirC (opp d.val) := by decide
section
variable {w h : Nat} {cs : List Int} (hw : w ≤ 7) (hh : h ≤ 7) (hs : w * h ≤ 36) (hn : cs.length = w * h)
include hw hh hs hn
theorem freeWays_l0 (a : Int) (ha : inCells cs a) : ∀ (m t : Nat), t + m = 4 → Ev (fun k => impl_tray_freeWays.l0 k a (freeTo w h cs a t) [117, 114, 100, 108] (([117, 114, 100, 108] : List Int).length : Int) t w h cs) (strOfNums (freeTo w h cs a 4))
 | 0, t, ht => by
  obtain rfl : t = 4 := by omega
  refine Ev.step (Ev.const (o := some (strOfNums (freeTo w h cs a 4))) rfl) fun k => ?_
  rw [impl_tray_freeWays.l0, if_neg (by decide)]
 | m + 1, t, ht => by
  have ih := freeWays_l0 a ha m (t + 1) (by omega)
  have hwt : wrap64 ((t : Int) + 1) = ((t + 1 : Nat) : Int) := by rw [w64 (by omega) (by omega)]; omega
  have ht4 : t < 4 := by omega
  have hod : opp t < 4 := Nat.mod_lt _ (by decide)
  obtain ⟨e1, e2, e3⟩ := turned_dir ⟨t, ht4⟩
  simp only at e1 e2 e3
  have hrd : rd ([117, 114, 100, 108] : List Int) (t : Int) = dirC t := by
   unfold rd dirC
   rw [Int.toNat_natCast]
  rw [freeTo_succ] at ih
  have hin := ha
  unfold inCells at hin
  have hll := left_le hw hh hs (i := a.toNat) (by omega) hod
  refine Ev.step (walk_l1 hw hh hs hn a (freeTo w h cs a t) (dirC t) [117, 114, 100, 108] t (opp t) hod (by have := freeTo_len w h cs a t; omega) _ 8 a (by omega) (by omega) (fun _ => by omega) (by omega) (Ev.congr ih fun k => ?_)) fun k => ?_
  ·rw [hwt]
   show (if freeAt w h cs a t = true then _ else _) = _
   by_cases hf : freeAt w h cs a t = true
   ·rw [if_pos hf, if_pos hf]
   ·rw [if_neg hf, if_neg hf]
  ·rw [impl_tray_freeWays.l0, if_pos (by simp; omega), if_pos (by omega), if_pos (by simp; omega), hrd, e1, Option.bind_some, if_pos e2, e3]
theorem freeWays_ev (a : Int) (ha : inCells cs a) : Ev (fun k => impl_tray_freeWays.f k w h cs a) (strOfNums (freeTo w h cs a 4)) :=
 Ev.bind (f := fun k t105 => impl_tray_freeWays.l0 k a (([] : List Int)) t105 (t105.length : Int) 0 w h cs) (Ev.const (o := some [117, 114, 100, 108]) rfl) (freeWays_l0 hw hh hs hn a ha 4 0 (by omega))
end
end Go.Proofs.YtmefnfhghfemgaaDoor.Q
end
section
namespace Go.Proofs.YtmefnfhghfemgaaDoor.Q
set_option linter.unusedSectionVars false
open Go.RowKit Go.Proofs.YtmefnfhghfemgaaDoorW.PrintWords Go.Proofs.YtmefnfhghfemgaaDoorW.PrintLast Go.Proofs.YtmefnfhghfemgaaDoorW.PrintMore
theorem toList_data (s : ByteArray) : s.toList = s.data.toList := by
 obtain ⟨⟨l⟩⟩ := s
 exact ByteArray.toList_mk l
end Go.Proofs.YtmefnfhghfemgaaDoor.Q
end
section
namespace Go.Proofs.YtmefnfhghfemgaaDoor.Q
set_option linter.unusedSectionVars false
open Go.RowKit Go.Proofs.YtmefnfhghfemgaaDoorW.PrintWords Go.Proofs.YtmefnfhghfemgaaDoorW.PrintLast Go.Proofs.YtmefnfhghfemgaaDoorW.PrintMore
theorem form_parts {s : ByteArray} {t : Int × Int × List Int} (ht : formOf s = some t) : ∃ (w h : Nat) (cs : List Int), t = ((w : Int), (h : Int), cs) ∧ 1 ≤ w ∧ w ≤ 7 ∧ 1 ≤ h ∧ h ≤ 7 ∧ w * h ≤ 36 ∧ cs.length = w * h ∧ formOK w h cs ∧ trayOf s = some ((w : Int), (h : Int), cs) := by
 obtain ⟨h1, h2⟩ := formOf_some ht
 obtain ⟨w, h, cs, rfl, e⟩ := tray_parts h1
 exact ⟨w, h, cs, rfl, e.1, e.2.1, e.2.2.1, e.2.2.2.1, e.2.2.2.2.1, e.2.2.2.2.2, by simpa using h2, h1⟩
open Classical in
theorem form_open {w h : Nat} {cs : List Int} (hk : formOK w h cs) : ∀ c ∈ cs, c = 46 ∨ c = 111 := hk.1
end Go.Proofs.YtmefnfhghfemgaaDoor.Q
end
section
namespace Go.Proofs.YtmefnfhghfemgaaDoor.Q
open Go.RowKit Go.Proofs.YtmefnfhghfemgaaDoorW.PrintWords Go.Proofs.YtmefnfhghfemgaaDoorW.PrintLast Go.Proofs.YtmefnfhghfemgaaDoorW.PrintMore
attribute [local go_sem] max2_int min2_int max_two min_two max_three min_three max_four min_four
set_option linter.unusedVariables false
set_option linter.unusedSimpArgs false
def spec_buNext.l0 : Nat → List Int → Int → Int → Int → Int → List Int → Option (Bool)
 | 0, _, _, _, _, _, _ => none
 | k + 1, x9, x10, x11, x102000, x102001, x102002 => if x11 < x10 then (if 0 ≤ x11 then (if x11 < (x9.length : Int) then (if 0 ≤ (rd x9 x11) then (if (rd x9 x11) < (x102002.length : Int) then ((spec_tyBall.f (rd x102002 (rd x9 x11))).bind fun t107 => (if t107 = true then (some true) else (spec_buNext.l0 k x9 x10 (wrap64 (x11 + 1)) x102000 x102001 x102002))) else (none)) else (none)) else (none)) else (none)) else (some false)
def spec_buNext.f (k : Nat) (a0_0 : Int) (a0_1 : Int) (l0_2 : List Int) (a1 : Int) : Option (Bool) := (spec_tyNear.f k a0_0 a0_1 l0_2 a1).bind fun t102 => (spec_buNext.l0 k t102 (t102.length : Int) 0 a0_0 a0_1 l0_2)
set_option maxHeartbeats 8000000 in
set_option maxRecDepth 100000 in
theorem spec_buNext.calls (k : Nat) (a0_0 : Int) (a0_1 : Int) (A0_2 : Option Addr) (c0_2 : Nat) (l0_2 : List Int) (a1 : Int) (r : Bool) (w : World) (hr0_2 : Kd.C (Kd.int .u8) w A0_2 l0_2.length l0_2) (hc0_2 : l0_2.length ≤ c0_2) (h : spec_buNext.f k a0_0 a0_1 l0_2 a1 = some r) :
  Calls Tryd.prog 110 #[.agg #[.int .i64 a0_0, .int .i64 a0_1, .slice A0_2 l0_2.length c0_2], .int .i64 a1] w fun e w' => e = .returned (.bool r) ∧ Below w.heap.size w w' := by
 have hu40 := Tryd.underlying40
 have HR0_2 := Aside0.mk hr0_2
 have HC0_2 := Aside0.mk hc0_2
 clear hr0_2 hc0_2
 have HB := Aside0.mk (Below.refl w.heap.size w)
 have H : ((spec_tyNear.f k a0_0 a0_1 l0_2 a1).bind fun t102 => (spec_buNext.l0 k t102 (t102.length : Int) 0 a0_0 a0_1 l0_2)) = some r := h
 clear h
 replace H := Option.bind_eq_some_iff.mp H
 obtain ⟨t102, A30, H⟩ := H
 replace H : (spec_buNext.l0 k t102 (t102.length : Int) 0 a0_0 a0_1 l0_2) = some r := H
 have A3 := Aside0.mk A30
 clear A30
 have H' := Aside0.mk H
 clear H
 go_enter Tryd.func110, Tryd.ntmps110
 go_wp2_with (first | ((with_reducible refine gate_dst (N := 2) rfl ?_); refine boxE (N := 2) (cs := #[.int .i64 a0_0, .int .i64 a0_1, .slice A0_2 l0_2.length c0_2]) (t := 40) ?_; intro gb101 hg w4 hbox hb; have n0_ := Aside0.mk (below_step (bel HB) hb); have n1_ := Aside0.mk (hbox); have n2_ := Aside0.mk (gsz hg (bel HB)); have n3_ := Aside0.mk (gsz hg (bel HB)); clear HB; have HB := n0_; have BK101 := n1_; have GW101 := n2_; have GE101 := n3_; clear n0_ n1_ n2_ n3_; clear hb hbox hg; have hcz5_0 : w4.cell? ⟨gb101, 0, none⟩ = some (.int .i64 a0_0) := (blk_cell BK101.out 0).trans rfl; have hcz5_1 : w4.cell? ⟨gb101, 1, none⟩ = some (.int .i64 a0_1) := (blk_cell BK101.out 1).trans rfl; have hcz5_2 : w4.cell? ⟨gb101, 2, none⟩ = some (.slice A0_2 l0_2.length c0_2) := (blk_cell BK101.out 2).trans rfl; have hfz5_0 := blk_frozen BK101.out 0; have hfz5_1 := blk_frozen BK101.out 1; have hfz5_2 := blk_frozen BK101.out 2) | ((with_reducible refine gate_callee (f := 84) rfl ?_); refine gcall (some 9) Tryd.func84 #[.agg #[.int .i64 a0_0, .int .i64 a0_1, .slice A0_2 l0_2.length c0_2], .int .i64 a1] rfl ?_; (with_reducible refine (spec_tyNear.calls k a0_0 a0_1 _ _ l0_2 a1 t102 _ ?side1 ?side2 A3.out).mono ?_); (case side1 => repeat (first | exact (Kd.C_below HR0_2.out HB.out) | (with_reducible refine Kd.C_alloc ?_ _) | (with_reducible refine Kd.C_drewN ?_ _) | (with_reducible refine Kd.C_drew ?_))); (case side2 => exact HC0_2.out); rintro e w6 ⟨v103, rfl, ho0, hb⟩; refine ⟨_, rfl, ?_⟩; have n0_ := Aside0.mk (Kd.R_lower ho0 (below_size (bel HB))); have n1_ := Aside0.mk (blk_below (g := gb101) (o := .cells #[.int .i64 a0_0, .int .i64 a0_1, .slice A0_2 l0_2.length c0_2] 40 (0, 0)) blc hb); have n2_ := Aside0.mk (below_step (bel HB) hb); clear BK101; clear HB; have HO104 := n0_; have BK101 := n1_; have HB := n2_; clear n0_ n1_ n2_; (try clear hb); (try clear hb2); (try clear hk); (try clear hi); (try clear ho0); obtain ⟨Ao7, co7, eo7⟩ := Kd.R_slice HO104.out; subst eo7))
 go_loopg [11] k (fun kq v11 w' => ∃ (x11_1 : Int), v11 = .int .i64 x11_1 ∧ Aside0 (spec_buNext.l0 kq t102 (t102.length : Int) x11_1 a0_0 a0_1 l0_2 = some r) ∧ Aside0 (kq ≤ k) ∧ Aside0 (Kd.R (Kd.int .i64) 3 w' w.heap.size (fun _ => True) (.slice Ao7 t102.length co7) t102) ∧ Aside0 (w'.heap[gb101]? = some (.cells #[.int .i64 a0_0, .int .i64 a0_1, (.slice A0_2 l0_2.length c0_2)] 40 (0, 0))) ∧ Aside0 (Below w.heap.size w w'))
 case atStart => exact ⟨(0), (by first | rfl | (simp; done) | (simp [*]; done)), H', ⟨Nat.le_refl _⟩, ⟨rch HO104⟩, ⟨blc⟩, ⟨bel HB⟩⟩
 case round =>
  clear H'
  try clear c1
  try clear p2
  try clear hcz5_0
  try clear hcz5_1
  try clear hcz5_2
  try clear hfz5_0
  try clear hfz5_1
  try clear hfz5_2
  obtain ⟨x11_1, rfl, HA, HK1, HO_9, BK101, HB⟩ := hrel
  cases gk with
  | zero => exact absurd HA.out (by simp [spec_buNext.l0])
  | succ k1 =>
   have H := HA.out
   clear HA
   simp only [spec_buNext.l0] at H
   by_cases c8 : x11_1 < (t102.length : Int)
   ·rw [if_pos c8] at H
    have c8b0 : decide (x11_1 < (t102.length : Int)) = true := decide_eq_true c8
    clear c8
    by_cases c9 : 0 ≤ x11_1
    ·rw [if_pos c9] at H
     have c9b0 : decide (0 ≤ x11_1) = true := decide_eq_true c9
     clear c9
     by_cases c10 : x11_1 < (t102.length : Int)
     ·rw [if_pos c10] at H
      have c10b0 : decide (x11_1 < (t102.length : Int)) = true := decide_eq_true c10
      clear c10
      by_cases c11 : 0 ≤ (rd t102 x11_1)
      ·rw [if_pos c11] at H
       have c11b0 : decide (0 ≤ (rd t102 x11_1)) = true := decide_eq_true c11
       clear c11
       by_cases c12 : (rd t102 x11_1) < (l0_2.length : Int)
       ·rw [if_pos c12] at H
        have c12b0 : decide ((rd t102 x11_1) < (l0_2.length : Int)) = true := decide_eq_true c12
        clear c12
        replace H := Option.bind_eq_some_iff.mp H
        obtain ⟨t107, A130, H⟩ := H
        replace H : (if t107 = true then (some true) else (spec_buNext.l0 k1 t102 (t102.length : Int) (wrap64 (x11_1 + 1)) a0_0 a0_1 l0_2)) = some r := H
        have A13 := Aside0.mk A130
        clear A130
        by_cases c14 : t107 = true
        ·subst c14
         have H1 : (some true) = some r := by rw [if_pos rfl] at H; exact H
         clear H
         have H := H1
         clear H1
         obtain rfl := Option.some.inj H
         have p105 : 0 ≤ (x11_1 : Int) := of_decide_eq_true (by first | (with_reducible assumption) | assumption)
         have q105 : x11_1 < (t102.length : Int) := of_decide_eq_true (by first | (with_reducible assumption) | assumption)
         obtain ⟨ad105, e105, hx105_0⟩ := Kd.at_int (Kd.R_reads' HO_9.out).2.2 x11_1 p105 q105
         cases e105
         replace p105 := eq_true p105
         replace q105 := eq_true q105
         have hcz15_0 : wr.cell? ⟨gb101, 0, none⟩ = some (.int .i64 a0_0) := (blk_cell BK101.out 0).trans rfl
         have hcz15_1 : wr.cell? ⟨gb101, 1, none⟩ = some (.int .i64 a0_1) := (blk_cell BK101.out 1).trans rfl
         have hcz15_2 : wr.cell? ⟨gb101, 2, none⟩ = some (.slice A0_2 l0_2.length c0_2) := (blk_cell BK101.out 2).trans rfl
         have hfz15_0 := blk_frozen BK101.out 0
         have hfz15_1 := blk_frozen BK101.out 1
         have hfz15_2 := blk_frozen BK101.out 2
         have p106 : 0 ≤ ((rd t102 x11_1) : Int) := of_decide_eq_true (by first | (with_reducible assumption) | assumption)
         have q106 : (rd t102 x11_1) < (l0_2.length : Int) := of_decide_eq_true (by first | (with_reducible assumption) | assumption)
         obtain ⟨ad106, e106, hx106_0⟩ := Kd.at_int HR0_2.out (rd t102 x11_1) p106 q106
         cases e106
         (try replace hx106_0 := (HB.out.cell (World.block_lt_of_cell? w _ hx106_0)).trans hx106_0)
         replace p106 := eq_true p106
         replace q106 := eq_true q106
         go_wp2_with (first | ((with_reducible refine gate_callee (f := 70) rfl ?_); refine gcall (some 20) Tryd.func70 #[.int .u8 (rd l0_2 (rd t102 x11_1))] rfl ?_; (with_reducible refine (spec_tyBall.calls (rd l0_2 (rd t102 x11_1)) true _ A13.out).mono ?_); rintro e w' ⟨rfl, ⟨nd, rfl⟩⟩; refine ⟨_, rfl, ?_⟩))
         go_ret
         exact ⟨by first | rfl | (simp [errW_none, errW_some] <;> rfl) | (simp [*, errW_none, errW_some] <;> rfl), bel HB⟩
        ·replace c14 := Bool.eq_false_iff.mpr c14
         subst c14
         have H1 : (spec_buNext.l0 k1 t102 (t102.length : Int) (wrap64 (x11_1 + 1)) a0_0 a0_1 l0_2) = some r := by rw [if_neg (show ¬ (false = true) by decide)] at H; exact H
         clear H
         have H := H1
         clear H1
         have H' := Aside0.mk H
         clear H
         have p105 : 0 ≤ (x11_1 : Int) := of_decide_eq_true (by first | (with_reducible assumption) | assumption)
         have q105 : x11_1 < (t102.length : Int) := of_decide_eq_true (by first | (with_reducible assumption) | assumption)
         obtain ⟨ad105, e105, hx105_0⟩ := Kd.at_int (Kd.R_reads' HO_9.out).2.2 x11_1 p105 q105
         cases e105
         replace p105 := eq_true p105
         replace q105 := eq_true q105
         have hcz16_0 : wr.cell? ⟨gb101, 0, none⟩ = some (.int .i64 a0_0) := (blk_cell BK101.out 0).trans rfl
         have hcz16_1 : wr.cell? ⟨gb101, 1, none⟩ = some (.int .i64 a0_1) := (blk_cell BK101.out 1).trans rfl
         have hcz16_2 : wr.cell? ⟨gb101, 2, none⟩ = some (.slice A0_2 l0_2.length c0_2) := (blk_cell BK101.out 2).trans rfl
         have hfz16_0 := blk_frozen BK101.out 0
         have hfz16_1 := blk_frozen BK101.out 1
         have hfz16_2 := blk_frozen BK101.out 2
         have p106 : 0 ≤ ((rd t102 x11_1) : Int) := of_decide_eq_true (by first | (with_reducible assumption) | assumption)
         have q106 : (rd t102 x11_1) < (l0_2.length : Int) := of_decide_eq_true (by first | (with_reducible assumption) | assumption)
         obtain ⟨ad106, e106, hx106_0⟩ := Kd.at_int HR0_2.out (rd t102 x11_1) p106 q106
         cases e106
         (try replace hx106_0 := (HB.out.cell (World.block_lt_of_cell? w _ hx106_0)).trans hx106_0)
         replace p106 := eq_true p106
         replace q106 := eq_true q106
         go_wp2_with (first | ((with_reducible refine gate_callee (f := 70) rfl ?_); refine gcall (some 20) Tryd.func70 #[.int .u8 (rd l0_2 (rd t102 x11_1))] rfl ?_; (with_reducible refine (spec_tyBall.calls (rd l0_2 (rd t102 x11_1)) false _ A13.out).mono ?_); rintro e w' ⟨rfl, ⟨nd, rfl⟩⟩; refine ⟨_, rfl, ?_⟩))
         go_roundg k1
         case measure => have := HK1.out; omega
         case rel => exact ⟨(wrap64 (x11_1 + 1)), (by first | rfl | (simp; done) | (simp [*]; done)), H', ⟨by have := HK1.out; omega⟩, ⟨rch HO_9⟩, ⟨blc⟩, ⟨bel HB⟩⟩
       ·rw [if_neg c12] at H
        exact absurd H (by simp)
      ·rw [if_neg c11] at H
       exact absurd H (by simp)
     ·rw [if_neg c10] at H
      exact absurd H (by simp)
    ·rw [if_neg c9] at H
     exact absurd H (by simp)
   ·rw [if_neg c8] at H
    have c8b0 : decide (x11_1 < (t102.length : Int)) = false := decide_eq_false c8
    clear c8
    obtain rfl := Option.some.inj H
    go_wp2
    go_ret
    exact ⟨by first | rfl | (simp [errW_none, errW_some] <;> rfl) | (simp [*, errW_none, errW_some] <;> rfl), bel HB⟩
def spec_buCan.f (k : Nat) (a0_0 : Int) (a0_1 : Int) (l0_2 : List Int) (a1 : Int) (a2 : Int) : Option (Bool) := (spec_buFree.f k a0_0 a0_1 l0_2 a1 a2).bind fun t102 => (if t102 = true then ((spec_buNext.f k a0_0 a0_1 l0_2 a1).bind fun t103 => (some t103)) else (some false))
set_option maxHeartbeats 8000000 in
set_option maxRecDepth 100000 in
theorem spec_buCan.calls (k : Nat) (a0_0 : Int) (a0_1 : Int) (A0_2 : Option Addr) (c0_2 : Nat) (l0_2 : List Int) (a1 : Int) (a2 : Int) (r : Bool) (w : World) (hr0_2 : Kd.C (Kd.int .u8) w A0_2 l0_2.length l0_2) (hc0_2 : l0_2.length ≤ c0_2) (h : spec_buCan.f k a0_0 a0_1 l0_2 a1 a2 = some r) :
  Calls Tryd.prog 71 #[.agg #[.int .i64 a0_0, .int .i64 a0_1, .slice A0_2 l0_2.length c0_2], .int .i64 a1, .int .i64 a2] w fun e w' => e = .returned (.bool r) ∧ Below w.heap.size w w' := by
 have hu40 := Tryd.underlying40
 have HR0_2 := Aside0.mk hr0_2
 have HC0_2 := Aside0.mk hc0_2
 clear hr0_2 hc0_2
 have HB := Aside0.mk (Below.refl w.heap.size w)
 have H : ((spec_buFree.f k a0_0 a0_1 l0_2 a1 a2).bind fun t102 => (if t102 = true then ((spec_buNext.f k a0_0 a0_1 l0_2 a1).bind fun t103 => (some t103)) else (some false))) = some r := h
 clear h
 replace H := Option.bind_eq_some_iff.mp H
 obtain ⟨t102, A40, H⟩ := H
 replace H : (if t102 = true then ((spec_buNext.f k a0_0 a0_1 l0_2 a1).bind fun t103 => (some t103)) else (some false)) = some r := H
 have A4 := Aside0.mk A40
 clear A40
 by_cases c5 : t102 = true
 ·subst c5
  have H1 : ((spec_buNext.f k a0_0 a0_1 l0_2 a1).bind fun t103 => (some t103)) = some r := by rw [if_pos rfl] at H; exact H
  clear H
  have H := H1
  clear H1
  replace H := Option.bind_eq_some_iff.mp H
  obtain ⟨t103, A60, H⟩ := H
  replace H : (some t103) = some r := H
  have A6 := Aside0.mk A60
  clear A60
  obtain rfl := Option.some.inj H
  go_enter Tryd.func71, Tryd.ntmps71
  go_wp2_with (first | ((with_reducible refine gate_dst (N := 3) rfl ?_); refine boxE (N := 3) (cs := #[.int .i64 a0_0, .int .i64 a0_1, .slice A0_2 l0_2.length c0_2]) (t := 40) ?_; intro gb101 hg w7 hbox hb; have n0_ := Aside0.mk (below_step (bel HB) hb); have n1_ := Aside0.mk (hbox); have n2_ := Aside0.mk (gsz hg (bel HB)); have n3_ := Aside0.mk (gsz hg (bel HB)); clear HB; have HB := n0_; have BK101 := n1_; have GW101 := n2_; have GE101 := n3_; clear n0_ n1_ n2_ n3_; clear hb hbox hg; have hcz8_0 : w7.cell? ⟨gb101, 0, none⟩ = some (.int .i64 a0_0) := (blk_cell BK101.out 0).trans rfl; have hcz8_1 : w7.cell? ⟨gb101, 1, none⟩ = some (.int .i64 a0_1) := (blk_cell BK101.out 1).trans rfl; have hcz8_2 : w7.cell? ⟨gb101, 2, none⟩ = some (.slice A0_2 l0_2.length c0_2) := (blk_cell BK101.out 2).trans rfl; have hfz8_0 := blk_frozen BK101.out 0; have hfz8_1 := blk_frozen BK101.out 1; have hfz8_2 := blk_frozen BK101.out 2) | ((with_reducible refine gate_callee (f := 109) rfl ?_); refine gcall (some 10) Tryd.func109 #[.agg #[.int .i64 a0_0, .int .i64 a0_1, .slice A0_2 l0_2.length c0_2], .int .i64 a1, .int .i64 a2] rfl ?_; (with_reducible refine (spec_buFree.calls k a0_0 a0_1 _ _ l0_2 a1 a2 true _ ?side1 ?side2 A4.out).mono ?_); (case side1 => repeat (first | exact (Kd.C_below HR0_2.out HB.out) | (with_reducible refine Kd.C_alloc ?_ _) | (with_reducible refine Kd.C_drewN ?_ _) | (with_reducible refine Kd.C_drew ?_))); (case side2 => exact HC0_2.out); rintro e w9 ⟨rfl, hb⟩; refine ⟨_, rfl, ?_⟩; have n0_ := Aside0.mk (blk_below (g := gb101) (o := .cells #[.int .i64 a0_0, .int .i64 a0_1, .slice A0_2 l0_2.length c0_2] 40 (0, 0)) blc hb); have n1_ := Aside0.mk (below_step (bel HB) hb); clear BK101; clear HB; have BK101 := n0_; have HB := n1_; clear n0_ n1_; (try clear hb); (try clear hb2); (try clear hk); (try clear hi); have hcz10_0 : w9.cell? ⟨gb101, 0, none⟩ = some (.int .i64 a0_0) := (blk_cell BK101.out 0).trans rfl; have hcz10_1 : w9.cell? ⟨gb101, 1, none⟩ = some (.int .i64 a0_1) := (blk_cell BK101.out 1).trans rfl; have hcz10_2 : w9.cell? ⟨gb101, 2, none⟩ = some (.slice A0_2 l0_2.length c0_2) := (blk_cell BK101.out 2).trans rfl; have hfz10_0 := blk_frozen BK101.out 0; have hfz10_1 := blk_frozen BK101.out 1; have hfz10_2 := blk_frozen BK101.out 2) | (go_at_call 110; (with_reducible refine (spec_buNext.calls k a0_0 a0_1 _ _ l0_2 a1 t103 _ ?side1 ?side2 A6.out).mono ?_); (case side1 => repeat (first | exact (Kd.C_below HR0_2.out HB.out) | (with_reducible refine Kd.C_alloc ?_ _) | (with_reducible refine Kd.C_drewN ?_ _) | (with_reducible refine Kd.C_drew ?_))); (case side2 => exact HC0_2.out); rintro e w11 ⟨rfl, hb⟩; have n0_ := Aside0.mk (blk_below (g := gb101) (o := .cells #[.int .i64 a0_0, .int .i64 a0_1, .slice A0_2 l0_2.length c0_2] 40 (0, 0)) blc hb); have n1_ := Aside0.mk (below_step (bel HB) hb); clear BK101; clear HB; have BK101 := n0_; have HB := n1_; clear n0_ n1_; (try clear hb); (try clear hb2); (try clear hk); (try clear hi)))
  go_ret
  exact ⟨by first | rfl | (simp [errW_none, errW_some] <;> rfl) | (simp [*, errW_none, errW_some] <;> rfl), bel HB⟩
 ·replace c5 := Bool.eq_false_iff.mpr c5
  subst c5
  have H1 : (some false) = some r := by rw [if_neg (show ¬ (false = true) by decide)] at H; exact H
  clear H
  have H := H1
  clear H1
  obtain rfl := Option.some.inj H
  go_enter Tryd.func71, Tryd.ntmps71
  go_wp2_with (first | ((with_reducible refine gate_dst (N := 3) rfl ?_); refine boxE (N := 3) (cs := #[.int .i64 a0_0, .int .i64 a0_1, .slice A0_2 l0_2.length c0_2]) (t := 40) ?_; intro gb101 hg w12 hbox hb; have n0_ := Aside0.mk (below_step (bel HB) hb); have n1_ := Aside0.mk (hbox); have n2_ := Aside0.mk (gsz hg (bel HB)); have n3_ := Aside0.mk (gsz hg (bel HB)); clear HB; have HB := n0_; have BK101 := n1_; have GW101 := n2_; have GE101 := n3_; clear n0_ n1_ n2_ n3_; clear hb hbox hg; have hcz13_0 : w12.cell? ⟨gb101, 0, none⟩ = some (.int .i64 a0_0) := (blk_cell BK101.out 0).trans rfl; have hcz13_1 : w12.cell? ⟨gb101, 1, none⟩ = some (.int .i64 a0_1) := (blk_cell BK101.out 1).trans rfl; have hcz13_2 : w12.cell? ⟨gb101, 2, none⟩ = some (.slice A0_2 l0_2.length c0_2) := (blk_cell BK101.out 2).trans rfl; have hfz13_0 := blk_frozen BK101.out 0; have hfz13_1 := blk_frozen BK101.out 1; have hfz13_2 := blk_frozen BK101.out 2) | ((with_reducible refine gate_callee (f := 109) rfl ?_); refine gcall (some 10) Tryd.func109 #[.agg #[.int .i64 a0_0, .int .i64 a0_1, .slice A0_2 l0_2.length c0_2], .int .i64 a1, .int .i64 a2] rfl ?_; (with_reducible refine (spec_buFree.calls k a0_0 a0_1 _ _ l0_2 a1 a2 false _ ?side1 ?side2 A4.out).mono ?_); (case side1 => repeat (first | exact (Kd.C_below HR0_2.out HB.out) | (with_reducible refine Kd.C_alloc ?_ _) | (with_reducible refine Kd.C_drewN ?_ _) | (with_reducible refine Kd.C_drew ?_))); (case side2 => exact HC0_2.out); rintro e w14 ⟨rfl, hb⟩; refine ⟨_, rfl, ?_⟩; have n0_ := Aside0.mk (blk_below (g := gb101) (o := .cells #[.int .i64 a0_0, .int .i64 a0_1, .slice A0_2 l0_2.length c0_2] 40 (0, 0)) blc hb); have n1_ := Aside0.mk (below_step (bel HB) hb); clear BK101; clear HB; have BK101 := n0_; have HB := n1_; clear n0_ n1_; (try clear hb); (try clear hb2); (try clear hk); (try clear hi)))
  go_ret
  exact ⟨by first | rfl | (simp [errW_none, errW_some] <;> rfl) | (simp [*, errW_none, errW_some] <;> rfl), bel HB⟩
def spec_buWay.l0 : Nat → Int → Int → Int → Int → List Int → Option (Int)
 | 0, _, _, _, _, _ => none
 | k + 1, x1, x5, x102000, x102001, x102002 => if x5 < 4 then ((spec_buCan.f k x102000 x102001 x102002 x1 x5).bind fun t102 => (if t102 = true then (some x5) else (spec_buWay.l0 k x1 (wrap64 (x5 + 1)) x102000 x102001 x102002))) else (some (-1))
def spec_buWay.f (k : Nat) (a0_0 : Int) (a0_1 : Int) (l0_2 : List Int) (a1 : Int) : Option (Int) := spec_buWay.l0 k a1 0 a0_0 a0_1 l0_2
set_option maxHeartbeats 8000000 in
set_option maxRecDepth 100000 in
theorem spec_buWay.calls (k : Nat) (a0_0 : Int) (a0_1 : Int) (A0_2 : Option Addr) (c0_2 : Nat) (l0_2 : List Int) (a1 : Int) (r : Int) (w : World) (hr0_2 : Kd.C (Kd.int .u8) w A0_2 l0_2.length l0_2) (hc0_2 : l0_2.length ≤ c0_2) (h : spec_buWay.f k a0_0 a0_1 l0_2 a1 = some r) :
  Calls Tryd.prog 38 #[.agg #[.int .i64 a0_0, .int .i64 a0_1, .slice A0_2 l0_2.length c0_2], .int .i64 a1] w fun e w' => e = .returned (.int .i64 r) ∧ Below w.heap.size w w' := by
 have hu40 := Tryd.underlying40
 have HR0_2 := Aside0.mk hr0_2
 have HC0_2 := Aside0.mk hc0_2
 clear hr0_2 hc0_2
 have HB := Aside0.mk (Below.refl w.heap.size w)
 have H : (spec_buWay.l0 k a1 0 a0_0 a0_1 l0_2) = some r := h
 clear h
 have H' := Aside0.mk H
 clear H
 go_enter Tryd.func38, Tryd.ntmps38
 go_wp2_with (first | ((with_reducible refine gate_dst (N := 2) rfl ?_); refine boxE (N := 2) (cs := #[.int .i64 a0_0, .int .i64 a0_1, .slice A0_2 l0_2.length c0_2]) (t := 40) ?_; intro gb101 hg w3 hbox hb; have n0_ := Aside0.mk (below_step (bel HB) hb); have n1_ := Aside0.mk (hbox); have n2_ := Aside0.mk (gsz hg (bel HB)); have n3_ := Aside0.mk (gsz hg (bel HB)); clear HB; have HB := n0_; have BK101 := n1_; have GW101 := n2_; have GE101 := n3_; clear n0_ n1_ n2_ n3_; clear hb hbox hg))
 go_loopg [5] k (fun kq v5 w' => ∃ (x5_1 : Int), v5 = .int .i64 x5_1 ∧ Aside0 (spec_buWay.l0 kq a1 x5_1 a0_0 a0_1 l0_2 = some r) ∧ Aside0 (kq ≤ k) ∧ Aside0 (w'.heap[gb101]? = some (.cells #[.int .i64 a0_0, .int .i64 a0_1, (.slice A0_2 l0_2.length c0_2)] 40 (0, 0))) ∧ Aside0 (Below w.heap.size w w'))
 case atStart => exact ⟨(0), (by first | rfl | (simp; done) | (simp [*]; done)), H', ⟨Nat.le_refl _⟩, ⟨blc⟩, ⟨bel HB⟩⟩
 case round =>
  clear H'
  try clear p2
  try clear c3
  obtain ⟨x5_1, rfl, HA, HK1, BK101, HB⟩ := hrel
  cases gk with
  | zero => exact absurd HA.out (by simp [spec_buWay.l0])
  | succ k1 =>
   have H := HA.out
   clear HA
   simp only [spec_buWay.l0] at H
   by_cases c4 : x5_1 < 4
   ·rw [if_pos c4] at H
    have c4b0 : decide (x5_1 < 4) = true := decide_eq_true c4
    clear c4
    replace H := Option.bind_eq_some_iff.mp H
    obtain ⟨t102, A50, H⟩ := H
    replace H : (if t102 = true then (some x5_1) else (spec_buWay.l0 k1 a1 (wrap64 (x5_1 + 1)) a0_0 a0_1 l0_2)) = some r := H
    have A5 := Aside0.mk A50
    clear A50
    by_cases c6 : t102 = true
    ·subst c6
     have H1 : (some x5_1) = some r := by rw [if_pos rfl] at H; exact H
     clear H
     have H := H1
     clear H1
     obtain rfl := Option.some.inj H
     have hcz7_0 : wr.cell? ⟨gb101, 0, none⟩ = some (.int .i64 a0_0) := (blk_cell BK101.out 0).trans rfl
     have hcz7_1 : wr.cell? ⟨gb101, 1, none⟩ = some (.int .i64 a0_1) := (blk_cell BK101.out 1).trans rfl
     have hcz7_2 : wr.cell? ⟨gb101, 2, none⟩ = some (.slice A0_2 l0_2.length c0_2) := (blk_cell BK101.out 2).trans rfl
     have hfz7_0 := blk_frozen BK101.out 0
     have hfz7_1 := blk_frozen BK101.out 1
     have hfz7_2 := blk_frozen BK101.out 2
     go_wp2_with (first | ((with_reducible refine gate_callee (f := 71) rfl ?_); refine gcall (some 13) Tryd.func71 #[.agg #[.int .i64 a0_0, .int .i64 a0_1, .slice A0_2 l0_2.length c0_2], .int .i64 a1, .int .i64 x5_1] rfl ?_; (with_reducible refine (spec_buCan.calls k1 a0_0 a0_1 _ _ l0_2 a1 x5_1 true _ ?side1 ?side2 A5.out).mono ?_); (case side1 => repeat (first | exact (Kd.C_below HR0_2.out HB.out) | (with_reducible refine Kd.C_alloc ?_ _) | (with_reducible refine Kd.C_drewN ?_ _) | (with_reducible refine Kd.C_drew ?_))); (case side2 => exact HC0_2.out); rintro e w8 ⟨rfl, hb⟩; refine ⟨_, rfl, ?_⟩; have n0_ := Aside0.mk (blk_below (g := gb101) (o := .cells #[.int .i64 a0_0, .int .i64 a0_1, .slice A0_2 l0_2.length c0_2] 40 (0, 0)) blc hb); have n1_ := Aside0.mk (below_step (bel HB) hb); clear BK101; clear HB; have BK101 := n0_; have HB := n1_; clear n0_ n1_; (try clear hb); (try clear hb2); (try clear hk); (try clear hi)))
     go_ret
     exact ⟨by first | rfl | (simp [errW_none, errW_some] <;> rfl) | (simp [*, errW_none, errW_some] <;> rfl), bel HB⟩
    ·replace c6 := Bool.eq_false_iff.mpr c6
     subst c6
     have H1 : (spec_buWay.l0 k1 a1 (wrap64 (x5_1 + 1)) a0_0 a0_1 l0_2) = some r := by rw [if_neg (show ¬ (false = true) by decide)] at H; exact H
     clear H
     have H := H1
     clear H1
     have H' := Aside0.mk H
     clear H
     have hcz9_0 : wr.cell? ⟨gb101, 0, none⟩ = some (.int .i64 a0_0) := (blk_cell BK101.out 0).trans rfl
     have hcz9_1 : wr.cell? ⟨gb101, 1, none⟩ = some (.int .i64 a0_1) := (blk_cell BK101.out 1).trans rfl
     have hcz9_2 : wr.cell? ⟨gb101, 2, none⟩ = some (.slice A0_2 l0_2.length c0_2) := (blk_cell BK101.out 2).trans rfl
     have hfz9_0 := blk_frozen BK101.out 0
     have hfz9_1 := blk_frozen BK101.out 1
     have hfz9_2 := blk_frozen BK101.out 2
     go_wp2_with (first | ((with_reducible refine gate_callee (f := 71) rfl ?_); refine gcall (some 13) Tryd.func71 #[.agg #[.int .i64 a0_0, .int .i64 a0_1, .slice A0_2 l0_2.length c0_2], .int .i64 a1, .int .i64 x5_1] rfl ?_; (with_reducible refine (spec_buCan.calls k1 a0_0 a0_1 _ _ l0_2 a1 x5_1 false _ ?side1 ?side2 A5.out).mono ?_); (case side1 => repeat (first | exact (Kd.C_below HR0_2.out HB.out) | (with_reducible refine Kd.C_alloc ?_ _) | (with_reducible refine Kd.C_drewN ?_ _) | (with_reducible refine Kd.C_drew ?_))); (case side2 => exact HC0_2.out); rintro e w10 ⟨rfl, hb⟩; refine ⟨_, rfl, ?_⟩; have n0_ := Aside0.mk (blk_below (g := gb101) (o := .cells #[.int .i64 a0_0, .int .i64 a0_1, .slice A0_2 l0_2.length c0_2] 40 (0, 0)) blc hb); have n1_ := Aside0.mk (below_step (bel HB) hb); clear BK101; clear HB; have BK101 := n0_; have HB := n1_; clear n0_ n1_; (try clear hb); (try clear hb2); (try clear hk); (try clear hi)))
     go_roundg k1
     case measure => have := HK1.out; omega
     case rel => exact ⟨(wrap64 (x5_1 + 1)), (by first | rfl | (simp; done) | (simp [*]; done)), H', ⟨by have := HK1.out; omega⟩, ⟨blc⟩, ⟨bel HB⟩⟩
   ·rw [if_neg c4] at H
    have c4b0 : decide (x5_1 < 4) = false := decide_eq_false c4
    clear c4
    obtain rfl := Option.some.inj H
    go_wp2
    go_ret
    exact ⟨by first | rfl | (simp [errW_none, errW_some] <;> rfl) | (simp [*, errW_none, errW_some] <;> rfl), bel HB⟩
end Go.Proofs.YtmefnfhghfemgaaDoor.Q
end
section
namespace Go.Proofs.YtmefnfhghfemgaaDoor.Q
open Go.RowKit Go.Proofs.YtmefnfhghfemgaaDoorW.PrintWords Go.Proofs.YtmefnfhghfemgaaDoorW.PrintLast Go.Proofs.YtmefnfhghfemgaaDoorW.PrintMore
def ballB (l : List Int) (j : Int) : Bool := decide (rd l j = 111 ∨ (97 ≤ rd l j ∧ rd l j ≤ 102))
def inB (l nb : List Int) : Bool := decide (nb.length ≤ 1000000) && nb.all fun j => decide (0 ≤ j ∧ j < (l.length : Int))
def impl_tray_added.f (k : Nat) (w h : Int) (l : List Int) (a : Int) : Option ByteArray :=
 if 0 ≤ a ∧ a < (l.length : Int) then (if rd l a = 46 then ((impl_tray_beside.f k w h l a).bind fun nb => (if inB l nb = true then (if nb.any (ballB l) = true then impl_tray_freeWays.f k w h l a else some ⟨#[]⟩) else none)) else some ⟨#[]⟩) else none
theorem impl_tray_added.mono : ∀ w h l a k, LeO (impl_tray_added.f k w h l a) (impl_tray_added.f (k + 1) w h l a) := by
 intro w h l a k
 unfold impl_tray_added.f
 refine LeO.ite (LeO.ite (LeO.bind (impl_tray_beside.mono _ _ _ _ _) fun nb => LeO.ite (LeO.ite (impl_tray_freeWays.mono _ _ _ _ _) (LeO.refl _)) (LeO.refl _)) (LeO.refl _)) (LeO.refl _)
theorem isBall_val (l : List Int) (j : Int) : impl_isBall.f (rd l j) = some (ballB l j) := by
 unfold impl_isBall.f impl_isName.f ballB
 by_cases h1 : rd l j = 111
 ·rw [if_pos h1, decide_eq_true (Or.inl h1)]
 ·rw [if_neg h1]
  by_cases h2 : rd l j ≥ 97
  ·rw [if_pos h2, Option.bind_some]
   congr 1
   exact decide_eq_decide.2 (by omega)
  ·rw [if_neg h2, Option.bind_some, decide_eq_false (by omega)]
set_option maxHeartbeats 4000000 in
set_option maxRecDepth 100000 in
theorem added_pred (g : Nat) (a b : Int) (A : Option Addr) (c : Nat) (l zs : List Int) (w : World) (hz : ∀ j ∈ zs, 0 ≤ j ∧ j < (l.length : Int)) (hx : Bx w g a b A c l) :
  PredI 107 #[.pointer (some ⟨g, 0, none⟩)] (ballB l) zs w := by
 intro W hb x hxz
 obtain ⟨h0, h1⟩ := hz x hxz
 have hB := hx.below hb
 obtain ⟨k0, k1, k2, klt, kr⟩ := hB
 obtain ⟨ad, e1, hcell⟩ := Kd.at_int kr x h0 h1
 cases e1
 have hc := fun W => impl_isBall.calls (rd l x) _ W (isBall_val l x)
 have p1 : (0 ≤ x) = True := eq_true h0
 have p2 : (x < (l.length : Int)) = True := eq_true h1
 generalize ballB l x = bb at hc ⊢
 clear hz hx hb hxz h0 h1 kr klt k0 k1
 show Calls Tryd.prog 107 #[.int .i64 x, .pointer (some ⟨g, 0, none⟩)] W _
 have hu := Tryd.underlying46
 go_enter Tryd.func107, Tryd.ntmps107
 go_wp2_with fail
 refine (hc _).mono ?_
 rintro e w' ⟨rfl, ⟨nd, rfl⟩⟩
 go_wp2
 go_ret
 exact ⟨rfl, pw_below_drewN (Below.refl _ _) _⟩
set_option maxHeartbeats 8000000 in
set_option maxRecDepth 100000 in
theorem impl_tray_added.calls (k : Nat) (a0_0 a0_1 : Int) (A0_2 : Option Addr) (c0_2 : Nat) (l0_2 : List Int) (a1 : Int) (r : ByteArray) (w : World) (hr0_2 : Kd.C (Kd.int .u8) w A0_2 l0_2.length l0_2) (hc0_2 : l0_2.length ≤ c0_2) (h : impl_tray_added.f k a0_0 a0_1 l0_2 a1 = some r) :
  Calls Tryd.prog 69 #[.agg #[.int .i64 a0_0, .int .i64 a0_1, .slice A0_2 l0_2.length c0_2], .int .i64 a1] w fun e w' => e = .returned (.string r) ∧ Below w.heap.size w w' := by
 unfold impl_tray_added.f at h
 split at h
 case isFalse => cases h
 rename_i hin
 have hu := Tryd.underlying46
 have HIN := Aside0.mk hin
 have HR := Aside0.mk hr0_2
 have HC := Aside0.mk hc0_2
 obtain ⟨ad, e1, _⟩ := Kd.at_int hr0_2 a1 hin.1 hin.2
 cases e1
 have p1 : (0 ≤ a1) = True := eq_true hin.1
 have p2 : (a1 < (l0_2.length : Int)) = True := eq_true hin.2
 clear hr0_2 hin hc0_2
 by_cases h46 : rd l0_2 a1 = 46
 ·rw [if_pos h46] at h
  obtain ⟨nb, hnb, h2⟩ := Option.bind_eq_some_iff.1 h
  split at h2
  case isFalse => cases h2
  rename_i hinb
  have H2 := Aside0.mk h2
  have HN := Aside0.mk hnb
  have HI := Aside0.mk hinb
  have H46 := Aside0.mk h46
  clear h h2 hnb hinb h46
  go_enter Tryd.func69, Tryd.ntmps69
  go_wp2_with ((with_reducible refine gate_dst (N := 2) rfl ?_); refine box_event ?hg (N := 2) ?hd (cs := #[.int .i64 a0_0, .int .i64 a0_1, .slice (some ad) l0_2.length c0_2]) (t := 46) ?hr ?_; (case hd => rfl); (case hg => rfl); (case hr => first | (go_simp; done) | (go_simp; rfl)); intro gb hg w3 hbox hb; (have HB3 := Aside0.mk hb); (have HX := Aside0.mk (Bx.mk ((blk_cell hbox 0).trans rfl) ((blk_cell hbox 1).trans rfl) ((blk_cell hbox 2).trans rfl) (blk_lt hbox) (Kd.C_below HR.out hb))); (obtain ⟨z0, z1, z2, _, _⟩ := HX.out); (obtain ⟨ad2, e2, hcell⟩ := Kd.at_int HX.out.reads a1 HIN.out.1 HIN.out.2); (cases e2); (rw [H46.out] at hcell); clear hbox hb hg)
  obtain ⟨z0, z1, z2, _, _⟩ := HX.out
  refine (impl_tray_beside.calls k a0_0 a0_1 _ c0_2 l0_2 a1 nb _ HX.out.reads HC.out HN.out).mono ?_
  rintro e w5 ⟨v, rfl, hR, hb5⟩
  obtain ⟨A, c, rfl, hlc, hC⟩ := Kd.R_reads hR
  have HX5 := Aside0.mk (HX.out.below hb5)
  have HB5 := Aside0.mk (below_then HB3.out HB3.out.size hb5)
  clear hcell z0 z1 z2 HX HB3 hR
  obtain ⟨z0, z1, z2, _, _⟩ := HX5.out
  have hI := HI.out
  simp only [inB, Bool.and_eq_true, decide_eq_true_eq, List.all_eq_true] at hI
  have hcl := contI 107 #[.pointer (some ⟨gb, 0, none⟩)] (enters_of Tryd.func107 (by kernel_rfl) rfl) (ballB l0_2) A c nb w5 hC hI.1 (added_pred gb a0_0 a0_1 (some ad) c0_2 l0_2 nb w5 hI.2 HX5.out)
  have HCL := Aside0.mk hcl
  clear hI hcl hC hlc
  go_wp2_with fail
  refine HCL.out.mono ?_
  rintro e w6 ⟨rfl, hb6⟩
  have HX6 := Aside0.mk (HX5.out.below hb6)
  have HB6 := Aside0.mk (below_then HB5.out HB5.out.size hb6)
  clear z0 z1 z2 HX5 HB5 HCL hb5 hb6
  obtain ⟨z0, z1, z2, _, _⟩ := HX6.out
  have h2 := H2.out
  generalize nb.any (ballB l0_2) = bb at h2 ⊢
  cases bb with
  | false =>
   rw [if_neg Bool.false_ne_true] at h2
   obtain rfl := Option.some.inj h2
   go_wp2
   go_ret
   exact ⟨rfl, HB6.out⟩
  | true =>
   rw [if_pos rfl] at h2
   have H3 := Aside0.mk h2
   clear h2 H2
   go_wp2_with fail
   refine (impl_tray_freeWays.calls k a0_0 a0_1 _ c0_2 l0_2 a1 r _ HX6.out.reads HC.out H3.out).mono ?_
   rintro e w7 ⟨rfl, hb7⟩
   go_wp2
   go_ret
   exact ⟨rfl, below_then HB6.out HB6.out.size hb7⟩
 ·rw [if_neg h46] at h
  obtain rfl := Option.some.inj h
  have hne : (rd l0_2 a1 != 46) = true := bne_iff_ne.2 h46
  clear h
  go_enter Tryd.func69, Tryd.ntmps69
  go_wp2_with ((with_reducible refine gate_dst (N := 2) rfl ?_); refine box_event ?hg (N := 2) ?hd (cs := #[.int .i64 a0_0, .int .i64 a0_1, .slice (some ad) l0_2.length c0_2]) (t := 46) ?hr ?_; (case hd => rfl); (case hg => rfl); (case hr => first | (go_simp; done) | (go_simp; rfl)); intro gb hg w3 hbox hb; (have HB3 := Aside0.mk hb); (have HX := Aside0.mk (Bx.mk ((blk_cell hbox 0).trans rfl) ((blk_cell hbox 1).trans rfl) ((blk_cell hbox 2).trans rfl) (blk_lt hbox) (Kd.C_below HR.out hb))); (obtain ⟨z0, z1, z2, _, _⟩ := HX.out); (obtain ⟨ad2, e2, hcell⟩ := Kd.at_int HX.out.reads a1 HIN.out.1 HIN.out.2); (cases e2);  clear hbox hb hg)
  go_ret
  exact ⟨rfl, HB3.out⟩
end Go.Proofs.YtmefnfhghfemgaaDoor.Q
end
section
namespace Go.Proofs.YtmefnfhghfemgaaDoor.Q
set_option linter.unusedSectionVars false
open Go.RowKit Go.Proofs.YtmefnfhghfemgaaDoorW.PrintWords Go.Proofs.YtmefnfhghfemgaaDoorW.PrintLast Go.Proofs.YtmefnfhghfemgaaDoorW.PrintMore
def nextB (w h : Nat) (cs : List Int) (a : Int) : Bool := (nbs w h a.toNat).any (ballB cs)
def canB (w h : Nat) (cs : List Int) (a : Int) (d : Nat) : Bool := freeAt w h cs a d && nextB w h cs a
theorem freeAt_dot {w h : Nat} {cs : List Int} {a : Int} {d : Nat} (ha : 0 ≤ a) (hf : freeAt w h cs a d = true) : rd cs a = 46 := by
 unfold freeAt fr at hf
 rw [if_neg (by omega)] at hf
 by_cases h : rd cs a = 46
 ·exact h
 ·rw [if_neg h] at hf
  cases hf
section
variable {w h : Nat} {cs : List Int} (hw : w ≤ 7) (hh : h ≤ 7) (hs : w * h ≤ 36) (hn : cs.length = w * h)
include hw hh hs hn
theorem next_l0 (L : List Int) (hL : ∀ v ∈ L, 0 ≤ v ∧ v < ((w * h : Nat) : Int)) (hl : L.length ≤ 4) : ∀ (m t : Nat), t + m = L.length → Ev (fun k => spec_buNext.l0 k L L.length t w h cs) ((L.drop t).any (ballB cs))
 | 0, t, ht => by
  rw [List.drop_eq_nil_of_le (by omega)]
  refine Ev.step (Ev.const (o := some false) rfl) fun k => ?_
  rw [spec_buNext.l0, if_neg (by omega)]
 | m + 1, t, ht => by
  have ih := next_l0 L hL hl m (t + 1) (by omega)
  have hlt : t < L.length := by omega
  have hwt : wrap64 ((t : Int) + 1) = ((t + 1 : Nat) : Int) := by rw [w64 (by omega) (by omega)]; omega
  have hrd := rd_nat L t hlt
  have hv := hL _ (List.getElem_mem hlt)
  rw [List.drop_eq_getElem_cons hlt, List.any_cons]
  generalize L[t] = v at hrd hv ⊢
  have c1 : v < (cs.length : Int) := by omega
  have hgo : ∀ k, spec_buNext.l0 (k + 1) L L.length t w h cs = if ballB cs v = true then some true else spec_buNext.l0 k L L.length ((t + 1 : Nat) : Int) w h cs := by
   intro k
   rw [spec_buNext.l0, if_pos (by omega), if_pos (by omega), if_pos (by omega), hrd, if_pos hv.1, if_pos c1, tyBall_eq, Option.bind_some, hwt]
   rfl
  cases hb : ballB cs v with
  | true =>
   refine Ev.step (Ev.const (o := some true) rfl) fun k => ?_
   rw [hgo, if_pos hb]
  | false =>
   rw [Bool.false_or]
   refine Ev.step ih fun k => ?_
   rw [hgo, hb, if_neg Bool.false_ne_true]
theorem buNext_ev (a : Int) (ha : inCells cs a) : Ev (fun k => spec_buNext.f k w h cs a) (nextB w h cs a) := by
 unfold inCells at ha
 obtain ⟨j, rfl⟩ : ∃ j : Nat, a = j := ⟨a.toNat, by omega⟩
 have hj : j < w * h := by omega
 have h1 := near_ev hw hh hs hj cs
 have h2 := next_l0 hw hh hs hn (nbs w h j) (fun v hv => by have := nbs_at hw hh hs hj hv; exact ⟨this.1, this.2.1⟩) (nbs_len hw hh hs hj) _ 0 (Nat.zero_add _)
 rw [List.drop_zero] at h2
 exact Ev.bind (f := fun k t102 => spec_buNext.l0 k t102 (t102.length : Int) 0 w h cs) h1 h2
theorem buCan_ev (ho : ∀ c ∈ cs, c ≠ 35) (d : Nat) (hd : d < 4) (a : Int) (ha : inCells cs a) : Ev (fun k => spec_buCan.f k w h cs a d) (canB w h cs a d) := by
 refine Ev.bind (f := fun k (t102 : Bool) => (if t102 = true then ((spec_buNext.f k w h cs a).bind fun t103 => (some t103)) else (some false))) (buFree_ev hw hh hs hn ho d hd a ha) ?_
 unfold canB
 cases freeAt w h cs a d with
 | true => exact Ev.congr (Ev.bind (f := fun _ (t103 : Bool) => some t103) (buNext_ev hw hh hs hn a ha) (Ev.const rfl)) fun k => if_pos rfl
 | false => exact Ev.congr (Ev.const (o := some false) rfl) fun k => if_neg Bool.false_ne_true
def addedR (w h : Nat) (cs : List Int) (a : Int) : List Int := if rd cs a = 46 ∧ nextB w h cs a = true then freeTo w h cs a 4 else []
theorem added_ev (a : Int) (ha : inCells cs a) : Ev (fun k => impl_tray_added.f k w h cs a) (strOfNums (addedR w h cs a)) := by
 have hin := ha
 unfold inCells at hin
 have hf : ∀ k, impl_tray_added.f k w h cs a = if rd cs a = 46 then ((impl_tray_beside.f k w h cs a).bind fun nb => (if inB cs nb = true then (if nb.any (ballB cs) = true then impl_tray_freeWays.f k w h cs a else some ⟨#[]⟩) else none)) else some ⟨#[]⟩ := fun k => if_pos hin
 unfold addedR
 by_cases h46 : rd cs a = 46
 ·obtain ⟨j, rfl⟩ : ∃ j : Nat, a = j := ⟨a.toNat, by omega⟩
  have hj : j < w * h := by omega
  have h1 := beside_ev hw hh hs hj cs
  have hb : inB cs (nbs w h j) = true := by
   unfold inB
   rw [Bool.and_eq_true]
   refine ⟨decide_eq_true (by have := nbs_len hw hh hs hj; omega), List.all_eq_true.2 fun v hv => decide_eq_true ?_⟩
   have := nbs_at hw hh hs hj hv
   omega
  have hnx : (nbs w h j).any (ballB cs) = nextB w h cs (j : Int) := rfl
  refine Ev.congr (Ev.bind (f := fun k (nb : List Int) => (if inB cs nb = true then (if nb.any (ballB cs) = true then impl_tray_freeWays.f k w h cs (j : Int) else some ⟨#[]⟩) else none)) h1 ?_) fun k => by rw [hf, if_pos h46]
  cases hq : nextB w h cs (j : Int) with
  | true =>
   rw [if_pos ⟨h46, rfl⟩]
   refine Ev.congr (freeWays_ev hw hh hs hn _ ha) fun k => ?_
   rw [if_pos hb, hnx, hq, if_pos rfl]
  | false =>
   rw [if_neg fun h => Bool.false_ne_true h.2]
   refine Ev.congr (Ev.const (o := some ⟨#[]⟩) rfl) fun k => ?_
   rw [if_pos hb, hnx, hq, if_neg Bool.false_ne_true]
 ·rw [if_neg fun h => h46 h.1]
  refine Ev.congr (Ev.const (o := some ⟨#[]⟩) rfl) fun k => ?_
  rw [hf, if_neg h46]
end
end Go.Proofs.YtmefnfhghfemgaaDoor.Q
end
section
namespace Go.Proofs.YtmefnfhghfemgaaDoor.Q
set_option linter.unusedSectionVars false
open Go.RowKit Go.Proofs.YtmefnfhghfemgaaDoorW.PrintWords Go.Proofs.YtmefnfhghfemgaaDoorW.PrintLast Go.Proofs.YtmefnfhghfemgaaDoorW.PrintMore
theorem w64s (n : Nat) (h : n ≤ 1000000) : wrap64 ((n : Int) + 1) = ((n + 1 : Nat) : Int) := by rw [w64 (by omega) (by omega)]; omega
theorem strOf_list (l : List Int) : (strOfNums l).data.toList = l.map fun n => UInt8.ofNat n.toNat := rfl
end Go.Proofs.YtmefnfhghfemgaaDoor.Q
end
section
namespace Go.Proofs.YtmefnfhghfemgaaDoor.Q
open Go.RowKit Go.Shelf Go.Proofs.YtmefnfhghfemgaaDoorW.PrintWords Go.Proofs.YtmefnfhghfemgaaDoorW.PrintLast Go.Proofs.YtmefnfhghfemgaaDoorW.PrintMore
theorem bytes_at {w : World} {A : Option Addr} {l : List Int} (h : Kd.C (Kd.int .u8) w A l.length l) (h0 : 1 ≤ l.length) : ∃ b off, A = some ⟨b, off, none⟩ ∧ b < w.heap.size ∧ ∀ j, j < l.length → w.cell? ⟨b, off + j, none⟩ = some (.int .u8 (l.getD j 0)) := by
 obtain ⟨ad, rfl, _⟩ := Kd.at_int h 0 (by omega) (by omega)
 have hx : ∀ j : Nat, j < l.length → w.cell? (ad.add j) = some (.int .u8 (l.getD j 0)) := fun j hj => by
  obtain ⟨ad2, e2, h2⟩ := Kd.at_int h (j : Int) (by omega) (by omega)
  cases e2
  rw [Int.toNat_natCast] at h2
  rw [h2]
  unfold rd
  rw [Int.toNat_natCast]
 have h00 := hx 0 (by omega)
 have hsp : ad.spot = none := by
  rcases hs : ad.spot with _ | z
  ·rfl
  ·rw [Addr.add, if_pos rfl] at h00
   unfold World.cell? at h00
   split at h00
   ·rw [hs] at h00
    simp at h00
   ·cases h00
 obtain ⟨bk, o, sp⟩ := ad
 obtain rfl : sp = none := hsp
 refine ⟨bk, o, rfl, ?_, fun j hj => ?_⟩
 ·have := World.block_lt_of_cell? _ _ h00
  rw [Addr.add, if_pos rfl] at this
  exact this
 ·have h2 := hx j hj
  rw [Addr.add] at h2
  split at h2
  ·rename_i hz
   subst hz
   exact h2
  ·exact h2
end Go.Proofs.YtmefnfhghfemgaaDoor.Q
end
section
namespace Go.Proofs.YtmefnfhghfemgaaDoor.Q
open Go.RowKit Go.Shelf Go.Proofs.YtmefnfhghfemgaaDoorW.PrintWords Go.Proofs.YtmefnfhghfemgaaDoorW.PrintLast Go.Proofs.YtmefnfhghfemgaaDoorW.PrintMore
def slices_Clone_u8.f (l0 : List Int) : Option (List Int) := if 1 ≤ l0.length ∧ l0.length ≤ 1000000 then some l0 else none
set_option maxHeartbeats 4000000 in
set_option maxRecDepth 100000 in
theorem slices_Clone_u8.calls (A0 : Option Addr) (c0 : Nat) (l0 : List Int) (r : List Int) (w : World) (hr0 : Kd.C (Kd.int .u8) w A0 l0.length l0) (hc0 : l0.length ≤ c0) (h : slices_Clone_u8.f l0 = some r) :
  Calls Tryd.prog 134 #[.slice A0 l0.length c0] w fun e w' => ∃ v0_ : Value, e = .returned (v0_) ∧ Kd.R (Kd.int .u8) 5 w' w.heap.size (fun _ => True) v0_ r ∧ Below w.heap.size w w' := by
 unfold slices_Clone_u8.f at h
 split at h
 case isFalse => cases h
 rename_i hn
 obtain rfl := Option.some.inj h
 obtain ⟨b, off, rfl, hb, hcell⟩ := bytes_at hr0 hn.1
 have q37 : ∀ (w : World) (a : Option Addr) (n c n' c' : Nat), (binOp .eql 38 (.slice a n c) (.slice none n' c')).run Tryd.prog w = .ok (.bool a.isNone) w := fun w a n c n' c' => Lib.run_eql_slice_nil w _ _ a n c n' c' Tryd.underlying38
 obtain ⟨i0, hi, hz0, hz1, hz2⟩ := info_parts info5
 have HC := Aside0.mk hcell
 clear hcell hr0 hc0 h
 go_enter Tryd.func134, Tryd.ntmps134
 go_wp2_with (at_builtin; refine wpList_append_own _ rfl _ _ 38 rfl w.heap.size 5 i0 (.int .u8 0) 1 1 Tryd.underlying38 hi hz0 hz1 hz2 rfl (by decide) _ _ _ rfl (World.ownsRow_made w #[] 0 (Nat.le_refl _) (Nat.zero_le _) (by simp)) ⟨b, off, none⟩ l0.length c0 (l0.map (Value.int .u8)) rfl ?qc1 ?qc2 ?qc3 ?qc4 ?qc5 ?qc6 ?_)
 case qc1 => simp
 case qc2 =>
  intro j u hj
  rw [Addr.add_lit]
  have hjl : j < l0.length := by
   have := (List.getElem?_eq_some_iff.1 hj).1
   simpa using this
  have h2 := HC.out j hjl
  rw [List.getElem?_map, List.getElem?_eq_getElem hjl] at hj
  obtain rfl := Option.some.inj hj
  rw [List.getD_eq_getElem?_getD, List.getElem?_eq_getElem hjl] at h2
  exact Lib.cell?_alloc_some _ h2
 case qc3 =>
  intro u hu
  obtain ⟨x, _, rfl⟩ := List.mem_map.1 hu
  rfl
 case qc4 => simp [maxLen]; omega
 case qc5 => omega
 case qc6 => simp
 intro v' w1 hown hgrow hnil
 go_wp2
 go_ret
 refine ⟨v', rfl, Kd.R_of_own (enc := Value.int .u8) (show w1.ownsRow w.heap.size 5 1 v' l0.length (l0.map (Value.int .u8)) by simpa using hown) (fun _ _ => trivial), ?_⟩
 exact ((Below.refl _ w).alloc (Nat.le_refl _) _).grown hgrow (by simp) (by intro k hk; simp [Value.ownBlock] at hk; omega)
end Go.Proofs.YtmefnfhghfemgaaDoor.Q
end
