/- Texts of this claim, joined. -/
import Derived.Test.YtggdmblknkcigaaGreatDoorJLastCells01
import Derived.Test.YtggdmblknkcigaaGreatDoorJLastCells04
import Derived.Test.YtggdmblknkcigaaGreatDoorJLastCells06
import Derived.Test.YtggdmblknkcigaaGreatDoorJLastCells02
import Derived.RangeFuncBox
set_option linter.unusedVariables false
set_option linter.unusedSimpArgs false
set_option linter.unusedSectionVars false
section
namespace Go.Proofs.YtggdmblknkcigaaGreatDoor.Q
open Go.RowKit Go.Proofs.YtggdmblknkcigaaGreatDoorW.PrintWords Go.Proofs.YtggdmblknkcigaaGreatDoorW.PrintLast Go.Proofs.YtggdmblknkcigaaGreatDoorW.PrintMore
attribute [local go_sem] max2_int min2_int max_two min_two max_three min_three max_four min_four
set_option linter.unusedVariables false
set_option linter.unusedSimpArgs false
def impl_CellsOfForm.f (k : Nat) (a0 : ByteArray) : Option (List Int × Bool) := (impl_IsForm.f k a0).bind fun t101 => (if t101 = true then ((impl_read.f a0).bind fun bt102 => ((impl_tray_indices_isBall.f k bt102.1 bt102.2.1 bt102.2.2 ()).bind fun t107 => (some (t107, true)))) else (some (([] : List Int), false)))
set_option maxHeartbeats 8000000 in
set_option maxRecDepth 100000 in
theorem impl_CellsOfForm.calls (k : Nat) (a0 : ByteArray) (r1 : List Int) (r2 : Bool) (w : World) (hG : GoodW w) (h : impl_CellsOfForm.f k a0 = some (r1, r2)) :
  Calls Tryz.prog 23 #[.string a0] w fun e w' => ∃ v0_ : Value, e = .returned (.tuple #[v0_, .bool r2]) ∧ Kd.R (Kd.int .i64) 3 w' w.heap.size (fun _ => True) v0_ r1 ∧ Below w.heap.size w w' := by
 have HG := Aside0.mk hG
 clear hG
 have HB := Aside0.mk (Below.refl w.heap.size w)
 have H : ((impl_IsForm.f k a0).bind fun t101 => (if t101 = true then ((impl_read.f a0).bind fun bt102 => ((impl_tray_indices_isBall.f k bt102.1 bt102.2.1 bt102.2.2 ()).bind fun t107 => (some (t107, true)))) else (some (([] : List Int), false)))) = some (r1, r2) := h
 clear h
 replace H := Option.bind_eq_some_iff.mp H
 obtain ⟨t101, A20, H⟩ := H
 replace H : (if t101 = true then ((impl_read.f a0).bind fun bt102 => ((impl_tray_indices_isBall.f k bt102.1 bt102.2.1 bt102.2.2 ()).bind fun t107 => (some (t107, true)))) else (some (([] : List Int), false))) = some (r1, r2) := H
 have A2 := Aside0.mk A20
 clear A20
 by_cases c3 : t101 = true
 ·subst c3
  have H1 : ((impl_read.f a0).bind fun bt102 => ((impl_tray_indices_isBall.f k bt102.1 bt102.2.1 bt102.2.2 ()).bind fun t107 => (some (t107, true)))) = some (r1, r2) := by rw [if_pos rfl] at H; exact H
  clear H
  have H := H1
  clear H1
  replace H := Option.bind_eq_some_iff.mp H
  obtain ⟨⟨t102, t103, t104⟩, A40, H⟩ := H
  replace H : ((impl_tray_indices_isBall.f k t102 t103 t104 ()).bind fun t107 => (some (t107, true))) = some (r1, r2) := H
  have A4 := Aside0.mk A40
  clear A40
  replace H := Option.bind_eq_some_iff.mp H
  obtain ⟨t107, A50, H⟩ := H
  replace H : (some (t107, true)) = some (r1, r2) := H
  have A5 := Aside0.mk A50
  clear A50
  simp only [Option.some.injEq, Prod.mk.injEq] at H
  obtain ⟨rfl, rfl⟩ := H
  go_enter Tryz.func23, Tryz.ntmps23
  go_wp2_with (first | ((with_reducible refine gate_callee (f := 40) rfl ?_); refine gcall (some 5) Tryz.func40 #[.string a0] rfl ?_; (with_reducible refine (impl_IsForm.calls k a0 true _ ?side1 A2.out).mono ?_); (case side1 => (refine GoodW.below HG.out ?_); exact bel HB); rintro e w6 ⟨rfl, hb⟩; refine ⟨_, rfl, ?_⟩; have n0_ := Aside0.mk (below_step (bel HB) hb); clear HB; have HB := n0_; clear n0_; (try clear hb); (try clear hb2); (try clear hk); (try clear hi)) | ((with_reducible refine gate_callee (f := 18) rfl ?_); refine gcall (some 8) Tryz.func18 #[.string a0] rfl ?_; (with_reducible refine (impl_read.calls a0 t102 t103 t104 _ ?side1 A4.out).mono ?_); (case side1 => (refine GoodW.below HG.out ?_); exact bel HB); rintro e w7 ⟨v105, rfl, ho0, hb⟩; refine ⟨_, rfl, ?_⟩; have n0_ := Aside0.mk (Kd.V_lower (Kd.V_mono (ok' := fun k_ => True) ho0 (fun k_ hk_ => trivial)) (below_size (bel HB))); have n1_ := Aside0.mk (below_step (bel HB) hb); clear HB; have HO106 := n0_; have HB := n1_; clear n0_ n1_; (try clear hb); (try clear hb2); (try clear hk); (try clear hi); (try clear ho0); obtain ⟨Ao8, co8, eo8⟩ := Kd.V_slice HO106.out; subst eo8) | ((with_reducible refine gate_callee (f := 41) rfl ?_); refine gcall (some 9) Tryz.func41 #[.agg #[.int .i64 t102, .int .i64 t103, .slice Ao8 t104.length co8], .func (.func 42) #[] #[]] rfl ?_; (with_reducible refine (impl_tray_indices_isBall.calls k t102 t103 _ _ t104 () t107 _ ?side1 ?side2 A5.out).mono ?_); (case side1 => repeat (first | exact (Kd.V_reads' HO106.out).2.2 | (with_reducible refine Kd.C_alloc ?_ _) | (with_reducible refine Kd.C_drewN ?_ _) | (with_reducible refine Kd.C_drew ?_))); (case side2 => exact (Kd.V_reads' HO106.out).2.1); rintro e w9 ⟨v108, rfl, ho0, hb⟩; refine ⟨_, rfl, ?_⟩; have n0_ := Aside0.mk (Kd.V_elder' (by (with_reducible repeat (first | apply Kd.V_alloc | apply Kd.V_drewN | apply Kd.V_drew)); (first | exact HO106.out | exact R_any HO106.out)) (Kd.R_base ho0) hb); have n1_ := Aside0.mk (Kd.R_lower ho0 (below_size (bel HB))); have n2_ := Aside0.mk (below_step (bel HB) hb); clear HO106; clear HB; have HO106 := n0_; have HO109 := n1_; have HB := n2_; clear n0_ n1_ n2_; (try clear hb); (try clear hb2); (try clear hk); (try clear hi); (try clear ho0)))
  go_ret2
  exact ⟨_, by first | rfl | (simp [errW_none, errW_some] <;> rfl) | (simp [*, errW_none, errW_some] <;> rfl), rch HO109, bel HB⟩
 ·replace c3 := Bool.eq_false_iff.mpr c3
  subst c3
  have H1 : (some (([] : List Int), false)) = some (r1, r2) := by rw [if_neg (show ¬ (false = true) by decide)] at H; exact H
  clear H
  have H := H1
  clear H1
  simp only [Option.some.injEq, Prod.mk.injEq] at H
  obtain ⟨rfl, rfl⟩ := H
  go_enter Tryz.func23, Tryz.ntmps23
  go_wp2_with (first | ((with_reducible refine gate_callee (f := 40) rfl ?_); refine gcall (some 5) Tryz.func40 #[.string a0] rfl ?_; (with_reducible refine (impl_IsForm.calls k a0 false _ ?side1 A2.out).mono ?_); (case side1 => (refine GoodW.below HG.out ?_); exact bel HB); rintro e w10 ⟨rfl, hb⟩; refine ⟨_, rfl, ?_⟩; have n0_ := Aside0.mk (below_step (bel HB) hb); clear HB; have HB := n0_; clear n0_; (try clear hb); (try clear hb2); (try clear hk); (try clear hi)))
  go_ret2
  exact ⟨_, by first | rfl | (simp [errW_none, errW_some] <;> rfl) | (simp [*, errW_none, errW_some] <;> rfl), by first | exact Kd.R_nil _ _ _ _ _ | exact Kd.N_nil _ _ _ _ _ | exact Kd.V_nil _ _ _ _ _ | exact Kd.Q_nil _ _ _ _ _ | exact Kd.S_nil _ _ _ _ _, bel HB⟩
end Go.Proofs.YtggdmblknkcigaaGreatDoor.Q
end
section
namespace Go.Proofs.YtggdmblknkcigaaGreatDoor.Q
set_option linter.unusedSectionVars false
set_option linter.unusedSimpArgs false
open Go.RowKit Go.Proofs.YtggdmblknkcigaaGreatDoorW.PrintWords Go.Proofs.YtggdmblknkcigaaGreatDoorW.PrintLast Go.Proofs.YtggdmblknkcigaaGreatDoorW.PrintMore
def takeL (k : Nat) (s : ByteArray) : List Int → Option (List Int)
 | [] => some []
 | x :: l => (impl_TakeCell.f k s x).bind fun r => (takeL k s l).bind fun m => some (if r.2 = true then x :: m else m)
def pT (k : Nat) (s : ByteArray) (x : Int) : Bool := match impl_TakeCell.f k s x with
 | some r => !r.2
 | none => true
theorem takeL_spec (k : Nat) (s : ByteArray) : ∀ (l m : List Int), takeL k s l = some m → (∀ x ∈ l, ∃ r, impl_TakeCell.f k s x = some r ∧ (!r.2) = pT k s x) ∧ m = l.filter fun x => !pT k s x
 | [], m, h => ⟨fun x hx => by simp at hx, (Option.some.inj h).symm⟩
 | x :: l, m, h => by
  unfold takeL at h
  obtain ⟨r, hr, h⟩ := Option.bind_eq_some_iff.1 h
  obtain ⟨m', hm, h⟩ := Option.bind_eq_some_iff.1 h
  obtain ⟨h1, h2⟩ := takeL_spec k s l m' hm
  have hp : (!r.2) = pT k s x := by
   unfold pT
   rw [hr]
  refine ⟨fun y hy => ?_, ?_⟩
  ·rcases List.mem_cons.1 hy with rfl | hy
   ·exact ⟨r, hr, hp⟩
   ·exact h1 y hy
  ·rw [← Option.some.inj h, List.filter_cons, ← hp, Bool.not_not, h2]
def impl_LastCells.f (k : Nat) (a0 : ByteArray) : Option (List Int × Bool) :=
 (impl_CellsOfForm.f k a0).bind fun c => if c.1.length ≤ 1000000 then (takeL k a0 c.1).bind fun m => some (m, c.2) else none
set_option maxHeartbeats 4000000 in
set_option maxRecDepth 100000 in
theorem last_pred (k : Nat) (s : ByteArray) (g : Nat) (x : Int) (r : ByteArray × Bool) (W : World) (hG : GoodW W) (hc : W.cell? ⟨g, 0, none⟩ = some (.string s)) (h : impl_TakeCell.f k s x = some r) (b : Bool) (hb : (!r.2) = b) :
  Calls Tryz.prog 25 (#[.int .i64 x] ++ #[.pointer (some ⟨g, 0, none⟩)]) W fun e W' => e = .returned (.bool b) ∧ Below W.heap.size W W' := by
 obtain ⟨r1, r2⟩ := r
 subst hb
 have HT := Aside0.mk (impl_TakeCell.calls k s x r1 r2 W hG h)
 clear hG h
 show Calls Tryz.prog 25 #[.int .i64 x, .pointer (some ⟨g, 0, none⟩)] W _
 go_enter Tryz.func25, Tryz.ntmps25
 go_wp2_with fail
 refine HT.out.mono ?_
 rintro e w' ⟨rfl, hb⟩
 go_wp2
 go_ret
 exact ⟨rfl, hb⟩
set_option maxHeartbeats 8000000 in
set_option maxRecDepth 100000 in
theorem impl_LastCells.calls (k : Nat) (a0 : ByteArray) (r1 : List Int) (r2 : Bool) (w : World) (hG : GoodW w) (h : impl_LastCells.f k a0 = some (r1, r2)) :
  Calls Tryz.prog 8 #[.string a0] w fun e w' => ∃ v0_ : Value, e = .returned (.tuple #[v0_, .bool r2]) ∧ Kd.R (Kd.int .i64) 3 w' w.heap.size (fun _ => True) v0_ r1 ∧ Below w.heap.size w w' := by
 unfold impl_LastCells.f at h
 obtain ⟨⟨c, ok⟩, hc, h⟩ := Option.bind_eq_some_iff.1 h
 split at h
 case isFalse => cases h
 rename_i hlen
 obtain ⟨m, hm, h⟩ := Option.bind_eq_some_iff.1 h
 simp only [Option.some.injEq, Prod.mk.injEq] at h
 obtain ⟨rfl, rfl⟩ := h
 obtain ⟨hall, rfl⟩ := takeL_spec k a0 c m hm
 have HG := Aside0.mk hG
 have HC := Aside0.mk hc
 have HL := Aside0.mk hlen
 have HA := Aside0.mk hall
 clear hG hc hlen hm hall
 go_enter Tryz.func8, Tryz.ntmps8
 go_wp2_with (first
  | ((with_reducible refine gate_dst (N := 1) rfl ?_); refine box_event ?hg (N := 1) ?hd (cs := #[.string a0]) (t := 9) ?hr ?_; (case hd => rfl); (case hg => rfl); (case hr => first | (go_simp; done) | (go_simp; rfl)); intro gb hg w1 hbox hb; (have HB1 := Aside0.mk hb); (have HS1 := Aside0.mk (blk_lt hbox)); (have HX1 := Aside0.mk ((blk_cell hbox 0).trans rfl)); (have z0 := HX1.out); clear hbox hb hg)
  | (go_at_call 23; refine (impl_CellsOfForm.calls k a0 c ok _ (GoodW.below HG.out HB1.out) HC.out).mono ?_; rintro e w2 ⟨v2, rfl, hr2, hb2⟩; (obtain ⟨A2, c2, e2⟩ := Kd.R_slice hr2); subst e2; (have HR2 := Aside0.mk hr2); (have HB2 := Aside0.mk hb2); clear hr2 hb2 z0))
 have hD := delI 25 #[.pointer (some ⟨gb, 0, none⟩)] (enters_of Tryz.func25 (by kernel_rfl) rfl) (pT k a0) A2 c2 c w1.heap.size w2 HR2.out HB2.out.size HL.out (fun W hW x hx => by
  obtain ⟨r, hr, hb⟩ := HA.out x hx
  have h1 := HB2.out.trans hW
  exact last_pred k a0 gb x r W (GoodW.below (GoodW.below HG.out HB1.out) h1) ((h1.cell (p := ⟨gb, 0, none⟩) HS1.out).trans HX1.out) hr _ hb)
 refine hD.mono ?_
 rintro e w3 ⟨v3, rfl, hr3, hb3⟩
 have HR3 := Aside0.mk (Kd.R_lower hr3 HB1.out.size)
 have HB3 := Aside0.mk (below_then HB1.out HB1.out.size (HB2.out.trans hb3))
 clear hD hr3 hb3
 go_wp2
 go_ret2
 exact ⟨_, rfl, HR3.out, HB3.out⟩
end Go.Proofs.YtggdmblknkcigaaGreatDoor.Q
end
section
namespace Go.Proofs.YtggdmblknkcigaaGreatDoor.Q
open Go.RowKit Go.Proofs.YtggdmblknkcigaaGreatDoorW.PrintWords Go.Proofs.YtggdmblknkcigaaGreatDoorW.PrintLast Go.Proofs.YtggdmblknkcigaaGreatDoorW.PrintMore
attribute [local go_sem] max2_int min2_int max_two min_two max_three min_three max_four min_four
set_option linter.unusedVariables false
set_option linter.unusedSimpArgs false
def spec_LastCells.l0 : Nat → List Int → Int → Int → Int → Int → List Int → Option (List Int × Bool)
 | 0, _, _, _, _, _, _ => none
 | k + 1, x6, x19, x20, x108000, x108001, x108002 => if x20 < x19 then ((spec_buTake.f k x108000 x108001 x108002 x20).bind fun bt108 => (if bt108.2.2.2 = true then (if x6.length < 17592186044416 then (spec_LastCells.l0 k (x6 ++ [x20]) x19 (wrap64 (x20 + 1)) x108000 x108001 x108002) else (none)) else (spec_LastCells.l0 k x6 x19 (wrap64 (x20 + 1)) x108000 x108001 x108002))) else (some (x6, true))
def spec_LastCells.f (k : Nat) (a0 : ByteArray) : Option (List Int × Bool) := (spec_buRead.f k a0).bind fun bt101 => (if bt101.2.2.2 = true then (spec_LastCells.l0 k ([] : List Int) (bt101.2.2.1.length : Int) 0 bt101.1 bt101.2.1 bt101.2.2.1) else (some (([] : List Int), false)))
set_option maxHeartbeats 8000000 in
set_option maxRecDepth 100000 in
theorem spec_LastCells.calls (k : Nat) (a0 : ByteArray) (r1 : List Int) (r2 : Bool) (w : World) (h : spec_LastCells.f k a0 = some (r1, r2)) :
  Calls Tryz.prog 7 #[.string a0] w fun e w' => ∃ v0_ : Value, e = .returned (.tuple #[v0_, .bool r2]) ∧ Kd.R (Kd.int .i64) 3 w' w.heap.size (fun _ => True) v0_ r1 ∧ Below w.heap.size w w' := by
 have hu33 := Tryz.underlying33
 have HB := Aside0.mk (Below.refl w.heap.size w)
 have H : ((spec_buRead.f k a0).bind fun bt101 => (if bt101.2.2.2 = true then (spec_LastCells.l0 k ([] : List Int) (bt101.2.2.1.length : Int) 0 bt101.1 bt101.2.1 bt101.2.2.1) else (some (([] : List Int), false)))) = some (r1, r2) := h
 clear h
 replace H := Option.bind_eq_some_iff.mp H
 obtain ⟨⟨t101, t102, t103, t106⟩, A20, H⟩ := H
 replace H : (if t106 = true then (spec_LastCells.l0 k ([] : List Int) (t103.length : Int) 0 t101 t102 t103) else (some (([] : List Int), false))) = some (r1, r2) := H
 have A2 := Aside0.mk A20
 clear A20
 by_cases c3 : t106 = true
 ·subst c3
  have H1 : (spec_LastCells.l0 k ([] : List Int) (t103.length : Int) 0 t101 t102 t103) = some (r1, r2) := by rw [if_pos rfl] at H; exact H
  clear H
  have H := H1
  clear H1
  have H' := Aside0.mk H
  clear H
  go_enter Tryz.func7, Tryz.ntmps7
  go_wp2_with (first | ((with_reducible refine gate_callee (f := 21) rfl ?_); refine gcall (some 12) Tryz.func21 #[.string a0] rfl ?_; (with_reducible refine (spec_buRead.calls k a0 t101 t102 t103 true _ A2.out).mono ?_); rintro e w4 ⟨v104, rfl, ho0, hb⟩; refine ⟨_, rfl, ?_⟩; have n0_ := Aside0.mk (Kd.R_lower ho0 (below_size (bel HB))); have n1_ := Aside0.mk (below_step (bel HB) hb); clear HB; have HO105 := n0_; have HB := n1_; clear n0_ n1_; (try clear hb); (try clear hb2); (try clear hk); (try clear hi); (try clear ho0)) | ((with_reducible refine gate_dst (N := 4) rfl ?_); refine boxE (N := 4) (cs := #[.int .i64 0, .int .i64 0, .slice none 0 0]) (t := 33) ?_; intro gb107 hg w5 hbox hb; have n0_ := Aside0.mk (Kd.R_below (rch HO105) hb); have n1_ := Aside0.mk (below_step (bel HB) hb); have n2_ := Aside0.mk (hbox); have n3_ := Aside0.mk (gsz hg (bel HB)); have n4_ := Aside0.mk (gsz hg (bel HB)); clear HO105; clear HB; have HO105 := n0_; have HB := n1_; have BK107 := n2_; have GW107 := n3_; have GE107 := n4_; clear n0_ n1_ n2_ n3_ n4_; clear hb hbox hg; have hcz6_0 : w5.cell? ⟨gb107, 0, none⟩ = some (.int .i64 0) := (blk_cell BK107.out 0).trans rfl; have hcz6_1 : w5.cell? ⟨gb107, 1, none⟩ = some (.int .i64 0) := (blk_cell BK107.out 1).trans rfl; have hcz6_2 : w5.cell? ⟨gb107, 2, none⟩ = some (.slice none 0 0) := (blk_cell BK107.out 2).trans rfl; have hfz6_0 := blk_frozen BK107.out 0; have hfz6_1 := blk_frozen BK107.out 1; have hfz6_2 := blk_frozen BK107.out 2; obtain ⟨Ao7, co7, eo7⟩ := Kd.R_slice HO105.out; subst eo7))
  go_loopg [6, 20] k (fun kq v6 v20 w' => ∃ (x6_1 : List Int) (x20_1 : Int), v20 = .int .i64 x20_1 ∧ Aside0 (spec_LastCells.l0 kq x6_1 (t103.length : Int) x20_1 t101 t102 t103 = some (r1, r2)) ∧ Aside0 (kq ≤ k) ∧ Aside0 (Kd.R (Kd.int .i64) 3 w' w.heap.size (fun _ => True) v6 x6_1) ∧ Aside0 (Kd.R (Kd.int .u8) 5 w' w.heap.size (fun _ => True) (.slice Ao7 t103.length co7) t103) ∧ Aside0 (w'.heap[gb107]? = some (.cells #[.int .i64 t101, .int .i64 t102, (.slice Ao7 t103.length co7)] 33 (0, 0))) ∧ Aside0 (Below w.heap.size w w'))
  case atStart => exact ⟨(([] : List Int)), (0), (by first | rfl | (simp; done) | (simp [*]; done)), H', ⟨Nat.le_refl _⟩, ⟨by first | exact Kd.R_nil _ _ _ _ _ | exact Kd.N_nil _ _ _ _ _ | exact Kd.V_nil _ _ _ _ _ | exact Kd.Q_nil _ _ _ _ _ | exact Kd.S_nil _ _ _ _ _⟩, ⟨by (with_reducible repeat (first | apply Kd.R_alloc | apply Kd.R_drewN | apply Kd.R_drew)); exact Kd.R_mono (Kd.R_far (p := ⟨gb107, 2, none⟩) (Kd.R_far (p := ⟨gb107, 1, none⟩) (Kd.R_far (p := ⟨gb107, 0, none⟩) (Kd.R_types HO105.out BK107.out (by decide)) (fun _ hk => hk.2) (.int .i64 t101)) (fun _ hk => hk.2) (.int .i64 t102)) (fun _ hk => hk.2) (.slice Ao7 t103.length co7)) (fun _ hk => trivial)⟩, ⟨by (with_reducible repeat (first | refine blk_drewN ?_ _ | refine blk_drew ?_ | refine blk_alloc ?_ _)); refine blk_put (cs := #[.int .i64 t101, .int .i64 t102, .slice none 0 0]) ?_ 2 _ rfl; (with_reducible repeat (first | refine blk_drewN ?_ _ | refine blk_drew ?_ | refine blk_alloc ?_ _)); refine blk_put (cs := #[.int .i64 t101, .int .i64 0, .slice none 0 0]) ?_ 1 _ rfl; (with_reducible repeat (first | refine blk_drewN ?_ _ | refine blk_drew ?_ | refine blk_alloc ?_ _)); refine blk_put (cs := #[.int .i64 0, .int .i64 0, .slice none 0 0]) ?_ 0 _ rfl; exact blc⟩, ⟨bel HB⟩⟩
  case round =>
   clear H'
   try clear c2
   try clear p2
   try clear c3
   try clear c7
   try clear hcz6_0
   try clear hcz6_1
   try clear hcz6_2
   try clear hfz6_0
   try clear hfz6_1
   try clear hfz6_2
   obtain ⟨x6_1, x20_1, rfl, HA, HK1, HO_6, HO_108002, BK107, HB⟩ := hrel
   cases gk with
   | zero => exact absurd HA.out (by simp [spec_LastCells.l0])
   | succ k1 =>
    have H := HA.out
    clear HA
    simp only [spec_LastCells.l0] at H
    by_cases c8 : x20_1 < (t103.length : Int)
    ·rw [if_pos c8] at H
     have c8b0 : decide (x20_1 < (t103.length : Int)) = true := decide_eq_true c8
     clear c8
     replace H := Option.bind_eq_some_iff.mp H
     obtain ⟨⟨t108, t109, t110, t113⟩, A90, H⟩ := H
     replace H : (if t113 = true then (if x6_1.length < 17592186044416 then (spec_LastCells.l0 k1 (x6_1 ++ [x20_1]) (t103.length : Int) (wrap64 (x20_1 + 1)) t101 t102 t103) else (none)) else (spec_LastCells.l0 k1 x6_1 (t103.length : Int) (wrap64 (x20_1 + 1)) t101 t102 t103)) = some (r1, r2) := H
     have A9 := Aside0.mk A90
     clear A90
     by_cases c10 : t113 = true
     ·subst c10
      have H1 : (if x6_1.length < 17592186044416 then (spec_LastCells.l0 k1 (x6_1 ++ [x20_1]) (t103.length : Int) (wrap64 (x20_1 + 1)) t101 t102 t103) else (none)) = some (r1, r2) := by rw [if_pos rfl] at H; exact H
      clear H
      have H := H1
      clear H1
      by_cases c11 : x6_1.length < 17592186044416
      ·rw [if_pos c11] at H
       have LMc11 := Aside0.mk c11
       clear c11
       obtain ⟨y115, hy115⟩ : ∃ y_ : List Int, y_ = (x6_1 ++ [x20_1]) := ⟨_, rfl⟩
       replace H : (spec_LastCells.l0 k1 y115 (t103.length : Int) (wrap64 (x20_1 + 1)) t101 t102 t103) = some (r1, r2) := rH hy115 H
       have Ny115 := Aside0.mk hy115
       clear hy115
       have H' := Aside0.mk H
       clear H
       have hcz12_0 : wr.cell? ⟨gb107, 0, none⟩ = some (.int .i64 t101) := (blk_cell BK107.out 0).trans rfl
       have hcz12_1 : wr.cell? ⟨gb107, 1, none⟩ = some (.int .i64 t102) := (blk_cell BK107.out 1).trans rfl
       have hcz12_2 : wr.cell? ⟨gb107, 2, none⟩ = some (.slice Ao7 t103.length co7) := (blk_cell BK107.out 2).trans rfl
       have hfz12_0 := blk_frozen BK107.out 0
       have hfz12_1 := blk_frozen BK107.out 1
       have hfz12_2 := blk_frozen BK107.out 2
       go_wp2_with (first | ((with_reducible refine gate_callee (f := 22) rfl ?_); refine gcall (some 26) Tryz.func22 #[.agg #[.int .i64 t101, .int .i64 t102, .slice Ao7 t103.length co7], .int .i64 x20_1] rfl ?_; (with_reducible refine (spec_buTake.calls k1 t101 t102 _ _ t103 x20_1 t108 t109 t110 true _ ?side1 ?side2 A9.out).mono ?_); (case side1 => repeat (first | exact (Kd.R_reads' HO_108002.out).2.2 | (with_reducible refine Kd.C_alloc ?_ _) | (with_reducible refine Kd.C_drewN ?_ _) | (with_reducible refine Kd.C_drew ?_))); (case side2 => exact (Kd.R_reads' HO_108002.out).2.1); rintro e w13 ⟨v111, rfl, ho0, hb⟩; refine ⟨_, rfl, ?_⟩; have n0_ := Aside0.mk (Kd.R_below (rch HO_6) hb); have n1_ := Aside0.mk (Kd.R_elder' (rch HO_108002) (Kd.R_base ho0) hb); have n2_ := Aside0.mk (Kd.R_lower (Kd.R_new' ho0 (Kd.R_lt (rch HO_108002))) (below_size (bel HB))); have n3_ := Aside0.mk (blk_below (g := gb107) (o := .cells #[.int .i64 t101, .int .i64 t102, .slice Ao7 t103.length co7] 33 (0, 0)) blc hb); have n4_ := Aside0.mk (below_step (bel HB) hb); clear HO_6; clear HO_108002; clear BK107; clear HB; have HO_6 := n0_; have HO_108002 := n1_; have HO112 := n2_; have BK107 := n3_; have HB := n4_; clear n0_ n1_ n2_ n3_ n4_; (try clear hb); (try clear hb2); (try clear hk); (try clear hi); (try clear ho0)) | ((with_reducible refine gate_dst (N := 8) rfl ?_); refine boxE (N := 8) (cs := #[.int .i64 0, .int .i64 0, .slice none 0 0]) (t := 33) ?_; intro gb114 hg w14 hbox hb; have n0_ := Aside0.mk (Kd.R_below (rch HO_6) hb); have n1_ := Aside0.mk (Kd.R_below (rch HO_108002) hb); have n2_ := Aside0.mk (Kd.R_below (rch HO112) hb); have n3_ := Aside0.mk (blk_below (g := gb107) (o := .cells #[.int .i64 t101, .int .i64 t102, .slice Ao7 t103.length co7] 33 (0, 0)) blc hb); have n4_ := Aside0.mk (below_step (bel HB) hb); have n5_ := Aside0.mk (hbox); have n6_ := Aside0.mk (gsz hg (bel HB)); have n7_ := Aside0.mk (gsz hg (bel HB)); have n8_ := Aside0.mk ((by rw [hg]; exact Nat.ne_of_lt (blk_lt (g := gb107) (o := .cells #[.int .i64 t101, .int .i64 t102, .slice Ao7 t103.length co7] 33 (0, 0)) blc) : gb107 ≠ gb114)); have n9_ := Aside0.mk ((by rw [hg]; exact Nat.ne_of_gt (blk_lt (g := gb107) (o := .cells #[.int .i64 t101, .int .i64 t102, .slice Ao7 t103.length co7] 33 (0, 0)) blc) : gb114 ≠ gb107)); clear HO_6; clear HO_108002; clear HO112; clear BK107; clear HB; have HO_6 := n0_; have HO_108002 := n1_; have HO112 := n2_; have BK107 := n3_; have HB := n4_; have BK114 := n5_; have GW114 := n6_; have GE114 := n7_; have NB107_114 := n8_; have NB114_107 := n9_; clear n0_ n1_ n2_ n3_ n4_ n5_ n6_ n7_ n8_ n9_; clear hb hbox hg; have hnb15 := NB114_107.out; have hnc15 := NB107_114.out; have hcz16_0 : w14.cell? ⟨gb114, 0, none⟩ = some (.int .i64 0) := (blk_cell BK114.out 0).trans rfl; have hcz16_1 : w14.cell? ⟨gb114, 1, none⟩ = some (.int .i64 0) := (blk_cell BK114.out 1).trans rfl; have hcz16_2 : w14.cell? ⟨gb114, 2, none⟩ = some (.slice none 0 0) := (blk_cell BK114.out 2).trans rfl; have hfz16_0 := blk_frozen BK114.out 0; have hfz16_1 := blk_frozen BK114.out 1; have hfz16_2 := blk_frozen BK114.out 2; obtain ⟨Ao17, co17, eo17⟩ := Kd.R_slice HO112.out; subst eo17) | ((with_reducible refine gate_builtin (b := .append) (xs := #[.tmp 30, .tmp 32]) rfl ?_); at_builtin; refine Kd.R_append (Kd.int .i64) (w0 := w) w.heap.size rfl (.tmp 30) (.tmp 32) 25 3 (.int .i64 0) 8 rfl Tryz.underlying25 info3 rfl (by decide) (by omega) u6 x6_1 x20_1 [.int .i64 x20_1] (fun _ => True) (fun _ => False) rfl (by first | (go_simp; done) | (go_simp; rfl)) ?aP (fun _ hk => hk.elim) ?aF ?aO ?aB ?aS ?aL ?_; (case aP => exact rfl); (case aB => exact (bel HB)); (case aF => exact (fun _ _ => trivial)); (case aO => exact (by (with_reducible repeat (first | apply Kd.R_alloc | apply Kd.R_drewN | apply Kd.R_drew)); exact Kd.R_mono (Kd.R_far (p := ⟨gb114, 2, none⟩) (Kd.R_far (p := ⟨gb114, 1, none⟩) (Kd.R_far (p := ⟨gb114, 0, none⟩) (Kd.R_types HO_6.out BK114.out (by decide)) (fun _ hk => hk.2) (.int .i64 t108)) (fun _ hk => hk.2) (.int .i64 t109)) (fun _ hk => hk.2) (.slice Ao17 t110.length co17)) (fun _ hk => trivial))); (case aS => exact (below_size (bel HB))); (case aL => have := LMc11.out; omega); intro v116 w18 ho hb hg hat; rw [← Ny115.out] at ho; have n0_ := Aside0.mk (Kd.R_over' (by (with_reducible repeat (first | apply Kd.R_alloc | apply Kd.R_drewN | apply Kd.R_drew)); exact (Kd.R_mono (Kd.R_far (p := ⟨gb114, 2, none⟩) (Kd.R_far (p := ⟨gb114, 1, none⟩) (Kd.R_far (p := ⟨gb114, 0, none⟩) (Kd.R_types HO_108002.out BK114.out (by decide)) (fun _ hk => hk.2) (.int .i64 t108)) (fun _ hk => hk.2) (.int .i64 t109)) (fun _ hk => hk.2) (.slice Ao17 t110.length co17)) (fun _ h_ => h_.1))) (Kd.R_typed (by (with_reducible repeat (first | apply Kd.R_alloc | apply Kd.R_drewN | apply Kd.R_drew)); exact (Kd.R_mono (Kd.R_far (p := ⟨gb114, 2, none⟩) (Kd.R_far (p := ⟨gb114, 1, none⟩) (Kd.R_far (p := ⟨gb114, 0, none⟩) (Kd.R_types HO_6.out BK114.out (by decide)) (fun _ hk => hk.2) (.int .i64 t108)) (fun _ hk => hk.2) (.int .i64 t109)) (fun _ hk => hk.2) (.slice Ao17 t110.length co17)) (fun _ h_ => h_.1)))) (by decide) hg); have n1_ := Aside0.mk (blk_grown (g := gb107) (o := .cells #[.int .i64 t101, .int .i64 t102, .slice Ao7 t103.length co7] 33 (0, 0)) (by (with_reducible repeat (first | refine blk_drewN ?_ _ | refine blk_drew ?_ | refine blk_alloc ?_ _)); refine blk_far ?_ NB107_114.out _; (with_reducible repeat (first | refine blk_drewN ?_ _ | refine blk_drew ?_ | refine blk_alloc ?_ _)); refine blk_far ?_ NB107_114.out _; (with_reducible repeat (first | refine blk_drewN ?_ _ | refine blk_drew ?_ | refine blk_alloc ?_ _)); refine blk_far ?_ NB107_114.out _; exact blc) hg (Kd.R_ne HO_6.out BK107.out (by decide))); have n2_ := Aside0.mk (Kd.R_over' (by (with_reducible repeat (first | apply Kd.R_alloc | apply Kd.R_drewN | apply Kd.R_drew)); exact (Kd.R_mono (Kd.R_far (p := ⟨gb114, 2, none⟩) (Kd.R_far (p := ⟨gb114, 1, none⟩) (Kd.R_far (p := ⟨gb114, 0, none⟩) (Kd.R_types HO112.out BK114.out (by decide)) (fun _ hk => hk.2) (.int .i64 t108)) (fun _ hk => hk.2) (.int .i64 t109)) (fun _ hk => hk.2) (.slice Ao17 t110.length co17)) (fun _ h_ => h_.1))) (Kd.R_typed (by (with_reducible repeat (first | apply Kd.R_alloc | apply Kd.R_drewN | apply Kd.R_drew)); exact (Kd.R_mono (Kd.R_far (p := ⟨gb114, 2, none⟩) (Kd.R_far (p := ⟨gb114, 1, none⟩) (Kd.R_far (p := ⟨gb114, 0, none⟩) (Kd.R_types HO_6.out BK114.out (by decide)) (fun _ hk => hk.2) (.int .i64 t108)) (fun _ hk => hk.2) (.int .i64 t109)) (fun _ hk => hk.2) (.slice Ao17 t110.length co17)) (fun _ h_ => h_.1)))) (by decide) hg); have n3_ := Aside0.mk (blk_grown (g := gb114) (o := .cells #[.int .i64 t108, .int .i64 t109, .slice Ao17 t110.length co17] 33 (0, 0)) (by (with_reducible repeat (first | refine blk_drewN ?_ _ | refine blk_drew ?_ | refine blk_alloc ?_ _)); refine blk_put (cs := #[.int .i64 t108, .int .i64 t109, .slice none 0 0]) ?_ 2 _ rfl; (with_reducible repeat (first | refine blk_drewN ?_ _ | refine blk_drew ?_ | refine blk_alloc ?_ _)); refine blk_put (cs := #[.int .i64 t108, .int .i64 0, .slice none 0 0]) ?_ 1 _ rfl; (with_reducible repeat (first | refine blk_drewN ?_ _ | refine blk_drew ?_ | refine blk_alloc ?_ _)); refine blk_put (cs := #[.int .i64 0, .int .i64 0, .slice none 0 0]) ?_ 0 _ rfl; exact blc) hg (Kd.R_ne HO_6.out BK114.out (by decide))); have n4_ := Aside0.mk (hb); have n5_ := Aside0.mk (ho); clear HO_108002; clear BK107; clear HO112; clear BK114; clear HB; clear HO_6; have HO_108002 := n0_; have BK107 := n1_; have HO112 := n2_; have BK114 := n3_; have HB := n4_; have HO117 := n5_; clear n0_ n1_ n2_ n3_ n4_ n5_; clear ho hb hg hat))
       go_roundg k1
       case measure => have := HK1.out; omega
       case rel => exact ⟨(y115), (wrap64 (x20_1 + 1)), (by first | rfl | (simp; done) | (simp [*]; done)), H', ⟨by have := HK1.out; omega⟩, ⟨rch HO117⟩, ⟨by (with_reducible repeat (first | apply Kd.R_alloc | apply Kd.R_drewN | apply Kd.R_drew)); exact Kd.R_mono HO_108002.out (fun _ hk => trivial)⟩, ⟨blc⟩, ⟨bel HB⟩⟩
      ·rw [if_neg c11] at H
       exact absurd H (by simp)
     ·replace c10 := Bool.eq_false_iff.mpr c10
      subst c10
      have H1 : (spec_LastCells.l0 k1 x6_1 (t103.length : Int) (wrap64 (x20_1 + 1)) t101 t102 t103) = some (r1, r2) := by rw [if_neg (show ¬ (false = true) by decide)] at H; exact H
      clear H
      have H := H1
      clear H1
      have H' := Aside0.mk H
      clear H
      have hcz19_0 : wr.cell? ⟨gb107, 0, none⟩ = some (.int .i64 t101) := (blk_cell BK107.out 0).trans rfl
      have hcz19_1 : wr.cell? ⟨gb107, 1, none⟩ = some (.int .i64 t102) := (blk_cell BK107.out 1).trans rfl
      have hcz19_2 : wr.cell? ⟨gb107, 2, none⟩ = some (.slice Ao7 t103.length co7) := (blk_cell BK107.out 2).trans rfl
      have hfz19_0 := blk_frozen BK107.out 0
      have hfz19_1 := blk_frozen BK107.out 1
      have hfz19_2 := blk_frozen BK107.out 2
      go_wp2_with (first | ((with_reducible refine gate_callee (f := 22) rfl ?_); refine gcall (some 26) Tryz.func22 #[.agg #[.int .i64 t101, .int .i64 t102, .slice Ao7 t103.length co7], .int .i64 x20_1] rfl ?_; (with_reducible refine (spec_buTake.calls k1 t101 t102 _ _ t103 x20_1 t108 t109 t110 false _ ?side1 ?side2 A9.out).mono ?_); (case side1 => repeat (first | exact (Kd.R_reads' HO_108002.out).2.2 | (with_reducible refine Kd.C_alloc ?_ _) | (with_reducible refine Kd.C_drewN ?_ _) | (with_reducible refine Kd.C_drew ?_))); (case side2 => exact (Kd.R_reads' HO_108002.out).2.1); rintro e w20 ⟨v111, rfl, ho0, hb⟩; refine ⟨_, rfl, ?_⟩; have n0_ := Aside0.mk (Kd.R_below (rch HO_6) hb); have n1_ := Aside0.mk (Kd.R_elder' (rch HO_108002) (Kd.R_base ho0) hb); have n2_ := Aside0.mk (Kd.R_lower (Kd.R_new' ho0 (Kd.R_lt (rch HO_108002))) (below_size (bel HB))); have n3_ := Aside0.mk (blk_below (g := gb107) (o := .cells #[.int .i64 t101, .int .i64 t102, .slice Ao7 t103.length co7] 33 (0, 0)) blc hb); have n4_ := Aside0.mk (below_step (bel HB) hb); clear HO_6; clear HO_108002; clear BK107; clear HB; have HO_6 := n0_; have HO_108002 := n1_; have HO112 := n2_; have BK107 := n3_; have HB := n4_; clear n0_ n1_ n2_ n3_ n4_; (try clear hb); (try clear hb2); (try clear hk); (try clear hi); (try clear ho0)) | ((with_reducible refine gate_dst (N := 8) rfl ?_); refine boxE (N := 8) (cs := #[.int .i64 0, .int .i64 0, .slice none 0 0]) (t := 33) ?_; intro gb114 hg w21 hbox hb; have n0_ := Aside0.mk (Kd.R_below (rch HO_6) hb); have n1_ := Aside0.mk (Kd.R_below (rch HO_108002) hb); have n2_ := Aside0.mk (Kd.R_below (rch HO112) hb); have n3_ := Aside0.mk (blk_below (g := gb107) (o := .cells #[.int .i64 t101, .int .i64 t102, .slice Ao7 t103.length co7] 33 (0, 0)) blc hb); have n4_ := Aside0.mk (below_step (bel HB) hb); have n5_ := Aside0.mk (hbox); have n6_ := Aside0.mk (gsz hg (bel HB)); have n7_ := Aside0.mk (gsz hg (bel HB)); have n8_ := Aside0.mk ((by rw [hg]; exact Nat.ne_of_lt (blk_lt (g := gb107) (o := .cells #[.int .i64 t101, .int .i64 t102, .slice Ao7 t103.length co7] 33 (0, 0)) blc) : gb107 ≠ gb114)); have n9_ := Aside0.mk ((by rw [hg]; exact Nat.ne_of_gt (blk_lt (g := gb107) (o := .cells #[.int .i64 t101, .int .i64 t102, .slice Ao7 t103.length co7] 33 (0, 0)) blc) : gb114 ≠ gb107)); clear HO_6; clear HO_108002; clear HO112; clear BK107; clear HB; have HO_6 := n0_; have HO_108002 := n1_; have HO112 := n2_; have BK107 := n3_; have HB := n4_; have BK114 := n5_; have GW114 := n6_; have GE114 := n7_; have NB107_114 := n8_; have NB114_107 := n9_; clear n0_ n1_ n2_ n3_ n4_ n5_ n6_ n7_ n8_ n9_; clear hb hbox hg; have hnb22 := NB114_107.out; have hnc22 := NB107_114.out; have hcz23_0 : w21.cell? ⟨gb114, 0, none⟩ = some (.int .i64 0) := (blk_cell BK114.out 0).trans rfl; have hcz23_1 : w21.cell? ⟨gb114, 1, none⟩ = some (.int .i64 0) := (blk_cell BK114.out 1).trans rfl; have hcz23_2 : w21.cell? ⟨gb114, 2, none⟩ = some (.slice none 0 0) := (blk_cell BK114.out 2).trans rfl; have hfz23_0 := blk_frozen BK114.out 0; have hfz23_1 := blk_frozen BK114.out 1; have hfz23_2 := blk_frozen BK114.out 2; obtain ⟨Ao24, co24, eo24⟩ := Kd.R_slice HO112.out; subst eo24))
      go_roundg k1
      case measure => have := HK1.out; omega
      case rel => exact ⟨(x6_1), (wrap64 (x20_1 + 1)), (by first | rfl | (simp; done) | (simp [*]; done)), H', ⟨by have := HK1.out; omega⟩, ⟨by (with_reducible repeat (first | apply Kd.R_alloc | apply Kd.R_drewN | apply Kd.R_drew)); exact Kd.R_mono (Kd.R_far (p := ⟨gb114, 2, none⟩) (Kd.R_far (p := ⟨gb114, 1, none⟩) (Kd.R_far (p := ⟨gb114, 0, none⟩) (Kd.R_types HO_6.out BK114.out (by decide)) (fun _ hk => hk.2) (.int .i64 t108)) (fun _ hk => hk.2) (.int .i64 t109)) (fun _ hk => hk.2) (.slice Ao24 t110.length co24)) (fun _ hk => trivial)⟩, ⟨by (with_reducible repeat (first | apply Kd.R_alloc | apply Kd.R_drewN | apply Kd.R_drew)); exact Kd.R_mono (Kd.R_far (p := ⟨gb114, 2, none⟩) (Kd.R_far (p := ⟨gb114, 1, none⟩) (Kd.R_far (p := ⟨gb114, 0, none⟩) (Kd.R_types HO_108002.out BK114.out (by decide)) (fun _ hk => hk.2) (.int .i64 t108)) (fun _ hk => hk.2) (.int .i64 t109)) (fun _ hk => hk.2) (.slice Ao24 t110.length co24)) (fun _ hk => trivial)⟩, ⟨by (with_reducible repeat (first | refine blk_drewN ?_ _ | refine blk_drew ?_ | refine blk_alloc ?_ _)); refine blk_far ?_ NB107_114.out _; (with_reducible repeat (first | refine blk_drewN ?_ _ | refine blk_drew ?_ | refine blk_alloc ?_ _)); refine blk_far ?_ NB107_114.out _; (with_reducible repeat (first | refine blk_drewN ?_ _ | refine blk_drew ?_ | refine blk_alloc ?_ _)); refine blk_far ?_ NB107_114.out _; exact blc⟩, ⟨bel HB⟩⟩
    ·rw [if_neg c8] at H
     have c8b0 : decide (x20_1 < (t103.length : Int)) = false := decide_eq_false c8
     clear c8
     simp only [Option.some.injEq, Prod.mk.injEq] at H
     obtain ⟨rfl, rfl⟩ := H
     go_wp2
     go_ret2
     exact ⟨_, by first | rfl | (simp [errW_none, errW_some] <;> rfl) | (simp [*, errW_none, errW_some] <;> rfl), rch HO_6, bel HB⟩
 ·replace c3 := Bool.eq_false_iff.mpr c3
  subst c3
  have H1 : (some (([] : List Int), false)) = some (r1, r2) := by rw [if_neg (show ¬ (false = true) by decide)] at H; exact H
  clear H
  have H := H1
  clear H1
  simp only [Option.some.injEq, Prod.mk.injEq] at H
  obtain ⟨rfl, rfl⟩ := H
  go_enter Tryz.func7, Tryz.ntmps7
  go_wp2_with (first | ((with_reducible refine gate_callee (f := 21) rfl ?_); refine gcall (some 12) Tryz.func21 #[.string a0] rfl ?_; (with_reducible refine (spec_buRead.calls k a0 t101 t102 t103 false _ A2.out).mono ?_); rintro e w25 ⟨v104, rfl, ho0, hb⟩; refine ⟨_, rfl, ?_⟩; have n0_ := Aside0.mk (Kd.R_lower ho0 (below_size (bel HB))); have n1_ := Aside0.mk (below_step (bel HB) hb); clear HB; have HO105 := n0_; have HB := n1_; clear n0_ n1_; (try clear hb); (try clear hb2); (try clear hk); (try clear hi); (try clear ho0)) | ((with_reducible refine gate_dst (N := 4) rfl ?_); refine boxE (N := 4) (cs := #[.int .i64 0, .int .i64 0, .slice none 0 0]) (t := 33) ?_; intro gb107 hg w26 hbox hb; have n0_ := Aside0.mk (Kd.R_below (rch HO105) hb); have n1_ := Aside0.mk (below_step (bel HB) hb); have n2_ := Aside0.mk (hbox); have n3_ := Aside0.mk (gsz hg (bel HB)); have n4_ := Aside0.mk (gsz hg (bel HB)); clear HO105; clear HB; have HO105 := n0_; have HB := n1_; have BK107 := n2_; have GW107 := n3_; have GE107 := n4_; clear n0_ n1_ n2_ n3_ n4_; clear hb hbox hg; have hcz27_0 : w26.cell? ⟨gb107, 0, none⟩ = some (.int .i64 0) := (blk_cell BK107.out 0).trans rfl; have hcz27_1 : w26.cell? ⟨gb107, 1, none⟩ = some (.int .i64 0) := (blk_cell BK107.out 1).trans rfl; have hcz27_2 : w26.cell? ⟨gb107, 2, none⟩ = some (.slice none 0 0) := (blk_cell BK107.out 2).trans rfl; have hfz27_0 := blk_frozen BK107.out 0; have hfz27_1 := blk_frozen BK107.out 1; have hfz27_2 := blk_frozen BK107.out 2; obtain ⟨Ao28, co28, eo28⟩ := Kd.R_slice HO105.out; subst eo28))
  go_ret2
  exact ⟨_, by first | rfl | (simp [errW_none, errW_some] <;> rfl) | (simp [*, errW_none, errW_some] <;> rfl), by first | exact Kd.R_nil _ _ _ _ _ | exact Kd.N_nil _ _ _ _ _ | exact Kd.V_nil _ _ _ _ _ | exact Kd.Q_nil _ _ _ _ _ | exact Kd.S_nil _ _ _ _ _, bel HB⟩
mutual
def laws_FnExactLastCells.j0 : Nat → ByteArray → List Int → Bool → List Int → Bool → Option (Bool)
 | 0, _, _, _, _, _ => none
 | k + 1, x0, x3, x4, x5, x32 => if x32 = true then (some false) else ((laws_markIntS.f k x5 1).bind fun bt110 => ((laws_heldIntS.f k bt110.2 1).bind fun t112 => (if t112 < 0 then (some false) else (if t112 = bt110.1 then ((impl_LastCells.f k x0).bind fun bt113 => ((laws_eqIntS.f k bt113.1 x3).bind fun t117 => (if t117 = true then (laws_FnExactLastCells.j1 k bt110.2 bt110.1 (bt113.2 != x4)) else (laws_FnExactLastCells.j1 k bt110.2 bt110.1 true)))) else (some false)))))
def laws_FnExactLastCells.j1 : Nat → List Int → Int → Bool → Option (Bool)
 | 0, _, _, _ => none
 | k + 1, x5, x7, x57 => if x57 = true then (some false) else ((laws_heldIntS.f k x5 1).bind fun t118 => (if t118 < 0 then (some false) else (if t118 = x7 then (some true) else (some false))))
end
def laws_FnExactLastCells.f (k : Nat) (a0 : ByteArray) : Option (Bool) := if (a0.size : Int) > 1048576 then (some true) else ((spec_LastCells.f k a0).bind fun bt101 => ((impl_LastCells.f k a0).bind fun bt105 => ((laws_eqIntS.f k bt105.1 bt101.1).bind fun t109 => (if t109 = true then (laws_FnExactLastCells.j0 k a0 bt101.1 bt101.2 bt105.1 (bt105.2 != bt101.2)) else (laws_FnExactLastCells.j0 k a0 bt101.1 bt101.2 bt105.1 true)))))
set_option maxHeartbeats 8000000 in
set_option maxRecDepth 100000 in
theorem laws_FnExactLastCells.calls (k : Nat) (a0 : ByteArray) (r : Bool) (w : World) (hG : GoodW w) (h : laws_FnExactLastCells.f k a0 = some r) :
  Calls Tryz.prog 4 #[.string a0] w fun e w' => e = .returned (.bool r) ∧ Below w.heap.size w w' := by
 have HG := Aside0.mk hG
 clear hG
 have HB := Aside0.mk (Below.refl w.heap.size w)
 have H : (if (a0.size : Int) > 1048576 then (some true) else ((spec_LastCells.f k a0).bind fun bt101 => ((impl_LastCells.f k a0).bind fun bt105 => ((laws_eqIntS.f k bt105.1 bt101.1).bind fun t109 => (if t109 = true then (laws_FnExactLastCells.j0 k a0 bt101.1 bt101.2 bt105.1 (bt105.2 != bt101.2)) else (laws_FnExactLastCells.j0 k a0 bt101.1 bt101.2 bt105.1 true)))))) = some r := h
 clear h
 by_cases c2 : (a0.size : Int) > 1048576
 ·rw [if_pos c2] at H
  have c2b0 : decide (1048576 < (a0.size : Int)) = true := decide_eq_true c2
  have c2b1 : decide (1048576 < a0.size) = true := decide_eq_true (by omega)
  clear c2
  obtain rfl := Option.some.inj H
  go_enter Tryz.func4, Tryz.ntmps4
  go_wp2
  go_ret
  exact ⟨by first | rfl | (simp [errW_none, errW_some] <;> rfl) | (simp [*, errW_none, errW_some] <;> rfl), bel HB⟩
 ·rw [if_neg c2] at H
  have c2b0 : decide (1048576 < (a0.size : Int)) = false := decide_eq_false c2
  have c2b1 : decide (1048576 < a0.size) = false := decide_eq_false (by omega)
  clear c2
  replace H := Option.bind_eq_some_iff.mp H
  obtain ⟨⟨t101, t102⟩, A30, H⟩ := H
  replace H : ((impl_LastCells.f k a0).bind fun bt105 => ((laws_eqIntS.f k bt105.1 t101).bind fun t109 => (if t109 = true then (laws_FnExactLastCells.j0 k a0 t101 t102 bt105.1 (bt105.2 != t102)) else (laws_FnExactLastCells.j0 k a0 t101 t102 bt105.1 true)))) = some r := H
  have A3 := Aside0.mk A30
  clear A30
  replace H := Option.bind_eq_some_iff.mp H
  obtain ⟨⟨t105, t106⟩, A40, H⟩ := H
  replace H : ((laws_eqIntS.f k t105 t101).bind fun t109 => (if t109 = true then (laws_FnExactLastCells.j0 k a0 t101 t102 t105 (t106 != t102)) else (laws_FnExactLastCells.j0 k a0 t101 t102 t105 true))) = some r := H
  have A4 := Aside0.mk A40
  clear A40
  have HC5 := Aside0.mk H
  clear H
  go_enter Tryz.func4, Tryz.ntmps4
  go_upto_region 5 with (first | ((with_reducible refine gate_callee (f := 7) rfl ?_); refine gcall (some 16) Tryz.func7 #[.string a0] rfl ?_; (with_reducible refine (spec_LastCells.calls k a0 t101 t102 _ A3.out).mono ?_); rintro e w6 ⟨v103, rfl, ho0, hb⟩; refine ⟨_, rfl, ?_⟩; have n0_ := Aside0.mk (Kd.R_lower ho0 (below_size (bel HB))); have n1_ := Aside0.mk (below_step (bel HB) hb); clear HB; have HO104 := n0_; have HB := n1_; clear n0_ n1_; (try clear hb); (try clear hb2); (try clear hk); (try clear hi); (try clear ho0)) | ((with_reducible refine gate_callee (f := 8) rfl ?_); refine gcall (some 21) Tryz.func8 #[.string a0] rfl ?_; (with_reducible refine (impl_LastCells.calls k a0 t105 t106 _ ?side1 A4.out).mono ?_); (case side1 => (refine GoodW.below HG.out ?_); exact bel HB); rintro e w7 ⟨v107, rfl, ho0, hb⟩; refine ⟨_, rfl, ?_⟩; have n0_ := Aside0.mk (Kd.R_elder' (rch HO104) (Kd.R_base ho0) hb); have n1_ := Aside0.mk (Kd.R_lower (Kd.R_new' ho0 (Kd.R_lt (rch HO104))) (below_size (bel HB))); have n2_ := Aside0.mk (below_step (bel HB) hb); clear HO104; clear HB; have HO104 := n0_; have HO108 := n1_; have HB := n2_; clear n0_ n1_ n2_; (try clear hb); (try clear hb2); (try clear hk); (try clear hi); (try clear ho0)))
  (try simp only [Act.put, List.setIfInBounds_toArray, List.set_cons_zero, List.set_cons_succ])
  go_cut [32] (fun v32 wc => ∃ (kq : Nat) (x32_4 : Bool), v32 = .bool x32_4 ∧ Aside0 (laws_FnExactLastCells.j0 kq a0 t101 t102 t105 x32_4 = some r) ∧ Aside0 (kq ≤ k) ∧ Aside0 (Kd.R (Kd.int .i64) 3 wc w.heap.size (fun k_ => some k_ ≠ (v107 : Value).ownBlock) v103 t101) ∧ Aside0 (Kd.R (Kd.int .i64) 3 wc w.heap.size (fun k_ => some k_ ≠ (v103 : Value).ownBlock) v107 t105) ∧ Aside0 (Below w.heap.size w wc))
  case first =>
   have H := HC5.out
   clear HC5
   replace H := Option.bind_eq_some_iff.mp H
   obtain ⟨t109, A80, H⟩ := H
   replace H : (if t109 = true then (laws_FnExactLastCells.j0 k a0 t101 t102 t105 (t106 != t102)) else (laws_FnExactLastCells.j0 k a0 t101 t102 t105 true)) = some r := H
   have A8 := Aside0.mk A80
   clear A80
   by_cases c9 : t109 = true
   ·subst c9
    have H1 : (laws_FnExactLastCells.j0 k a0 t101 t102 t105 (t106 != t102)) = some r := by rw [if_pos rfl] at H; exact H
    clear H
    have H := H1
    clear H1
    have H' := Aside0.mk H
    clear H
    obtain ⟨Ao10, co10, eo10⟩ := Kd.R_slice HO108.out
    subst eo10
    obtain ⟨Ao11, co11, eo11⟩ := Kd.R_slice HO104.out
    subst eo11
    go_wp2_with (first | ((with_reducible refine gate_callee (f := 9) rfl ?_); refine gcall (some 26) Tryz.func9 #[.slice Ao10 t105.length co10, .slice Ao11 t101.length co11] rfl ?_; (with_reducible refine (laws_eqIntS.calls k _ _ t105 _ _ t101 true _ ?side1 ?side2 ?side3 ?side4 A8.out).mono ?_); (case side1 => repeat (first | exact (Kd.R_reads' HO108.out).2.2 | (with_reducible refine Kd.C_alloc ?_ _) | (with_reducible refine Kd.C_drewN ?_ _) | (with_reducible refine Kd.C_drew ?_))); (case side2 => exact (Kd.R_reads' HO108.out).2.1); (case side3 => repeat (first | exact (Kd.R_reads' HO104.out).2.2 | (with_reducible refine Kd.C_alloc ?_ _) | (with_reducible refine Kd.C_drewN ?_ _) | (with_reducible refine Kd.C_drew ?_))); (case side4 => exact (Kd.R_reads' HO104.out).2.1); rintro e w' ⟨rfl, ⟨nd, rfl⟩⟩; refine ⟨_, rfl, ?_⟩))
    go_meet
    case rel => exact ⟨_, ((t106 != t102)), (by first | rfl | (simp; done) | (simp [*]; done)), H', ⟨by first | omega | exact Nat.le_refl _⟩, ⟨by (with_reducible repeat (first | apply Kd.R_alloc | apply Kd.R_drewN | apply Kd.R_drew)); (first | exact Kd.R_mono HO104.out (fun _ hk => hk.2) | exact HO104.out | exact R_any HO104.out)⟩, ⟨by (with_reducible repeat (first | apply Kd.R_alloc | apply Kd.R_drewN | apply Kd.R_drew)); (first | exact Kd.R_mono HO108.out (fun _ hk => hk.2) | exact HO108.out | exact R_any HO108.out)⟩, ⟨bel HB⟩⟩
   ·replace c9 := Bool.eq_false_iff.mpr c9
    subst c9
    have H1 : (laws_FnExactLastCells.j0 k a0 t101 t102 t105 true) = some r := by rw [if_neg (show ¬ (false = true) by decide)] at H; exact H
    clear H
    have H := H1
    clear H1
    have H' := Aside0.mk H
    clear H
    obtain ⟨Ao12, co12, eo12⟩ := Kd.R_slice HO108.out
    subst eo12
    obtain ⟨Ao13, co13, eo13⟩ := Kd.R_slice HO104.out
    subst eo13
    go_wp2_with (first | ((with_reducible refine gate_callee (f := 9) rfl ?_); refine gcall (some 26) Tryz.func9 #[.slice Ao12 t105.length co12, .slice Ao13 t101.length co13] rfl ?_; (with_reducible refine (laws_eqIntS.calls k _ _ t105 _ _ t101 false _ ?side1 ?side2 ?side3 ?side4 A8.out).mono ?_); (case side1 => repeat (first | exact (Kd.R_reads' HO108.out).2.2 | (with_reducible refine Kd.C_alloc ?_ _) | (with_reducible refine Kd.C_drewN ?_ _) | (with_reducible refine Kd.C_drew ?_))); (case side2 => exact (Kd.R_reads' HO108.out).2.1); (case side3 => repeat (first | exact (Kd.R_reads' HO104.out).2.2 | (with_reducible refine Kd.C_alloc ?_ _) | (with_reducible refine Kd.C_drewN ?_ _) | (with_reducible refine Kd.C_drew ?_))); (case side4 => exact (Kd.R_reads' HO104.out).2.1); rintro e w' ⟨rfl, ⟨nd, rfl⟩⟩; refine ⟨_, rfl, ?_⟩))
    go_meet
    case rel => exact ⟨_, (true), (by first | rfl | (simp; done) | (simp [*]; done)), H', ⟨by first | omega | exact Nat.le_refl _⟩, ⟨by (with_reducible repeat (first | apply Kd.R_alloc | apply Kd.R_drewN | apply Kd.R_drew)); (first | exact Kd.R_mono HO104.out (fun _ hk => hk.2) | exact HO104.out | exact R_any HO104.out)⟩, ⟨by (with_reducible repeat (first | apply Kd.R_alloc | apply Kd.R_drewN | apply Kd.R_drew)); (first | exact Kd.R_mono HO108.out (fun _ hk => hk.2) | exact HO108.out | exact R_any HO108.out)⟩, ⟨bel HB⟩⟩
  case rest =>
   clear HC5
   try clear c2
   try clear c2b0
   try clear c2b0y
   try clear c2b1
   try clear p2
   try clear c4
   try clear c7
   try clear c8
   try clear c9
   obtain ⟨kq, x32_4, rfl, HA, HJ4, HO_3, HO_5, HB⟩ := hcut
   cases kq with
   | zero => exact absurd HA.out (by simp [laws_FnExactLastCells.j0])
   | succ kj4 =>
    have H := HA.out
    clear HA
    simp only [laws_FnExactLastCells.j0] at H
    by_cases c14 : x32_4 = true
    ·subst c14
     have H1 : (some false) = some r := by rw [if_pos rfl] at H; exact H
     clear H
     have H := H1
     clear H1
     obtain rfl := Option.some.inj H
     go_wp2
     go_ret
     exact ⟨by first | rfl | (simp [errW_none, errW_some] <;> rfl) | (simp [*, errW_none, errW_some] <;> rfl), bel HB⟩
    ·replace c14 := Bool.eq_false_iff.mpr c14
     subst c14
     have H1 : ((laws_markIntS.f kj4 t105 1).bind fun bt110 => ((laws_heldIntS.f kj4 bt110.2 1).bind fun t112 => (if t112 < 0 then (some false) else (if t112 = bt110.1 then ((impl_LastCells.f kj4 a0).bind fun bt113 => ((laws_eqIntS.f kj4 bt113.1 t101).bind fun t117 => (if t117 = true then (laws_FnExactLastCells.j1 kj4 bt110.2 bt110.1 (bt113.2 != t102)) else (laws_FnExactLastCells.j1 kj4 bt110.2 bt110.1 true)))) else (some false))))) = some r := by rw [if_neg (show ¬ (false = true) by decide)] at H; exact H
     clear H
     have H := H1
     clear H1
     replace H := Option.bind_eq_some_iff.mp H
     obtain ⟨⟨t110, t111⟩, A150, H⟩ := H
     replace H : ((laws_heldIntS.f kj4 t111 1).bind fun t112 => (if t112 < 0 then (some false) else (if t112 = t110 then ((impl_LastCells.f kj4 a0).bind fun bt113 => ((laws_eqIntS.f kj4 bt113.1 t101).bind fun t117 => (if t117 = true then (laws_FnExactLastCells.j1 kj4 t111 t110 (bt113.2 != t102)) else (laws_FnExactLastCells.j1 kj4 t111 t110 true)))) else (some false)))) = some r := H
     have A15 := Aside0.mk A150
     clear A150
     replace H := Option.bind_eq_some_iff.mp H
     obtain ⟨t112, A160, H⟩ := H
     replace H : (if t112 < 0 then (some false) else (if t112 = t110 then ((impl_LastCells.f kj4 a0).bind fun bt113 => ((laws_eqIntS.f kj4 bt113.1 t101).bind fun t117 => (if t117 = true then (laws_FnExactLastCells.j1 kj4 t111 t110 (bt113.2 != t102)) else (laws_FnExactLastCells.j1 kj4 t111 t110 true)))) else (some false))) = some r := H
     have A16 := Aside0.mk A160
     clear A160
     by_cases c17 : t112 < 0
     ·rw [if_pos c17] at H
      have c17b0 : decide (t112 < 0) = true := decide_eq_true c17
      clear c17
      obtain rfl := Option.some.inj H
      obtain ⟨Ao18, co18, eo18⟩ := Kd.R_slice HO_5.out
      subst eo18
      go_wp2_with (first | ((with_reducible refine gate_callee (f := 10) rfl ?_); refine gcall (some 35) Tryz.func10 #[.slice Ao18 t105.length co18, .int .i64 1] rfl ?_; (with_reducible refine (laws_markIntS.calls kj4 (fun k_ => some k_ = (.slice Ao18 t105.length co18 : Value).ownBlock) (.slice Ao18 t105.length co18) t105 1 t110 t111 w _ ?side1 ?side2 A15.out).mono ?_); (case side1 => repeat (first | (with_reducible first | exact HB.out | apply below_alloc | apply pw_below_drewN | apply below_drew1) | exact HB.out)); (case side2 => exact Kd.R_tight rfl HO_5.out); rintro e w19 ⟨rfl, hy0, hb, hkp⟩; refine ⟨_, rfl, ?_⟩; have n0_ := Aside0.mk (Kd.R_mono (ok' := fun k_ => some k_ ≠ (.slice Ao18 t105.length co18 : Value).ownBlock) (Kd.R_keptB (HO_3.out) hkp (fun k_ hk_ hs_ => (hk_) hs_)) (fun k_ hk_ => hk_.1)); have n1_ := Aside0.mk (Kd.R_reok rfl hy0 (fun k_ e_ => HO_5.out.1 k_ e_)); have n2_ := Aside0.mk (hb); clear HO_3; clear HO_5; clear HB; have HO_3 := n0_; have HO_5 := n1_; have HB := n2_; clear n0_ n1_ n2_; (try clear hb); (try clear hkp); (try clear hy0)) | ((with_reducible refine gate_callee (f := 11) rfl ?_); refine goesL_ (some 38) rfl rfl Tryz.func11 (by kernel_rfl) rfl #[.slice Ao18 t111.length co18, .int .i64 1] rfl (by (try simp only [List.map_toArray, List.map_cons, List.map_nil]); first | done | (rw [show t111.length = t105.length from (Kd.R_reads' HO_5.out).1.symm] <;> rfl) | rfl | (simp only [List.length_drop, List.length_take]; rfl)) ?_; (with_reducible refine (laws_heldIntS.calls kj4 _ _ t111 1 t112 _ ?side1 ?side2 A16.out).mono ?_); (case side1 => repeat (first | exact (Kd.R_reads' HO_5.out).2.2 | (with_reducible refine Kd.C_alloc ?_ _) | (with_reducible refine Kd.C_drewN ?_ _) | (with_reducible refine Kd.C_drew ?_))); (case side2 => rw [show t111.length = t105.length from (Kd.R_reads' HO_5.out).1.symm]; exact (Kd.R_reads' HO_5.out).2.1); rintro e w' ⟨rfl, ⟨nd, rfl⟩⟩; refine ⟨_, rfl, ?_⟩))
      go_ret
      exact ⟨by first | rfl | (simp [errW_none, errW_some] <;> rfl) | (simp [*, errW_none, errW_some] <;> rfl), bel HB⟩
     ·rw [if_neg c17] at H
      have c17b0 : decide (t112 < 0) = false := decide_eq_false c17
      clear c17
      by_cases c20 : t112 = t110
      ·rw [if_pos c20] at H
       have c20b0 : (t112 == t110) = true := beq_iff_eq.mpr c20
       have c20b1 : (t112 != t110) = false := bne_eq_false_iff_eq.mpr c20
       clear c20
       replace H := Option.bind_eq_some_iff.mp H
       obtain ⟨⟨t113, t114⟩, A210, H⟩ := H
       replace H : ((laws_eqIntS.f kj4 t113 t101).bind fun t117 => (if t117 = true then (laws_FnExactLastCells.j1 kj4 t111 t110 (t114 != t102)) else (laws_FnExactLastCells.j1 kj4 t111 t110 true))) = some r := H
       have A21 := Aside0.mk A210
       clear A210
       have HC22 := Aside0.mk H
       clear H
       obtain ⟨Ao23, co23, eo23⟩ := Kd.R_slice HO_5.out
       subst eo23
       go_upto_region 16 with (first | ((with_reducible refine gate_callee (f := 10) rfl ?_); refine gcall (some 35) Tryz.func10 #[.slice Ao23 t105.length co23, .int .i64 1] rfl ?_; (with_reducible refine (laws_markIntS.calls kj4 (fun k_ => some k_ = (.slice Ao23 t105.length co23 : Value).ownBlock) (.slice Ao23 t105.length co23) t105 1 t110 t111 w _ ?side1 ?side2 A15.out).mono ?_); (case side1 => repeat (first | (with_reducible first | exact HB.out | apply below_alloc | apply pw_below_drewN | apply below_drew1) | exact HB.out)); (case side2 => exact Kd.R_tight rfl HO_5.out); rintro e w24 ⟨rfl, hy0, hb, hkp⟩; refine ⟨_, rfl, ?_⟩; have n0_ := Aside0.mk (Kd.R_mono (ok' := fun k_ => some k_ ≠ (.slice Ao23 t105.length co23 : Value).ownBlock) (Kd.R_keptB (HO_3.out) hkp (fun k_ hk_ hs_ => (hk_) hs_)) (fun k_ hk_ => hk_.1)); have n1_ := Aside0.mk (Kd.R_reok rfl hy0 (fun k_ e_ => HO_5.out.1 k_ e_)); have n2_ := Aside0.mk (hb); clear HO_3; clear HO_5; clear HB; have HO_3 := n0_; have HO_5 := n1_; have HB := n2_; clear n0_ n1_ n2_; (try clear hb); (try clear hkp); (try clear hy0)) | ((with_reducible refine gate_callee (f := 11) rfl ?_); refine goesL_ (some 38) rfl rfl Tryz.func11 (by kernel_rfl) rfl #[.slice Ao23 t111.length co23, .int .i64 1] rfl (by (try simp only [List.map_toArray, List.map_cons, List.map_nil]); first | done | (rw [show t111.length = t105.length from (Kd.R_reads' HO_5.out).1.symm] <;> rfl) | rfl | (simp only [List.length_drop, List.length_take]; rfl)) ?_; (with_reducible refine (laws_heldIntS.calls kj4 _ _ t111 1 t112 _ ?side1 ?side2 A16.out).mono ?_); (case side1 => repeat (first | exact (Kd.R_reads' HO_5.out).2.2 | (with_reducible refine Kd.C_alloc ?_ _) | (with_reducible refine Kd.C_drewN ?_ _) | (with_reducible refine Kd.C_drew ?_))); (case side2 => rw [show t111.length = t105.length from (Kd.R_reads' HO_5.out).1.symm]; exact (Kd.R_reads' HO_5.out).2.1); rintro e w' ⟨rfl, ⟨nd, rfl⟩⟩; refine ⟨_, rfl, ?_⟩) | ((with_reducible refine gate_callee (f := 8) rfl ?_); refine gcall (some 46) Tryz.func8 #[.string a0] rfl ?_; (with_reducible refine (impl_LastCells.calls kj4 a0 t113 t114 _ ?side1 A21.out).mono ?_); (case side1 => (refine GoodW.below HG.out ?_); exact bel HB); rintro e w25 ⟨v115, rfl, ho0, hb⟩; refine ⟨_, rfl, ?_⟩; have n0_ := Aside0.mk (Kd.R_elder' (rch HO_3) (Kd.R_base ho0) hb); have n1_ := Aside0.mk (Kd.R_elder' (rch HO_5) (Kd.R_base ho0) hb); have n2_ := Aside0.mk (Kd.R_lower (Kd.R_new' (Kd.R_new' ho0 (Kd.R_lt (rch HO_3))) (Kd.R_lt (rch HO_5))) (below_size (bel HB))); have n3_ := Aside0.mk (below_step (bel HB) hb); clear HO_3; clear HO_5; clear HB; have HO_3 := n0_; have HO_5 := n1_; have HO116 := n2_; have HB := n3_; clear n0_ n1_ n2_ n3_; (try clear hb); (try clear hb2); (try clear hk); (try clear hi); (try clear ho0)))
       (try simp only [Act.put, List.setIfInBounds_toArray, List.set_cons_zero, List.set_cons_succ])
       go_cut [57] (fun v57 wc => ∃ (kq : Nat) (x57_21 : Bool), v57 = .bool x57_21 ∧ Aside0 (laws_FnExactLastCells.j1 kq t111 t110 x57_21 = some r) ∧ Aside0 (kq ≤ kj4) ∧ Aside0 (Kd.R (Kd.int .i64) 3 wc w.heap.size (fun _ => True) (.slice Ao23 t105.length co23) t111) ∧ Aside0 (Below w.heap.size w wc))
       case first =>
        have H := HC22.out
        clear HC22
        replace H := Option.bind_eq_some_iff.mp H
        obtain ⟨t117, A260, H⟩ := H
        replace H : (if t117 = true then (laws_FnExactLastCells.j1 kj4 t111 t110 (t114 != t102)) else (laws_FnExactLastCells.j1 kj4 t111 t110 true)) = some r := H
        have A26 := Aside0.mk A260
        clear A260
        by_cases c27 : t117 = true
        ·subst c27
         have H1 : (laws_FnExactLastCells.j1 kj4 t111 t110 (t114 != t102)) = some r := by rw [if_pos rfl] at H; exact H
         clear H
         have H := H1
         clear H1
         have H' := Aside0.mk H
         clear H
         obtain ⟨Ao28, co28, eo28⟩ := Kd.R_slice HO116.out
         subst eo28
         obtain ⟨Ao29, co29, eo29⟩ := Kd.R_slice HO_3.out
         subst eo29
         go_wp2_with (first | ((with_reducible refine gate_callee (f := 9) rfl ?_); refine gcall (some 51) Tryz.func9 #[.slice Ao28 t113.length co28, .slice Ao29 t101.length co29] rfl ?_; (with_reducible refine (laws_eqIntS.calls kj4 _ _ t113 _ _ t101 true _ ?side1 ?side2 ?side3 ?side4 A26.out).mono ?_); (case side1 => repeat (first | exact (Kd.R_reads' HO116.out).2.2 | (with_reducible refine Kd.C_alloc ?_ _) | (with_reducible refine Kd.C_drewN ?_ _) | (with_reducible refine Kd.C_drew ?_))); (case side2 => exact (Kd.R_reads' HO116.out).2.1); (case side3 => repeat (first | exact (Kd.R_reads' HO_3.out).2.2 | (with_reducible refine Kd.C_alloc ?_ _) | (with_reducible refine Kd.C_drewN ?_ _) | (with_reducible refine Kd.C_drew ?_))); (case side4 => exact (Kd.R_reads' HO_3.out).2.1); rintro e w' ⟨rfl, ⟨nd, rfl⟩⟩; refine ⟨_, rfl, ?_⟩))
         go_meet
         case rel => exact ⟨_, ((t114 != t102)), (by first | rfl | (simp; done) | (simp [*]; done)), H', ⟨by have := HJ4.out; first | omega | exact Nat.le_refl _⟩, ⟨by (with_reducible repeat (first | apply Kd.R_alloc | apply Kd.R_drewN | apply Kd.R_drew)); exact Kd.R_mono HO_5.out (fun _ hk => trivial)⟩, ⟨bel HB⟩⟩
        ·replace c27 := Bool.eq_false_iff.mpr c27
         subst c27
         have H1 : (laws_FnExactLastCells.j1 kj4 t111 t110 true) = some r := by rw [if_neg (show ¬ (false = true) by decide)] at H; exact H
         clear H
         have H := H1
         clear H1
         have H' := Aside0.mk H
         clear H
         obtain ⟨Ao30, co30, eo30⟩ := Kd.R_slice HO116.out
         subst eo30
         obtain ⟨Ao31, co31, eo31⟩ := Kd.R_slice HO_3.out
         subst eo31
         go_wp2_with (first | ((with_reducible refine gate_callee (f := 9) rfl ?_); refine gcall (some 51) Tryz.func9 #[.slice Ao30 t113.length co30, .slice Ao31 t101.length co31] rfl ?_; (with_reducible refine (laws_eqIntS.calls kj4 _ _ t113 _ _ t101 false _ ?side1 ?side2 ?side3 ?side4 A26.out).mono ?_); (case side1 => repeat (first | exact (Kd.R_reads' HO116.out).2.2 | (with_reducible refine Kd.C_alloc ?_ _) | (with_reducible refine Kd.C_drewN ?_ _) | (with_reducible refine Kd.C_drew ?_))); (case side2 => exact (Kd.R_reads' HO116.out).2.1); (case side3 => repeat (first | exact (Kd.R_reads' HO_3.out).2.2 | (with_reducible refine Kd.C_alloc ?_ _) | (with_reducible refine Kd.C_drewN ?_ _) | (with_reducible refine Kd.C_drew ?_))); (case side4 => exact (Kd.R_reads' HO_3.out).2.1); rintro e w' ⟨rfl, ⟨nd, rfl⟩⟩; refine ⟨_, rfl, ?_⟩))
         go_meet
         case rel => exact ⟨_, (true), (by first | rfl | (simp; done) | (simp [*]; done)), H', ⟨by have := HJ4.out; first | omega | exact Nat.le_refl _⟩, ⟨by (with_reducible repeat (first | apply Kd.R_alloc | apply Kd.R_drewN | apply Kd.R_drew)); exact Kd.R_mono HO_5.out (fun _ hk => trivial)⟩, ⟨bel HB⟩⟩
       case rest =>
        clear HC22
        try clear c1
        try clear c2
        try clear c2b0
        try clear c2b0y
        try clear c2b1
        try clear p2
        try clear c4
        try clear c7
        try clear c8
        try clear c9
        try clear c10
        try clear c11
        try clear c14
        try clear c17
        try clear c17b0
        try clear c17b0y
        try clear c20
        try clear c20b0
        try clear c20b0y
        try clear c20b1
        try clear c27
        try clear p2
        obtain ⟨kq, x57_21, rfl, HA, HJ21, HO_5, HB⟩ := hcut
        have hl5_21 := (Kd.R_reads' HO_5.out).1
        rw [hl5_21] at HO_5
        (try simp only [hl5_21])
        cases kq with
        | zero => exact absurd HA.out (by simp [laws_FnExactLastCells.j1])
        | succ kj21 =>
         have H := HA.out
         clear HA
         simp only [laws_FnExactLastCells.j1] at H
         by_cases c32 : x57_21 = true
         ·subst c32
          have H1 : (some false) = some r := by rw [if_pos rfl] at H; exact H
          clear H
          have H := H1
          clear H1
          obtain rfl := Option.some.inj H
          go_wp2
          go_ret
          exact ⟨by first | rfl | (simp [errW_none, errW_some] <;> rfl) | (simp [*, errW_none, errW_some] <;> rfl), bel HB⟩
         ·replace c32 := Bool.eq_false_iff.mpr c32
          subst c32
          have H1 : ((laws_heldIntS.f kj21 t111 1).bind fun t118 => (if t118 < 0 then (some false) else (if t118 = t110 then (some true) else (some false)))) = some r := by rw [if_neg (show ¬ (false = true) by decide)] at H; exact H
          clear H
          have H := H1
          clear H1
          replace H := Option.bind_eq_some_iff.mp H
          obtain ⟨t118, A330, H⟩ := H
          replace H : (if t118 < 0 then (some false) else (if t118 = t110 then (some true) else (some false))) = some r := H
          have A33 := Aside0.mk A330
          clear A330
          by_cases c34 : t118 < 0
          ·rw [if_pos c34] at H
           have c34b0 : decide (t118 < 0) = true := decide_eq_true c34
           clear c34
           obtain rfl := Option.some.inj H
           go_wp2_with (first | ((with_reducible refine gate_callee (f := 11) rfl ?_); refine gcall (some 60) Tryz.func11 #[.slice Ao23 t111.length co23, .int .i64 1] rfl ?_; (with_reducible refine (laws_heldIntS.calls kj21 _ _ t111 1 t118 _ ?side1 ?side2 A33.out).mono ?_); (case side1 => repeat (first | exact (Kd.R_reads' HO_5.out).2.2 | (with_reducible refine Kd.C_alloc ?_ _) | (with_reducible refine Kd.C_drewN ?_ _) | (with_reducible refine Kd.C_drew ?_))); (case side2 => exact (Kd.R_reads' HO_5.out).2.1); rintro e w' ⟨rfl, ⟨nd, rfl⟩⟩; refine ⟨_, rfl, ?_⟩))
           go_ret
           exact ⟨by first | rfl | (simp [errW_none, errW_some] <;> rfl) | (simp [*, errW_none, errW_some] <;> rfl), bel HB⟩
          ·rw [if_neg c34] at H
           have c34b0 : decide (t118 < 0) = false := decide_eq_false c34
           clear c34
           by_cases c35 : t118 = t110
           ·rw [if_pos c35] at H
            have c35b0 : (t118 == t110) = true := beq_iff_eq.mpr c35
            have c35b1 : (t118 != t110) = false := bne_eq_false_iff_eq.mpr c35
            clear c35
            obtain rfl := Option.some.inj H
            go_wp2_with (first | ((with_reducible refine gate_callee (f := 11) rfl ?_); refine gcall (some 60) Tryz.func11 #[.slice Ao23 t111.length co23, .int .i64 1] rfl ?_; (with_reducible refine (laws_heldIntS.calls kj21 _ _ t111 1 t118 _ ?side1 ?side2 A33.out).mono ?_); (case side1 => repeat (first | exact (Kd.R_reads' HO_5.out).2.2 | (with_reducible refine Kd.C_alloc ?_ _) | (with_reducible refine Kd.C_drewN ?_ _) | (with_reducible refine Kd.C_drew ?_))); (case side2 => exact (Kd.R_reads' HO_5.out).2.1); rintro e w' ⟨rfl, ⟨nd, rfl⟩⟩; refine ⟨_, rfl, ?_⟩))
            go_ret
            exact ⟨by first | rfl | (simp [errW_none, errW_some] <;> rfl) | (simp [*, errW_none, errW_some] <;> rfl), bel HB⟩
           ·rw [if_neg c35] at H
            have c35b0 : (t118 == t110) = false := beq_eq_false_iff_ne.mpr c35
            have c35b1 : (t118 != t110) = true := bne_iff_ne.mpr c35
            obtain rfl := Option.some.inj H
            go_wp2_with (first | ((with_reducible refine gate_callee (f := 11) rfl ?_); refine gcall (some 60) Tryz.func11 #[.slice Ao23 t111.length co23, .int .i64 1] rfl ?_; (with_reducible refine (laws_heldIntS.calls kj21 _ _ t111 1 t118 _ ?side1 ?side2 A33.out).mono ?_); (case side1 => repeat (first | exact (Kd.R_reads' HO_5.out).2.2 | (with_reducible refine Kd.C_alloc ?_ _) | (with_reducible refine Kd.C_drewN ?_ _) | (with_reducible refine Kd.C_drew ?_))); (case side2 => exact (Kd.R_reads' HO_5.out).2.1); rintro e w' ⟨rfl, ⟨nd, rfl⟩⟩; refine ⟨_, rfl, ?_⟩))
            go_ret
            exact ⟨by first | rfl | (simp [errW_none, errW_some] <;> rfl) | (simp [*, errW_none, errW_some] <;> rfl), bel HB⟩
      ·rw [if_neg c20] at H
       have c20b0 : (t112 == t110) = false := beq_eq_false_iff_ne.mpr c20
       have c20b1 : (t112 != t110) = true := bne_iff_ne.mpr c20
       obtain rfl := Option.some.inj H
       obtain ⟨Ao36, co36, eo36⟩ := Kd.R_slice HO_5.out
       subst eo36
       go_wp2_with (first | ((with_reducible refine gate_callee (f := 10) rfl ?_); refine gcall (some 35) Tryz.func10 #[.slice Ao36 t105.length co36, .int .i64 1] rfl ?_; (with_reducible refine (laws_markIntS.calls kj4 (fun k_ => some k_ = (.slice Ao36 t105.length co36 : Value).ownBlock) (.slice Ao36 t105.length co36) t105 1 t110 t111 w _ ?side1 ?side2 A15.out).mono ?_); (case side1 => repeat (first | (with_reducible first | exact HB.out | apply below_alloc | apply pw_below_drewN | apply below_drew1) | exact HB.out)); (case side2 => exact Kd.R_tight rfl HO_5.out); rintro e w37 ⟨rfl, hy0, hb, hkp⟩; refine ⟨_, rfl, ?_⟩; have n0_ := Aside0.mk (Kd.R_mono (ok' := fun k_ => some k_ ≠ (.slice Ao36 t105.length co36 : Value).ownBlock) (Kd.R_keptB (HO_3.out) hkp (fun k_ hk_ hs_ => (hk_) hs_)) (fun k_ hk_ => hk_.1)); have n1_ := Aside0.mk (Kd.R_reok rfl hy0 (fun k_ e_ => HO_5.out.1 k_ e_)); have n2_ := Aside0.mk (hb); clear HO_3; clear HO_5; clear HB; have HO_3 := n0_; have HO_5 := n1_; have HB := n2_; clear n0_ n1_ n2_; (try clear hb); (try clear hkp); (try clear hy0)) | ((with_reducible refine gate_callee (f := 11) rfl ?_); refine goesL_ (some 38) rfl rfl Tryz.func11 (by kernel_rfl) rfl #[.slice Ao36 t111.length co36, .int .i64 1] rfl (by (try simp only [List.map_toArray, List.map_cons, List.map_nil]); first | done | (rw [show t111.length = t105.length from (Kd.R_reads' HO_5.out).1.symm] <;> rfl) | rfl | (simp only [List.length_drop, List.length_take]; rfl)) ?_; (with_reducible refine (laws_heldIntS.calls kj4 _ _ t111 1 t112 _ ?side1 ?side2 A16.out).mono ?_); (case side1 => repeat (first | exact (Kd.R_reads' HO_5.out).2.2 | (with_reducible refine Kd.C_alloc ?_ _) | (with_reducible refine Kd.C_drewN ?_ _) | (with_reducible refine Kd.C_drew ?_))); (case side2 => rw [show t111.length = t105.length from (Kd.R_reads' HO_5.out).1.symm]; exact (Kd.R_reads' HO_5.out).2.1); rintro e w' ⟨rfl, ⟨nd, rfl⟩⟩; refine ⟨_, rfl, ?_⟩))
       go_ret
       exact ⟨by first | rfl | (simp [errW_none, errW_some] <;> rfl) | (simp [*, errW_none, errW_some] <;> rfl), bel HB⟩
end Go.Proofs.YtggdmblknkcigaaGreatDoor.Q
end
section
namespace Go.Proofs.YtggdmblknkcigaaGreatDoor.Q
set_option linter.unusedSectionVars false
open Go.RowKit Go.Proofs.YtggdmblknkcigaaGreatDoorW.PrintWords Go.Proofs.YtggdmblknkcigaaGreatDoorW.PrintLast Go.Proofs.YtggdmblknkcigaaGreatDoorW.PrintMore
open Classical
open Classical
noncomputable def LastCellsR (s : ByteArray) : List Int × Bool := match formOf s with
 | none => ([], false)
 | some (w, h, cs) => ((ballsOf cs).filter (fun x => decide (takeOK w.toNat h.toNat cs x)), true)
theorem LastCellsR_len (s : ByteArray) : (LastCellsR s).1.length ≤ 1000000 := by
 unfold LastCellsR
 rcases hf : formOf s with _ | ⟨w, h, cs⟩
 ·exact Nat.zero_le _
 ·have h1 : cs.length ≤ 36 := form_len (formOf_some hf).1
  have h2 := ballsTo_len cs cs.length
  have h3 := List.length_filter_le (fun x => decide (takeOK w.toNat h.toNat cs x)) (ballsOf cs)
  unfold ballsOf at h3
  show ((ballsTo cs cs.length).filter _).length ≤ 1000000
  omega
theorem takeOK_ball {w h : Nat} {cs : List Int} {a : Int} (ht : takeOK w h cs a) : bI cs a = true := by
 unfold bI
 rw [ht.1]
 decide
section
variable {w h : Nat} {cs : List Int} (hw1 : 1 ≤ w) (hw : w ≤ 7) (hh1 : 1 ≤ h) (hh : h ≤ 7) (hs : w * h ≤ 36) (hn : cs.length = w * h)
include hw1 hw hh1 hh hs hn
theorem lastS_l0 (hopen : ∀ c ∈ cs, c = 46 ∨ c = 111) : ∀ (m t : Nat), t + m = cs.length → Ev (fun k => spec_LastCells.l0 k ((ballsTo cs t).filter (fun x => decide (takeOK w h cs x))) (cs.length : Int) (t : Int) w h cs) ((ballsOf cs).filter (fun x => decide (takeOK w h cs x)), true)
 | 0, t, ht => by
  obtain rfl : t = cs.length := by omega
  refine Ev.step (Ev.const (o := some ((ballsOf cs).filter (fun x => decide (takeOK w h cs x)), true)) rfl) fun k => ?_
  rw [spec_LastCells.l0, if_neg (by omega)]
  rfl
 | m + 1, t, ht => by
  have ih := lastS_l0 hopen m (t + 1) (by omega)
  have hb := buTake_ev hw1 hw hh1 hh hs hn hopen (t : Int) (show inCells cs (t : Int) from ⟨by omega, by omega⟩)
  have hlen : ((ballsTo cs t).filter (fun x => decide (takeOK w h cs x))).length < 17592186044416 :=
   Nat.lt_of_le_of_lt (Nat.le_trans (List.length_filter_le _ _) (Nat.le_trans (ballsTo_len cs t) (show t ≤ 36 by omega))) (by decide)
  rw [ballsTo_succ, List.filter_append, ← wr1 t (by omega)] at ih
  by_cases hk : takeOK w h cs (t : Int)
  ·rw [if_pos (takeOK_ball hk), show [(t : Int)].filter (fun x => decide (takeOK w h cs x)) = [(t : Int)] from List.filter_cons_of_pos (p := fun x => decide (takeOK w h cs x)) (decide_eq_true hk)] at ih
   rw [decide_eq_true hk] at hb
   refine Ev.step (Ev.bind (f := fun k (bt108 : Int × Int × List Int × Bool) => (if bt108.2.2.2 = true then (if ((ballsTo cs t).filter (fun x => decide (takeOK w h cs x))).length < 17592186044416 then (spec_LastCells.l0 k (((ballsTo cs t).filter (fun x => decide (takeOK w h cs x))) ++ [(t : Int)]) (cs.length : Int) (wrap64 ((t : Int) + 1)) w h cs) else (none)) else (spec_LastCells.l0 k ((ballsTo cs t).filter (fun x => decide (takeOK w h cs x))) (cs.length : Int) (wrap64 ((t : Int) + 1)) w h cs))) hb (Ev.congr ih fun k => ?_)) fun k => ?_
   ·rw [if_pos rfl, if_pos hlen]
   ·rw [spec_LastCells.l0, if_pos (by omega)]
  ·have he : (if bI cs (t : Int) = true then [(t : Int)] else []).filter (fun x => decide (takeOK w h cs x)) = [] := by
    split
    ·exact List.filter_cons_of_neg (p := fun x => decide (takeOK w h cs x)) (by rw [decide_eq_false hk]; decide)
    ·rfl
   rw [he, List.append_nil] at ih
   rw [decide_eq_false hk] at hb
   refine Ev.step (Ev.bind (f := fun k (bt108 : Int × Int × List Int × Bool) => (if bt108.2.2.2 = true then (if ((ballsTo cs t).filter (fun x => decide (takeOK w h cs x))).length < 17592186044416 then (spec_LastCells.l0 k (((ballsTo cs t).filter (fun x => decide (takeOK w h cs x))) ++ [(t : Int)]) (cs.length : Int) (wrap64 ((t : Int) + 1)) w h cs) else (none)) else (spec_LastCells.l0 k ((ballsTo cs t).filter (fun x => decide (takeOK w h cs x))) (cs.length : Int) (wrap64 ((t : Int) + 1)) w h cs))) hb (Ev.congr ih fun k => ?_)) fun k => ?_
   ·exact if_neg Bool.false_ne_true
   ·rw [spec_LastCells.l0, if_pos (by omega)]
end
theorem specLastCells_ev (s : ByteArray) : Ev (fun k => spec_LastCells.f k s) (LastCellsR s) := by
 refine Ev.bind (f := fun k (bt101 : Int × Int × List Int × Bool) => (if bt101.2.2.2 = true then (spec_LastCells.l0 k ([] : List Int) (bt101.2.2.1.length : Int) 0 bt101.1 bt101.2.1 bt101.2.2.1) else (some (([] : List Int), false)))) (buRead_ev s) ?_
 unfold LastCellsR
 rcases hf : formOf s with _ | t
 ·rcases ht : trayOf s with _ | ⟨w, h, cs⟩
  ·exact Ev.const rfl
  ·have hk : ¬ formOK w.toNat h.toNat cs := by
    intro hk
    unfold formOf at hf
    rw [ht, Option.bind_some, if_pos hk] at hf
    cases hf
   refine Ev.congr (Ev.const (o := some (([] : List Int), false)) rfl) fun k => ?_
   show (if decide (formOK w.toNat h.toNat cs) = true then _ else _) = _
   rw [decide_eq_false hk, if_neg (by decide)]
 ·obtain ⟨w, h, cs, rfl, hw1, hw, hh1, hh, hs, hn, hk, ht⟩ := form_parts hf
  rw [ht]
  simp only [Int.toNat_natCast]
  refine Ev.congr (lastS_l0 hw1 hw hh1 hh hs hn (form_open hk) cs.length 0 (by omega)) fun k => ?_
  rw [decide_eq_true hk, if_pos rfl]
  rfl
theorem implCells2_ev (s : ByteArray) (hs : s.size ≤ 1048576) : Ev (fun k => impl_CellsOfForm.f k s) (cellsR s) := by
 refine Ev.bind (f := fun k t101 => (if t101 = true then ((impl_read.f s).bind fun bt102 => ((impl_tray_indices_isBall.f k bt102.1 bt102.2.1 bt102.2.2 ()).bind fun t107 => (some (t107, true)))) else (some (([] : List Int), false)))) (isForm_ev s hs) ?_
 unfold cellsR
 rcases ht : formOf s with _ | t
 ·exact Ev.congr (Ev.const (o := some (([] : List Int), false)) rfl) fun k => if_neg (by decide)
 ·have h1 := formOf_some ht
  have hread := tray_read h1.1
  refine Ev.congr (Ev.bind (f := fun _ t107 => some (t107, true)) (indices_ev t.2.2 (form_len h1.1) t.1 t.2.1) (Ev.const rfl)) fun k => ?_
  show (if true = true then _ else _) = _
  rw [if_pos rfl, hread, Option.bind_some]
theorem takeL_ev (s : ByteArray) (hs : s.size ≤ 1048576) : ∀ l : List Int, Ev (fun k => takeL k s l) (l.filter fun x => (TakeCellR s x).2)
 | [] => Ev.const rfl
 | x :: l => by
  have ih := takeL_ev s hs l
  refine Ev.bind (f := fun k (r : ByteArray × Bool) => (takeL k s l).bind fun m => some (if r.2 = true then x :: m else m)) (implTakeCell_ev s x hs) (Ev.bind (f := fun _ m => some (if (TakeCellR s x).2 = true then x :: m else m)) ih (Ev.const ?_))
  rw [List.filter_cons]
theorem implLastCells_ev (s : ByteArray) (hs : s.size ≤ 1048576) : Ev (fun k => impl_LastCells.f k s) (LastCellsR s) := by
 have hl := cellsR_len s
 refine Ev.bind (f := fun k (c : List Int × Bool) => if c.1.length ≤ 1000000 then (takeL k s c.1).bind fun m => some (m, c.2) else none) (implCells2_ev s hs) ?_
 refine Ev.congr (Ev.bind (f := fun _ m => some (m, (cellsR s).2)) (takeL_ev s hs (cellsR s).1) (Ev.const ?_)) fun k => if_pos (by omega)
 unfold cellsR LastCellsR
 rcases hf : formOf s with _ | t
 ·rfl
 ·obtain ⟨w, h, cs, rfl, hw1, hw, hh1, hh, hs2, hn, hk, ht⟩ := form_parts hf
  show some ((ballsOf cs).filter (fun x => (TakeCellR s x).2), true) = some ((ballsOf cs).filter (fun x => decide (takeOK w h cs x)), true)
  congr 2
  refine List.filter_congr fun x hx => ?_
  unfold TakeCellR
  rw [hf]
  simp only [Int.toNat_natCast]
  have hin : inCells cs x := by
   unfold ballsOf ballsTo at hx
   obtain ⟨j, hj, rfl⟩ := List.mem_map.1 hx
   have := List.mem_range.1 (List.mem_filter.1 hj).1
   exact ⟨by omega, by omega⟩
  by_cases hq : takeOK w h cs x
  ·rw [if_pos ⟨hin, hq⟩, decide_eq_true hq]
  ·rw [if_neg fun e => hq e.2, decide_eq_false hq]
theorem lawLastCells_ev (s : ByteArray) : Ev (fun k => laws_FnExactLastCells.f k s) true := by
 by_cases hs : s.size ≤ 1048576
 case neg =>
  refine Ev.congr (Ev.const (o := some true) rfl) fun k => ?_
  unfold laws_FnExactLastCells.f
  exact if_pos (by omega)
 have hsp := specLastCells_ev s
 have him := implLastCells_ev s hs
 have hl := LastCellsR_len s
 obtain ⟨l, hl1, hl2, hmk⟩ := mark_ev (LastCellsR s).1 1 (by omega) (by omega) (by omega)
 have hhd := held_ev l 1 (by omega) (by omega) (by omega) (by rw [hl1]; exact hl2)
 have heq := eqInts_ev (LastCellsR s).1 (by omega)
 have e0 : (1 : Int) + l.length = 1 + (LastCellsR s).1.length := by rw [hl1]
 rw [e0] at hhd
 have c1 : ¬ (1 : Int) + (LastCellsR s).1.length < 0 := by omega
 have hj1 : Ev (fun k => laws_FnExactLastCells.j1 k l (1 + (LastCellsR s).1.length) false) true := by
  refine Ev.step (Ev.bind (f := fun _ t118 => (if t118 < 0 then (some false) else (if t118 = (1 : Int) + (LastCellsR s).1.length then (some true) else (some false)))) hhd (Ev.const ?_)) fun k => ?_
  ·rw [if_neg c1, if_pos rfl]
  ·rw [laws_FnExactLastCells.j1, if_neg (by decide)]
 have hj0 : Ev (fun k => laws_FnExactLastCells.j0 k s (LastCellsR s).1 (LastCellsR s).2 (LastCellsR s).1 false) true := by
  refine Ev.step (Ev.bind (f := fun k bt110 => ((laws_heldIntS.f k bt110.2 1).bind fun t112 => (if t112 < 0 then (some false) else (if t112 = bt110.1 then ((impl_LastCells.f k s).bind fun bt113 => ((laws_eqIntS.f k bt113.1 (LastCellsR s).1).bind fun t117 => (if t117 = true then (laws_FnExactLastCells.j1 k bt110.2 bt110.1 (bt113.2 != (LastCellsR s).2)) else (laws_FnExactLastCells.j1 k bt110.2 bt110.1 true)))) else (some false))))) hmk ?_) fun k => ?_
  ·refine Ev.bind (f := fun k t112 => (if t112 < 0 then (some false) else (if t112 = (1 : Int) + (LastCellsR s).1.length then ((impl_LastCells.f k s).bind fun bt113 => ((laws_eqIntS.f k bt113.1 (LastCellsR s).1).bind fun t117 => (if t117 = true then (laws_FnExactLastCells.j1 k l (1 + (LastCellsR s).1.length) (bt113.2 != (LastCellsR s).2)) else (laws_FnExactLastCells.j1 k l (1 + (LastCellsR s).1.length) true)))) else (some false)))) hhd ?_
   refine Ev.congr (Ev.bind (f := fun k bt113 => ((laws_eqIntS.f k bt113.1 (LastCellsR s).1).bind fun t117 => (if t117 = true then (laws_FnExactLastCells.j1 k l (1 + (LastCellsR s).1.length) (bt113.2 != (LastCellsR s).2)) else (laws_FnExactLastCells.j1 k l (1 + (LastCellsR s).1.length) true)))) him ?_) fun k => ?_
   ·refine Ev.bind (f := fun k t117 => (if t117 = true then (laws_FnExactLastCells.j1 k l (1 + (LastCellsR s).1.length) ((LastCellsR s).2 != (LastCellsR s).2)) else (laws_FnExactLastCells.j1 k l (1 + (LastCellsR s).1.length) true))) heq ?_
    refine Ev.congr hj1 fun k => ?_
    rw [if_pos rfl, bne_self_eq_false]
   ·rw [if_neg c1, if_pos rfl]
  ·rw [laws_FnExactLastCells.j0, if_neg (by decide)]
 refine Ev.congr (Ev.bind (f := fun k (bt101 : List Int × Bool) => ((impl_LastCells.f k s).bind fun bt105 => ((laws_eqIntS.f k bt105.1 bt101.1).bind fun t109 => (if t109 = true then (laws_FnExactLastCells.j0 k s bt101.1 bt101.2 bt105.1 (bt105.2 != bt101.2)) else (laws_FnExactLastCells.j0 k s bt101.1 bt101.2 bt105.1 true))))) hsp ?_) fun k => by unfold laws_FnExactLastCells.f; rw [if_neg (by omega)]
 refine Ev.bind (f := fun k bt105 => ((laws_eqIntS.f k bt105.1 (LastCellsR s).1).bind fun t109 => (if t109 = true then (laws_FnExactLastCells.j0 k s (LastCellsR s).1 (LastCellsR s).2 bt105.1 (bt105.2 != (LastCellsR s).2)) else (laws_FnExactLastCells.j0 k s (LastCellsR s).1 (LastCellsR s).2 bt105.1 true)))) him ?_
 refine Ev.bind (f := fun k t109 => (if t109 = true then (laws_FnExactLastCells.j0 k s (LastCellsR s).1 (LastCellsR s).2 (LastCellsR s).1 ((LastCellsR s).2 != (LastCellsR s).2)) else (laws_FnExactLastCells.j0 k s (LastCellsR s).1 (LastCellsR s).2 (LastCellsR s).1 true))) heq ?_
 refine Ev.congr hj0 fun k => ?_
 rw [if_pos rfl, bne_self_eq_false]
end Go.Proofs.YtggdmblknkcigaaGreatDoor.Q
end
