/- Texts of this claim, joined. -/
import Derived.Test.YtepmpilopmcjpaaGreatDoorJPathOfBall03
import Derived.Test.YtepmpilopmcjpaaGreatDoorJPathOfBall04
import Derived.Test.YtepmpilopmcjpaaGreatDoorJPathOfBall01
set_option linter.unusedVariables false
set_option linter.unusedSimpArgs false
set_option linter.unusedSectionVars false
section
namespace Go.Proofs.YtepmpilopmcjpaaGreatDoor.Q
set_option linter.unusedSectionVars false
set_option linter.unusedSimpArgs false
open Go.RowKit Go.Proofs.YtepmpilopmcjpaaGreatDoorW.PrintWords Go.Proofs.YtepmpilopmcjpaaGreatDoorW.PrintLast Go.Proofs.YtepmpilopmcjpaaGreatDoorW.PrintMore
def pathI (k : Nat) : List Int → Int → Int → List Int → Int → List Int → Option (List Int)
 | [], _, _, _, _, out => some out
 | b :: l, w, h, cs, x, out => (impl_tray_slide.f k w h cs b).bind fun m => if 0 ≤ x ∧ x ≤ 1000000 then (impl_tray_tilted.f k w h cs b).bind fun g => pathI k l g.1 g.2.1 g.2.2 ((asF m x).getD 0) (out ++ [(asF m x).getD 0]) else none
def impl_PathOfBall.f (k : Nat) (a0 a1 a2 : ByteArray) : Option (List Int × Bool) :=
 (impl_cellOf.f k a0 a1).bind fun c => if c.2 = true then (impl_IsWord.f a2).bind fun b => if b = true then (impl_read.f a0).bind fun g => (convB.f a2).bind fun l => if l.length ≤ 1000 then (pathI k l g.1 g.2.1 g.2.2 c.1 [c.1]).bind fun out => some (out, true) else none else some ([], false) else some ([], false)
set_option maxHeartbeats 16000000 in
set_option maxRecDepth 100000 in
theorem impl_PathOfBall.calls (k : Nat) (a0 a1 a2 : ByteArray) (r1 : List Int) (r2 : Bool) (w : World) (hG : GoodW w) (h : impl_PathOfBall.f k a0 a1 a2 = some (r1, r2)) :
  Calls Tryz.prog 12 #[.string a0, .string a1, .string a2] w fun e w' => ∃ v0_ : Value, e = .returned (.tuple #[v0_, .bool r2]) ∧ Kd.R (Kd.int .i64) 3 w' w.heap.size (fun _ => True) v0_ r1 ∧ Below w.heap.size w w' := by
 unfold impl_PathOfBall.f at h
 have HG := Aside0.mk hG
 clear hG
 obtain ⟨⟨c, ok⟩, hc, h⟩ := Option.bind_eq_some_iff.1 h
 have HCELL := Aside0.mk hc
 clear hc
 cases ok with
 | false =>
  rw [if_neg Bool.false_ne_true] at h
  simp only [Option.some.injEq, Prod.mk.injEq] at h
  obtain ⟨rfl, rfl⟩ := h
  go_enter Tryz.func12, Tryz.ntmps12
  go_wp2_with (first
   | (go_at_call 43; refine (impl_cellOf.calls k a0 a1 c false _ HG.out HCELL.out).mono ?_; rintro e w1 ⟨rfl, hb1⟩; (have HB1 := Aside0.mk hb1); clear hb1))
  go_ret2
  exact ⟨_, rfl, Kd.R_nil _ _ _ _ _, HB1.out⟩
 | true =>
  rw [if_pos rfl] at h
  obtain ⟨b, hb, h⟩ := Option.bind_eq_some_iff.1 h
  have HW := Aside0.mk hb
  clear hb
  cases b with
  | false =>
   rw [if_neg (by decide)] at h
   simp only [Option.some.injEq, Prod.mk.injEq] at h
   obtain ⟨rfl, rfl⟩ := h
   go_enter Tryz.func12, Tryz.ntmps12
   go_wp2_with (first
    | (go_at_call 43; refine (impl_cellOf.calls k a0 a1 c true _ HG.out HCELL.out).mono ?_; rintro e w1 ⟨rfl, hb1⟩; (have HB1 := Aside0.mk hb1); clear hb1)
    | (go_at_call 44; refine (impl_IsWord.calls a2 false _ HW.out).mono ?_; rintro e w2 ⟨rfl, hb2⟩; (have HB2 := Aside0.mk (below_then HB1.out HB1.out.size hb2)); clear hb2))
   go_ret2
   exact ⟨_, rfl, Kd.R_nil _ _ _ _ _, HB2.out⟩
  | true =>
   rw [if_pos rfl] at h
   obtain ⟨⟨gw, gh, gc⟩, hr, h⟩ := Option.bind_eq_some_iff.1 h
   obtain ⟨bs, hbs, h⟩ := Option.bind_eq_some_iff.1 h
   split at h
   case isFalse => cases h
   rename_i hlen
   obtain ⟨out, hp, h⟩ := Option.bind_eq_some_iff.1 h
   simp only [Option.some.injEq, Prod.mk.injEq] at h
   obtain ⟨rfl, rfl⟩ := h
   have HRD := Aside0.mk hr
   have HCV := Aside0.mk hbs
   have HLEN := Aside0.mk hlen
   have HP := Aside0.mk hp
   clear hr hbs hlen hp
   go_enter Tryz.func12, Tryz.ntmps12
   go_wp2_with (first
    | (go_at_call 43; refine (impl_cellOf.calls k a0 a1 c true _ HG.out HCELL.out).mono ?_; rintro e w1 ⟨rfl, hb1⟩; (have HB1 := Aside0.mk hb1); clear hb1)
    | (go_at_call 44; refine (impl_IsWord.calls a2 true _ HW.out).mono ?_; rintro e w2 ⟨rfl, hb2⟩; (have HB2 := Aside0.mk (below_then HB1.out HB1.out.size hb2)); clear hb2)
    | (go_at_call 33; refine (impl_read.calls a0 gw gh gc _ (GoodW.below HG.out HB2.out) HRD.out).mono ?_; rintro e w3 ⟨v3, rfl, ho3, hb3⟩; (have HB3 := Aside0.mk (below_then HB2.out HB2.out.size hb3)); (obtain ⟨A3, c3, e3⟩ := Kd.V_slice ho3); subst e3; (have HV3 := Aside0.mk (Kd.V_bound ho3)); clear ho3 hb3)
    | ((with_reducible refine gate_dst (N := 30) rfl ?_); refine R_litG (Kd.int .i64) _ 3 ?hg (N := 30) ?hd (xs := ([c] : List Int)) (inner := [.int .i64 c]) (ok := fun _ => True) (okp := fun _ => True) ?hr ?hp (fun _ hk => hk) trivial (Below.refl _ _) (Nat.le_refl _) (by simp) ?_; (case hd => rfl); (case hg => first | rfl | decide | (simp [Region.wanted, yielded]; done) | (go_simp; done)); (case hr => first | (go_simp; done) | (go_simp; rfl)); (case hp => exact (Reps.one (show Kd.M (Kd.int .i64) _ _ _ c [.int .i64 c] from rfl) (Reps.none _ _))); intro v4 w4 ho4 hb4 hg4 hn4; (have HV4 := Aside0.mk (Kd.V_below HV3.out hb4)); (have HB4 := Aside0.mk (below_then HB3.out HB3.out.size hb4)); (have HN4 := Aside0.mk (Kd.R_base ho4)); (have HS4 := Aside0.mk hb4.size); (have HO4 := Aside0.mk (Kd.R_lower ho4 HB3.out.size)); clear ho4 hb4 hg4 hn4 HV3)
    | ((with_reducible refine gate_dst (N := 10) rfl ?_); refine box_event ?hg (N := 10) ?hd (cs := #[.int .i64 0, .int .i64 0, .slice none 0 0]) (t := 55) ?hr ?_; (case hd => rfl); (case hg => rfl); (case hr => first | (go_simp; done) | (go_simp; rfl)); intro go hg w5 hbox hb; (have HGO := Aside0.mk (show w3.heap.size ≤ go by rw [hg]; exact HS4.out)); (have HB5 := Aside0.mk (below_then HB4.out HB4.out.size hb)); (have HV5 := Aside0.mk (Kd.V_below HV4.out hb)); (have HO5 := Aside0.mk (Kd.R_below HO4.out hb)); (have HU := Aside0.mk hbox); (have y0 := (blk_cell HU.out 0).trans rfl); (have y1 := (blk_cell HU.out 1).trans rfl); (have y2 := (blk_cell HU.out 2).trans rfl); (have f0 := blk_frozen HU.out 0); (have f1 := blk_frozen HU.out 1); (have f2 := blk_frozen HU.out 2); clear hbox hb hg HV4 HO4 HB4)
    | ((with_reducible refine gate_store (t := 55) (p := 10) rfl ?_); refine store_event (t := 55) (p := 10) (v := ?vo) (w1 := (((w5.setCell ⟨go, 0, none⟩ (.int .i64 gw)).setCell ⟨go, 1, none⟩ (.int .i64 gh)).setCell ⟨go, 2, none⟩ (.slice A3 gc.length c3))) ?hg ?ho ?hn ?hr ?_; (case ho => rfl); (case hg => rfl); (case hn => rfl); (case hr => first | (go_simp; done) | (go_simp; rfl)); intro w6 hw; (have HGW := Aside0.mk (Nat.le_trans HB3.out.size HGO.out)); (have HB6 := Aside0.mk (show Below w.heap.size w w6 by rw [hw]; exact below_set (below_set (below_set HB5.out HGW.out) HGW.out) HGW.out)); (have HU6 := Aside0.mk (show w6.heap[go]? = some (.cells #[.int .i64 gw, .int .i64 gh, .slice A3 gc.length c3] 55 (0, 0)) by rw [hw]; refine blk_put (cs := #[.int .i64 gw, .int .i64 gh, .slice none 0 0]) ?_ 2 _ rfl; refine blk_put (cs := #[.int .i64 gw, .int .i64 0, .slice none 0 0]) ?_ 1 _ rfl; refine blk_put (cs := #[.int .i64 0, .int .i64 0, .slice none 0 0]) ?_ 0 _ rfl; exact HU.out)); (have HV6 := Aside0.mk (show Kd.V (Kd.int .u8) 5 w6 0 (fun k_ => k_ ≠ go ∧ some k_ ≠ v4.ownBlock) (.slice A3 gc.length c3) gc by rw [hw]; exact Kd.V_mono (Kd.V_far (p := ⟨go, 2, none⟩) (Kd.V_far (p := ⟨go, 1, none⟩) (Kd.V_far (p := ⟨go, 0, none⟩) HV5.out (fun k_ hk => Nat.ne_of_lt (Nat.lt_of_lt_of_le hk.2 HGO.out)) (.int .i64 gw)) (fun k_ hk => Nat.ne_of_lt (Nat.lt_of_lt_of_le hk.2 HGO.out)) (.int .i64 gh)) (fun k_ hk => Nat.ne_of_lt (Nat.lt_of_lt_of_le hk.2 HGO.out)) (.slice A3 gc.length c3)) (fun k_ hk => ⟨Nat.ne_of_lt (Nat.lt_of_lt_of_le hk.2 HGO.out), fun e => Nat.lt_irrefl _ (Nat.lt_of_lt_of_le hk.2 (HN4.out k_ e.symm))⟩))); (have HO6 := Aside0.mk (show Kd.R (Kd.int .i64) 3 w6 w.heap.size (fun _ => True) v4 [c] by rw [hw]; exact Kd.R_mono (Kd.R_far (p := ⟨go, 2, none⟩) (Kd.R_far (p := ⟨go, 1, none⟩) (Kd.R_far (p := ⟨go, 0, none⟩) (Kd.R_types HO5.out HU.out (by decide)) (fun _ hk => hk.2) (.int .i64 gw)) (fun _ hk => hk.2) (.int .i64 gh)) (fun _ hk => hk.2) (.slice A3 gc.length c3)) (fun _ _ => trivial))); clear hw HV5 HO5 HB5 HU y0 y1 y2 f0 f1 f2)
    | ((with_reducible refine gate_dst (N := 32) rfl ?_); refine convB.step rfl (N := 32) rfl 9 43 5 _ rfl Tryz.underlying9 Tryz.underlying43 Tryz.underlying5 rfl HCV.out ?_; intro v7 w7 hv7 hb7; (have HV7 := Aside0.mk (Kd.V_below HV6.out hb7)); (have HO7 := Aside0.mk (Kd.R_below HO6.out hb7)); (have HU7 := Aside0.mk ((hb7.block go (blk_lt HU6.out)).trans HU6.out)); (have HB7 := Aside0.mk (below_then HB6.out HB6.out.size hb7)); (obtain ⟨A7, c7, e7⟩ := Kd.V_slice hv7); subst e7; (have HY7 := Aside0.mk (Kd.V_mono (ok' := fun k_ => k_ ≠ go ∧ some k_ ≠ v4.ownBlock) hv7 (fun k_ hk => ⟨fun e => by have := blk_lt HU6.out; omega, fun e => by have := Kd.R_lt HO6.out k_ e.symm; omega⟩))); clear hv7 hb7 HV6 HO6 HU6 HB6))
   go_loopg [8, 11, 34] bs.length (fun gg v8 v11 v34 wr => ∃ (i : Nat) (x ww hh : Int) (cs lo : List Int) (A : Option Addr) (cc : Nat) (vo : Value), v8 = .int .i64 x ∧ v11 = vo ∧ v34 = .int .i64 i ∧ Aside0 ((i ≤ bs.length ∧ bs.length - i ≤ gg ∧ lo.length ≤ i + 1) ∧ pathI k (bs.drop i) ww hh cs x lo = some out) ∧ Aside0 (Kd.V (Kd.int .u8) 5 wr 0 (fun k_ => k_ ≠ go ∧ some k_ ≠ vo.ownBlock) (.slice A cs.length cc) cs) ∧ Aside0 (wr.heap[go]? = some (.cells #[.int .i64 ww, .int .i64 hh, .slice A cs.length cc] 55 (0, 0))) ∧ Aside0 (Kd.R (Kd.int .i64) 3 wr w.heap.size (fun _ => True) vo lo) ∧ Aside0 (Kd.V (Kd.int .u8) 5 wr 0 (fun k_ => k_ ≠ go ∧ some k_ ≠ vo.ownBlock) (.slice A7 bs.length c7) bs) ∧ Aside0 (Below w.heap.size w wr))
   case atStart => exact ⟨0, c, gw, gh, gc, [c], A3, c3, v4, rfl, rfl, rfl, ⟨⟨Nat.zero_le _, Nat.le_refl _, Nat.le_refl _⟩, by rw [List.drop_zero]; exact HP.out⟩, HV7, HU7, HO7, HY7, HB7⟩
   case round =>
    clear HV7 HU7 HO7 HY7 HB7 HP HN4 HS4
    obtain ⟨i, x, ww, hh, cs, lo, A, cc, vo, rfl, rfl, rfl, HA, HV, HU, HO, HY, HB⟩ := hrel
    by_cases hli : i < bs.length
    ·have c2 : decide ((i : Int) < (bs.length : Int)) = true := decide_eq_true (by omega)
     have p1 : (0 ≤ (i : Int)) = True := eq_true (by omega)
     have p2 : ((i : Int) < (bs.length : Int)) = True := eq_true (by omega)
     have hsp := HA.out.2
     rw [drop_at bs 0 i hli] at hsp
     obtain ⟨ad3, e3, hx3⟩ := Kd.at_int (Kd.V_reads' HY.out).2.2 (i : Int) (by omega) (by omega)
     cases e3
     rw [Int.toNat_natCast] at hx3
     rw [show rd bs (i : Int) = bs.getD i 0 from by unfold rd; rw [Int.toNat_natCast]] at hx3
     generalize bs.getD i 0 = d at hx3 hsp
     unfold pathI at hsp
     obtain ⟨m, hm, hsp⟩ := Option.bind_eq_some_iff.1 hsp
     split at hsp
     case isFalse => cases hsp
     rename_i hxr
     obtain ⟨⟨w2, h2, cs2⟩, hg, hsp⟩ := Option.bind_eq_some_iff.1 hsp
     have HM := Aside0.mk hm
     have HXR := Aside0.mk hxr
     have HT := Aside0.mk hg
     have HNX := Aside0.mk hsp
     have HGK := Aside0.mk (show bs.length - i ≤ gk ∧ i < bs.length ∧ lo.length ≤ i + 1 from ⟨HA.out.1.2.1, hli, HA.out.1.2.2⟩)
     have z0 := (blk_cell HU.out 0).trans rfl
     have z1 := (blk_cell HU.out 1).trans rfl
     have z2 := (blk_cell HU.out 2).trans rfl
     clear hm hxr hg hsp HA hli
     go_wp2_with (first
      | (go_at_call 45; refine (impl_tray_slide.calls k ww hh A cc cs d m _ (Kd.V_reads' HV.out).2.2 (Kd.V_reads' HV.out).2.1 HM.out).mono ?_; rintro e w8 ⟨bm, rfl, hbm, hM8, hb8⟩; (have HM8 := Aside0.mk hM8); (have HV8 := Aside0.mk (Kd.V_below HV.out hb8)); (have HU8 := Aside0.mk ((hb8.block go (blk_lt HU.out)).trans HU.out)); (have HO8 := Aside0.mk (Kd.R_below HO.out hb8)); (have HY8 := Aside0.mk (Kd.V_below HY.out hb8)); (have HB8 := Aside0.mk (below_then HB.out HB.out.size hb8)); clear hbm hM8 hb8 HV HU HO HY HB hx3 z0 z1 z2; (have z0 := (blk_cell HU8.out 0).trans rfl); (have z1 := (blk_cell HU8.out 1).trans rfl); (have z2 := (blk_cell HU8.out 2).trans rfl))
      | (at_lookup; refine wpList_look rfl _ rfl _ _ 64 rfl Tryz.underlying64 bm m.length (asF m) HM8.out x rfl rfl HXR.out ?_)
      | (go_at_call 46; refine (impl_tray_tilted.calls k ww hh A cc cs d w2 h2 cs2 _ (Kd.V_reads' HV8.out).2.2 (Kd.V_reads' HV8.out).2.1 HT.out).mono ?_; rintro e w9 ⟨v9, rfl, hr9, hb9⟩; (have HW9 := Aside0.mk (show go < w8.heap.size ∧ (∀ q, u11.ownBlock = some q → q < w8.heap.size) from ⟨blk_lt HU8.out, Kd.R_lt HO8.out⟩)); (obtain ⟨A9, c9, e9⟩ := Kd.R_slice hr9); subst e9; (have HV9 := Aside0.mk (show Kd.V (Kd.int .u8) 5 w9 0 (fun k_ => k_ ≠ go ∧ some k_ ≠ u11.ownBlock) (.slice A9 cs2.length c9) cs2 from Kd.V_mono (Kd.R_V (Kd.R_tight rfl hr9)) (fun k_ hk => ⟨fun e => by have h1 := Kd.R_base hr9 k_ hk.symm; have h2 := HW9.out.1; omega, fun e => by have h1 := Kd.R_base hr9 k_ hk.symm; have h2 := HW9.out.2 k_ e.symm; omega⟩))); (have HU9 := Aside0.mk ((hb9.block go (blk_lt HU8.out)).trans HU8.out)); (have HO9 := Aside0.mk (Kd.R_below HO8.out hb9)); (have HY9 := Aside0.mk (Kd.V_below HY8.out hb9)); (have HB9 := Aside0.mk (below_then HB8.out HB8.out.size hb9)); clear hr9 hb9 HM8 HV8 HU8 HO8 HY8 HB8 HW9 z0 z1 z2)
      | ((with_reducible refine gate_dst (N := 49) rfl ?_); refine Kd.R_append (Kd.int .i64) (w0 := w) w.heap.size rfl (.tmp 46) (.tmp 48) 25 3 (.int .i64 0) 8 rfl Tryz.underlying25 info3 rfl (by decide) (by omega) u11 lo ((asF m x).getD 0) [.int .i64 ((asF m x).getD 0)] (fun _ => True) (fun _ => False) rfl rfl ?aP (fun _ hk => hk.elim) ?aF ?aO ?aB ?aS ?aL ?_; (case aP => exact rfl); (case aB => exact HB9.out); (case aF => exact (fun _ _ => trivial)); (case aO => exact HO9.out); (case aS => exact HB9.out.size); (case aL => have h1 := HGK.out; have h2 := HLEN.out; omega); intro v10 w10 ho10 hb10 hg10 hat10; (have HV10 := Aside0.mk (Kd.V_after (ok := fun k_ => k_ ≠ go) HV9.out hg10 hat10)); (have HY10 := Aside0.mk (Kd.V_after (ok := fun k_ => k_ ≠ go) HY9.out hg10 hat10)); (have HU10 := Aside0.mk (blk_grown (g := go) (o := .cells #[.int .i64 ww, .int .i64 hh, .slice A cs.length cc] 55 (0, 0)) HU9.out hg10 (Kd.R_ne HO9.out HU9.out (by decide)))); (have HO10 := Aside0.mk ho10); (have HB10 := Aside0.mk hb10); clear ho10 hb10 hg10 hat10 HV9 HU9 HO9 HY9 HB9; (have y0 := (blk_cell HU10.out 0).trans rfl); (have y1 := (blk_cell HU10.out 1).trans rfl); (have y2 := (blk_cell HU10.out 2).trans rfl); (have f0 := blk_frozen HU10.out 0); (have f1 := blk_frozen HU10.out 1); (have f2 := blk_frozen HU10.out 2)))
     obtain ⟨w11, hw⟩ : ∃ w11, w11 = ((w10.setCell ⟨go, 0, none⟩ (.int .i64 w2)).setCell ⟨go, 1, none⟩ (.int .i64 h2)).setCell ⟨go, 2, none⟩ (.slice A9 cs2.length c9) := ⟨_, rfl⟩
     rw [← hw]
     have HB11 := Aside0.mk (show Below w.heap.size w w11 by rw [hw]; exact below_set (below_set (below_set HB10.out HGW.out) HGW.out) HGW.out)
     have HU11 := Aside0.mk (show w11.heap[go]? = some (.cells #[.int .i64 w2, .int .i64 h2, .slice A9 cs2.length c9] 55 (0, 0)) by rw [hw]; refine blk_put (cs := #[.int .i64 w2, .int .i64 h2, .slice A cs.length cc]) ?_ 2 _ rfl; refine blk_put (cs := #[.int .i64 w2, .int .i64 hh, .slice A cs.length cc]) ?_ 1 _ rfl; refine blk_put (cs := #[.int .i64 ww, .int .i64 hh, .slice A cs.length cc]) ?_ 0 _ rfl; exact HU10.out)
     have HV11 := Aside0.mk (show Kd.V (Kd.int .u8) 5 w11 0 (fun k_ => k_ ≠ go ∧ some k_ ≠ v10.ownBlock) (.slice A9 cs2.length c9) cs2 by rw [hw]; exact Kd.V_far (p := ⟨go, 2, none⟩) (Kd.V_far (p := ⟨go, 1, none⟩) (Kd.V_far (p := ⟨go, 0, none⟩) HV10.out (fun k_ hk => hk.1) (.int .i64 w2)) (fun k_ hk => hk.1) (.int .i64 h2)) (fun k_ hk => hk.1) (.slice A9 cs2.length c9))
     have HY11 := Aside0.mk (show Kd.V (Kd.int .u8) 5 w11 0 (fun k_ => k_ ≠ go ∧ some k_ ≠ v10.ownBlock) (.slice (some ad3) bs.length c7) bs by rw [hw]; exact Kd.V_far (p := ⟨go, 2, none⟩) (Kd.V_far (p := ⟨go, 1, none⟩) (Kd.V_far (p := ⟨go, 0, none⟩) HY10.out (fun k_ hk => hk.1) (.int .i64 w2)) (fun k_ hk => hk.1) (.int .i64 h2)) (fun k_ hk => hk.1) (.slice A9 cs2.length c9))
     have HO11 := Aside0.mk (show Kd.R (Kd.int .i64) 3 w11 w.heap.size (fun _ => True) v10 (lo ++ [(asF m x).getD 0]) by rw [hw]; exact Kd.R_mono (Kd.R_far (p := ⟨go, 2, none⟩) (Kd.R_far (p := ⟨go, 1, none⟩) (Kd.R_far (p := ⟨go, 0, none⟩) (Kd.R_types HO10.out HU10.out (by decide)) (fun _ hk => hk.2) (.int .i64 w2)) (fun _ hk => hk.2) (.int .i64 h2)) (fun _ hk => hk.2) (.slice A9 cs2.length c9)) (fun _ _ => trivial))
     clear hw HB10 HU10 HV10 HY10 HO10
     go_roundg (bs.length - (i + 1))
     case measure => have := HGK.out; omega
     case rel => exact ⟨i + 1, (asF m x).getD 0, w2, h2, cs2, lo ++ [(asF m x).getD 0], A9, c9, v10, rfl, rfl, by first | rfl | rw [wrap64_nat i (by have := HGK.out; have := HLEN.out; omega)] | simp, ⟨⟨by have := HGK.out; omega, Nat.le_refl _, by rw [List.length_append, List.length_singleton]; have := HGK.out; omega⟩, HNX.out⟩, HV11, HU11, HO11, HY11, HB11⟩
    ·obtain rfl : i = bs.length := by have := HA.out.1.1; omega
     have c2 : decide ((bs.length : Int) < (bs.length : Int)) = false := decide_eq_false (by omega)
     have he := HA.out.2
     rw [List.drop_length] at he
     obtain rfl : lo = out := Option.some.inj he
     clear he HA hli HV HU HY
     go_wp2
     go_ret2
     exact ⟨_, rfl, HO.out, HB.out⟩
end Go.Proofs.YtepmpilopmcjpaaGreatDoor.Q
end
