/- Texts of this claim, joined. -/
import Derived.Test.YtchjgphnglklcaaGreatDoorJWordToCell01
import Derived.Shelf.SlSortCmp.NoneTotal
set_option linter.unusedVariables false
set_option linter.unusedSimpArgs false
set_option linter.unusedSectionVars false
section
namespace Go.Proofs.YtchjgphnglklcaaGreatDoor.Q
set_option linter.unusedSectionVars false
open Go.RowKit Go.Shelf Go.Proofs.YtchjgphnglklcaaGreatDoorW.PrintWords Go.Proofs.YtchjgphnglklcaaGreatDoorW.PrintLast Go.Proofs.YtchjgphnglklcaaGreatDoorW.PrintMore
def only (cs : List Int) (c x : Int) : Prop := 0 ≤ x ∧ x < (cs.length : Int) ∧ rd cs x = c ∧ ∀ y : Int, 0 ≤ y → y < (cs.length : Int) → rd cs y = c → y = x
def idxL : List Int → Int → Nat → Int
 | [], _, _ => -1
 | x :: l, c, i => if x = c then (i : Int) else idxL l c (i + 1)
theorem idxL_only : ∀ (l : List Int) (cs : List Int) (c x : Int) (i : Nat), cs.drop i = l → only cs c x → (i : Int) ≤ x → idxL l c i = x
 | [], cs, c, x, i, hd, h, hi => by
  have := congrArg List.length hd
  simp at this
  have := h.2.1
  omega
 | y :: l, cs, c, x, i, hd, h, hi => by
  obtain ⟨h1, h2, h3⟩ := rd_drop hd;unfold idxL
  by_cases e : y = c
  ·rw [if_pos e]
   exact h.2.2.2 i (by omega) (by omega) (h2.trans e)
  ·rw [if_neg e]
   refine idxL_only l cs c x (i + 1) h3 h ?_
   have : (i : Int) ≠ x := fun e2 => e (by rw [← h2, e2]; exact h.2.2.1)
   omega
theorem idxL_at : ∀ (l : List Int) (cs : List Int) (c : Int) (i : Nat), cs.drop i = l → 0 ≤ idxL l c i → (i : Int) ≤ idxL l c i ∧ idxL l c i < (cs.length : Int) ∧ rd cs (idxL l c i) = c
 | [], _, _, _, _, h => by simp [idxL] at h
 | y :: l, cs, c, i, hd, h => by
  obtain ⟨h1, h2, h3⟩ := rd_drop hd;unfold idxL at h ⊢
  by_cases e : y = c
  ·rw [if_pos e] at h ⊢
   exact ⟨by omega, by omega, h2.trans e⟩
  ·rw [if_neg e] at h ⊢
   obtain ⟨a, b, c'⟩ := idxL_at l cs c (i + 1) h3 h
   exact ⟨by omega, b, c'⟩
theorem named_only {cs : List Int} (hk : namedOK cs) {c x : Int} (h1 : 97 ≤ c) (h2 : c ≤ 102) (x0 : 0 ≤ x) (x1 : x < (cs.length : Int)) (hx : rd cs x = c) : only cs c x := by
 refine ⟨x0, x1, hx, fun y y0 y1 hy => ?_⟩
 have hc := hk c h1 h2;obtain ⟨n, rfl⟩ := Int.eq_ofNat_of_zero_le x0;obtain ⟨m, rfl⟩ := Int.eq_ofNat_of_zero_le y0
 have hn : n < cs.length := by omega
 have hm : m < cs.length := by omega
 rw [rd_nat cs n hn] at hx
 rw [rd_nat cs m hm] at hy
 have key : ∀ (l : List Int) (a b : Nat) (ha : a < l.length) (hb : b < l.length), a < b → l[a] = c → l[b] = c → 2 ≤ l.count c := by
  intro l
  induction l with
  | nil => intro a b ha; simp at ha
  | cons z l ih =>
   intro a b ha hb hab ea eb;obtain ⟨b, rfl⟩ : ∃ b', b = b' + 1 := ⟨b - 1, by omega⟩
   rw [List.getElem_cons_succ] at eb
   have hb2 : b < l.length := by simpa using hb
   cases a with
   | zero =>
    rw [List.getElem_cons_zero] at ea
    rw [ea, List.count_cons_self]
    have := List.count_pos_iff.2 (show c ∈ l from eb ▸ List.getElem_mem hb2)
    omega
   | succ a =>
    rw [List.getElem_cons_succ] at ea
    have := ih a b (by simpa using ha) hb2 (by omega) ea eb;have h3 := List.count_le_count_cons (a := c) (b := z) (l := l)
    omega
 rcases Nat.lt_trichotomy m n with h3 | h3 | h3
 ·have := key cs m n hm hn h3 hy hx; omega
 ·rw [h3]
 ·have := key cs n m hn hm h3 hx hy; omega
end Go.Proofs.YtchjgphnglklcaaGreatDoor.Q
end
section
namespace Go.Proofs.YtchjgphnglklcaaGreatDoor.Q
set_option linter.unusedSectionVars false
open Go.RowKit Go.Proofs.YtchjgphnglklcaaGreatDoorW.PrintWords Go.Proofs.YtchjgphnglklcaaGreatDoorW.PrintLast Go.Proofs.YtchjgphnglklcaaGreatDoorW.PrintMore
theorem isBall_eq (a : Int) : impl_isBall.f a = some (isB a) := by
 unfold impl_isBall.f impl_isName.f isB
 by_cases h1 : a = 111
 ·rw [if_pos h1, decide_eq_true (Or.inl h1)]
 ·rw [if_neg h1]
  by_cases h2 : a ≥ 97
  ·rw [if_pos h2, Option.bind_some]
   congr 1
   exact decide_eq_decide.2 (by omega)
  ·rw [if_neg h2, Option.bind_some, decide_eq_false (by omega)]
end Go.Proofs.YtchjgphnglklcaaGreatDoor.Q
end
section
namespace Go.Proofs.YtchjgphnglklcaaGreatDoor.Q
open Go.RowKit Go.Proofs.YtchjgphnglklcaaGreatDoorW.PrintWords Go.Proofs.YtchjgphnglklcaaGreatDoorW.PrintLast Go.Proofs.YtchjgphnglklcaaGreatDoorW.PrintMore
attribute [local go_sem] max2_int min2_int max_two min_two max_three min_three max_four min_four
set_option linter.unusedVariables false
set_option linter.unusedSimpArgs false
def spec_l1In.f (a0 : Int) (a1 : Int) (a2 : Int) : Option (Bool) := if a0 ≥ a1 then (some (decide (a0 ≤ a2))) else (some false)
set_option maxHeartbeats 8000000 in
set_option maxRecDepth 100000 in
theorem spec_l1In.calls (a0 : Int) (a1 : Int) (a2 : Int) (r : Bool) (w : World) (h : spec_l1In.f a0 a1 a2 = some r) :
  Calls Tryz.prog 116 #[.int .i64 a0, .int .i64 a1, .int .i64 a2] w fun e w' => e = .returned (.bool r) ∧ Drawn0 w w' := by
 have H : (if a0 ≥ a1 then (some (decide (a0 ≤ a2))) else (some false)) = some r := h;clear h
 by_cases c4 : a0 ≥ a1
 ·rw [if_pos c4] at H
  have c4b0 : decide (a1 ≤ a0) = true := decide_eq_true c4;clear c4;obtain rfl := Option.some.inj H
  go_enter Tryz.func116, Tryz.ntmps116
  go_wp2
  go_ret
  exact ⟨by first | rfl | (simp; done) | (simp [*]; done), by repeat (first | exact Drawn0.refl _ | apply Drawn0.step)⟩
 ·rw [if_neg c4] at H
  have c4b0 : decide (a1 ≤ a0) = false := decide_eq_false c4;clear c4;obtain rfl := Option.some.inj H
  go_enter Tryz.func116, Tryz.ntmps116
  go_wp2
  go_ret
  exact ⟨by first | rfl | (simp; done) | (simp [*]; done), by repeat (first | exact Drawn0.refl _ | apply Drawn0.step)⟩
end Go.Proofs.YtchjgphnglklcaaGreatDoor.Q
end
section
namespace Go.Proofs.YtchjgphnglklcaaGreatDoor.Q
open Go.RowKit Go.Proofs.YtchjgphnglklcaaGreatDoorW.PrintWords Go.Proofs.YtchjgphnglklcaaGreatDoorW.PrintLast Go.Proofs.YtchjgphnglklcaaGreatDoorW.PrintMore
attribute [local go_sem] max2_int min2_int max_two min_two max_three min_three max_four min_four
set_option linter.unusedVariables false
set_option linter.unusedSimpArgs false
def spec_tyCell.f (a0_0 : Int) (a0_1 : Int) (l0_2 : List Int) (a1 : Int) (a2 : Int) : Option (Bool) := (spec_l1In.f a1 0 (wrap64 (a0_0 - 1))).bind fun t102 => (if t102 = true then ((spec_l1In.f a2 0 (wrap64 (a0_1 - 1))).bind fun t103 => (some t103)) else (some false))
set_option maxHeartbeats 8000000 in
set_option maxRecDepth 100000 in
theorem spec_tyCell.calls (a0_0 : Int) (a0_1 : Int) (A0_2 : Option Addr) (c0_2 : Nat) (l0_2 : List Int) (a1 : Int) (a2 : Int) (r : Bool) (w : World) (hr0_2 : Kd.C (Kd.int .u8) w A0_2 l0_2.length l0_2) (hc0_2 : l0_2.length ≤ c0_2) (h : spec_tyCell.f a0_0 a0_1 l0_2 a1 a2 = some r) :
  Calls Tryz.prog 103 #[.agg #[.int .i64 a0_0, .int .i64 a0_1, .slice A0_2 l0_2.length c0_2], .int .i64 a1, .int .i64 a2] w fun e w' => e = .returned (.bool r) ∧ Below w.heap.size w w' := by
 have hu38 := Tryz.underlying38;have HR0_2 := Aside0.mk hr0_2;have HC0_2 := Aside0.mk hc0_2;clear hr0_2 hc0_2;have HB := Aside0.mk (Below.refl w.heap.size w);have H : ((spec_l1In.f a1 0 (wrap64 (a0_0 - 1))).bind fun t102 => (if t102 = true then ((spec_l1In.f a2 0 (wrap64 (a0_1 - 1))).bind fun t103 => (some t103)) else (some false))) = some r := h;clear h;replace H := Option.bind_eq_some_iff.mp H;obtain ⟨t102, A40, H⟩ := H;replace H : (if t102 = true then ((spec_l1In.f a2 0 (wrap64 (a0_1 - 1))).bind fun t103 => (some t103)) else (some false)) = some r := H;have A4 := Aside0.mk A40;clear A40
 by_cases c5 : t102 = true
 ·subst c5
  have H1 : ((spec_l1In.f a2 0 (wrap64 (a0_1 - 1))).bind fun t103 => (some t103)) = some r := by rw [if_pos rfl] at H; exact H
  clear H;have H := H1;clear H1;replace H := Option.bind_eq_some_iff.mp H;obtain ⟨t103, A60, H⟩ := H;replace H : (some t103) = some r := H;have A6 := Aside0.mk A60;clear A60;obtain rfl := Option.some.inj H
  go_enter Tryz.func103, Tryz.ntmps103
  go_wp2_with (first | ((with_reducible refine gate_dst (N := 3) rfl ?_); refine boxE (N := 3) (cs := #[.int .i64 a0_0, .int .i64 a0_1, .slice A0_2 l0_2.length c0_2]) (t := 38) ?_; intro gb101 hg w7 hbox hb; have n0_ := Aside0.mk (below_step (bel HB) hb); have n1_ := Aside0.mk (hbox); have n2_ := Aside0.mk (gsz hg (bel HB)); have n3_ := Aside0.mk (gsz hg (bel HB)); clear HB; have HB := n0_; have BK101 := n1_; have GW101 := n2_; have GE101 := n3_; clear n0_ n1_ n2_ n3_; clear hb hbox hg; have hcz8_0 : w7.cell? ⟨gb101, 0, none⟩ = some (.int .i64 a0_0) := (blk_cell BK101.out 0).trans rfl; have hcz8_1 : w7.cell? ⟨gb101, 1, none⟩ = some (.int .i64 a0_1) := (blk_cell BK101.out 1).trans rfl; have hcz8_2 : w7.cell? ⟨gb101, 2, none⟩ = some (.slice A0_2 l0_2.length c0_2) := (blk_cell BK101.out 2).trans rfl; have hfz8_0 := blk_frozen BK101.out 0; have hfz8_1 := blk_frozen BK101.out 1; have hfz8_2 := blk_frozen BK101.out 2) | ((with_reducible refine gate_callee (f := 116) rfl ?_); refine gcall (some 11) Tryz.func116 #[.int .i64 a1, .int .i64 0, .int .i64 (wrap64 (a0_0 - 1))] rfl ?_; (with_reducible refine (spec_l1In.calls a1 0 (wrap64 (a0_0 - 1)) true _ A4.out).mono ?_); rintro e w' ⟨rfl, ⟨nd, rfl⟩⟩; refine ⟨_, rfl, ?_⟩) | (go_at_call 116; (with_reducible refine (spec_l1In.calls a2 0 (wrap64 (a0_1 - 1)) t103 _ A6.out).mono ?_); rintro e w' ⟨rfl, ⟨nd, rfl⟩⟩))
  go_ret
  exact ⟨by first | rfl | (simp [errW_none, errW_some] <;> rfl) | (simp [*, errW_none, errW_some] <;> rfl), bel HB⟩
 ·replace c5 := Bool.eq_false_iff.mpr c5
  subst c5
  have H1 : (some false) = some r := by rw [if_neg (show ¬ (false = true) by decide)] at H; exact H
  clear H;have H := H1;clear H1;obtain rfl := Option.some.inj H
  go_enter Tryz.func103, Tryz.ntmps103
  go_wp2_with (first | ((with_reducible refine gate_dst (N := 3) rfl ?_); refine boxE (N := 3) (cs := #[.int .i64 a0_0, .int .i64 a0_1, .slice A0_2 l0_2.length c0_2]) (t := 38) ?_; intro gb101 hg w9 hbox hb; have n0_ := Aside0.mk (below_step (bel HB) hb); have n1_ := Aside0.mk (hbox); have n2_ := Aside0.mk (gsz hg (bel HB)); have n3_ := Aside0.mk (gsz hg (bel HB)); clear HB; have HB := n0_; have BK101 := n1_; have GW101 := n2_; have GE101 := n3_; clear n0_ n1_ n2_ n3_; clear hb hbox hg; have hcz10_0 : w9.cell? ⟨gb101, 0, none⟩ = some (.int .i64 a0_0) := (blk_cell BK101.out 0).trans rfl; have hcz10_1 : w9.cell? ⟨gb101, 1, none⟩ = some (.int .i64 a0_1) := (blk_cell BK101.out 1).trans rfl; have hcz10_2 : w9.cell? ⟨gb101, 2, none⟩ = some (.slice A0_2 l0_2.length c0_2) := (blk_cell BK101.out 2).trans rfl; have hfz10_0 := blk_frozen BK101.out 0; have hfz10_1 := blk_frozen BK101.out 1; have hfz10_2 := blk_frozen BK101.out 2) | ((with_reducible refine gate_callee (f := 116) rfl ?_); refine gcall (some 11) Tryz.func116 #[.int .i64 a1, .int .i64 0, .int .i64 (wrap64 (a0_0 - 1))] rfl ?_; (with_reducible refine (spec_l1In.calls a1 0 (wrap64 (a0_0 - 1)) false _ A4.out).mono ?_); rintro e w' ⟨rfl, ⟨nd, rfl⟩⟩; refine ⟨_, rfl, ?_⟩))
  go_ret
  exact ⟨by first | rfl | (simp [errW_none, errW_some] <;> rfl) | (simp [*, errW_none, errW_some] <;> rfl), bel HB⟩
end Go.Proofs.YtchjgphnglklcaaGreatDoor.Q
end
section
namespace Go.Proofs.YtchjgphnglklcaaGreatDoor.Q
set_option linter.unusedSectionVars false
open Go.RowKit Go.Proofs.YtchjgphnglklcaaGreatDoorW.PrintWords Go.Proofs.YtchjgphnglklcaaGreatDoorW.PrintLast Go.Proofs.YtchjgphnglklcaaGreatDoorW.PrintMore
structure Bx (W : World) (g : Nat) (a b : Int) (A : Option Addr) (c : Nat) (l : List Int) : Prop where
 c0 : W.cell? ⟨g, 0, none⟩ = some (.int .i64 a)
 c1 : W.cell? ⟨g, 1, none⟩ = some (.int .i64 b)
 c2 : W.cell? ⟨g, 2, none⟩ = some (.slice A l.length c)
 lt : g < W.heap.size
 reads : Kd.C (Kd.int .u8) W A l.length l
theorem Bx.below {W W' : World} {g : Nat} {a b : Int} {A : Option Addr} {c : Nat} {l : List Int} (h : Bx W g a b A c l) (hb : Below W.heap.size W W') : Bx W' g a b A c l :=
 ⟨(hb.cell (p := ⟨g, 0, none⟩) h.lt).trans h.c0, (hb.cell (p := ⟨g, 1, none⟩) h.lt).trans h.c1, (hb.cell (p := ⟨g, 2, none⟩) h.lt).trans h.c2, Nat.lt_of_lt_of_le h.lt hb.size, Kd.C_below h.reads hb⟩
end Go.Proofs.YtchjgphnglklcaaGreatDoor.Q
end
section
namespace Go.Proofs.YtchjgphnglklcaaGreatDoor.Q
set_option linter.unusedVariables false
set_option linter.unusedSectionVars false
open Go.RowKit Go.Proofs.YtchjgphnglklcaaGreatDoorW.PrintWords Go.Proofs.YtchjgphnglklcaaGreatDoorW.PrintLast Go.Proofs.YtchjgphnglklcaaGreatDoorW.PrintMore
def spec_tiAhead.f (a0_0 : Int) (a0_1 : Int) (l0_2 : List Int) (a1 : Int) (a2 : Int) : Option (Int) := if a0_0 = 0 then (none) else (if a2 = 0 then ((spec_tyCell.f a0_0 a0_1 l0_2 (Int.tmod a1 a0_0) (wrap64 ((wrap64 (Int.tdiv a1 a0_0)) - 1))).bind fun t102 => (if t102 = true then (if 0 ≤ (wrap64 ((wrap64 ((wrap64 ((wrap64 (Int.tdiv a1 a0_0)) - 1)) * a0_0)) + (Int.tmod a1 a0_0))) then (if (wrap64 ((wrap64 ((wrap64 ((wrap64 (Int.tdiv a1 a0_0)) - 1)) * a0_0)) + (Int.tmod a1 a0_0))) < (l0_2.length : Int) then (if (rd l0_2 (wrap64 ((wrap64 ((wrap64 ((wrap64 (Int.tdiv a1 a0_0)) - 1)) * a0_0)) + (Int.tmod a1 a0_0)))) = 35 then (some (-1)) else (some (wrap64 ((wrap64 ((wrap64 ((wrap64 (Int.tdiv a1 a0_0)) - 1)) * a0_0)) + (Int.tmod a1 a0_0))))) else (none)) else (none)) else (some (-1)))) else (if a2 = 1 then ((spec_tyCell.f a0_0 a0_1 l0_2 (wrap64 ((Int.tmod a1 a0_0) + 1)) (wrap64 (Int.tdiv a1 a0_0))).bind fun t104 => (if t104 = true then (if 0 ≤ (wrap64 ((wrap64 ((wrap64 (Int.tdiv a1 a0_0)) * a0_0)) + (wrap64 ((Int.tmod a1 a0_0) + 1)))) then (if (wrap64 ((wrap64 ((wrap64 (Int.tdiv a1 a0_0)) * a0_0)) + (wrap64 ((Int.tmod a1 a0_0) + 1)))) < (l0_2.length : Int) then (if (rd l0_2 (wrap64 ((wrap64 ((wrap64 (Int.tdiv a1 a0_0)) * a0_0)) + (wrap64 ((Int.tmod a1 a0_0) + 1))))) = 35 then (some (-1)) else (some (wrap64 ((wrap64 ((wrap64 (Int.tdiv a1 a0_0)) * a0_0)) + (wrap64 ((Int.tmod a1 a0_0) + 1)))))) else (none)) else (none)) else (some (-1)))) else (if a2 = 2 then ((spec_tyCell.f a0_0 a0_1 l0_2 (Int.tmod a1 a0_0) (wrap64 ((wrap64 (Int.tdiv a1 a0_0)) + 1))).bind fun t106 => (if t106 = true then (if 0 ≤ (wrap64 ((wrap64 ((wrap64 ((wrap64 (Int.tdiv a1 a0_0)) + 1)) * a0_0)) + (Int.tmod a1 a0_0))) then (if (wrap64 ((wrap64 ((wrap64 ((wrap64 (Int.tdiv a1 a0_0)) + 1)) * a0_0)) + (Int.tmod a1 a0_0))) < (l0_2.length : Int) then (if (rd l0_2 (wrap64 ((wrap64 ((wrap64 ((wrap64 (Int.tdiv a1 a0_0)) + 1)) * a0_0)) + (Int.tmod a1 a0_0)))) = 35 then (some (-1)) else (some (wrap64 ((wrap64 ((wrap64 ((wrap64 (Int.tdiv a1 a0_0)) + 1)) * a0_0)) + (Int.tmod a1 a0_0))))) else (none)) else (none)) else (some (-1)))) else ((spec_tyCell.f a0_0 a0_1 l0_2 (wrap64 ((Int.tmod a1 a0_0) - 1)) (wrap64 (Int.tdiv a1 a0_0))).bind fun t108 => (if t108 = true then (if 0 ≤ (wrap64 ((wrap64 ((wrap64 (Int.tdiv a1 a0_0)) * a0_0)) + (wrap64 ((Int.tmod a1 a0_0) - 1)))) then (if (wrap64 ((wrap64 ((wrap64 (Int.tdiv a1 a0_0)) * a0_0)) + (wrap64 ((Int.tmod a1 a0_0) - 1)))) < (l0_2.length : Int) then (if (rd l0_2 (wrap64 ((wrap64 ((wrap64 (Int.tdiv a1 a0_0)) * a0_0)) + (wrap64 ((Int.tmod a1 a0_0) - 1))))) = 35 then (some (-1)) else (some (wrap64 ((wrap64 ((wrap64 (Int.tdiv a1 a0_0)) * a0_0)) + (wrap64 ((Int.tmod a1 a0_0) - 1)))))) else (none)) else (none)) else (some (-1)))))))
def tailA (w h : Int) (cs : List Int) (x y : Int) : Option Int := (spec_tyCell.f w h cs x y).bind fun t => (if t = true then (if 0 ≤ (wrap64 ((wrap64 (y * w)) + x)) then (if (wrap64 ((wrap64 (y * w)) + x)) < (cs.length : Int) then (if (rd cs (wrap64 ((wrap64 (y * w)) + x))) = 35 then (some (-1)) else (some (wrap64 ((wrap64 (y * w)) + x)))) else (none)) else (none)) else (some (-1)))
theorem tiA_tail {w h : Int} {cs : List Int} {a d r : Int} (hr : spec_tiAhead.f w h cs a d = some r) : w ≠ 0 ∧ ∃ x y, ((d = 0 ∧ x = Int.tmod a w ∧ y = wrap64 ((wrap64 (Int.tdiv a w)) - 1)) ∨ (d = 1 ∧ x = wrap64 ((Int.tmod a w) + 1) ∧ y = wrap64 (Int.tdiv a w)) ∨ (d = 2 ∧ x = Int.tmod a w ∧ y = wrap64 ((wrap64 (Int.tdiv a w)) + 1)) ∨ ((d == 0) = false ∧ (d == 1) = false ∧ (d == 2) = false ∧ x = wrap64 ((Int.tmod a w) - 1) ∧ y = wrap64 (Int.tdiv a w))) ∧ tailA w h cs x y = some r := by
 unfold spec_tiAhead.f at hr
 by_cases h0 : w = 0
 ·rw [if_pos h0] at hr
  cases hr
 ·rw [if_neg h0] at hr
  refine ⟨h0, ?_⟩
  by_cases d0 : d = 0
  ·rw [if_pos d0] at hr
   exact ⟨_, _, .inl ⟨d0, rfl, rfl⟩, hr⟩
  ·rw [if_neg d0] at hr
   by_cases d1 : d = 1
   ·rw [if_pos d1] at hr
    exact ⟨_, _, .inr (.inl ⟨d1, rfl, rfl⟩), hr⟩
   ·rw [if_neg d1] at hr
    by_cases d2 : d = 2
    ·rw [if_pos d2] at hr
     exact ⟨_, _, .inr (.inr (.inl ⟨d2, rfl, rfl⟩)), hr⟩
    ·rw [if_neg d2] at hr
     exact ⟨_, _, .inr (.inr (.inr ⟨beq_eq_false_iff_ne.2 d0, beq_eq_false_iff_ne.2 d1, beq_eq_false_iff_ne.2 d2, rfl, rfl⟩)), hr⟩
set_option maxHeartbeats 16000000 in
set_option maxRecDepth 100000 in
theorem spec_tiAhead.calls (a0_0 : Int) (a0_1 : Int) (A0_2 : Option Addr) (c0_2 : Nat) (l0_2 : List Int) (a1 : Int) (a2 : Int) (r : Int) (w : World) (hr0_2 : Kd.C (Kd.int .u8) w A0_2 l0_2.length l0_2) (hc0_2 : l0_2.length ≤ c0_2) (h : spec_tiAhead.f a0_0 a0_1 l0_2 a1 a2 = some r) :
  Calls Tryz.prog 87 #[.agg #[.int .i64 a0_0, .int .i64 a0_1, .slice A0_2 l0_2.length c0_2], .int .i64 a1, .int .i64 a2] w fun e w' => e = .returned (.int .i64 r) ∧ Below w.heap.size w w' := by
 have hu := Tryz.underlying38;have HR := Aside0.mk hr0_2;have HC := Aside0.mk hc0_2;obtain ⟨hw0, x, y, hsw, ht⟩ := tiA_tail h;have e0 : (a0_0 == 0) = false := beq_eq_false_iff_ne.2 hw0;have e1 : (a0_0 != 0) = true := bne_iff_ne.2 hw0;unfold tailA at ht;obtain ⟨t, hcell, ht2⟩ := Option.bind_eq_some_iff.1 ht;clear ht;have ht := ht2;clear ht2;have HT := Aside0.mk hcell;have HB := Aside0.mk (Below.refl w.heap.size w)
 have key : ∃ b : Bool, (t = true → (0 ≤ (wrap64 ((wrap64 (y * a0_0)) + x)) ∧ (wrap64 ((wrap64 (y * a0_0)) + x)) < (l0_2.length : Int)) ∧ (rd l0_2 (wrap64 ((wrap64 (y * a0_0)) + x)) == 35) = b) ∧ r = if t = true ∧ b = false then (wrap64 ((wrap64 (y * a0_0)) + x)) else -1 := by
  refine ⟨rd l0_2 (wrap64 ((wrap64 (y * a0_0)) + x)) == 35, ?_⟩
  cases t with
  | false =>
   refine ⟨fun h => (by cases h), ?_⟩
   rw [if_neg (by simp)]
   exact (Option.some.inj ht).symm
  | true =>
   rw [if_pos rfl] at ht
   split at ht
   ·rename_i g0
    split at ht
    ·rename_i g1
     refine ⟨fun _ => ⟨⟨g0, g1⟩, rfl⟩, ?_⟩
     split at ht
     ·rename_i g2
      rw [if_neg (by simp [g2])]
      exact (Option.some.inj ht).symm
     ·rename_i g2
      rw [if_pos ⟨rfl, beq_eq_false_iff_ne.2 g2⟩]
      exact (Option.some.inj ht).symm
    ·cases ht
   ·cases ht
 obtain ⟨b, hk, rfl⟩ := key;obtain ⟨j, hj⟩ : ∃ j : Int, (wrap64 ((wrap64 (y * a0_0)) + x)) = j := ⟨_, rfl⟩;have hjw : IntKind.i64.wrap ((wrap64 (y * a0_0)) + x) = j := (i64_w _).trans hj
 rw [hj] at hk
 rw [hj]
 have HK := Aside0.mk hk;clear ht hcell hr0_2 hc0_2 h hk HB
 cases t with
 | false =>
  rw [if_neg (show ¬ (false = true ∧ b = false) by simp)]
  rcases hsw with ⟨rfl, rfl, rfl⟩ | ⟨rfl, rfl, rfl⟩ | ⟨rfl, rfl, rfl⟩ | ⟨d0, d1, d2, rfl, rfl⟩ <;> (
   go_enter Tryz.func87, Tryz.ntmps87
   go_wp2_with ((with_reducible refine gate_dst (N := 3) rfl ?_); refine boxE (N := 3) (cs := #[.int .i64 a0_0, .int .i64 a0_1, .slice A0_2 l0_2.length c0_2]) (t := 38) ?_; intro gt hg w3 hbox hb; (have HB3 := Aside0.mk hb); (have HX3 := Aside0.mk (Bx.mk ((blk_cell hbox 0).trans rfl) ((blk_cell hbox 1).trans rfl) ((blk_cell hbox 2).trans rfl) (blk_lt hbox) (Kd.C_below HR.out hb) : Bx w3 gt a0_0 a0_1 A0_2 c0_2 l0_2)); clear hbox hg hb; (have z0 := HX3.out.c0); (have z1 := HX3.out.c1); (have z2 := HX3.out.c2))
   repeat (go_quiet (fail); try go_wp2_with (go_at_call 103; (with_reducible refine (spec_tyCell.calls a0_0 a0_1 _ _ l0_2 _ _ _ _ ?side1 ?side2 HT.out).mono ?_); (case side1 => repeat (first | exact HX3.out.reads | (with_reducible refine Kd.C_alloc ?_ _) | (with_reducible refine Kd.C_drewN ?_ _) | (with_reducible refine Kd.C_drew ?_))); (case side2 => exact HC.out); rintro e w5 ⟨rfl, hb⟩; (have HX5 := Aside0.mk ((HX3.out.below (by (with_reducible repeat (first | apply pw_below_drewN | apply below_drew1)); exact Below.refl _ _)).below hb)); (have HB5 := Aside0.mk (below_step (bel HB3) hb)); clear HX3 HB3 z0 z1 z2 hb; (have z0 := HX5.out.c0); (have z1 := HX5.out.c1); (have z2 := HX5.out.c2)))
   go_ret
   exact ⟨by first | rfl | simp, bel HB5⟩)
 | true =>
  obtain ⟨⟨g0, g1⟩, g2⟩ := HK.out rfl;have p0 := eq_true g0;have p1 := eq_true g1;have HG := Aside0.mk (And.intro g0 g1);clear g0 g1
  rcases hsw with ⟨rfl, rfl, rfl⟩ | ⟨rfl, rfl, rfl⟩ | ⟨rfl, rfl, rfl⟩ | ⟨d0, d1, d2, rfl, rfl⟩ <;> rcases b with _ | _ <;> (
   first | rw [if_pos (And.intro rfl rfl)] | rw [if_neg (show ¬ (true = true ∧ true = false) by simp)]
   go_enter Tryz.func87, Tryz.ntmps87
   go_wp2_with ((with_reducible refine gate_dst (N := 3) rfl ?_); refine boxE (N := 3) (cs := #[.int .i64 a0_0, .int .i64 a0_1, .slice A0_2 l0_2.length c0_2]) (t := 38) ?_; intro gt hg w3 hbox hb; (have HB3 := Aside0.mk hb); (have HX3 := Aside0.mk (Bx.mk ((blk_cell hbox 0).trans rfl) ((blk_cell hbox 1).trans rfl) ((blk_cell hbox 2).trans rfl) (blk_lt hbox) (Kd.C_below HR.out hb) : Bx w3 gt a0_0 a0_1 A0_2 c0_2 l0_2)); clear hbox hg hb; (have z0 := HX3.out.c0); (have z1 := HX3.out.c1); (have z2 := HX3.out.c2))
   repeat (go_quiet (fail); try go_wp2_with (go_at_call 103; (with_reducible refine (spec_tyCell.calls a0_0 a0_1 _ _ l0_2 _ _ _ _ ?side1 ?side2 HT.out).mono ?_); (case side1 => repeat (first | exact HX3.out.reads | (with_reducible refine Kd.C_alloc ?_ _) | (with_reducible refine Kd.C_drewN ?_ _) | (with_reducible refine Kd.C_drew ?_))); (case side2 => exact HC.out); rintro e w5 ⟨rfl, hb⟩; (have HX5 := Aside0.mk ((HX3.out.below (by (with_reducible repeat (first | apply pw_below_drewN | apply below_drew1)); exact Below.refl _ _)).below hb)); (have HB5 := Aside0.mk (below_step (bel HB3) hb)); clear HX3 HB3 z0 z1 z2 hb; obtain ⟨ad, ead, hx⟩ := Kd.at_int HX5.out.reads _ HG.out.1 HG.out.2; cases ead; (have z0 := HX5.out.c0); (have z1 := HX5.out.c1); (have z2 := HX5.out.c2)))
   go_ret
   exact ⟨by first | rfl | simp, bel HB5⟩)
end Go.Proofs.YtchjgphnglklcaaGreatDoor.Q
end
section
namespace Go.Proofs.YtchjgphnglklcaaGreatDoor.Q
open Go.RowKit Go.Proofs.YtchjgphnglklcaaGreatDoorW.PrintWords Go.Proofs.YtchjgphnglklcaaGreatDoorW.PrintLast Go.Proofs.YtchjgphnglklcaaGreatDoorW.PrintMore
set_option linter.unusedSectionVars false
def dirC (d : Nat) : Int := ([117, 114, 100, 108] : List Int).getD d 0
def seen (cs : List Int) (j : Int) : Option Int := if 0 ≤ j then (if j < (cs.length : Int) then (if rd cs j = 35 then some (-1) else some j) else none) else none
theorem seen_rep (cs : List Int) (n : Nat) (hn : cs.length = n) (j r : Int) (h : seen (List.replicate n 0) j = some r) : j = r ∧ seen cs j = some (if rd cs j = 35 then -1 else j) ∧ 0 ≤ j := by
 unfold seen at h ⊢
 rw [List.length_replicate] at h
 by_cases h1 : 0 ≤ j
 ·rw [if_pos h1] at h ⊢
  by_cases h2 : j < (n : Int)
  ·rw [if_pos h2] at h
   rw [if_pos (by omega)]
   have h3 : rd (List.replicate n (0 : Int)) j = 0 := by
    unfold rd
    rw [List.getD_eq_getElem?_getD, List.getElem?_replicate, if_pos (by omega)]
    rfl
   rw [if_neg (by omega)] at h
   refine ⟨Option.some.inj h, ?_, h1⟩
   split <;> rfl
  ·rw [if_neg h2] at h
   cases h
 ·rw [if_neg h1] at h
  cases h
theorem tiAhead_of (cs : List Int) (n : Nat) (hn : cs.length = n) (w h i d r : Int) (hr : spec_tiAhead.f w h (List.replicate n 0) i d = some r) : spec_tiAhead.f w h cs i d = some (if r < 0 then r else if rd cs r = 35 then -1 else r) := by
 have key : ∀ (x y j : Int), ((spec_tyCell.f w h (List.replicate n 0) x y).bind fun t => if t = true then seen (List.replicate n 0) j else some (-1)) = some r →
   ((spec_tyCell.f w h cs x y).bind fun t => if t = true then seen cs j else some (-1)) = some (if r < 0 then r else if rd cs r = 35 then -1 else r) := by
  intro x y j hx;obtain ⟨t, h1, h2⟩ := Option.bind_eq_some_iff.1 hx;have h3 : spec_tyCell.f w h cs x y = some t := h1
  rw [h3, Option.bind_some]
  by_cases ht : t = true
  ·rw [if_pos ht] at h2 ⊢
   obtain ⟨rfl, h4, h5⟩ := seen_rep cs n hn j r h2
   rw [h4, if_neg (show ¬ j < 0 by omega)]
  ·rw [if_neg ht] at h2 ⊢
   obtain rfl := Option.some.inj h2
   rfl
 unfold spec_tiAhead.f at hr ⊢
 by_cases h0 : w = 0
 ·rw [if_pos h0] at hr
  cases hr
 rw [if_neg h0] at hr ⊢
 by_cases h1 : d = 0
 ·rw [if_pos h1] at hr ⊢
  exact key _ _ _ hr
 rw [if_neg h1] at hr ⊢
 by_cases h2 : d = 1
 ·rw [if_pos h2] at hr ⊢
  exact key _ _ _ hr
 rw [if_neg h2] at hr ⊢
 by_cases h3 : d = 2
 ·rw [if_pos h3] at hr ⊢
  exact key _ _ _ hr
 rw [if_neg h3] at hr ⊢
 exact key _ _ _ hr
def an (w h i d : Nat) : Int := if d = 0 then (if i / w = 0 then -1 else (i : Int) - w) else if d = 1 then (if i % w + 1 < w then (i : Int) + 1 else -1) else if d = 2 then (if i / w + 1 < h then (i : Int) + w else -1) else if i % w = 0 then -1 else (i : Int) - 1
theorem an_all : ∀ (w h : Fin 8) (i : Fin 36) (d : Fin 4), i.val < w.val * h.val → spec_tiAhead.f w.val h.val (List.replicate (w.val * h.val) 0) i.val d.val = some (an w.val h.val i.val d.val) ∧
 -1 ≤ an w.val h.val i.val d.val ∧ an w.val h.val i.val d.val < ((w.val * h.val : Nat) : Int) := by decide +kernel
def aN (w h : Nat) (cs : List Int) (d : Nat) (i : Nat) : Int := if an w h i d < 0 then -1 else if rd cs (an w h i d) = 35 then -1 else an w h i d
section
variable {w h i d : Nat} (hw : w ≤ 7) (hh : h ≤ 7) (hs : w * h ≤ 36) (hi : i < w * h) (hd : d < 4)
include hw hh hs hi hd
theorem an_lt : -1 ≤ an w h i d ∧ an w h i d < ((w * h : Nat) : Int) := by
 have h1 := an_all ⟨w, by omega⟩ ⟨h, by omega⟩ ⟨i, by omega⟩ ⟨d, hd⟩ hi
 exact ⟨h1.2.1, h1.2.2⟩
theorem aN_eq (cs : List Int) (hn : cs.length = w * h) : spec_tiAhead.f w h cs i d = some (aN w h cs d i) := by
 obtain ⟨h2, h3, _⟩ := an_all ⟨w, by omega⟩ ⟨h, by omega⟩ ⟨i, by omega⟩ ⟨d, hd⟩ hi;have h4 := tiAhead_of cs (w * h) hn w h i d _ h2
 simp only at h3 h4
 rw [h4]
 congr 1
 unfold aN
 by_cases h5 : an w h i d < 0
 ·rw [if_pos h5, if_pos h5]
  omega
 ·rw [if_neg h5, if_neg h5]
theorem aN_lt (cs : List Int) : aN w h cs d i < ((w * h : Nat) : Int) := by
 have := an_lt hw hh hs hi hd;unfold aN
 split
 ·omega
 ·split
  ·omega
  ·exact this.2
end
end Go.Proofs.YtchjgphnglklcaaGreatDoor.Q
end
section
namespace Go.Proofs.YtchjgphnglklcaaGreatDoor.Q
open Go.RowKit Go.Proofs.YtchjgphnglklcaaGreatDoorW.PrintWords Go.Proofs.YtchjgphnglklcaaGreatDoorW.PrintLast Go.Proofs.YtchjgphnglklcaaGreatDoorW.PrintMore
set_option linter.unusedSectionVars false
def lineL (w h : Nat) (dir : Int) (i : Nat) : List Int :=
 let l := if dir = 117 ∨ dir = 100 then (List.range h).map fun k => ((k * w + i : Nat) : Int) else (List.range w).map fun k => ((i * w + k : Nat) : Int)
 if dir = 114 ∨ dir = 100 then l.reverse else l
def manyL (w h : Nat) (dir : Int) : Nat := if dir = 117 ∨ dir = 100 then w else h
def linesL (w h : Nat) (dir : Int) : List (List Int) := (List.range (manyL w h dir)).map (lineL w h dir)
def chainB (w h d : Nat) : Int → List Int → Bool
 | p, [] => decide (p < 0) || decide (an w h p.toNat ((d + 2) % 4) = -1)
 | p, x :: l => decide (0 ≤ x) && decide (x < ((w * h : Nat) : Int)) && decide (an w h x.toNat d = p) && (decide (p < 0) || decide (an w h p.toNat ((d + 2) % 4) = x)) && chainB w h d x l
theorem lines_all : ∀ (w h : Fin 8) (d : Fin 4), w.val * h.val ≤ 36 → (linesL w.val h.val (dirC d.val)).flatten.Nodup ∧ (∀ i : Fin 36, i.val < w.val * h.val → (i.val : Int) ∈ (linesL w.val h.val (dirC d.val)).flatten) ∧
 (∀ l ∈ linesL w.val h.val (dirC d.val), chainB w.val h.val d.val (-1) l = true) := by decide +kernel
def cutA (cs : List Int) : List Int → List Int → List (List Int)
 | [], own => if own = [] then [] else [own]
 | k :: l, own => if rd cs k = 35 then (if own = [] then cutA cs l [] else own :: cutA cs l []) else cutA cs l (own ++ [k])
theorem cutA_flat (cs : List Int) : ∀ (l own : List Int), (cutA cs l own).flatten = own ++ l.filter fun k => decide (rd cs k ≠ 35)
 | [], own => by
  unfold cutA
  split
  ·rename_i h
   simp [h]
  ·simp
 | k :: l, own => by
  unfold cutA
  by_cases h : rd cs k = 35
  ·rw [if_pos h]
   split
   ·rename_i h2
    rw [cutA_flat cs l []]
    simp [h, h2]
   ·rw [List.flatten_cons, cutA_flat cs l []]
    simp [h]
  ·rw [if_neg h, cutA_flat cs l (own ++ [k])]
   simp [h]
theorem cutA_ne (cs : List Int) : ∀ (l own : List Int), ∀ s ∈ cutA cs l own, s ≠ []
 | [], own, s, hs => by
  unfold cutA at hs
  split at hs
  ·cases hs
  ·rename_i h
   rw [List.mem_singleton] at hs
   rw [hs]
   exact h
 | k :: l, own, s, hs => by
  unfold cutA at hs
  split at hs
  ·split at hs
   ·exact cutA_ne cs l [] s hs
   ·rename_i h
    rcases List.mem_cons.1 hs with rfl | hs
    ·exact h
    ·exact cutA_ne cs l [] s hs
  ·exact cutA_ne cs l _ s hs
theorem cutA_split (cs : List Int) : ∀ (l own : List Int), (∀ x ∈ own, rd cs x ≠ 35) → ∀ s, s ∈ cutA cs l own ↔ s ≠ [] ∧ (∀ x ∈ s, rd cs x ≠ 35) ∧ ∃ p q, own ++ l = p ++ s ++ q ∧ (p = [] ∨ ∃ p' x, p = p' ++ [x] ∧ rd cs x = 35) ∧ (q = [] ∨ ∃ x q', q = x :: q' ∧ rd cs x = 35)
 | [], own, ho, s => by
  unfold cutA
  constructor
  ·intro hs
   split at hs
   ·cases hs
   ·rename_i h
    rw [List.mem_singleton] at hs
    subst hs
    exact ⟨h, ho, [], [], by simp, .inl rfl, .inl rfl⟩
  ·rintro ⟨h1, h2, p, q, h3, h4, h5⟩
   rw [List.append_nil] at h3
   have hp : p = [] := by
    rcases h4 with h4 | ⟨p', x, rfl, hx⟩
    ·exact h4
    ·exact absurd hx (ho x (by rw [h3]; simp))
   have hq : q = [] := by
    rcases h5 with h5 | ⟨x, q', rfl, hx⟩
    ·exact h5
    ·exact absurd hx (ho x (by rw [h3]; simp))
   subst hp hq
   have : own = s := by simpa using h3
   subst this
   rw [if_neg h1]
   exact List.mem_singleton.2 rfl
 | k :: l, own, ho, s => by
  unfold cutA
  by_cases hk : rd cs k = 35
  ·rw [if_pos hk]
   have ih := cutA_split cs l [] (by simp) s
   have back : (s ∈ cutA cs l [] ∨ (own ≠ [] ∧ s = own)) → s ≠ [] ∧ (∀ x ∈ s, rd cs x ≠ 35) ∧ ∃ p q, own ++ k :: l = p ++ s ++ q ∧ (p = [] ∨ ∃ p' x, p = p' ++ [x] ∧ rd cs x = 35) ∧ (q = [] ∨ ∃ x q', q = x :: q' ∧ rd cs x = 35) := by
    rintro (hs | ⟨h1, rfl⟩)
    ·obtain ⟨h1, h2, p, q, h3, h4, h5⟩ := ih.1 hs
     refine ⟨h1, h2, own ++ k :: p, q, ?_, ?_, h5⟩
     ·rw [List.nil_append] at h3
      rw [h3]
      simp
     ·right
      rcases h4 with rfl | ⟨p', x, rfl, hx⟩
      ·exact ⟨own, k, rfl, hk⟩
      ·exact ⟨own ++ k :: p', x, by simp, hx⟩
    ·exact ⟨h1, ho, [], k :: l, by simp, .inl rfl, .inr ⟨k, l, rfl, hk⟩⟩
   have forth : (s ≠ [] ∧ (∀ x ∈ s, rd cs x ≠ 35) ∧ ∃ p q, own ++ k :: l = p ++ s ++ q ∧ (p = [] ∨ ∃ p' x, p = p' ++ [x] ∧ rd cs x = 35) ∧ (q = [] ∨ ∃ x q', q = x :: q' ∧ rd cs x = 35)) → (s ∈ cutA cs l [] ∨ (own ≠ [] ∧ s = own)) := by
    rintro ⟨h1, h2, p, q, h3, h4, h5⟩
    -- where the wall k stands: behind s, or ahead of it
    rw [List.append_assoc] at h3
    rcases List.append_eq_append_iff.1 h3 with ⟨a, ha, hb⟩ | ⟨a, ha, hb⟩
    ·-- p = own ++ a, k :: l = a ++ (s ++ q)
     cases a with
     | nil =>
      rw [List.nil_append] at hb
      cases s with
      | nil => exact absurd rfl h1
      | cons x s =>
       rw [List.cons_append] at hb
       injection hb with e1 e2
       exact absurd (e1 ▸ hk) (h2 x List.mem_cons_self)
     | cons y a =>
      rw [List.cons_append] at hb
      injection hb with e1 e2
      refine .inl (ih.2 ⟨h1, h2, a, q, by rw [List.nil_append, e2, List.append_assoc], ?_, h5⟩)
      rcases h4 with rfl | ⟨p', x, e3, hx⟩
      ·exact absurd ha.symm (by simp)
      ·rcases List.eq_nil_or_concat a with rfl | ⟨a', z, rfl⟩
       ·exact .inl rfl
       ·right
        refine ⟨a', z, by simp, ?_⟩
        rw [ha] at e3
        have e4 : own ++ y :: (a' ++ [z]) = (own ++ y :: a') ++ [z] := by simp
        have e5 : (own ++ y :: a') ++ [z] = p' ++ [x] := by rw [← e4, ← e3]; simp
        have e6 := (List.append_inj' e5 rfl).2
        injection e6 with e7 _
        rw [e7]
        exact hx
    ·-- own = p ++ a, s ++ q = a ++ k :: l
     have hp : p = [] := by
      rcases h4 with h4 | ⟨p', x, rfl, hx⟩
      ·exact h4
      ·exact absurd hx (ho x (by rw [ha]; simp))
     subst hp
     rw [List.nil_append] at ha
     subst ha
     rcases List.append_eq_append_iff.1 hb with ⟨b, hc, hd⟩ | ⟨b, hc, hd⟩
     ·-- own = s ++ b, q = b ++ k :: l
      have hb0 : b = [] := by
       cases b with
       | nil => rfl
       | cons x b =>
        rcases h5 with h5 | ⟨y, q', h5, hy⟩
        ·rw [h5] at hd
         exact absurd hd (by simp)
        ·rw [h5, List.cons_append] at hd
         injection hd with e1 e2
         exact absurd (e1 ▸ hy) (ho x (by rw [hc]; simp))
      subst hb0
      rw [List.append_nil] at hc
      exact .inr ⟨by rw [hc]; exact h1, hc.symm⟩
     ·-- s = own ++ b, k :: l = b ++ q
      cases b with
      | nil =>
       rw [List.append_nil] at hc
       exact .inr ⟨by rw [← hc]; exact h1, hc⟩
      | cons x b =>
       rw [List.cons_append] at hd
       injection hd with e1 e2
       exact absurd (e1 ▸ hk) (h2 x (by rw [hc]; simp))
   split
   ·rename_i he
    exact ⟨fun hs => back (.inl hs), fun hs => (forth hs).resolve_right fun h => h.1 he⟩
   ·rename_i he
    rw [List.mem_cons]
    exact ⟨fun hs => back (hs.symm.imp id fun e => ⟨he, e⟩), fun hs => (forth hs).symm.imp (fun e => e.2) id⟩
  ·rw [if_neg hk, cutA_split cs l (own ++ [k]) (by
    intro x hx
    rcases List.mem_append.1 hx with hx | hx
    ·exact ho x hx
    ·rw [List.mem_singleton] at hx
     rw [hx]
     exact hk) s]
   simp only [List.append_assoc, List.singleton_append]
end Go.Proofs.YtchjgphnglklcaaGreatDoor.Q
end
section
namespace Go.Proofs.YtchjgphnglklcaaGreatDoor.Q
open Go.RowKit Go.Proofs.YtchjgphnglklcaaGreatDoorW.PrintWords Go.Proofs.YtchjgphnglklcaaGreatDoorW.PrintLast Go.Proofs.YtchjgphnglklcaaGreatDoorW.PrintMore
attribute [local go_sem] max2_int min2_int max_two min_two max_three min_three max_four min_four
set_option linter.unusedVariables false
set_option linter.unusedSimpArgs false
def slices_Reverse_int_int.l0 : Nat → List Int → Int → Int → Option (List Int)
 | 0, _, _, _ => none
 | k + 1, x0, x2, x3 => if x2 < x3 then (if 0 ≤ x3 then (if x3 < (x0.length : Int) then (if 0 ≤ x2 then (if x2 < (x0.length : Int) then (slices_Reverse_int_int.l0 k ((x0.set (x2 : Int).toNat (rd x0 x3)).set (x3 : Int).toNat (rd x0 x2)) (wrap64 (x2 + 1)) (wrap64 (x3 - 1))) else (none)) else (none)) else (none)) else (none)) else (some x0)
def slices_Reverse_int_int.f (k : Nat) (l0 : List Int) : Option (List Int) := slices_Reverse_int_int.l0 k l0 0 (wrap64 ((l0.length : Int) - 1))
theorem slices_Reverse_int_int.mono_l : ∀ k, (∀ y0 y1 y2, LeO (slices_Reverse_int_int.l0 k y0 y1 y2) (slices_Reverse_int_int.l0 (k + 1) y0 y1 y2))
 | 0 => fun _ _ _ r h => by simp [slices_Reverse_int_int.l0] at h
 | k + 1 => by
  have ih0 := slices_Reverse_int_int.mono_l k
  ·intro y0 y1 y2
   unfold slices_Reverse_int_int.l0
   repeat' first
   | (with_reducible apply ih0)
   | (with_reducible exact LeO.refl _)
   | (with_reducible exact LeO.none _)
   | (with_reducible refine LeO.ite ?_ ?_)
   | (with_reducible refine LeO.bind ?_ (fun _ => ?_))
   | apply ih0
   | exact LeO.none _
   | refine LeO.ite ?_ ?_
   | refine LeO.bind ?_ (fun _ => ?_)
theorem slices_Reverse_int_int.mono : ∀ a0 k, LeO (slices_Reverse_int_int.f k a0) (slices_Reverse_int_int.f (k + 1) a0) := by
 intro a0 k;have ih0 := slices_Reverse_int_int.mono_l k;unfold slices_Reverse_int_int.f
 repeat' first
  | (with_reducible apply ih0)
  | (with_reducible exact LeO.refl _)
  | (with_reducible exact LeO.none _)
  | (with_reducible refine LeO.ite ?_ ?_)
  | (with_reducible refine LeO.bind ?_ (fun _ => ?_))
  | apply ih0
  | exact LeO.none _
  | refine LeO.ite ?_ ?_
  | refine LeO.bind ?_ (fun _ => ?_)
def slices_Reverse_int_int.T3 : Bool × List (List Nat × List Nat) := (true, [([], []), ([], []), ([], []), ([], []), ([], []), ([], []), ([4, 5], [4, 5]), ([6], [6]), ([], []), ([], []), ([8, 9], [8, 9]), ([10], [10]), ([0, 1, 0, 1, 4, 5, 6, 7, 11], [0, 1]), ([12, 7, 0, 1, 4, 5, 6, 7, 11], [7, 12]), ([2, 3, 0, 1, 2, 3, 4, 5, 6, 7, 8, 9, 10, 11, 12, 13], [2, 3]), ([14, 11, 13, 0, 1, 2, 3, 4, 5, 6, 7, 8, 9, 10, 11, 12, 13], [11, 14])])
def slices_Reverse_int_int.B3 : List Nat := [0, 0, 0, 0, 0, 0, 48, 112, 0, 0, 768, 1792, 4083, 8179, 16383, 32767]
theorem slices_Reverse_int_int.tab3 : rtab .any (opsOf Tryz.f109 3) = slices_Reverse_int_int.T3 := by kernel_rfl
theorem slices_Reverse_int_int.bits3 : waitsOk slices_Reverse_int_int.T3.2 slices_Reverse_int_int.B3 = true := by kernel_rfl
set_option maxHeartbeats 8000000 in
set_option maxRecDepth 100000 in
theorem slices_Reverse_int_int.calls (k : Nat) (P0_ : Nat → Prop) (u9000_ : Value) (l0 : List Int) (r : List Int) (w0 w : World) (hB : Below w0.heap.size w0 w) (ho0 : Kd.R (Kd.int .i64) 3 w w0.heap.size P0_ u9000_ l0) (h : slices_Reverse_int_int.f k l0 = some r) :
  Calls Tryz.prog 109 #[u9000_] w fun e w' => e = .returned (.tuple #[]) ∧ Kd.R (Kd.int .i64) 3 w' w0.heap.size (fun k_ => (P0_ k_ ∨ w.heap.size ≤ k_)) u9000_ r ∧ Below w0.heap.size w0 w' ∧ Kept w w' (fun k_ => P0_ k_) := by
 have HO0 := Aside0.mk (show Kd.R (Kd.int .i64) 3 w w0.heap.size (fun k_ => (P0_ k_ ∨ w.heap.size ≤ k_)) u9000_ l0 from Kd.R_mono ho0 (fun k_ hk => (.inl hk)));have HK := Aside0.mk (Kept.refl w (fun k_ => P0_ k_));have HW0 := Aside0.mk hB.size;have HB := Aside0.mk hB;clear hB;have H : (slices_Reverse_int_int.l0 k l0 0 (wrap64 ((l0.length : Int) - 1))) = some r := h;clear h;have H' := Aside0.mk H;clear H;obtain ⟨Ao2, co2, eo2⟩ := Kd.R_slice HO0.out;subst eo2
 go_enter Tryz.func109, Tryz.ntmps109
 go_wp2
 go_loopg [2, 3] k (fun kq v2 v3 w' => ∃ (x0_1 : List Int) (x2_1 : Int) (x3_1 : Int), v2 = .int .i64 x2_1 ∧ v3 = .int .i64 x3_1 ∧ Aside0 (slices_Reverse_int_int.l0 kq x0_1 x2_1 x3_1 = some r) ∧ Aside0 (kq ≤ k) ∧ Aside0 (Kd.R (Kd.int .i64) 3 w' w0.heap.size (fun k_ => (P0_ k_ ∨ w.heap.size ≤ k_)) (.slice Ao2 l0.length co2) x0_1) ∧ Aside0 (Kept w w' (fun k_ => P0_ k_)) ∧ Aside0 (Below w0.heap.size w0 w'))
 case atStart => exact ⟨(l0), (0), (wrap64 ((l0.length : Int) - 1)), (by first | rfl | (simp; done) | (simp [*]; done)), (by first | rfl | (simp; done) | (simp [*]; done)), H', ⟨Nat.le_refl _⟩, ⟨rch HO0⟩, ⟨by repeat (first | (with_reducible first | exact HK.out | apply Kept.alloc | apply Kept.drewN | apply Kept.drew) | exact HK.out)⟩, ⟨bel HB⟩⟩
 case round =>
  clear H'
  try clear c1
  try clear p2
  obtain ⟨x0_1, x2_1, x3_1, rfl, rfl, HA, HK1, HO_0, HK, HB⟩ := hrel;have hl0_1 := (Kd.R_reads' HO_0.out).1
  rw [hl0_1] at HO_0
  (try simp only [hl0_1])
  cases gk with
  | zero => exact absurd HA.out (by simp [slices_Reverse_int_int.l0])
  | succ k1 =>
   have H := HA.out;clear HA
   simp only [slices_Reverse_int_int.l0] at H
   by_cases c3 : x2_1 < x3_1
   ·rw [if_pos c3] at H
    have c3b0 : decide (x2_1 < x3_1) = true := decide_eq_true c3;clear c3
    by_cases c4 : 0 ≤ x3_1
    ·rw [if_pos c4] at H
     have c4b0 : decide (0 ≤ x3_1) = true := decide_eq_true c4;clear c4
     by_cases c5 : x3_1 < (x0_1.length : Int)
     ·rw [if_pos c5] at H
      have c5b0 : decide (x3_1 < (x0_1.length : Int)) = true := decide_eq_true c5;clear c5
      by_cases c6 : 0 ≤ x2_1
      ·rw [if_pos c6] at H
       have c6b0 : decide (0 ≤ x2_1) = true := decide_eq_true c6;clear c6
       by_cases c7 : x2_1 < (x0_1.length : Int)
       ·rw [if_pos c7] at H
        have c7b0 : decide (x2_1 < (x0_1.length : Int)) = true := decide_eq_true c7;clear c7;obtain ⟨y103, hy103⟩ : ∃ y_ : List Int, y_ = (x0_1.set (x2_1 : Int).toNat (rd x0_1 x3_1)) := ⟨_, rfl⟩;replace H : (slices_Reverse_int_int.l0 k1 (y103.set (x3_1 : Int).toNat (rd x0_1 x2_1)) (wrap64 (x2_1 + 1)) (wrap64 (x3_1 - 1))) = some r := rH hy103 H;have Ny103 := Aside0.mk hy103;clear hy103;obtain ⟨y104, hy104⟩ : ∃ y_ : List Int, y_ = (y103.set (x3_1 : Int).toNat (rd x0_1 x2_1)) := ⟨_, rfl⟩;replace H : (slices_Reverse_int_int.l0 k1 y104 (wrap64 (x2_1 + 1)) (wrap64 (x3_1 - 1))) = some r := rH hy104 H;have Ny104 := Aside0.mk hy104;clear hy104;have H' := Aside0.mk H;clear H
        try go_wp2
        have n0_ := Aside0.mk (Kd.R_drew HO_0.out);have n1_ := Aside0.mk (Kept.drew HK.out);have n2_ := Aside0.mk (below_drew1 HB.out);clear HO_0;clear HK;clear HB;have HO_0 := n0_;have HK := n1_;have HB := n2_;clear n0_ n1_ n2_;have p101 : 0 ≤ (x3_1 : Int) := of_decide_eq_true (by first | (with_reducible assumption) | assumption);have q101 : x3_1 < (x0_1.length : Int) := of_decide_eq_true (by first | (with_reducible assumption) | assumption);obtain ⟨ad101, e101, hx101_0⟩ := Kd.at_int (Kd.R_reads' HO_0.out).2.2 x3_1 p101 q101
        cases e101
        replace p101 := eq_true p101;replace q101 := eq_true q101;have p102 : 0 ≤ (x2_1 : Int) := of_decide_eq_true (by first | (with_reducible assumption) | assumption);have q102 : x2_1 < (x0_1.length : Int) := of_decide_eq_true (by first | (with_reducible assumption) | assumption);obtain ⟨ad102, e102, hx102_0⟩ := Kd.at_int (Kd.R_reads' HO_0.out).2.2 x2_1 p102 q102;obtain rfl : ad101 = ad102 := (by injection e102);replace p102 := eq_true p102;replace q102 := eq_true q102;have p8 : 0 ≤ (x2_1 : Int) := of_decide_eq_true (by first | (with_reducible assumption) | assumption);have q8 : (x2_1 : Int) < ((x0_1.length : Int) : Int) := of_decide_eq_true (by first | (with_reducible assumption) | assumption);obtain ⟨go8, co8, eo8, gb8, gl8, cl8, HG8⟩ := Kd.R_form HO_0.out (by omega)
        (first | cases eo8 | (injection eo8 with ea_ en_ ec_; (first | subst ea_ | (injection ea_ with ea_; subst ea_)); subst ec_; clear en_))
        have GB8 := Aside0.mk gb8;have GG8 := Aside0.mk HG8;clear gb8 gl8 HG8;have HMgo8 := Aside0.mk (show (P0_ go8 ∨ w.heap.size ≤ go8) from (HO_0.out.1 _ rfl))
        (first | simp only [add_plain] at hx101_0 | skip)
        (first | simp only [add_plain] at hx102_0 | skip)
        obtain ⟨hx8_0, hf8_0⟩ := Kd.R_celln 0 HO_0.out (x2_1 : Int) p8 q8;replace p8 := eq_true p8;replace q8 := eq_true q8;have HP11 := Kd.R_putn HO_0.out (x2_1 : Int) (rd x0_1 x3_1)
        rw [← Ny103.out] at HP11
        have HQ11 := Aside0.mk HP11;clear HP11;have p9 : 0 ≤ (x3_1 : Int) := of_decide_eq_true (by first | (with_reducible assumption) | assumption);have q9 : (x3_1 : Int) < ((x0_1.length : Int) : Int) := of_decide_eq_true (by first | (with_reducible assumption) | assumption);obtain ⟨hx9_0, hf9_0⟩ := Kd.R_celln 0 HQ11.out (x3_1 : Int) p9 q9;replace p9 := eq_true p9;replace q9 := eq_true q9;have HP12 := Kd.R_putn HQ11.out (x3_1 : Int) (rd x0_1 x2_1)
        rw [← Ny104.out] at HP12
        have HQ12 := Aside0.mk HP12;clear HP12
        refine start_ (n := 16) (S := fun w' => w'.cell? ⟨go8, (x3_1).toNat, none⟩ = some (.int .i64 (rd x0_1 x3_1)) ∧ w'.cell? ⟨go8, (x2_1).toNat, none⟩ = some (.int .i64 (rd x0_1 x2_1))) (ds := [13, 15]) #[false, false, false, false, false, false, false, false, false, false, false, false, false, false, false, false] (by kernel_rfl) rfl rfl ⟨hx101_0, hx102_0⟩ (fun hHeld => ?_); refine with_tabW slices_Reverse_int_int.tab3 slices_Reverse_int_int.bits3 (fun HT_ HW_ => ?_)
        generalize wr.drew = w10 at HO_0 HK HB GG8 HQ11 HQ12 hf8_0 hf9_0 hx101_0 hx102_0 hx8_0 hx9_0 hHeld ⊢
        refine pure_ (i := 0) (N := some 14) (v := ?_) (a' := ?_) #[true, false, false, false, false, false, false, false, false, false, false, false, false, false, false, false] rfl rfl (any_of HT_.out (by kernel_rfl)) (fun _ _ _ h => h) (Or.inl ⟨by rfl, ?_⟩) ?_ ?_
        rotate_left
        ·intro w'
         go_simp
         with_reducible rfl
        rotate_left
        ·simp only [Act.put, List.setIfInBounds_toArray, List.set_cons_zero, List.set_cons_succ, i64_w, i32_w]
         rfl
        refine pure_ (i := 1) (N := some 15) (v := ?_) (a' := ?_) #[true, true, false, false, false, false, false, false, false, false, false, false, false, false, false, false] rfl rfl (any_of HT_.out (by kernel_rfl)) (fun _ _ _ h => h) (Or.inl ⟨by rfl, ?_⟩) ?_ ?_
        rotate_left
        ·intro w'
         go_simp
         with_reducible rfl
        rotate_left
        ·simp only [Act.put, List.setIfInBounds_toArray, List.set_cons_zero, List.set_cons_succ, i64_w, i32_w]
         rfl
        refine pure_ (i := 2) (N := some 16) (v := ?_) (a' := ?_) #[true, true, true, false, false, false, false, false, false, false, false, false, false, false, false, false] rfl rfl (any_of HT_.out (by kernel_rfl)) (fun _ _ _ h => h) (Or.inl ⟨by rfl, ?_⟩) ?_ ?_
        rotate_left
        ·intro w'
         go_simp
         with_reducible rfl
        rotate_left
        ·simp only [Act.put, List.setIfInBounds_toArray, List.set_cons_zero, List.set_cons_succ, i64_w, i32_w]
         rfl
        refine pure_ (i := 3) (N := some 17) (v := ?_) (a' := ?_) #[true, true, true, true, false, false, false, false, false, false, false, false, false, false, false, false] rfl rfl (any_of HT_.out (by kernel_rfl)) (fun _ _ _ h => h) (Or.inl ⟨by rfl, ?_⟩) ?_ ?_
        rotate_left
        ·intro w'
         go_simp
         with_reducible rfl
        rotate_left
        ·simp only [Act.put, List.setIfInBounds_toArray, List.set_cons_zero, List.set_cons_succ, i64_w, i32_w]
         rfl
        refine pure_ (i := 4) (N := some 18) (v := ?_) (a' := ?_) #[true, true, true, true, true, false, false, false, false, false, false, false, false, false, false, false] rfl rfl (any_of HT_.out (by kernel_rfl)) (fun _ _ _ h => h) (Or.inl ⟨by rfl, ?_⟩) ?_ ?_
        rotate_left
        ·intro w'
         go_simp
         with_reducible rfl
        rotate_left
        ·simp only [Act.put, List.setIfInBounds_toArray, List.set_cons_zero, List.set_cons_succ, i64_w, i32_w]
         rfl
        refine pure_ (i := 5) (N := some 19) (v := ?_) (a' := ?_) #[true, true, true, true, true, true, false, false, false, false, false, false, false, false, false, false] rfl rfl (any_of HT_.out (by kernel_rfl)) (fun _ _ _ h => h) (Or.inl ⟨by rfl, ?_⟩) ?_ ?_
        rotate_left
        ·intro w'
         go_simp
         with_reducible rfl
        rotate_left
        ·simp only [Act.put, List.setIfInBounds_toArray, List.set_cons_zero, List.set_cons_succ, i64_w, i32_w]
         rfl
        refine pure_ (i := 6) (N := some 20) (v := ?_) (a' := ?_) #[true, true, true, true, true, true, true, false, false, false, false, false, false, false, false, false] rfl rfl (any_of HT_.out (by kernel_rfl)) (fun _ _ _ h => h) (Or.inl ⟨by rfl, ?_⟩) ?_ ?_
        rotate_left
        ·intro w'
         go_simp
         with_reducible rfl
        rotate_left
        ·simp only [Act.put, List.setIfInBounds_toArray, List.set_cons_zero, List.set_cons_succ, i64_w, i32_w]
         rfl
        refine pure_ (i := 8) (N := some 22) (v := ?_) (a' := ?_) #[true, true, true, true, true, true, true, false, true, false, false, false, false, false, false, false] rfl rfl (any_of HT_.out (by kernel_rfl)) (fun _ _ _ h => h) (Or.inl ⟨by rfl, ?_⟩) ?_ ?_
        rotate_left
        ·intro w'
         go_simp
         with_reducible rfl
        rotate_left
        ·simp only [Act.put, List.setIfInBounds_toArray, List.set_cons_zero, List.set_cons_succ, i64_w, i32_w]
         rfl
        refine pure_ (i := 9) (N := some 23) (v := ?_) (a' := ?_) #[true, true, true, true, true, true, true, false, true, true, false, false, false, false, false, false] rfl rfl (any_of HT_.out (by kernel_rfl)) (fun _ _ _ h => h) (Or.inl ⟨by rfl, ?_⟩) ?_ ?_
        rotate_left
        ·intro w'
         go_simp
         with_reducible rfl
        rotate_left
        ·simp only [Act.put, List.setIfInBounds_toArray, List.set_cons_zero, List.set_cons_succ, i64_w, i32_w]
         rfl
        refine pure_ (i := 10) (N := some 24) (v := ?_) (a' := ?_) #[true, true, true, true, true, true, true, false, true, true, true, false, false, false, false, false] rfl rfl (any_of HT_.out (by kernel_rfl)) (fun _ _ _ h => h) (Or.inl ⟨by rfl, ?_⟩) ?_ ?_
        rotate_left
        ·intro w'
         go_simp
         with_reducible rfl
        rotate_left
        ·simp only [Act.put, List.setIfInBounds_toArray, List.set_cons_zero, List.set_cons_succ, i64_w, i32_w]
         rfl
        refine take_ (i := 7) (N := some 21) (v := ?_) (a' := ?_) #[true, true, true, true, true, true, true, true, true, true, true, false, false, false, false, false] rfl rfl (take_ofW HT_.out HW_.out (by kernel_rfl)) (fun _ _ _ h => h) (Or.inl ⟨by rfl, ?_⟩) hHeld ?_ ?_
        rotate_left
        ·rintro w' ⟨s0, s1⟩
         go_simp
         with_reducible rfl
        rotate_left
        ·simp only [Act.put, List.setIfInBounds_toArray, List.set_cons_zero, List.set_cons_succ, i64_w, i32_w]
         rfl
        refine take_ (i := 11) (N := some 25) (v := ?_) (a' := ?_) #[true, true, true, true, true, true, true, true, true, true, true, true, false, false, false, false] rfl rfl (take_ofW HT_.out HW_.out (by kernel_rfl)) (fun _ _ _ h => h) (Or.inl ⟨by rfl, ?_⟩) hHeld ?_ ?_
        rotate_left
        ·rintro w' ⟨s0, s1⟩
         go_simp
         with_reducible rfl
        rotate_left
        ·simp only [Act.put, List.setIfInBounds_toArray, List.set_cons_zero, List.set_cons_succ, i64_w, i32_w]
         rfl
        refine pure_ (i := 12) (N := some 26) (v := ?_) (a' := ?_) #[true, true, true, true, true, true, true, true, true, true, true, true, true, false, false, false] rfl rfl (any_of HT_.out (by kernel_rfl)) (fun _ _ _ h => h) (Or.inl ⟨by rfl, ?_⟩) ?_ ?_
        rotate_left
        ·intro w'
         go_simp
         with_reducible rfl
        rotate_left
        ·simp only [Act.put, List.setIfInBounds_toArray, List.set_cons_zero, List.set_cons_succ, i64_w, i32_w]
         rfl
        refine last_ (i := 13) (N := none) #[true, true, true, true, true, true, true, true, true, true, true, true, true, true, false, false] rfl rfl (one_of HT_.out (by kernel_rfl)) (by decide) (fun K hK => ?_)
        refine skip_ (w1 := ?_) (by rfl) rfl ?_ ?_
        rotate_left
        ·go_simp
         rfl
        refine hK.out _ _ ?_
        clear hK K
        refine pure_ (i := 14) (N := some 27) (v := ?_) (a' := ?_) #[true, true, true, true, true, true, true, true, true, true, true, true, true, true, true, false] rfl rfl (any_of HT_.out (by kernel_rfl)) (fun _ _ _ h => h) (Or.inl ⟨by rfl, ?_⟩) ?_ ?_
        rotate_left
        ·intro w'
         go_simp
         with_reducible rfl
        rotate_left
        ·simp only [Act.put, List.setIfInBounds_toArray, List.set_cons_zero, List.set_cons_succ, i64_w, i32_w]
         rfl
        refine last_ (i := 15) (N := none) #[true, true, true, true, true, true, true, true, true, true, true, true, true, true, true, true] rfl rfl (one_of HT_.out (by kernel_rfl)) (by decide) (fun K hK => ?_)
        refine skip_ (w1 := ?_) (by rfl) rfl ?_ ?_
        rotate_left
        ·go_simp
         rfl
        refine hK.out _ _ ?_
        clear hK K
        refine done_ (done_of HT_.out (by kernel_rfl)) ?_
        try go_wp2
        (try simp only [← hl0_1])
        go_roundg k1
        case measure => have := HK1.out; omega
        case rel => exact ⟨(y104), (wrap64 (x2_1 + 1)), (wrap64 (x3_1 - 1)), (by first | rfl | (simp; done) | (simp [*]; done)), (by first | rfl | (simp; done) | (simp [*]; done)), H', ⟨by have := HK1.out; omega⟩, ⟨by (try simp only [hl0_1]); (with_reducible repeat (first | apply Kd.R_alloc | apply Kd.R_drewN | apply Kd.R_drew)); exact HQ12.out⟩, ⟨by repeat (first | (with_reducible first | exact HK.out | apply Kept.alloc | apply Kept.drewN | apply Kept.drew | refine Kept.setCell ?_ HMgo8.out _ | refine Kept.setCell ?_ HMgo8.out _) | exact HK.out)⟩, ⟨bel HB⟩⟩
       ·rw [if_neg c7] at H
        exact absurd H (by simp)
      ·rw [if_neg c6] at H
       exact absurd H (by simp)
     ·rw [if_neg c5] at H
      exact absurd H (by simp)
    ·rw [if_neg c4] at H
     exact absurd H (by simp)
   ·rw [if_neg c3] at H
    have c3b0 : decide (x2_1 < x3_1) = false := decide_eq_false c3;clear c3;obtain rfl := Option.some.inj H
    go_wp2
    first | go_end0 | ((try simp only [Exit.inBlock, Exit.then]); refine bodyPost_ret (results_none rfl _ _ _) rfl ?_)
    exact ⟨by first | rfl | (simp [errW_none, errW_some] <;> rfl) | (simp [*, errW_none, errW_some] <;> rfl), (by first | exact (rch HO_0) | (simp only [hl0_1]; exact (rch HO_0))), by repeat (first | (with_reducible first | exact HB.out | apply below_alloc | apply pw_below_drewN | apply below_drew1) | exact HB.out), by repeat (first | (with_reducible first | exact HK.out | apply Kept.alloc | apply Kept.drewN | apply Kept.drew) | exact HK.out)⟩
mutual
def impl_tray_lines.j0 : Nat → Int → List (List Int) → Int → Int → Bool → Int → Int → List Int → Option ((List (List Int)))
 | 0, _, _, _, _, _, _, _, _ => none
 | k + 1, x1, x5, x6, x7, x21, x102000, x102001, x102002 => if x21 = true then (impl_tray_lines.j1 k x1 x5 x102000 x102001 x102000 x102001 x102002) else (impl_tray_lines.j1 k x1 x5 x6 x7 x102000 x102001 x102002)
def impl_tray_lines.j1 : Nat → Int → List (List Int) → Int → Int → Int → Int → List Int → Option ((List (List Int)))
 | 0, _, _, _, _, _, _, _ => none
 | k + 1, x1, x5, x6, x7, x102000, x102001, x102002 => impl_tray_lines.l0 k x1 x5 x7 x6 0 x102000 x102001 x102002
def impl_tray_lines.l0 : Nat → Int → List (List Int) → Int → Int → Int → Int → Int → List Int → Option ((List (List Int)))
 | 0, _, _, _, _, _, _, _, _ => none
 | k + 1, x1, x5, x7, x26, x27, x102000, x102001, x102002 => if x27 < x26 then (impl_tray_lines.l1 k x1 x5 x7 x27 (([] : List Int)) x26 x27 x7 0 x102000 x102001 x102002) else (some x5)
def impl_tray_lines.l1 : Nat → Int → List (List Int) → Int → Int → List Int → Int → Int → Int → Int → Int → Int → List Int → Option ((List (List Int)))
 | 0, _, _, _, _, _, _, _, _, _, _, _, _ => none
 | k + 1, x1, x5, x7, x8, x9, x26, x27, x31, x32, x102000, x102001, x102002 => if x32 < x31 then (if x1 = 117 then (impl_tray_lines.j4 k x1 x5 x7 x8 x9 x32 x26 x27 x31 x32 true x102000 x102001 x102002) else (impl_tray_lines.j4 k x1 x5 x7 x8 x9 x32 x26 x27 x31 x32 (x1 == 100) x102000 x102001 x102002)) else (if x1 = 114 then ((slices_Reverse_int_int.f k x9).bind fun t108 => (if x5.length < 5864062014805 then (impl_tray_lines.l0 k x1 (x5 ++ [t108]) x7 x26 (wrap64 (x27 + 1)) x102000 x102001 x102002) else (none))) else (if x1 = 100 then ((slices_Reverse_int_int.f k x9).bind fun t112 => (if x5.length < 5864062014805 then (impl_tray_lines.l0 k x1 (x5 ++ [t112]) x7 x26 (wrap64 (x27 + 1)) x102000 x102001 x102002) else (none))) else (if x5.length < 5864062014805 then (impl_tray_lines.l0 k x1 (x5 ++ [x9]) x7 x26 (wrap64 (x27 + 1)) x102000 x102001 x102002) else (none))))
def impl_tray_lines.j4 : Nat → Int → List (List Int) → Int → Int → List Int → Int → Int → Int → Int → Int → Bool → Int → Int → List Int → Option ((List (List Int)))
 | 0, _, _, _, _, _, _, _, _, _, _, _, _, _, _ => none
 | k + 1, x1, x5, x7, x8, x9, x10, x26, x27, x31, x32, x40, x102000, x102001, x102002 => if x40 = true then ((impl_tray_number.f x102000 x102001 x102002 x8 x10).bind fun t119 => (if x9.length < 17592186044416 then (impl_tray_lines.l1 k x1 x5 x7 x8 (x9 ++ [t119]) x26 x27 x31 (wrap64 (x32 + 1)) x102000 x102001 x102002) else (none))) else ((impl_tray_number.f x102000 x102001 x102002 x10 x8).bind fun t123 => (if x9.length < 17592186044416 then (impl_tray_lines.l1 k x1 x5 x7 x8 (x9 ++ [t123]) x26 x27 x31 (wrap64 (x32 + 1)) x102000 x102001 x102002) else (none)))
end
def impl_tray_lines.f (k : Nat) (a0_0 : Int) (a0_1 : Int) (l0_2 : List Int) (a1 : Int) : Option ((List (List Int))) := (some (([] : List (List Int)) : List (List Int))).bind fun y102 => (if a1 = 117 then (impl_tray_lines.j0 k a1 y102 a0_1 a0_0 true a0_0 a0_1 l0_2) else (impl_tray_lines.j0 k a1 y102 a0_1 a0_0 (a1 == 100) a0_0 a0_1 l0_2))
theorem impl_tray_lines.mono_l : ∀ k, (∀ y0 y1 y2 y3 y4 y5 y6 y7, LeO (impl_tray_lines.j0 k y0 y1 y2 y3 y4 y5 y6 y7) (impl_tray_lines.j0 (k + 1) y0 y1 y2 y3 y4 y5 y6 y7)) ∧ (∀ y0 y1 y2 y3 y4 y5 y6, LeO (impl_tray_lines.j1 k y0 y1 y2 y3 y4 y5 y6) (impl_tray_lines.j1 (k + 1) y0 y1 y2 y3 y4 y5 y6)) ∧ (∀ y0 y1 y2 y3 y4 y5 y6 y7, LeO (impl_tray_lines.l0 k y0 y1 y2 y3 y4 y5 y6 y7) (impl_tray_lines.l0 (k + 1) y0 y1 y2 y3 y4 y5 y6 y7)) ∧ (∀ y0 y1 y2 y3 y4 y5 y6 y7 y8 y9 y10 y11, LeO (impl_tray_lines.l1 k y0 y1 y2 y3 y4 y5 y6 y7 y8 y9 y10 y11) (impl_tray_lines.l1 (k + 1) y0 y1 y2 y3 y4 y5 y6 y7 y8 y9 y10 y11)) ∧ (∀ y0 y1 y2 y3 y4 y5 y6 y7 y8 y9 y10 y11 y12 y13, LeO (impl_tray_lines.j4 k y0 y1 y2 y3 y4 y5 y6 y7 y8 y9 y10 y11 y12 y13) (impl_tray_lines.j4 (k + 1) y0 y1 y2 y3 y4 y5 y6 y7 y8 y9 y10 y11 y12 y13))
 | 0 => ⟨fun _ _ _ _ _ _ _ _ r h => by simp [impl_tray_lines.j0] at h, fun _ _ _ _ _ _ _ r h => by simp [impl_tray_lines.j1] at h, fun _ _ _ _ _ _ _ _ r h => by simp [impl_tray_lines.l0] at h, fun _ _ _ _ _ _ _ _ _ _ _ _ r h => by simp [impl_tray_lines.l1] at h, fun _ _ _ _ _ _ _ _ _ _ _ _ _ _ r h => by simp [impl_tray_lines.j4] at h⟩
 | k + 1 => by
  obtain ⟨ih0, ih1, ih2, ih3, ih4⟩ := impl_tray_lines.mono_l k
  refine ⟨?_, ?_, ?_, ?_, ?_⟩
  ·intro y0 y1 y2 y3 y4 y5 y6 y7
   unfold impl_tray_lines.j0
   repeat' first
   | (with_reducible apply ih0)
   | (with_reducible apply ih1)
   | (with_reducible apply ih2)
   | (with_reducible apply ih3)
   | (with_reducible apply ih4)
   | (with_reducible exact slices_Reverse_int_int.mono _ _)
   | (with_reducible exact LeO.refl _)
   | (with_reducible exact LeO.none _)
   | (with_reducible refine LeO.ite ?_ ?_)
   | (with_reducible refine LeO.bind ?_ (fun _ => ?_))
   | apply ih0
   | apply ih1
   | apply ih2
   | apply ih3
   | apply ih4
   | exact slices_Reverse_int_int.mono _ _
   | exact LeO.none _
   | refine LeO.ite ?_ ?_
   | refine LeO.bind ?_ (fun _ => ?_)
  ·intro y0 y1 y2 y3 y4 y5 y6
   unfold impl_tray_lines.j1
   repeat' first
   | (with_reducible apply ih0)
   | (with_reducible apply ih1)
   | (with_reducible apply ih2)
   | (with_reducible apply ih3)
   | (with_reducible apply ih4)
   | (with_reducible exact slices_Reverse_int_int.mono _ _)
   | (with_reducible exact LeO.refl _)
   | (with_reducible exact LeO.none _)
   | (with_reducible refine LeO.ite ?_ ?_)
   | (with_reducible refine LeO.bind ?_ (fun _ => ?_))
   | apply ih0
   | apply ih1
   | apply ih2
   | apply ih3
   | apply ih4
   | exact slices_Reverse_int_int.mono _ _
   | exact LeO.none _
   | refine LeO.ite ?_ ?_
   | refine LeO.bind ?_ (fun _ => ?_)
  ·intro y0 y1 y2 y3 y4 y5 y6 y7
   unfold impl_tray_lines.l0
   repeat' first
   | (with_reducible apply ih0)
   | (with_reducible apply ih1)
   | (with_reducible apply ih2)
   | (with_reducible apply ih3)
   | (with_reducible apply ih4)
   | (with_reducible exact slices_Reverse_int_int.mono _ _)
   | (with_reducible exact LeO.refl _)
   | (with_reducible exact LeO.none _)
   | (with_reducible refine LeO.ite ?_ ?_)
   | (with_reducible refine LeO.bind ?_ (fun _ => ?_))
   | apply ih0
   | apply ih1
   | apply ih2
   | apply ih3
   | apply ih4
   | exact slices_Reverse_int_int.mono _ _
   | exact LeO.none _
   | refine LeO.ite ?_ ?_
   | refine LeO.bind ?_ (fun _ => ?_)
  ·intro y0 y1 y2 y3 y4 y5 y6 y7 y8 y9 y10 y11
   unfold impl_tray_lines.l1
   repeat' first
   | (with_reducible apply ih0)
   | (with_reducible apply ih1)
   | (with_reducible apply ih2)
   | (with_reducible apply ih3)
   | (with_reducible apply ih4)
   | (with_reducible exact slices_Reverse_int_int.mono _ _)
   | (with_reducible exact LeO.refl _)
   | (with_reducible exact LeO.none _)
   | (with_reducible refine LeO.ite ?_ ?_)
   | (with_reducible refine LeO.bind ?_ (fun _ => ?_))
   | apply ih0
   | apply ih1
   | apply ih2
   | apply ih3
   | apply ih4
   | exact slices_Reverse_int_int.mono _ _
   | exact LeO.none _
   | refine LeO.ite ?_ ?_
   | refine LeO.bind ?_ (fun _ => ?_)
  ·intro y0 y1 y2 y3 y4 y5 y6 y7 y8 y9 y10 y11 y12 y13
   unfold impl_tray_lines.j4
   repeat' first
   | (with_reducible apply ih0)
   | (with_reducible apply ih1)
   | (with_reducible apply ih2)
   | (with_reducible apply ih3)
   | (with_reducible apply ih4)
   | (with_reducible exact slices_Reverse_int_int.mono _ _)
   | (with_reducible exact LeO.refl _)
   | (with_reducible exact LeO.none _)
   | (with_reducible refine LeO.ite ?_ ?_)
   | (with_reducible refine LeO.bind ?_ (fun _ => ?_))
   | apply ih0
   | apply ih1
   | apply ih2
   | apply ih3
   | apply ih4
   | exact slices_Reverse_int_int.mono _ _
   | exact LeO.none _
   | refine LeO.ite ?_ ?_
   | refine LeO.bind ?_ (fun _ => ?_)
theorem impl_tray_lines.mono : ∀ a0 a1 a2 a3 k, LeO (impl_tray_lines.f k a0 a1 a2 a3) (impl_tray_lines.f (k + 1) a0 a1 a2 a3) := by
 intro a0 a1 a2 a3 k;obtain ⟨ih0, ih1, ih2, ih3, ih4⟩ := impl_tray_lines.mono_l k;unfold impl_tray_lines.f
 repeat' first
  | (with_reducible apply ih0)
  | (with_reducible apply ih1)
  | (with_reducible apply ih2)
  | (with_reducible apply ih3)
  | (with_reducible apply ih4)
  | (with_reducible exact slices_Reverse_int_int.mono _ _)
  | (with_reducible exact LeO.refl _)
  | (with_reducible exact LeO.none _)
  | (with_reducible refine LeO.ite ?_ ?_)
  | (with_reducible refine LeO.bind ?_ (fun _ => ?_))
  | apply ih0
  | apply ih1
  | apply ih2
  | apply ih3
  | apply ih4
  | exact slices_Reverse_int_int.mono _ _
  | exact LeO.none _
  | refine LeO.ite ?_ ?_
  | refine LeO.bind ?_ (fun _ => ?_)
set_option maxHeartbeats 8000000 in
set_option maxRecDepth 100000 in
theorem impl_tray_lines.calls (k : Nat) (a0_0 : Int) (a0_1 : Int) (A0_2 : Option Addr) (c0_2 : Nat) (l0_2 : List Int) (a1 : Int) (r : List (List Int)) (w : World) (hr0_2 : Kd.C (Kd.int .u8) w A0_2 l0_2.length l0_2) (hc0_2 : l0_2.length ≤ c0_2) (h : impl_tray_lines.f k a0_0 a0_1 l0_2 a1 = some r) :
  Calls Tryz.prog 92 #[.agg #[.int .i64 a0_0, .int .i64 a0_1, .slice A0_2 l0_2.length c0_2], .int .u8 a1] w fun e w' => ∃ v0_ : Value, e = .returned (v0_) ∧ Kd.S (Kd.slice 3 (Kd.int .i64)) 39 w' w.heap.size (fun _ => True) v0_ r ∧ Below w.heap.size w w' := by
 have hu64 := Tryz.underlying64;have HR0_2 := Aside0.mk hr0_2;have HC0_2 := Aside0.mk hc0_2;clear hr0_2 hc0_2;have HB := Aside0.mk (Below.refl w.heap.size w);have H : ((some (([] : List (List Int)) : List (List Int))).bind fun y102 => (if a1 = 117 then (impl_tray_lines.j0 k a1 y102 a0_1 a0_0 true a0_0 a0_1 l0_2) else (impl_tray_lines.j0 k a1 y102 a0_1 a0_0 (a1 == 100) a0_0 a0_1 l0_2))) = some r := h;clear h;obtain ⟨y102, hy102⟩ : ∃ y_ : List (List Int), y_ = (([] : List (List Int))) := ⟨_, rfl⟩;replace H : (if a1 = 117 then (impl_tray_lines.j0 k a1 y102 a0_1 a0_0 true a0_0 a0_1 l0_2) else (impl_tray_lines.j0 k a1 y102 a0_1 a0_0 (a1 == 100) a0_0 a0_1 l0_2)) = some r := rH hy102 H;have Ny102 := Aside0.mk hy102;clear hy102;have HC3 := Aside0.mk H;clear H
 go_enter Tryz.func92, Tryz.ntmps92
 go_upto_region 3 with (first | ((with_reducible refine gate_dst (N := 2) rfl ?_); refine boxE (N := 2) (cs := #[.int .i64 a0_0, .int .i64 a0_1, .slice A0_2 l0_2.length c0_2]) (t := 64) ?_; intro gb101 hg w4 hbox hb; have n0_ := Aside0.mk (below_step (bel HB) hb); have n1_ := Aside0.mk (hbox); have n2_ := Aside0.mk (gsz hg (bel HB)); have n3_ := Aside0.mk (gsz hg (bel HB)); clear HB; have HB := n0_; have BK101 := n1_; have GW101 := n2_; have GE101 := n3_; clear n0_ n1_ n2_ n3_; clear hb hbox hg) | ((with_reducible refine gate_dst (N := 11) rfl ?_); refine Kd.S_lit (Kd.slice 3 (Kd.int .i64)) _ 39 ?hg (N := 11) ?hd (xs := ([] : List (List Int))) (inner := []) (ok := fun _ => True) (okp := fun _ => True) ?hr ?hp (fun _ hk => hk) trivial (Below.refl _ _) (Nat.le_refl _) (by simp) ?_; (case hd => rfl); (case hg => rfl); (case hr => first | (go_simp; done) | (go_simp; rfl)); (case hp => exact (Reps.none _ _)); intro v103 w5 ho6 hb hg_ hnew_; clear hg_ hnew_; (first | rw [← Ny102.out] at ho6 | (simp only [Int.reduceToNat] at ho6; rw [← Ny102.out] at ho6)); have n0_ := Aside0.mk (Kd.S_lower ho6 (below_size (bel HB))); have n1_ := Aside0.mk (blk_below (g := gb101) (o := .cells #[.int .i64 a0_0, .int .i64 a0_1, .slice A0_2 l0_2.length c0_2] 64 (0, 0)) blc hb); have n2_ := Aside0.mk (below_step (bel HB) hb); clear BK101; clear HB; have HO104 := n0_; have BK101 := n1_; have HB := n2_; clear n0_ n1_ n2_; clear hb ho6; have hcz7_0 : w5.cell? ⟨gb101, 0, none⟩ = some (.int .i64 a0_0) := (blk_cell BK101.out 0).trans rfl; have hcz7_1 : w5.cell? ⟨gb101, 1, none⟩ = some (.int .i64 a0_1) := (blk_cell BK101.out 1).trans rfl; have hcz7_2 : w5.cell? ⟨gb101, 2, none⟩ = some (.slice A0_2 l0_2.length c0_2) := (blk_cell BK101.out 2).trans rfl; have hfz7_0 := blk_frozen BK101.out 0; have hfz7_1 := blk_frozen BK101.out 1; have hfz7_2 := blk_frozen BK101.out 2))
 repeat (go_quiet (first | ((with_reducible refine gate_dst (N := 2) rfl ?_); refine boxE (N := 2) (cs := #[.int .i64 a0_0, .int .i64 a0_1, .slice A0_2 l0_2.length c0_2]) (t := 64) ?_; intro gb101 hg w4 hbox hb; have n0_ := Aside0.mk (below_step (bel HB) hb); have n1_ := Aside0.mk (hbox); have n2_ := Aside0.mk (gsz hg (bel HB)); have n3_ := Aside0.mk (gsz hg (bel HB)); clear HB; have HB := n0_; have BK101 := n1_; have GW101 := n2_; have GE101 := n3_; clear n0_ n1_ n2_ n3_; clear hb hbox hg) | ((with_reducible refine gate_dst (N := 11) rfl ?_); refine Kd.S_lit (Kd.slice 3 (Kd.int .i64)) _ 39 ?hg (N := 11) ?hd (xs := ([] : List (List Int))) (inner := []) (ok := fun _ => True) (okp := fun _ => True) ?hr ?hp (fun _ hk => hk) trivial (Below.refl _ _) (Nat.le_refl _) (by simp) ?_; (case hd => rfl); (case hg => rfl); (case hr => first | (go_simp; done) | (go_simp; rfl)); (case hp => exact (Reps.none _ _)); intro v103 w5 ho6 hb hg_ hnew_; clear hg_ hnew_; (first | rw [← Ny102.out] at ho6 | (simp only [Int.reduceToNat] at ho6; rw [← Ny102.out] at ho6)); have n0_ := Aside0.mk (Kd.S_lower ho6 (below_size (bel HB))); have n1_ := Aside0.mk (blk_below (g := gb101) (o := .cells #[.int .i64 a0_0, .int .i64 a0_1, .slice A0_2 l0_2.length c0_2] 64 (0, 0)) blc hb); have n2_ := Aside0.mk (below_step (bel HB) hb); clear BK101; clear HB; have HO104 := n0_; have BK101 := n1_; have HB := n2_; clear n0_ n1_ n2_; clear hb ho6; have hcz7_0 : w5.cell? ⟨gb101, 0, none⟩ = some (.int .i64 a0_0) := (blk_cell BK101.out 0).trans rfl; have hcz7_1 : w5.cell? ⟨gb101, 1, none⟩ = some (.int .i64 a0_1) := (blk_cell BK101.out 1).trans rfl; have hcz7_2 : w5.cell? ⟨gb101, 2, none⟩ = some (.slice A0_2 l0_2.length c0_2) := (blk_cell BK101.out 2).trans rfl; have hfz7_0 := blk_frozen BK101.out 0; have hfz7_1 := blk_frozen BK101.out 1; have hfz7_2 := blk_frozen BK101.out 2)); go_upto_region 3 with (first | ((with_reducible refine gate_dst (N := 2) rfl ?_); refine boxE (N := 2) (cs := #[.int .i64 a0_0, .int .i64 a0_1, .slice A0_2 l0_2.length c0_2]) (t := 64) ?_; intro gb101 hg w4 hbox hb; have n0_ := Aside0.mk (below_step (bel HB) hb); have n1_ := Aside0.mk (hbox); have n2_ := Aside0.mk (gsz hg (bel HB)); have n3_ := Aside0.mk (gsz hg (bel HB)); clear HB; have HB := n0_; have BK101 := n1_; have GW101 := n2_; have GE101 := n3_; clear n0_ n1_ n2_ n3_; clear hb hbox hg) | ((with_reducible refine gate_dst (N := 11) rfl ?_); refine Kd.S_lit (Kd.slice 3 (Kd.int .i64)) _ 39 ?hg (N := 11) ?hd (xs := ([] : List (List Int))) (inner := []) (ok := fun _ => True) (okp := fun _ => True) ?hr ?hp (fun _ hk => hk) trivial (Below.refl _ _) (Nat.le_refl _) (by simp) ?_; (case hd => rfl); (case hg => rfl); (case hr => first | (go_simp; done) | (go_simp; rfl)); (case hp => exact (Reps.none _ _)); intro v103 w5 ho6 hb hg_ hnew_; clear hg_ hnew_; (first | rw [← Ny102.out] at ho6 | (simp only [Int.reduceToNat] at ho6; rw [← Ny102.out] at ho6)); have n0_ := Aside0.mk (Kd.S_lower ho6 (below_size (bel HB))); have n1_ := Aside0.mk (blk_below (g := gb101) (o := .cells #[.int .i64 a0_0, .int .i64 a0_1, .slice A0_2 l0_2.length c0_2] 64 (0, 0)) blc hb); have n2_ := Aside0.mk (below_step (bel HB) hb); clear BK101; clear HB; have HO104 := n0_; have BK101 := n1_; have HB := n2_; clear n0_ n1_ n2_; clear hb ho6; have hcz7_0 : w5.cell? ⟨gb101, 0, none⟩ = some (.int .i64 a0_0) := (blk_cell BK101.out 0).trans rfl; have hcz7_1 : w5.cell? ⟨gb101, 1, none⟩ = some (.int .i64 a0_1) := (blk_cell BK101.out 1).trans rfl; have hcz7_2 : w5.cell? ⟨gb101, 2, none⟩ = some (.slice A0_2 l0_2.length c0_2) := (blk_cell BK101.out 2).trans rfl; have hfz7_0 := blk_frozen BK101.out 0; have hfz7_1 := blk_frozen BK101.out 1; have hfz7_2 := blk_frozen BK101.out 2)))
 (try simp only [Act.put, List.setIfInBounds_toArray, List.set_cons_zero, List.set_cons_succ])
 go_cut [21] (fun v21 wc => ∃ (kq : Nat) (x21_2 : Bool), v21 = .bool x21_2 ∧ Aside0 (impl_tray_lines.j0 kq a1 y102 a0_1 a0_0 x21_2 a0_0 a0_1 l0_2 = some r) ∧ Aside0 (kq ≤ k) ∧ Aside0 (Kd.S (Kd.slice 3 (Kd.int .i64)) 39 wc w.heap.size (fun _ => True) v103 y102) ∧ Aside0 (wc.heap[gb101]? = some (.cells #[.int .i64 a0_0, .int .i64 a0_1, (.slice A0_2 l0_2.length c0_2)] 64 (0, 0))) ∧ Aside0 (Below w.heap.size w wc))
 case first =>
  have H := HC3.out;clear HC3
  by_cases c8 : a1 = 117
  ·rw [if_pos c8] at H
   have c8b0 : (a1 == 117) = true := beq_iff_eq.mpr c8;have c8b1 : (a1 != 117) = false := bne_eq_false_iff_eq.mpr c8;clear c8
   (first | rw [c8b0] | (simp only [i64_w, i32_w]; rw [c8b0]) | skip)
   have H' := Aside0.mk H;clear H
   go_wp2
   repeat (go_quiet (fail); try go_wp2)
   go_meet
   case rel => exact ⟨_, (true), (by first | rfl | (simp; done) | (simp [*]; done)), H', ⟨by first | omega | exact Nat.le_refl _⟩, ⟨by (with_reducible repeat (first | apply Kd.S_alloc | apply Kd.S_drewN | apply Kd.S_drew)); (first | exact HO104.out | exact R_any HO104.out)⟩, ⟨blc⟩, ⟨bel HB⟩⟩
  ·rw [if_neg c8] at H
   have c8b0 : (a1 == 117) = false := beq_eq_false_iff_ne.mpr c8;have c8b1 : (a1 != 117) = true := bne_iff_ne.mpr c8
   (first | rw [c8b0] | (simp only [i64_w, i32_w]; rw [c8b0]) | skip)
   have H' := Aside0.mk H;clear H
   go_wp2
   repeat (go_quiet (fail); try go_wp2)
   go_meet
   case rel => exact ⟨_, ((a1 == 100)), (by first | rfl | (simp; done) | (simp [*]; done)), H', ⟨by first | omega | exact Nat.le_refl _⟩, ⟨by (with_reducible repeat (first | apply Kd.S_alloc | apply Kd.S_drewN | apply Kd.S_drew)); (first | exact HO104.out | exact R_any HO104.out)⟩, ⟨blc⟩, ⟨bel HB⟩⟩
 case rest =>
  clear HC3
  try clear p2
  try clear c8
  try clear c8b0
  try clear c8b0y
  try clear c8b1
  try clear hcz7_0
  try clear hcz7_1
  try clear hcz7_2
  try clear hfz7_0
  try clear hfz7_1
  try clear hfz7_2
  obtain ⟨kq, x21_2, rfl, HA, HJ2, HO_5, BK101, HB⟩ := hcut
  cases kq with
  | zero => exact absurd HA.out (by simp [impl_tray_lines.j0])
  | succ kj2 =>
   have H := HA.out;clear HA
   simp only [impl_tray_lines.j0] at H
   have HC9 := Aside0.mk H;clear H
   go_upto_if 21 with (fail)
   repeat (go_quiet (fail); go_upto_if 21 with (fail))
   go_cut [6, 7] (fun v6 v7 wc => ∃ (kq : Nat) (x6_8 : Int) (x7_8 : Int), v6 = .int .i64 x6_8 ∧ v7 = .int .i64 x7_8 ∧ Aside0 (impl_tray_lines.j1 kq a1 y102 x6_8 x7_8 a0_0 a0_1 l0_2 = some r) ∧ Aside0 (kq ≤ kj2) ∧ Aside0 (Kd.S (Kd.slice 3 (Kd.int .i64)) 39 wc w.heap.size (fun _ => True) v103 y102) ∧ Aside0 (wc.heap[gb101]? = some (.cells #[.int .i64 a0_0, .int .i64 a0_1, (.slice A0_2 l0_2.length c0_2)] 64 (0, 0))) ∧ Aside0 (Below w.heap.size w wc))
   case first =>
    have H := HC9.out;clear HC9
    by_cases c10 : x21_2 = true
    ·subst c10
     have H1 : (impl_tray_lines.j1 kj2 a1 y102 a0_0 a0_1 a0_0 a0_1 l0_2) = some r := by rw [if_pos rfl] at H; exact H
     clear H;have H := H1;clear H1;have H' := Aside0.mk H;clear H;have hcz11_0 : wc.cell? ⟨gb101, 0, none⟩ = some (.int .i64 a0_0) := (blk_cell BK101.out 0).trans rfl;have hcz11_1 : wc.cell? ⟨gb101, 1, none⟩ = some (.int .i64 a0_1) := (blk_cell BK101.out 1).trans rfl;have hcz11_2 : wc.cell? ⟨gb101, 2, none⟩ = some (.slice A0_2 l0_2.length c0_2) := (blk_cell BK101.out 2).trans rfl;have hfz11_0 := blk_frozen BK101.out 0;have hfz11_1 := blk_frozen BK101.out 1;have hfz11_2 := blk_frozen BK101.out 2
     go_wp2
     repeat (go_quiet (fail); try go_wp2)
     go_meet
     case rel => exact ⟨_, (a0_0), (a0_1), (by first | rfl | (simp; done) | (simp [*]; done)), (by first | rfl | (simp; done) | (simp [*]; done)), H', ⟨by have := HJ2.out; first | omega | exact Nat.le_refl _⟩, ⟨by (with_reducible repeat (first | apply Kd.S_alloc | apply Kd.S_drewN | apply Kd.S_drew)); (first | exact HO_5.out | exact R_any HO_5.out)⟩, ⟨blc⟩, ⟨bel HB⟩⟩
    ·replace c10 := Bool.eq_false_iff.mpr c10
     subst c10
     have H1 : (impl_tray_lines.j1 kj2 a1 y102 a0_1 a0_0 a0_0 a0_1 l0_2) = some r := by rw [if_neg (show ¬ (false = true) by decide)] at H; exact H
     clear H;have H := H1;clear H1;have H' := Aside0.mk H;clear H
     go_wp2
     repeat (go_quiet (fail); try go_wp2)
     go_meet
     case rel => exact ⟨_, (a0_1), (a0_0), (by first | rfl | (simp; done) | (simp [*]; done)), (by first | rfl | (simp; done) | (simp [*]; done)), H', ⟨by have := HJ2.out; first | omega | exact Nat.le_refl _⟩, ⟨by (with_reducible repeat (first | apply Kd.S_alloc | apply Kd.S_drewN | apply Kd.S_drew)); (first | exact HO_5.out | exact R_any HO_5.out)⟩, ⟨blc⟩, ⟨bel HB⟩⟩
   case rest =>
    clear HC9
    try clear c1
    try clear p2
    try clear c8
    try clear c8b0
    try clear c8b0y
    try clear c8b1
    try clear c9
    try clear c10
    try clear hcz11_0
    try clear hcz11_1
    try clear hcz11_2
    try clear hcz7_0
    try clear hcz7_1
    try clear hcz7_2
    try clear hfz11_0
    try clear hfz11_1
    try clear hfz11_2
    try clear hfz7_0
    try clear hfz7_1
    try clear hfz7_2
    try clear p2
    obtain ⟨kq, x6_8, x7_8, rfl, rfl, HA, HJ8, HO_5, BK101, HB⟩ := hcut
    cases kq with
    | zero => exact absurd HA.out (by simp [impl_tray_lines.j1])
    | succ kj8 =>
     have H := HA.out;clear HA
     simp only [impl_tray_lines.j1] at H
     have H' := Aside0.mk H;clear H
     go_wp2
     repeat (go_quiet (fail); try go_wp2)
     go_loopg [5, 27] kj8 (fun kq v5 v27 w' => ∃ (x5_3 : List (List Int)) (x27_3 : Int), v27 = .int .i64 x27_3 ∧ Aside0 (impl_tray_lines.l0 kq a1 x5_3 x7_8 x6_8 x27_3 a0_0 a0_1 l0_2 = some r) ∧ Aside0 (kq ≤ kj8) ∧ Aside0 (Kd.S (Kd.slice 3 (Kd.int .i64)) 39 w' w.heap.size (fun _ => True) v5 x5_3) ∧ Aside0 (w'.heap[gb101]? = some (.cells #[.int .i64 a0_0, .int .i64 a0_1, (.slice A0_2 l0_2.length c0_2)] 64 (0, 0))) ∧ Aside0 (Below w.heap.size w w'))
     case atStart => exact ⟨(y102), (0), (by first | rfl | (simp; done) | (simp [*]; done)), H', ⟨Nat.le_refl _⟩, ⟨by (with_reducible repeat (first | apply Kd.S_alloc | apply Kd.S_drewN | apply Kd.S_drew)); (first | exact HO_5.out | exact R_any HO_5.out)⟩, ⟨blc⟩, ⟨bel HB⟩⟩
     case round =>
      clear H'
      try clear c1
      try clear p2
      try clear c8
      try clear c8b0
      try clear c8b0y
      try clear c8b1
      try clear c9
      try clear c10
      try clear hcz11_0
      try clear hcz11_1
      try clear hcz11_2
      try clear hcz7_0
      try clear hcz7_1
      try clear hcz7_2
      try clear hfz11_0
      try clear hfz11_1
      try clear hfz11_2
      try clear hfz7_0
      try clear hfz7_1
      try clear hfz7_2
      try clear p2
      obtain ⟨x5_3, x27_3, rfl, HA, HK3, HO_5, BK101, HB⟩ := hrel
      cases gk with
      | zero => exact absurd HA.out (by simp [impl_tray_lines.l0])
      | succ k3 =>
       have H := HA.out;clear HA
       simp only [impl_tray_lines.l0] at H
       by_cases c12 : x27_3 < x6_8
       ·rw [if_pos c12] at H
        have c12b0 : decide (x27_3 < x6_8) = true := decide_eq_true c12;clear c12;obtain ⟨y105, hy105⟩ : ∃ y_ : List Int, y_ = (([] : List Int)) := ⟨_, rfl⟩;replace H : (impl_tray_lines.l1 k3 a1 x5_3 x7_8 x27_3 y105 x6_8 x27_3 x7_8 0 a0_0 a0_1 l0_2) = some r := rH hy105 H;have Ny105 := Aside0.mk hy105;clear hy105;have H' := Aside0.mk H;clear H
        go_wp2_with (first | ((with_reducible refine gate_dst (N := 30) rfl ?_); refine R_litG (Kd.int .i64) _ 3 ?hg (N := 30) ?hd (xs := ([] : List Int)) (inner := []) (ok := fun _ => True) (okp := fun _ => True) ?hr ?hp (fun _ hk => hk) trivial (Below.refl _ _) (Nat.le_refl _) (by simp) ?_; (case hd => rfl); (case hg => first | rfl | decide | (simp [Region.wanted, yielded]; done) | (go_simp; done)); (case hr => first | (go_simp; done) | (go_simp; rfl)); (case hp => exact (Reps.none _ _)); intro v106 w13 ho14 hb hg_ hnew_; clear hg_ hnew_; (first | rw [← Ny105.out] at ho14 | (simp only [Int.reduceToNat] at ho14; rw [← Ny105.out] at ho14)); have n0_ := Aside0.mk (Kd.S_elder' (by (with_reducible repeat (first | apply Kd.S_alloc | apply Kd.S_drewN | apply Kd.S_drew)); (first | exact HO_5.out | exact R_any HO_5.out)) (Kd.R_base ho14) hb); have n1_ := Aside0.mk (Kd.R_lower ho14 (below_size (bel HB))); have n2_ := Aside0.mk (blk_below (g := gb101) (o := .cells #[.int .i64 a0_0, .int .i64 a0_1, .slice A0_2 l0_2.length c0_2] 64 (0, 0)) blc hb); have n3_ := Aside0.mk (below_step (bel HB) hb); clear HO_5; clear BK101; clear HB; have HO_5 := n0_; have HO107 := n1_; have BK101 := n2_; have HB := n3_; clear n0_ n1_ n2_ n3_; clear hb ho14))
        repeat (go_quiet (first | ((with_reducible refine gate_dst (N := 30) rfl ?_); refine R_litG (Kd.int .i64) _ 3 ?hg (N := 30) ?hd (xs := ([] : List Int)) (inner := []) (ok := fun _ => True) (okp := fun _ => True) ?hr ?hp (fun _ hk => hk) trivial (Below.refl _ _) (Nat.le_refl _) (by simp) ?_; (case hd => rfl); (case hg => first | rfl | decide | (simp [Region.wanted, yielded]; done) | (go_simp; done)); (case hr => first | (go_simp; done) | (go_simp; rfl)); (case hp => exact (Reps.none _ _)); intro v106 w13 ho14 hb hg_ hnew_; clear hg_ hnew_; (first | rw [← Ny105.out] at ho14 | (simp only [Int.reduceToNat] at ho14; rw [← Ny105.out] at ho14)); have n0_ := Aside0.mk (Kd.S_elder' (by (with_reducible repeat (first | apply Kd.S_alloc | apply Kd.S_drewN | apply Kd.S_drew)); (first | exact HO_5.out | exact R_any HO_5.out)) (Kd.R_base ho14) hb); have n1_ := Aside0.mk (Kd.R_lower ho14 (below_size (bel HB))); have n2_ := Aside0.mk (blk_below (g := gb101) (o := .cells #[.int .i64 a0_0, .int .i64 a0_1, .slice A0_2 l0_2.length c0_2] 64 (0, 0)) blc hb); have n3_ := Aside0.mk (below_step (bel HB) hb); clear HO_5; clear BK101; clear HB; have HO_5 := n0_; have HO107 := n1_; have BK101 := n2_; have HB := n3_; clear n0_ n1_ n2_ n3_; clear hb ho14)); try go_wp2_with (first | ((with_reducible refine gate_dst (N := 30) rfl ?_); refine R_litG (Kd.int .i64) _ 3 ?hg (N := 30) ?hd (xs := ([] : List Int)) (inner := []) (ok := fun _ => True) (okp := fun _ => True) ?hr ?hp (fun _ hk => hk) trivial (Below.refl _ _) (Nat.le_refl _) (by simp) ?_; (case hd => rfl); (case hg => first | rfl | decide | (simp [Region.wanted, yielded]; done) | (go_simp; done)); (case hr => first | (go_simp; done) | (go_simp; rfl)); (case hp => exact (Reps.none _ _)); intro v106 w13 ho14 hb hg_ hnew_; clear hg_ hnew_; (first | rw [← Ny105.out] at ho14 | (simp only [Int.reduceToNat] at ho14; rw [← Ny105.out] at ho14)); have n0_ := Aside0.mk (Kd.S_elder' (by (with_reducible repeat (first | apply Kd.S_alloc | apply Kd.S_drewN | apply Kd.S_drew)); (first | exact HO_5.out | exact R_any HO_5.out)) (Kd.R_base ho14) hb); have n1_ := Aside0.mk (Kd.R_lower ho14 (below_size (bel HB))); have n2_ := Aside0.mk (blk_below (g := gb101) (o := .cells #[.int .i64 a0_0, .int .i64 a0_1, .slice A0_2 l0_2.length c0_2] 64 (0, 0)) blc hb); have n3_ := Aside0.mk (below_step (bel HB) hb); clear HO_5; clear BK101; clear HB; have HO_5 := n0_; have HO107 := n1_; have BK101 := n2_; have HB := n3_; clear n0_ n1_ n2_ n3_; clear hb ho14)))
        go_loopg [9, 32] k3 (fun kq v9 v32 w' => ∃ (x9_4 : List Int) (x32_4 : Int), v32 = .int .i64 x32_4 ∧ Aside0 (impl_tray_lines.l1 kq a1 x5_3 x7_8 x27_3 x9_4 x6_8 x27_3 x7_8 x32_4 a0_0 a0_1 l0_2 = some r) ∧ Aside0 (kq ≤ k3) ∧ Aside0 (Kd.S (Kd.slice 3 (Kd.int .i64)) 39 w' w.heap.size (fun k_ => some k_ ≠ (v9 : Value).ownBlock) u5 x5_3) ∧ Aside0 (Kd.R (Kd.int .i64) 3 w' w.heap.size (fun _ => True) v9 x9_4) ∧ Aside0 (w'.heap[gb101]? = some (.cells #[.int .i64 a0_0, .int .i64 a0_1, (.slice A0_2 l0_2.length c0_2)] 64 (0, 0))) ∧ Aside0 (Below w.heap.size w w'))
        case atStart => exact ⟨(y105), (0), (by first | rfl | (simp; done) | (simp [*]; done)), H', ⟨Nat.le_refl _⟩, ⟨by (with_reducible repeat (first | apply Kd.S_alloc | apply Kd.S_drewN | apply Kd.S_drew)); exact Kd.S_mono HO_5.out (fun _ hk => hk.2)⟩, ⟨rch HO107⟩, ⟨blc⟩, ⟨bel HB⟩⟩
        case round =>
         clear H'
         try clear c1
         try clear p2
         try clear c8
         try clear c8b0
         try clear c8b0y
         try clear c8b1
         try clear c9
         try clear c10
         try clear c12
         try clear c12b0
         try clear c12b0y
         try clear hcz11_0
         try clear hcz11_1
         try clear hcz11_2
         try clear hcz7_0
         try clear hcz7_1
         try clear hcz7_2
         try clear hfz11_0
         try clear hfz11_1
         try clear hfz11_2
         try clear hfz7_0
         try clear hfz7_1
         try clear hfz7_2
         try clear p2
         obtain ⟨x9_4, x32_4, rfl, HA, HK4, HO_5, HO_9, BK101, HB⟩ := hrel
         cases gk with
         | zero => exact absurd HA.out (by simp [impl_tray_lines.l1])
         | succ k4 =>
          have H := HA.out;clear HA
          simp only [impl_tray_lines.l1] at H
          by_cases c15 : x32_4 < x7_8
          ·rw [if_pos c15] at H
           have c15b0 : decide (x32_4 < x7_8) = true := decide_eq_true c15;clear c15;have HC16 := Aside0.mk H;clear H
           go_upto_region 12 with (fail)
           repeat (go_quiet (fail); go_upto_region 12 with (fail))
           go_cut [40] (fun v40 wc => ∃ (kq : Nat) (x40_15 : Bool), v40 = .bool x40_15 ∧ Aside0 (impl_tray_lines.j4 kq a1 x5_3 x7_8 x27_3 x9_4 x32_4 x6_8 x27_3 x7_8 x32_4 x40_15 a0_0 a0_1 l0_2 = some r) ∧ Aside0 (kq ≤ k4) ∧ Aside0 (Kd.S (Kd.slice 3 (Kd.int .i64)) 39 wc w.heap.size (fun k_ => some k_ ≠ (u9 : Value).ownBlock) u5 x5_3) ∧ Aside0 (Kd.R (Kd.int .i64) 3 wc w.heap.size (fun _ => True) u9 x9_4) ∧ Aside0 (wc.heap[gb101]? = some (.cells #[.int .i64 a0_0, .int .i64 a0_1, (.slice A0_2 l0_2.length c0_2)] 64 (0, 0))) ∧ Aside0 (Below w.heap.size w wc))
           case first =>
            have H := HC16.out;clear HC16
            by_cases c17 : a1 = 117
            ·rw [if_pos c17] at H
             have c17b0 : (a1 == 117) = true := beq_iff_eq.mpr c17;have c17b1 : (a1 != 117) = false := bne_eq_false_iff_eq.mpr c17;clear c17
             (first | rw [c17b0] | (simp only [i64_w, i32_w]; rw [c17b0]) | skip)
             have H' := Aside0.mk H;clear H
             go_wp2
             repeat (go_quiet (fail); try go_wp2)
             go_meet
             case rel => exact ⟨_, (true), (by first | rfl | (simp; done) | (simp [*]; done)), H', ⟨by have := HJ2.out; have := HJ8.out; have := HK3.out; have := HK4.out; first | omega | exact Nat.le_refl _⟩, ⟨by (with_reducible repeat (first | apply Kd.S_alloc | apply Kd.S_drewN | apply Kd.S_drew)); (first | exact HO_5.out | exact R_any HO_5.out)⟩, ⟨rch HO_9⟩, ⟨blc⟩, ⟨bel HB⟩⟩
            ·rw [if_neg c17] at H
             have c17b0 : (a1 == 117) = false := beq_eq_false_iff_ne.mpr c17;have c17b1 : (a1 != 117) = true := bne_iff_ne.mpr c17
             (first | rw [c17b0] | (simp only [i64_w, i32_w]; rw [c17b0]) | skip)
             have H' := Aside0.mk H;clear H
             go_wp2
             repeat (go_quiet (fail); try go_wp2)
             go_meet
             case rel => exact ⟨_, ((a1 == 100)), (by first | rfl | (simp; done) | (simp [*]; done)), H', ⟨by have := HJ2.out; have := HJ8.out; have := HK3.out; have := HK4.out; first | omega | exact Nat.le_refl _⟩, ⟨by (with_reducible repeat (first | apply Kd.S_alloc | apply Kd.S_drewN | apply Kd.S_drew)); (first | exact HO_5.out | exact R_any HO_5.out)⟩, ⟨rch HO_9⟩, ⟨blc⟩, ⟨bel HB⟩⟩
           case rest =>
            clear HC16
            try clear c1
            try clear p2
            try clear c8
            try clear c8b0
            try clear c8b0y
            try clear c8b1
            try clear c9
            try clear c10
            try clear c12
            try clear c12b0
            try clear c12b0y
            try clear c15
            try clear c15b0
            try clear c15b0y
            try clear c17
            try clear c17b0
            try clear c17b0y
            try clear c17b1
            try clear hcz11_0
            try clear hcz11_1
            try clear hcz11_2
            try clear hcz7_0
            try clear hcz7_1
            try clear hcz7_2
            try clear hfz11_0
            try clear hfz11_1
            try clear hfz11_2
            try clear hfz7_0
            try clear hfz7_1
            try clear hfz7_2
            try clear p2
            obtain ⟨kq, x40_15, rfl, HA, HJ15, HO_5, HO_9, BK101, HB⟩ := hcut
            cases kq with
            | zero => exact absurd HA.out (by simp [impl_tray_lines.j4])
            | succ kj15 =>
             have H := HA.out;clear HA
             simp only [impl_tray_lines.j4] at H
             by_cases c18 : x40_15 = true
             ·subst c18
              have H1 : ((impl_tray_number.f a0_0 a0_1 l0_2 x27_3 x32_4).bind fun t119 => (if x9_4.length < 17592186044416 then (impl_tray_lines.l1 kj15 a1 x5_3 x7_8 x27_3 (x9_4 ++ [t119]) x6_8 x27_3 x7_8 (wrap64 (x32_4 + 1)) a0_0 a0_1 l0_2) else (none))) = some r := by rw [if_pos rfl] at H; exact H
              clear H;have H := H1;clear H1;replace H := Option.bind_eq_some_iff.mp H;obtain ⟨t119, A190, H⟩ := H;replace H : (if x9_4.length < 17592186044416 then (impl_tray_lines.l1 kj15 a1 x5_3 x7_8 x27_3 (x9_4 ++ [t119]) x6_8 x27_3 x7_8 (wrap64 (x32_4 + 1)) a0_0 a0_1 l0_2) else (none)) = some r := H;have A19 := Aside0.mk A190;clear A190
              by_cases c20 : x9_4.length < 17592186044416
              ·rw [if_pos c20] at H
               have LMc20 := Aside0.mk c20;clear c20;obtain ⟨y120, hy120⟩ : ∃ y_ : List Int, y_ = (x9_4 ++ [t119]) := ⟨_, rfl⟩;replace H : (impl_tray_lines.l1 kj15 a1 x5_3 x7_8 x27_3 y120 x6_8 x27_3 x7_8 (wrap64 (x32_4 + 1)) a0_0 a0_1 l0_2) = some r := rH hy120 H;have Ny120 := Aside0.mk hy120;clear hy120;have H' := Aside0.mk H;clear H;have hcz21_0 : wc.cell? ⟨gb101, 0, none⟩ = some (.int .i64 a0_0) := (blk_cell BK101.out 0).trans rfl;have hcz21_1 : wc.cell? ⟨gb101, 1, none⟩ = some (.int .i64 a0_1) := (blk_cell BK101.out 1).trans rfl;have hcz21_2 : wc.cell? ⟨gb101, 2, none⟩ = some (.slice A0_2 l0_2.length c0_2) := (blk_cell BK101.out 2).trans rfl;have hfz21_0 := blk_frozen BK101.out 0;have hfz21_1 := blk_frozen BK101.out 1;have hfz21_2 := blk_frozen BK101.out 2
               go_wp2_with (first | (go_at_call 108; (with_reducible refine (impl_tray_number.calls a0_0 a0_1 _ _ l0_2 x27_3 x32_4 t119 _ ?side1 ?side2 A19.out).mono ?_); (case side1 => repeat (first | exact (Kd.C_below HR0_2.out HB.out) | (with_reducible refine Kd.C_alloc ?_ _) | (with_reducible refine Kd.C_drewN ?_ _) | (with_reducible refine Kd.C_drew ?_))); (case side2 => exact HC0_2.out); rintro e w22 ⟨rfl, hb⟩; have n0_ := Aside0.mk (Kd.S_below (by (with_reducible repeat (first | apply Kd.S_alloc | apply Kd.S_drewN | apply Kd.S_drew)); (first | exact HO_5.out | exact R_any HO_5.out)) hb); have n1_ := Aside0.mk (Kd.R_below (rch HO_9) hb); have n2_ := Aside0.mk (blk_below (g := gb101) (o := .cells #[.int .i64 a0_0, .int .i64 a0_1, .slice A0_2 l0_2.length c0_2] 64 (0, 0)) blc hb); have n3_ := Aside0.mk (below_step (bel HB) hb); clear HO_5; clear HO_9; clear BK101; clear HB; have HO_5 := n0_; have HO_9 := n1_; have BK101 := n2_; have HB := n3_; clear n0_ n1_ n2_ n3_; (try clear hb); (try clear hb2); (try clear hk); (try clear hi)) | ((with_reducible refine gate_builtin (b := .append) (xs := #[.tmp 41, .tmp 46]) rfl ?_); at_builtin; refine Kd.R_append (Kd.int .i64) (w0 := w) w.heap.size rfl (.tmp 41) (.tmp 46) 39 3 (.int .i64 0) 8 rfl Tryz.underlying39 info3 rfl (by decide) (by omega) u9 x9_4 t119 [.int .i64 t119] (fun _ => True) (fun _ => False) rfl rfl ?aP (fun _ hk => hk.elim) ?aF ?aO ?aB ?aS ?aL ?_; (case aP => exact rfl); (case aB => exact (bel HB)); (case aF => exact (fun _ _ => trivial)); (case aO => exact (rch HO_9)); (case aS => exact (below_size (bel HB))); (case aL => have := LMc20.out; omega); intro v121 w23 ho hb hg hat; rw [← Ny120.out] at ho; have n0_ := Aside0.mk (Kd.S_after (ok := (fun _ => True)) (by (with_reducible repeat (first | apply Kd.S_alloc | apply Kd.S_drewN | apply Kd.S_drew)); exact Kd.S_mono HO_5.out (fun _ hk => ⟨trivial, hk⟩)) hg hat); have n1_ := Aside0.mk (blk_grown (g := gb101) (o := .cells #[.int .i64 a0_0, .int .i64 a0_1, .slice A0_2 l0_2.length c0_2] 64 (0, 0)) blc hg (Kd.R_ne HO_9.out BK101.out (by decide))); have n2_ := Aside0.mk (hb); have n3_ := Aside0.mk (ho); clear HO_5; clear BK101; clear HB; clear HO_9; have HO_5 := n0_; have BK101 := n1_; have HB := n2_; have HO122 := n3_; clear n0_ n1_ n2_ n3_; clear ho hb hg hat))
               repeat (go_quiet (first | (go_at_call 108; (with_reducible refine (impl_tray_number.calls a0_0 a0_1 _ _ l0_2 x27_3 x32_4 t119 _ ?side1 ?side2 A19.out).mono ?_); (case side1 => repeat (first | exact (Kd.C_below HR0_2.out HB.out) | (with_reducible refine Kd.C_alloc ?_ _) | (with_reducible refine Kd.C_drewN ?_ _) | (with_reducible refine Kd.C_drew ?_))); (case side2 => exact HC0_2.out); rintro e w22 ⟨rfl, hb⟩; have n0_ := Aside0.mk (Kd.S_below (by (with_reducible repeat (first | apply Kd.S_alloc | apply Kd.S_drewN | apply Kd.S_drew)); (first | exact HO_5.out | exact R_any HO_5.out)) hb); have n1_ := Aside0.mk (Kd.R_below (rch HO_9) hb); have n2_ := Aside0.mk (blk_below (g := gb101) (o := .cells #[.int .i64 a0_0, .int .i64 a0_1, .slice A0_2 l0_2.length c0_2] 64 (0, 0)) blc hb); have n3_ := Aside0.mk (below_step (bel HB) hb); clear HO_5; clear HO_9; clear BK101; clear HB; have HO_5 := n0_; have HO_9 := n1_; have BK101 := n2_; have HB := n3_; clear n0_ n1_ n2_ n3_; (try clear hb); (try clear hb2); (try clear hk); (try clear hi)) | ((with_reducible refine gate_builtin (b := .append) (xs := #[.tmp 41, .tmp 46]) rfl ?_); at_builtin; refine Kd.R_append (Kd.int .i64) (w0 := w) w.heap.size rfl (.tmp 41) (.tmp 46) 39 3 (.int .i64 0) 8 rfl Tryz.underlying39 info3 rfl (by decide) (by omega) u9 x9_4 t119 [.int .i64 t119] (fun _ => True) (fun _ => False) rfl rfl ?aP (fun _ hk => hk.elim) ?aF ?aO ?aB ?aS ?aL ?_; (case aP => exact rfl); (case aB => exact (bel HB)); (case aF => exact (fun _ _ => trivial)); (case aO => exact (rch HO_9)); (case aS => exact (below_size (bel HB))); (case aL => have := LMc20.out; omega); intro v121 w23 ho hb hg hat; rw [← Ny120.out] at ho; have n0_ := Aside0.mk (Kd.S_after (ok := (fun _ => True)) (by (with_reducible repeat (first | apply Kd.S_alloc | apply Kd.S_drewN | apply Kd.S_drew)); exact Kd.S_mono HO_5.out (fun _ hk => ⟨trivial, hk⟩)) hg hat); have n1_ := Aside0.mk (blk_grown (g := gb101) (o := .cells #[.int .i64 a0_0, .int .i64 a0_1, .slice A0_2 l0_2.length c0_2] 64 (0, 0)) blc hg (Kd.R_ne HO_9.out BK101.out (by decide))); have n2_ := Aside0.mk (hb); have n3_ := Aside0.mk (ho); clear HO_5; clear BK101; clear HB; clear HO_9; have HO_5 := n0_; have BK101 := n1_; have HB := n2_; have HO122 := n3_; clear n0_ n1_ n2_ n3_; clear ho hb hg hat)); try go_wp2_with (first | (go_at_call 108; (with_reducible refine (impl_tray_number.calls a0_0 a0_1 _ _ l0_2 x27_3 x32_4 t119 _ ?side1 ?side2 A19.out).mono ?_); (case side1 => repeat (first | exact (Kd.C_below HR0_2.out HB.out) | (with_reducible refine Kd.C_alloc ?_ _) | (with_reducible refine Kd.C_drewN ?_ _) | (with_reducible refine Kd.C_drew ?_))); (case side2 => exact HC0_2.out); rintro e w22 ⟨rfl, hb⟩; have n0_ := Aside0.mk (Kd.S_below (by (with_reducible repeat (first | apply Kd.S_alloc | apply Kd.S_drewN | apply Kd.S_drew)); (first | exact HO_5.out | exact R_any HO_5.out)) hb); have n1_ := Aside0.mk (Kd.R_below (rch HO_9) hb); have n2_ := Aside0.mk (blk_below (g := gb101) (o := .cells #[.int .i64 a0_0, .int .i64 a0_1, .slice A0_2 l0_2.length c0_2] 64 (0, 0)) blc hb); have n3_ := Aside0.mk (below_step (bel HB) hb); clear HO_5; clear HO_9; clear BK101; clear HB; have HO_5 := n0_; have HO_9 := n1_; have BK101 := n2_; have HB := n3_; clear n0_ n1_ n2_ n3_; (try clear hb); (try clear hb2); (try clear hk); (try clear hi)) | ((with_reducible refine gate_builtin (b := .append) (xs := #[.tmp 41, .tmp 46]) rfl ?_); at_builtin; refine Kd.R_append (Kd.int .i64) (w0 := w) w.heap.size rfl (.tmp 41) (.tmp 46) 39 3 (.int .i64 0) 8 rfl Tryz.underlying39 info3 rfl (by decide) (by omega) u9 x9_4 t119 [.int .i64 t119] (fun _ => True) (fun _ => False) rfl rfl ?aP (fun _ hk => hk.elim) ?aF ?aO ?aB ?aS ?aL ?_; (case aP => exact rfl); (case aB => exact (bel HB)); (case aF => exact (fun _ _ => trivial)); (case aO => exact (rch HO_9)); (case aS => exact (below_size (bel HB))); (case aL => have := LMc20.out; omega); intro v121 w23 ho hb hg hat; rw [← Ny120.out] at ho; have n0_ := Aside0.mk (Kd.S_after (ok := (fun _ => True)) (by (with_reducible repeat (first | apply Kd.S_alloc | apply Kd.S_drewN | apply Kd.S_drew)); exact Kd.S_mono HO_5.out (fun _ hk => ⟨trivial, hk⟩)) hg hat); have n1_ := Aside0.mk (blk_grown (g := gb101) (o := .cells #[.int .i64 a0_0, .int .i64 a0_1, .slice A0_2 l0_2.length c0_2] 64 (0, 0)) blc hg (Kd.R_ne HO_9.out BK101.out (by decide))); have n2_ := Aside0.mk (hb); have n3_ := Aside0.mk (ho); clear HO_5; clear BK101; clear HB; clear HO_9; have HO_5 := n0_; have BK101 := n1_; have HB := n2_; have HO122 := n3_; clear n0_ n1_ n2_ n3_; clear ho hb hg hat)))
               go_roundg kj15
               case measure => have := HJ2.out; have := HJ8.out; have := HK3.out; have := HK4.out; have := HJ15.out; omega
               case rel => exact ⟨(y120), (wrap64 (x32_4 + 1)), (by first | rfl | (simp; done) | (simp [*]; done)), H', ⟨by have := HJ2.out; have := HJ8.out; have := HK3.out; have := HK4.out; have := HJ15.out; omega⟩, ⟨by (with_reducible repeat (first | apply Kd.S_alloc | apply Kd.S_drewN | apply Kd.S_drew)); exact Kd.S_mono HO_5.out (fun _ hk => hk.2)⟩, ⟨rch HO122⟩, ⟨blc⟩, ⟨bel HB⟩⟩
              ·rw [if_neg c20] at H
               exact absurd H (by simp)
             ·replace c18 := Bool.eq_false_iff.mpr c18
              subst c18
              have H1 : ((impl_tray_number.f a0_0 a0_1 l0_2 x32_4 x27_3).bind fun t123 => (if x9_4.length < 17592186044416 then (impl_tray_lines.l1 kj15 a1 x5_3 x7_8 x27_3 (x9_4 ++ [t123]) x6_8 x27_3 x7_8 (wrap64 (x32_4 + 1)) a0_0 a0_1 l0_2) else (none))) = some r := by rw [if_neg (show ¬ (false = true) by decide)] at H; exact H
              clear H;have H := H1;clear H1;replace H := Option.bind_eq_some_iff.mp H;obtain ⟨t123, A240, H⟩ := H;replace H : (if x9_4.length < 17592186044416 then (impl_tray_lines.l1 kj15 a1 x5_3 x7_8 x27_3 (x9_4 ++ [t123]) x6_8 x27_3 x7_8 (wrap64 (x32_4 + 1)) a0_0 a0_1 l0_2) else (none)) = some r := H;have A24 := Aside0.mk A240;clear A240
              by_cases c25 : x9_4.length < 17592186044416
              ·rw [if_pos c25] at H
               have LMc25 := Aside0.mk c25;clear c25;obtain ⟨y124, hy124⟩ : ∃ y_ : List Int, y_ = (x9_4 ++ [t123]) := ⟨_, rfl⟩;replace H : (impl_tray_lines.l1 kj15 a1 x5_3 x7_8 x27_3 y124 x6_8 x27_3 x7_8 (wrap64 (x32_4 + 1)) a0_0 a0_1 l0_2) = some r := rH hy124 H;have Ny124 := Aside0.mk hy124;clear hy124;have H' := Aside0.mk H;clear H;have hcz26_0 : wc.cell? ⟨gb101, 0, none⟩ = some (.int .i64 a0_0) := (blk_cell BK101.out 0).trans rfl;have hcz26_1 : wc.cell? ⟨gb101, 1, none⟩ = some (.int .i64 a0_1) := (blk_cell BK101.out 1).trans rfl;have hcz26_2 : wc.cell? ⟨gb101, 2, none⟩ = some (.slice A0_2 l0_2.length c0_2) := (blk_cell BK101.out 2).trans rfl;have hfz26_0 := blk_frozen BK101.out 0;have hfz26_1 := blk_frozen BK101.out 1;have hfz26_2 := blk_frozen BK101.out 2
               go_wp2_with (first | (go_at_call 108; (with_reducible refine (impl_tray_number.calls a0_0 a0_1 _ _ l0_2 x32_4 x27_3 t123 _ ?side1 ?side2 A24.out).mono ?_); (case side1 => repeat (first | exact (Kd.C_below HR0_2.out HB.out) | (with_reducible refine Kd.C_alloc ?_ _) | (with_reducible refine Kd.C_drewN ?_ _) | (with_reducible refine Kd.C_drew ?_))); (case side2 => exact HC0_2.out); rintro e w27 ⟨rfl, hb⟩; have n0_ := Aside0.mk (Kd.S_below (by (with_reducible repeat (first | apply Kd.S_alloc | apply Kd.S_drewN | apply Kd.S_drew)); (first | exact HO_5.out | exact R_any HO_5.out)) hb); have n1_ := Aside0.mk (Kd.R_below (rch HO_9) hb); have n2_ := Aside0.mk (blk_below (g := gb101) (o := .cells #[.int .i64 a0_0, .int .i64 a0_1, .slice A0_2 l0_2.length c0_2] 64 (0, 0)) blc hb); have n3_ := Aside0.mk (below_step (bel HB) hb); clear HO_5; clear HO_9; clear BK101; clear HB; have HO_5 := n0_; have HO_9 := n1_; have BK101 := n2_; have HB := n3_; clear n0_ n1_ n2_ n3_; (try clear hb); (try clear hb2); (try clear hk); (try clear hi)) | ((with_reducible refine gate_builtin (b := .append) (xs := #[.tmp 48, .tmp 53]) rfl ?_); at_builtin; refine Kd.R_append (Kd.int .i64) (w0 := w) w.heap.size rfl (.tmp 48) (.tmp 53) 39 3 (.int .i64 0) 8 rfl Tryz.underlying39 info3 rfl (by decide) (by omega) u9 x9_4 t123 [.int .i64 t123] (fun _ => True) (fun _ => False) rfl rfl ?aP (fun _ hk => hk.elim) ?aF ?aO ?aB ?aS ?aL ?_; (case aP => exact rfl); (case aB => exact (bel HB)); (case aF => exact (fun _ _ => trivial)); (case aO => exact (rch HO_9)); (case aS => exact (below_size (bel HB))); (case aL => have := LMc25.out; omega); intro v125 w28 ho hb hg hat; rw [← Ny124.out] at ho; have n0_ := Aside0.mk (Kd.S_after (ok := (fun _ => True)) (by (with_reducible repeat (first | apply Kd.S_alloc | apply Kd.S_drewN | apply Kd.S_drew)); exact Kd.S_mono HO_5.out (fun _ hk => ⟨trivial, hk⟩)) hg hat); have n1_ := Aside0.mk (blk_grown (g := gb101) (o := .cells #[.int .i64 a0_0, .int .i64 a0_1, .slice A0_2 l0_2.length c0_2] 64 (0, 0)) blc hg (Kd.R_ne HO_9.out BK101.out (by decide))); have n2_ := Aside0.mk (hb); have n3_ := Aside0.mk (ho); clear HO_5; clear BK101; clear HB; clear HO_9; have HO_5 := n0_; have BK101 := n1_; have HB := n2_; have HO126 := n3_; clear n0_ n1_ n2_ n3_; clear ho hb hg hat))
               repeat (go_quiet (first | (go_at_call 108; (with_reducible refine (impl_tray_number.calls a0_0 a0_1 _ _ l0_2 x32_4 x27_3 t123 _ ?side1 ?side2 A24.out).mono ?_); (case side1 => repeat (first | exact (Kd.C_below HR0_2.out HB.out) | (with_reducible refine Kd.C_alloc ?_ _) | (with_reducible refine Kd.C_drewN ?_ _) | (with_reducible refine Kd.C_drew ?_))); (case side2 => exact HC0_2.out); rintro e w27 ⟨rfl, hb⟩; have n0_ := Aside0.mk (Kd.S_below (by (with_reducible repeat (first | apply Kd.S_alloc | apply Kd.S_drewN | apply Kd.S_drew)); (first | exact HO_5.out | exact R_any HO_5.out)) hb); have n1_ := Aside0.mk (Kd.R_below (rch HO_9) hb); have n2_ := Aside0.mk (blk_below (g := gb101) (o := .cells #[.int .i64 a0_0, .int .i64 a0_1, .slice A0_2 l0_2.length c0_2] 64 (0, 0)) blc hb); have n3_ := Aside0.mk (below_step (bel HB) hb); clear HO_5; clear HO_9; clear BK101; clear HB; have HO_5 := n0_; have HO_9 := n1_; have BK101 := n2_; have HB := n3_; clear n0_ n1_ n2_ n3_; (try clear hb); (try clear hb2); (try clear hk); (try clear hi)) | ((with_reducible refine gate_builtin (b := .append) (xs := #[.tmp 48, .tmp 53]) rfl ?_); at_builtin; refine Kd.R_append (Kd.int .i64) (w0 := w) w.heap.size rfl (.tmp 48) (.tmp 53) 39 3 (.int .i64 0) 8 rfl Tryz.underlying39 info3 rfl (by decide) (by omega) u9 x9_4 t123 [.int .i64 t123] (fun _ => True) (fun _ => False) rfl rfl ?aP (fun _ hk => hk.elim) ?aF ?aO ?aB ?aS ?aL ?_; (case aP => exact rfl); (case aB => exact (bel HB)); (case aF => exact (fun _ _ => trivial)); (case aO => exact (rch HO_9)); (case aS => exact (below_size (bel HB))); (case aL => have := LMc25.out; omega); intro v125 w28 ho hb hg hat; rw [← Ny124.out] at ho; have n0_ := Aside0.mk (Kd.S_after (ok := (fun _ => True)) (by (with_reducible repeat (first | apply Kd.S_alloc | apply Kd.S_drewN | apply Kd.S_drew)); exact Kd.S_mono HO_5.out (fun _ hk => ⟨trivial, hk⟩)) hg hat); have n1_ := Aside0.mk (blk_grown (g := gb101) (o := .cells #[.int .i64 a0_0, .int .i64 a0_1, .slice A0_2 l0_2.length c0_2] 64 (0, 0)) blc hg (Kd.R_ne HO_9.out BK101.out (by decide))); have n2_ := Aside0.mk (hb); have n3_ := Aside0.mk (ho); clear HO_5; clear BK101; clear HB; clear HO_9; have HO_5 := n0_; have BK101 := n1_; have HB := n2_; have HO126 := n3_; clear n0_ n1_ n2_ n3_; clear ho hb hg hat)); try go_wp2_with (first | (go_at_call 108; (with_reducible refine (impl_tray_number.calls a0_0 a0_1 _ _ l0_2 x32_4 x27_3 t123 _ ?side1 ?side2 A24.out).mono ?_); (case side1 => repeat (first | exact (Kd.C_below HR0_2.out HB.out) | (with_reducible refine Kd.C_alloc ?_ _) | (with_reducible refine Kd.C_drewN ?_ _) | (with_reducible refine Kd.C_drew ?_))); (case side2 => exact HC0_2.out); rintro e w27 ⟨rfl, hb⟩; have n0_ := Aside0.mk (Kd.S_below (by (with_reducible repeat (first | apply Kd.S_alloc | apply Kd.S_drewN | apply Kd.S_drew)); (first | exact HO_5.out | exact R_any HO_5.out)) hb); have n1_ := Aside0.mk (Kd.R_below (rch HO_9) hb); have n2_ := Aside0.mk (blk_below (g := gb101) (o := .cells #[.int .i64 a0_0, .int .i64 a0_1, .slice A0_2 l0_2.length c0_2] 64 (0, 0)) blc hb); have n3_ := Aside0.mk (below_step (bel HB) hb); clear HO_5; clear HO_9; clear BK101; clear HB; have HO_5 := n0_; have HO_9 := n1_; have BK101 := n2_; have HB := n3_; clear n0_ n1_ n2_ n3_; (try clear hb); (try clear hb2); (try clear hk); (try clear hi)) | ((with_reducible refine gate_builtin (b := .append) (xs := #[.tmp 48, .tmp 53]) rfl ?_); at_builtin; refine Kd.R_append (Kd.int .i64) (w0 := w) w.heap.size rfl (.tmp 48) (.tmp 53) 39 3 (.int .i64 0) 8 rfl Tryz.underlying39 info3 rfl (by decide) (by omega) u9 x9_4 t123 [.int .i64 t123] (fun _ => True) (fun _ => False) rfl rfl ?aP (fun _ hk => hk.elim) ?aF ?aO ?aB ?aS ?aL ?_; (case aP => exact rfl); (case aB => exact (bel HB)); (case aF => exact (fun _ _ => trivial)); (case aO => exact (rch HO_9)); (case aS => exact (below_size (bel HB))); (case aL => have := LMc25.out; omega); intro v125 w28 ho hb hg hat; rw [← Ny124.out] at ho; have n0_ := Aside0.mk (Kd.S_after (ok := (fun _ => True)) (by (with_reducible repeat (first | apply Kd.S_alloc | apply Kd.S_drewN | apply Kd.S_drew)); exact Kd.S_mono HO_5.out (fun _ hk => ⟨trivial, hk⟩)) hg hat); have n1_ := Aside0.mk (blk_grown (g := gb101) (o := .cells #[.int .i64 a0_0, .int .i64 a0_1, .slice A0_2 l0_2.length c0_2] 64 (0, 0)) blc hg (Kd.R_ne HO_9.out BK101.out (by decide))); have n2_ := Aside0.mk (hb); have n3_ := Aside0.mk (ho); clear HO_5; clear BK101; clear HB; clear HO_9; have HO_5 := n0_; have BK101 := n1_; have HB := n2_; have HO126 := n3_; clear n0_ n1_ n2_ n3_; clear ho hb hg hat)))
               go_roundg kj15
               case measure => have := HJ2.out; have := HJ8.out; have := HK3.out; have := HK4.out; have := HJ15.out; omega
               case rel => exact ⟨(y124), (wrap64 (x32_4 + 1)), (by first | rfl | (simp; done) | (simp [*]; done)), H', ⟨by have := HJ2.out; have := HJ8.out; have := HK3.out; have := HK4.out; have := HJ15.out; omega⟩, ⟨by (with_reducible repeat (first | apply Kd.S_alloc | apply Kd.S_drewN | apply Kd.S_drew)); exact Kd.S_mono HO_5.out (fun _ hk => hk.2)⟩, ⟨rch HO126⟩, ⟨blc⟩, ⟨bel HB⟩⟩
              ·rw [if_neg c25] at H
               exact absurd H (by simp)
          ·rw [if_neg c15] at H
           have c15b0 : decide (x32_4 < x7_8) = false := decide_eq_false c15;clear c15
           by_cases c29 : a1 = 114
           ·rw [if_pos c29] at H
            have c29b0 : (a1 == 114) = true := beq_iff_eq.mpr c29;have c29b1 : (a1 != 114) = false := bne_eq_false_iff_eq.mpr c29;clear c29;replace H := Option.bind_eq_some_iff.mp H;obtain ⟨t108, A300, H⟩ := H;replace H : (if x5_3.length < 5864062014805 then (impl_tray_lines.l0 k4 a1 (x5_3 ++ [t108]) x7_8 x6_8 (wrap64 (x27_3 + 1)) a0_0 a0_1 l0_2) else (none)) = some r := H;have A30 := Aside0.mk A300;clear A300
            by_cases c31 : x5_3.length < 5864062014805
            ·rw [if_pos c31] at H
             have LMc31 := Aside0.mk c31;clear c31;obtain ⟨y109, hy109⟩ : ∃ y_ : List (List Int), y_ = (x5_3 ++ [t108]) := ⟨_, rfl⟩;replace H : (impl_tray_lines.l0 k4 a1 y109 x7_8 x6_8 (wrap64 (x27_3 + 1)) a0_0 a0_1 l0_2) = some r := rH hy109 H;have Ny109 := Aside0.mk hy109;clear hy109;have H' := Aside0.mk H;clear H;obtain ⟨Ao32, co32, eo32⟩ := Kd.R_slice HO_9.out;subst eo32
             go_wp2_with (first | (go_at_call 109; (with_reducible refine (slices_Reverse_int_int.calls k4 (fun k_ => some k_ = (.slice Ao32 x9_4.length co32 : Value).ownBlock) (.slice Ao32 x9_4.length co32) x9_4 t108 w _ ?side1 ?side2 A30.out).mono ?_); (case side1 => repeat (first | (with_reducible first | exact HB.out | apply below_alloc | apply pw_below_drewN | apply below_drew1 | refine below_set ?_ GE101.out) | exact HB.out)); (case side2 => exact Kd.R_tight rfl HO_9.out); rintro e w33 ⟨rfl, hy0, hb, hkp⟩; have n0_ := Aside0.mk (Kd.S_mono (ok' := fun k_ => some k_ ≠ (.slice Ao32 x9_4.length co32 : Value).ownBlock) (Kd.S_keptB (HO_5.out) hkp (fun k_ hk_ hs_ => (hk_) hs_)) (fun k_ hk_ => hk_.1)); have n1_ := Aside0.mk (Kd.R_reok rfl hy0 (fun k_ e_ => HO_9.out.1 k_ e_)); have n2_ := Aside0.mk (blk_kept blc hkp (fun hs_ => (fun e_ => (Kd.R_ne HO_9.out BK101.out (by decide)) e_) hs_)); have n3_ := Aside0.mk (hb); clear HO_5; clear HO_9; clear BK101; clear HB; have HO_5 := n0_; have HO_9 := n1_; have BK101 := n2_; have HB := n3_; clear n0_ n1_ n2_ n3_; (try clear hb); (try clear hkp); (try clear hy0)) | ((with_reducible refine gate_builtin (b := .append) (xs := #[.tmp 64, .tmp 66]) rfl ?_); at_builtin; refine Kd.S_append (Kd.slice 3 (Kd.int .i64)) (w0 := w) w.heap.size rfl (.tmp 64) (.tmp 66) 44 39 (.slice none 0 0) 24 rfl Tryz.underlying44 info39 rfl (by decide) (by omega) u5 x5_3 t108 [.slice Ao32 x9_4.length co32] (fun _ => True) (fun k_ => some k_ = (.slice Ao32 x9_4.length co32 : Value).ownBlock) rfl rfl ?aP (fun k_ hk_ => ((Kd.R_mono (ok' := fun k_ => ((fun _ => True)) k_ ∧ some k_ ≠ (u5 : Value).ownBlock) (Kd.R_apart' (HO_9.out) (Kd.S_typed HO_5.out) (by decide)) (fun k_ hk => ⟨trivial, hk.2⟩))).1 k_ hk_.symm) ?aF ?aO ?aB ?aS ?aL ?_; (case aP => exact Kd.M_row (Kd.R_mono (Kd.R_tight rfl (Kd.R_mono (ok' := fun k_ => ((fun _ => True)) k_ ∧ some k_ ≠ (u5 : Value).ownBlock) (Kd.R_apart' (HO_9.out) (Kd.S_typed HO_5.out) (by decide)) (fun k_ hk => ⟨trivial, hk.2⟩))) (fun _ h_ => h_))); (case aB => exact (bel HB)); (case aF => exact (fun _ _ => trivial)); (case aO => exact (by (with_reducible repeat (first | apply Kd.S_alloc | apply Kd.S_drewN | apply Kd.S_drew)); exact Kd.S_mono HO_5.out (fun k_ hk => ⟨trivial, fun e_ => hk e_⟩))); (case aS => exact (below_size (bel HB))); (case aL => have := LMc31.out; omega); intro v110 w34 ho hb hg hat; rw [← Ny109.out] at ho; have n0_ := Aside0.mk (blk_grown (g := gb101) (o := .cells #[.int .i64 a0_0, .int .i64 a0_1, .slice A0_2 l0_2.length c0_2] 64 (0, 0)) blc hg (Kd.S_ne HO_5.out BK101.out (by decide))); have n1_ := Aside0.mk (hb); have n2_ := Aside0.mk (ho); clear BK101; clear HB; clear HO_5; clear HO_9; have BK101 := n0_; have HB := n1_; have HO111 := n2_; clear n0_ n1_ n2_; clear ho hb hg hat))
             repeat (go_quiet (first | (go_at_call 109; (with_reducible refine (slices_Reverse_int_int.calls k4 (fun k_ => some k_ = (.slice Ao32 x9_4.length co32 : Value).ownBlock) (.slice Ao32 x9_4.length co32) x9_4 t108 w _ ?side1 ?side2 A30.out).mono ?_); (case side1 => repeat (first | (with_reducible first | exact HB.out | apply below_alloc | apply pw_below_drewN | apply below_drew1 | refine below_set ?_ GE101.out) | exact HB.out)); (case side2 => exact Kd.R_tight rfl HO_9.out); rintro e w33 ⟨rfl, hy0, hb, hkp⟩; have n0_ := Aside0.mk (Kd.S_mono (ok' := fun k_ => some k_ ≠ (.slice Ao32 x9_4.length co32 : Value).ownBlock) (Kd.S_keptB (HO_5.out) hkp (fun k_ hk_ hs_ => (hk_) hs_)) (fun k_ hk_ => hk_.1)); have n1_ := Aside0.mk (Kd.R_reok rfl hy0 (fun k_ e_ => HO_9.out.1 k_ e_)); have n2_ := Aside0.mk (blk_kept blc hkp (fun hs_ => (fun e_ => (Kd.R_ne HO_9.out BK101.out (by decide)) e_) hs_)); have n3_ := Aside0.mk (hb); clear HO_5; clear HO_9; clear BK101; clear HB; have HO_5 := n0_; have HO_9 := n1_; have BK101 := n2_; have HB := n3_; clear n0_ n1_ n2_ n3_; (try clear hb); (try clear hkp); (try clear hy0)) | ((with_reducible refine gate_builtin (b := .append) (xs := #[.tmp 64, .tmp 66]) rfl ?_); at_builtin; refine Kd.S_append (Kd.slice 3 (Kd.int .i64)) (w0 := w) w.heap.size rfl (.tmp 64) (.tmp 66) 44 39 (.slice none 0 0) 24 rfl Tryz.underlying44 info39 rfl (by decide) (by omega) u5 x5_3 t108 [.slice Ao32 x9_4.length co32] (fun _ => True) (fun k_ => some k_ = (.slice Ao32 x9_4.length co32 : Value).ownBlock) rfl rfl ?aP (fun k_ hk_ => ((Kd.R_mono (ok' := fun k_ => ((fun _ => True)) k_ ∧ some k_ ≠ (u5 : Value).ownBlock) (Kd.R_apart' (HO_9.out) (Kd.S_typed HO_5.out) (by decide)) (fun k_ hk => ⟨trivial, hk.2⟩))).1 k_ hk_.symm) ?aF ?aO ?aB ?aS ?aL ?_; (case aP => exact Kd.M_row (Kd.R_mono (Kd.R_tight rfl (Kd.R_mono (ok' := fun k_ => ((fun _ => True)) k_ ∧ some k_ ≠ (u5 : Value).ownBlock) (Kd.R_apart' (HO_9.out) (Kd.S_typed HO_5.out) (by decide)) (fun k_ hk => ⟨trivial, hk.2⟩))) (fun _ h_ => h_))); (case aB => exact (bel HB)); (case aF => exact (fun _ _ => trivial)); (case aO => exact (by (with_reducible repeat (first | apply Kd.S_alloc | apply Kd.S_drewN | apply Kd.S_drew)); exact Kd.S_mono HO_5.out (fun k_ hk => ⟨trivial, fun e_ => hk e_⟩))); (case aS => exact (below_size (bel HB))); (case aL => have := LMc31.out; omega); intro v110 w34 ho hb hg hat; rw [← Ny109.out] at ho; have n0_ := Aside0.mk (blk_grown (g := gb101) (o := .cells #[.int .i64 a0_0, .int .i64 a0_1, .slice A0_2 l0_2.length c0_2] 64 (0, 0)) blc hg (Kd.S_ne HO_5.out BK101.out (by decide))); have n1_ := Aside0.mk (hb); have n2_ := Aside0.mk (ho); clear BK101; clear HB; clear HO_5; clear HO_9; have BK101 := n0_; have HB := n1_; have HO111 := n2_; clear n0_ n1_ n2_; clear ho hb hg hat)); try go_wp2_with (first | (go_at_call 109; (with_reducible refine (slices_Reverse_int_int.calls k4 (fun k_ => some k_ = (.slice Ao32 x9_4.length co32 : Value).ownBlock) (.slice Ao32 x9_4.length co32) x9_4 t108 w _ ?side1 ?side2 A30.out).mono ?_); (case side1 => repeat (first | (with_reducible first | exact HB.out | apply below_alloc | apply pw_below_drewN | apply below_drew1 | refine below_set ?_ GE101.out) | exact HB.out)); (case side2 => exact Kd.R_tight rfl HO_9.out); rintro e w33 ⟨rfl, hy0, hb, hkp⟩; have n0_ := Aside0.mk (Kd.S_mono (ok' := fun k_ => some k_ ≠ (.slice Ao32 x9_4.length co32 : Value).ownBlock) (Kd.S_keptB (HO_5.out) hkp (fun k_ hk_ hs_ => (hk_) hs_)) (fun k_ hk_ => hk_.1)); have n1_ := Aside0.mk (Kd.R_reok rfl hy0 (fun k_ e_ => HO_9.out.1 k_ e_)); have n2_ := Aside0.mk (blk_kept blc hkp (fun hs_ => (fun e_ => (Kd.R_ne HO_9.out BK101.out (by decide)) e_) hs_)); have n3_ := Aside0.mk (hb); clear HO_5; clear HO_9; clear BK101; clear HB; have HO_5 := n0_; have HO_9 := n1_; have BK101 := n2_; have HB := n3_; clear n0_ n1_ n2_ n3_; (try clear hb); (try clear hkp); (try clear hy0)) | ((with_reducible refine gate_builtin (b := .append) (xs := #[.tmp 64, .tmp 66]) rfl ?_); at_builtin; refine Kd.S_append (Kd.slice 3 (Kd.int .i64)) (w0 := w) w.heap.size rfl (.tmp 64) (.tmp 66) 44 39 (.slice none 0 0) 24 rfl Tryz.underlying44 info39 rfl (by decide) (by omega) u5 x5_3 t108 [.slice Ao32 x9_4.length co32] (fun _ => True) (fun k_ => some k_ = (.slice Ao32 x9_4.length co32 : Value).ownBlock) rfl rfl ?aP (fun k_ hk_ => ((Kd.R_mono (ok' := fun k_ => ((fun _ => True)) k_ ∧ some k_ ≠ (u5 : Value).ownBlock) (Kd.R_apart' (HO_9.out) (Kd.S_typed HO_5.out) (by decide)) (fun k_ hk => ⟨trivial, hk.2⟩))).1 k_ hk_.symm) ?aF ?aO ?aB ?aS ?aL ?_; (case aP => exact Kd.M_row (Kd.R_mono (Kd.R_tight rfl (Kd.R_mono (ok' := fun k_ => ((fun _ => True)) k_ ∧ some k_ ≠ (u5 : Value).ownBlock) (Kd.R_apart' (HO_9.out) (Kd.S_typed HO_5.out) (by decide)) (fun k_ hk => ⟨trivial, hk.2⟩))) (fun _ h_ => h_))); (case aB => exact (bel HB)); (case aF => exact (fun _ _ => trivial)); (case aO => exact (by (with_reducible repeat (first | apply Kd.S_alloc | apply Kd.S_drewN | apply Kd.S_drew)); exact Kd.S_mono HO_5.out (fun k_ hk => ⟨trivial, fun e_ => hk e_⟩))); (case aS => exact (below_size (bel HB))); (case aL => have := LMc31.out; omega); intro v110 w34 ho hb hg hat; rw [← Ny109.out] at ho; have n0_ := Aside0.mk (blk_grown (g := gb101) (o := .cells #[.int .i64 a0_0, .int .i64 a0_1, .slice A0_2 l0_2.length c0_2] 64 (0, 0)) blc hg (Kd.S_ne HO_5.out BK101.out (by decide))); have n1_ := Aside0.mk (hb); have n2_ := Aside0.mk (ho); clear BK101; clear HB; clear HO_5; clear HO_9; have BK101 := n0_; have HB := n1_; have HO111 := n2_; clear n0_ n1_ n2_; clear ho hb hg hat)))
             go_roundg k4
             case measure => have := HJ2.out; have := HJ8.out; have := HK3.out; have := HK4.out; omega
             case rel => exact ⟨(y109), (wrap64 (x27_3 + 1)), (by first | rfl | (simp; done) | (simp [*]; done)), H', ⟨by have := HJ2.out; have := HJ8.out; have := HK3.out; have := HK4.out; omega⟩, ⟨by (with_reducible repeat (first | apply Kd.S_alloc | apply Kd.S_drewN | apply Kd.S_drew)); (first | exact HO111.out | exact R_any HO111.out)⟩, ⟨blc⟩, ⟨bel HB⟩⟩
            ·rw [if_neg c31] at H
             exact absurd H (by simp)
           ·rw [if_neg c29] at H
            have c29b0 : (a1 == 114) = false := beq_eq_false_iff_ne.mpr c29;have c29b1 : (a1 != 114) = true := bne_iff_ne.mpr c29
            by_cases c35 : a1 = 100
            ·rw [if_pos c35] at H
             have c35b0 : (a1 == 100) = true := beq_iff_eq.mpr c35;have c35b1 : (a1 != 100) = false := bne_eq_false_iff_eq.mpr c35;clear c35;replace H := Option.bind_eq_some_iff.mp H;obtain ⟨t112, A360, H⟩ := H;replace H : (if x5_3.length < 5864062014805 then (impl_tray_lines.l0 k4 a1 (x5_3 ++ [t112]) x7_8 x6_8 (wrap64 (x27_3 + 1)) a0_0 a0_1 l0_2) else (none)) = some r := H;have A36 := Aside0.mk A360;clear A360
             by_cases c37 : x5_3.length < 5864062014805
             ·rw [if_pos c37] at H
              have LMc37 := Aside0.mk c37;clear c37;obtain ⟨y113, hy113⟩ : ∃ y_ : List (List Int), y_ = (x5_3 ++ [t112]) := ⟨_, rfl⟩;replace H : (impl_tray_lines.l0 k4 a1 y113 x7_8 x6_8 (wrap64 (x27_3 + 1)) a0_0 a0_1 l0_2) = some r := rH hy113 H;have Ny113 := Aside0.mk hy113;clear hy113;have H' := Aside0.mk H;clear H;obtain ⟨Ao38, co38, eo38⟩ := Kd.R_slice HO_9.out;subst eo38
              go_wp2_with (first | (go_at_call 109; (with_reducible refine (slices_Reverse_int_int.calls k4 (fun k_ => some k_ = (.slice Ao38 x9_4.length co38 : Value).ownBlock) (.slice Ao38 x9_4.length co38) x9_4 t112 w _ ?side1 ?side2 A36.out).mono ?_); (case side1 => repeat (first | (with_reducible first | exact HB.out | apply below_alloc | apply pw_below_drewN | apply below_drew1 | refine below_set ?_ GE101.out) | exact HB.out)); (case side2 => exact Kd.R_tight rfl HO_9.out); rintro e w39 ⟨rfl, hy0, hb, hkp⟩; have n0_ := Aside0.mk (Kd.S_mono (ok' := fun k_ => some k_ ≠ (.slice Ao38 x9_4.length co38 : Value).ownBlock) (Kd.S_keptB (HO_5.out) hkp (fun k_ hk_ hs_ => (hk_) hs_)) (fun k_ hk_ => hk_.1)); have n1_ := Aside0.mk (Kd.R_reok rfl hy0 (fun k_ e_ => HO_9.out.1 k_ e_)); have n2_ := Aside0.mk (blk_kept blc hkp (fun hs_ => (fun e_ => (Kd.R_ne HO_9.out BK101.out (by decide)) e_) hs_)); have n3_ := Aside0.mk (hb); clear HO_5; clear HO_9; clear BK101; clear HB; have HO_5 := n0_; have HO_9 := n1_; have BK101 := n2_; have HB := n3_; clear n0_ n1_ n2_ n3_; (try clear hb); (try clear hkp); (try clear hy0)) | ((with_reducible refine gate_builtin (b := .append) (xs := #[.tmp 64, .tmp 66]) rfl ?_); at_builtin; refine Kd.S_append (Kd.slice 3 (Kd.int .i64)) (w0 := w) w.heap.size rfl (.tmp 64) (.tmp 66) 44 39 (.slice none 0 0) 24 rfl Tryz.underlying44 info39 rfl (by decide) (by omega) u5 x5_3 t112 [.slice Ao38 x9_4.length co38] (fun _ => True) (fun k_ => some k_ = (.slice Ao38 x9_4.length co38 : Value).ownBlock) rfl rfl ?aP (fun k_ hk_ => ((Kd.R_mono (ok' := fun k_ => ((fun _ => True)) k_ ∧ some k_ ≠ (u5 : Value).ownBlock) (Kd.R_apart' (HO_9.out) (Kd.S_typed HO_5.out) (by decide)) (fun k_ hk => ⟨trivial, hk.2⟩))).1 k_ hk_.symm) ?aF ?aO ?aB ?aS ?aL ?_; (case aP => exact Kd.M_row (Kd.R_mono (Kd.R_tight rfl (Kd.R_mono (ok' := fun k_ => ((fun _ => True)) k_ ∧ some k_ ≠ (u5 : Value).ownBlock) (Kd.R_apart' (HO_9.out) (Kd.S_typed HO_5.out) (by decide)) (fun k_ hk => ⟨trivial, hk.2⟩))) (fun _ h_ => h_))); (case aB => exact (bel HB)); (case aF => exact (fun _ _ => trivial)); (case aO => exact (by (with_reducible repeat (first | apply Kd.S_alloc | apply Kd.S_drewN | apply Kd.S_drew)); exact Kd.S_mono HO_5.out (fun k_ hk => ⟨trivial, fun e_ => hk e_⟩))); (case aS => exact (below_size (bel HB))); (case aL => have := LMc37.out; omega); intro v114 w40 ho hb hg hat; rw [← Ny113.out] at ho; have n0_ := Aside0.mk (blk_grown (g := gb101) (o := .cells #[.int .i64 a0_0, .int .i64 a0_1, .slice A0_2 l0_2.length c0_2] 64 (0, 0)) blc hg (Kd.S_ne HO_5.out BK101.out (by decide))); have n1_ := Aside0.mk (hb); have n2_ := Aside0.mk (ho); clear BK101; clear HB; clear HO_5; clear HO_9; have BK101 := n0_; have HB := n1_; have HO115 := n2_; clear n0_ n1_ n2_; clear ho hb hg hat))
              repeat (go_quiet (first | (go_at_call 109; (with_reducible refine (slices_Reverse_int_int.calls k4 (fun k_ => some k_ = (.slice Ao38 x9_4.length co38 : Value).ownBlock) (.slice Ao38 x9_4.length co38) x9_4 t112 w _ ?side1 ?side2 A36.out).mono ?_); (case side1 => repeat (first | (with_reducible first | exact HB.out | apply below_alloc | apply pw_below_drewN | apply below_drew1 | refine below_set ?_ GE101.out) | exact HB.out)); (case side2 => exact Kd.R_tight rfl HO_9.out); rintro e w39 ⟨rfl, hy0, hb, hkp⟩; have n0_ := Aside0.mk (Kd.S_mono (ok' := fun k_ => some k_ ≠ (.slice Ao38 x9_4.length co38 : Value).ownBlock) (Kd.S_keptB (HO_5.out) hkp (fun k_ hk_ hs_ => (hk_) hs_)) (fun k_ hk_ => hk_.1)); have n1_ := Aside0.mk (Kd.R_reok rfl hy0 (fun k_ e_ => HO_9.out.1 k_ e_)); have n2_ := Aside0.mk (blk_kept blc hkp (fun hs_ => (fun e_ => (Kd.R_ne HO_9.out BK101.out (by decide)) e_) hs_)); have n3_ := Aside0.mk (hb); clear HO_5; clear HO_9; clear BK101; clear HB; have HO_5 := n0_; have HO_9 := n1_; have BK101 := n2_; have HB := n3_; clear n0_ n1_ n2_ n3_; (try clear hb); (try clear hkp); (try clear hy0)) | ((with_reducible refine gate_builtin (b := .append) (xs := #[.tmp 64, .tmp 66]) rfl ?_); at_builtin; refine Kd.S_append (Kd.slice 3 (Kd.int .i64)) (w0 := w) w.heap.size rfl (.tmp 64) (.tmp 66) 44 39 (.slice none 0 0) 24 rfl Tryz.underlying44 info39 rfl (by decide) (by omega) u5 x5_3 t112 [.slice Ao38 x9_4.length co38] (fun _ => True) (fun k_ => some k_ = (.slice Ao38 x9_4.length co38 : Value).ownBlock) rfl rfl ?aP (fun k_ hk_ => ((Kd.R_mono (ok' := fun k_ => ((fun _ => True)) k_ ∧ some k_ ≠ (u5 : Value).ownBlock) (Kd.R_apart' (HO_9.out) (Kd.S_typed HO_5.out) (by decide)) (fun k_ hk => ⟨trivial, hk.2⟩))).1 k_ hk_.symm) ?aF ?aO ?aB ?aS ?aL ?_; (case aP => exact Kd.M_row (Kd.R_mono (Kd.R_tight rfl (Kd.R_mono (ok' := fun k_ => ((fun _ => True)) k_ ∧ some k_ ≠ (u5 : Value).ownBlock) (Kd.R_apart' (HO_9.out) (Kd.S_typed HO_5.out) (by decide)) (fun k_ hk => ⟨trivial, hk.2⟩))) (fun _ h_ => h_))); (case aB => exact (bel HB)); (case aF => exact (fun _ _ => trivial)); (case aO => exact (by (with_reducible repeat (first | apply Kd.S_alloc | apply Kd.S_drewN | apply Kd.S_drew)); exact Kd.S_mono HO_5.out (fun k_ hk => ⟨trivial, fun e_ => hk e_⟩))); (case aS => exact (below_size (bel HB))); (case aL => have := LMc37.out; omega); intro v114 w40 ho hb hg hat; rw [← Ny113.out] at ho; have n0_ := Aside0.mk (blk_grown (g := gb101) (o := .cells #[.int .i64 a0_0, .int .i64 a0_1, .slice A0_2 l0_2.length c0_2] 64 (0, 0)) blc hg (Kd.S_ne HO_5.out BK101.out (by decide))); have n1_ := Aside0.mk (hb); have n2_ := Aside0.mk (ho); clear BK101; clear HB; clear HO_5; clear HO_9; have BK101 := n0_; have HB := n1_; have HO115 := n2_; clear n0_ n1_ n2_; clear ho hb hg hat)); try go_wp2_with (first | (go_at_call 109; (with_reducible refine (slices_Reverse_int_int.calls k4 (fun k_ => some k_ = (.slice Ao38 x9_4.length co38 : Value).ownBlock) (.slice Ao38 x9_4.length co38) x9_4 t112 w _ ?side1 ?side2 A36.out).mono ?_); (case side1 => repeat (first | (with_reducible first | exact HB.out | apply below_alloc | apply pw_below_drewN | apply below_drew1 | refine below_set ?_ GE101.out) | exact HB.out)); (case side2 => exact Kd.R_tight rfl HO_9.out); rintro e w39 ⟨rfl, hy0, hb, hkp⟩; have n0_ := Aside0.mk (Kd.S_mono (ok' := fun k_ => some k_ ≠ (.slice Ao38 x9_4.length co38 : Value).ownBlock) (Kd.S_keptB (HO_5.out) hkp (fun k_ hk_ hs_ => (hk_) hs_)) (fun k_ hk_ => hk_.1)); have n1_ := Aside0.mk (Kd.R_reok rfl hy0 (fun k_ e_ => HO_9.out.1 k_ e_)); have n2_ := Aside0.mk (blk_kept blc hkp (fun hs_ => (fun e_ => (Kd.R_ne HO_9.out BK101.out (by decide)) e_) hs_)); have n3_ := Aside0.mk (hb); clear HO_5; clear HO_9; clear BK101; clear HB; have HO_5 := n0_; have HO_9 := n1_; have BK101 := n2_; have HB := n3_; clear n0_ n1_ n2_ n3_; (try clear hb); (try clear hkp); (try clear hy0)) | ((with_reducible refine gate_builtin (b := .append) (xs := #[.tmp 64, .tmp 66]) rfl ?_); at_builtin; refine Kd.S_append (Kd.slice 3 (Kd.int .i64)) (w0 := w) w.heap.size rfl (.tmp 64) (.tmp 66) 44 39 (.slice none 0 0) 24 rfl Tryz.underlying44 info39 rfl (by decide) (by omega) u5 x5_3 t112 [.slice Ao38 x9_4.length co38] (fun _ => True) (fun k_ => some k_ = (.slice Ao38 x9_4.length co38 : Value).ownBlock) rfl rfl ?aP (fun k_ hk_ => ((Kd.R_mono (ok' := fun k_ => ((fun _ => True)) k_ ∧ some k_ ≠ (u5 : Value).ownBlock) (Kd.R_apart' (HO_9.out) (Kd.S_typed HO_5.out) (by decide)) (fun k_ hk => ⟨trivial, hk.2⟩))).1 k_ hk_.symm) ?aF ?aO ?aB ?aS ?aL ?_; (case aP => exact Kd.M_row (Kd.R_mono (Kd.R_tight rfl (Kd.R_mono (ok' := fun k_ => ((fun _ => True)) k_ ∧ some k_ ≠ (u5 : Value).ownBlock) (Kd.R_apart' (HO_9.out) (Kd.S_typed HO_5.out) (by decide)) (fun k_ hk => ⟨trivial, hk.2⟩))) (fun _ h_ => h_))); (case aB => exact (bel HB)); (case aF => exact (fun _ _ => trivial)); (case aO => exact (by (with_reducible repeat (first | apply Kd.S_alloc | apply Kd.S_drewN | apply Kd.S_drew)); exact Kd.S_mono HO_5.out (fun k_ hk => ⟨trivial, fun e_ => hk e_⟩))); (case aS => exact (below_size (bel HB))); (case aL => have := LMc37.out; omega); intro v114 w40 ho hb hg hat; rw [← Ny113.out] at ho; have n0_ := Aside0.mk (blk_grown (g := gb101) (o := .cells #[.int .i64 a0_0, .int .i64 a0_1, .slice A0_2 l0_2.length c0_2] 64 (0, 0)) blc hg (Kd.S_ne HO_5.out BK101.out (by decide))); have n1_ := Aside0.mk (hb); have n2_ := Aside0.mk (ho); clear BK101; clear HB; clear HO_5; clear HO_9; have BK101 := n0_; have HB := n1_; have HO115 := n2_; clear n0_ n1_ n2_; clear ho hb hg hat)))
              go_roundg k4
              case measure => have := HJ2.out; have := HJ8.out; have := HK3.out; have := HK4.out; omega
              case rel => exact ⟨(y113), (wrap64 (x27_3 + 1)), (by first | rfl | (simp; done) | (simp [*]; done)), H', ⟨by have := HJ2.out; have := HJ8.out; have := HK3.out; have := HK4.out; omega⟩, ⟨by (with_reducible repeat (first | apply Kd.S_alloc | apply Kd.S_drewN | apply Kd.S_drew)); (first | exact HO115.out | exact R_any HO115.out)⟩, ⟨blc⟩, ⟨bel HB⟩⟩
             ·rw [if_neg c37] at H
              exact absurd H (by simp)
            ·rw [if_neg c35] at H
             have c35b0 : (a1 == 100) = false := beq_eq_false_iff_ne.mpr c35;have c35b1 : (a1 != 100) = true := bne_iff_ne.mpr c35
             by_cases c41 : x5_3.length < 5864062014805
             ·rw [if_pos c41] at H
              have LMc41 := Aside0.mk c41;clear c41;obtain ⟨y116, hy116⟩ : ∃ y_ : List (List Int), y_ = (x5_3 ++ [x9_4]) := ⟨_, rfl⟩;replace H : (impl_tray_lines.l0 k4 a1 y116 x7_8 x6_8 (wrap64 (x27_3 + 1)) a0_0 a0_1 l0_2) = some r := rH hy116 H;have Ny116 := Aside0.mk hy116;clear hy116;have H' := Aside0.mk H;clear H;obtain ⟨Ao43, co43, eo43⟩ := Kd.R_slice HO_9.out;subst eo43
              go_wp2_with (first | ((with_reducible refine gate_builtin (b := .append) (xs := #[.tmp 64, .tmp 66]) rfl ?_); at_builtin; refine Kd.S_append (Kd.slice 3 (Kd.int .i64)) (w0 := w) w.heap.size rfl (.tmp 64) (.tmp 66) 44 39 (.slice none 0 0) 24 rfl Tryz.underlying44 info39 rfl (by decide) (by omega) u5 x5_3 x9_4 [.slice Ao43 x9_4.length co43] (fun _ => True) (fun k_ => some k_ = (.slice Ao43 x9_4.length co43 : Value).ownBlock) rfl rfl ?aP (fun k_ hk_ => ((Kd.R_mono (ok' := fun k_ => ((fun _ => True)) k_ ∧ some k_ ≠ (u5 : Value).ownBlock) (Kd.R_apart' (HO_9.out) (Kd.S_typed HO_5.out) (by decide)) (fun k_ hk => ⟨trivial, hk.2⟩))).1 k_ hk_.symm) ?aF ?aO ?aB ?aS ?aL ?_; (case aP => exact Kd.M_row (Kd.R_mono (Kd.R_tight rfl (Kd.R_mono (ok' := fun k_ => ((fun _ => True)) k_ ∧ some k_ ≠ (u5 : Value).ownBlock) (Kd.R_apart' (HO_9.out) (Kd.S_typed HO_5.out) (by decide)) (fun k_ hk => ⟨trivial, hk.2⟩))) (fun _ h_ => h_))); (case aB => exact (bel HB)); (case aF => exact (fun _ _ => trivial)); (case aO => exact (by (with_reducible repeat (first | apply Kd.S_alloc | apply Kd.S_drewN | apply Kd.S_drew)); exact Kd.S_mono HO_5.out (fun k_ hk => ⟨trivial, fun e_ => hk e_⟩))); (case aS => exact (below_size (bel HB))); (case aL => have := LMc41.out; omega); intro v117 w42 ho hb hg hat; rw [← Ny116.out] at ho; have n0_ := Aside0.mk (blk_grown (g := gb101) (o := .cells #[.int .i64 a0_0, .int .i64 a0_1, .slice A0_2 l0_2.length c0_2] 64 (0, 0)) blc hg (Kd.S_ne HO_5.out BK101.out (by decide))); have n1_ := Aside0.mk (hb); have n2_ := Aside0.mk (ho); clear BK101; clear HB; clear HO_5; clear HO_9; have BK101 := n0_; have HB := n1_; have HO118 := n2_; clear n0_ n1_ n2_; clear ho hb hg hat))
              repeat (go_quiet (first | ((with_reducible refine gate_builtin (b := .append) (xs := #[.tmp 64, .tmp 66]) rfl ?_); at_builtin; refine Kd.S_append (Kd.slice 3 (Kd.int .i64)) (w0 := w) w.heap.size rfl (.tmp 64) (.tmp 66) 44 39 (.slice none 0 0) 24 rfl Tryz.underlying44 info39 rfl (by decide) (by omega) u5 x5_3 x9_4 [.slice Ao43 x9_4.length co43] (fun _ => True) (fun k_ => some k_ = (.slice Ao43 x9_4.length co43 : Value).ownBlock) rfl rfl ?aP (fun k_ hk_ => ((Kd.R_mono (ok' := fun k_ => ((fun _ => True)) k_ ∧ some k_ ≠ (u5 : Value).ownBlock) (Kd.R_apart' (HO_9.out) (Kd.S_typed HO_5.out) (by decide)) (fun k_ hk => ⟨trivial, hk.2⟩))).1 k_ hk_.symm) ?aF ?aO ?aB ?aS ?aL ?_; (case aP => exact Kd.M_row (Kd.R_mono (Kd.R_tight rfl (Kd.R_mono (ok' := fun k_ => ((fun _ => True)) k_ ∧ some k_ ≠ (u5 : Value).ownBlock) (Kd.R_apart' (HO_9.out) (Kd.S_typed HO_5.out) (by decide)) (fun k_ hk => ⟨trivial, hk.2⟩))) (fun _ h_ => h_))); (case aB => exact (bel HB)); (case aF => exact (fun _ _ => trivial)); (case aO => exact (by (with_reducible repeat (first | apply Kd.S_alloc | apply Kd.S_drewN | apply Kd.S_drew)); exact Kd.S_mono HO_5.out (fun k_ hk => ⟨trivial, fun e_ => hk e_⟩))); (case aS => exact (below_size (bel HB))); (case aL => have := LMc41.out; omega); intro v117 w42 ho hb hg hat; rw [← Ny116.out] at ho; have n0_ := Aside0.mk (blk_grown (g := gb101) (o := .cells #[.int .i64 a0_0, .int .i64 a0_1, .slice A0_2 l0_2.length c0_2] 64 (0, 0)) blc hg (Kd.S_ne HO_5.out BK101.out (by decide))); have n1_ := Aside0.mk (hb); have n2_ := Aside0.mk (ho); clear BK101; clear HB; clear HO_5; clear HO_9; have BK101 := n0_; have HB := n1_; have HO118 := n2_; clear n0_ n1_ n2_; clear ho hb hg hat)); try go_wp2_with (first | ((with_reducible refine gate_builtin (b := .append) (xs := #[.tmp 64, .tmp 66]) rfl ?_); at_builtin; refine Kd.S_append (Kd.slice 3 (Kd.int .i64)) (w0 := w) w.heap.size rfl (.tmp 64) (.tmp 66) 44 39 (.slice none 0 0) 24 rfl Tryz.underlying44 info39 rfl (by decide) (by omega) u5 x5_3 x9_4 [.slice Ao43 x9_4.length co43] (fun _ => True) (fun k_ => some k_ = (.slice Ao43 x9_4.length co43 : Value).ownBlock) rfl rfl ?aP (fun k_ hk_ => ((Kd.R_mono (ok' := fun k_ => ((fun _ => True)) k_ ∧ some k_ ≠ (u5 : Value).ownBlock) (Kd.R_apart' (HO_9.out) (Kd.S_typed HO_5.out) (by decide)) (fun k_ hk => ⟨trivial, hk.2⟩))).1 k_ hk_.symm) ?aF ?aO ?aB ?aS ?aL ?_; (case aP => exact Kd.M_row (Kd.R_mono (Kd.R_tight rfl (Kd.R_mono (ok' := fun k_ => ((fun _ => True)) k_ ∧ some k_ ≠ (u5 : Value).ownBlock) (Kd.R_apart' (HO_9.out) (Kd.S_typed HO_5.out) (by decide)) (fun k_ hk => ⟨trivial, hk.2⟩))) (fun _ h_ => h_))); (case aB => exact (bel HB)); (case aF => exact (fun _ _ => trivial)); (case aO => exact (by (with_reducible repeat (first | apply Kd.S_alloc | apply Kd.S_drewN | apply Kd.S_drew)); exact Kd.S_mono HO_5.out (fun k_ hk => ⟨trivial, fun e_ => hk e_⟩))); (case aS => exact (below_size (bel HB))); (case aL => have := LMc41.out; omega); intro v117 w42 ho hb hg hat; rw [← Ny116.out] at ho; have n0_ := Aside0.mk (blk_grown (g := gb101) (o := .cells #[.int .i64 a0_0, .int .i64 a0_1, .slice A0_2 l0_2.length c0_2] 64 (0, 0)) blc hg (Kd.S_ne HO_5.out BK101.out (by decide))); have n1_ := Aside0.mk (hb); have n2_ := Aside0.mk (ho); clear BK101; clear HB; clear HO_5; clear HO_9; have BK101 := n0_; have HB := n1_; have HO118 := n2_; clear n0_ n1_ n2_; clear ho hb hg hat)))
              go_roundg k4
              case measure => have := HJ2.out; have := HJ8.out; have := HK3.out; have := HK4.out; omega
              case rel => exact ⟨(y116), (wrap64 (x27_3 + 1)), (by first | rfl | (simp; done) | (simp [*]; done)), H', ⟨by have := HJ2.out; have := HJ8.out; have := HK3.out; have := HK4.out; omega⟩, ⟨by (with_reducible repeat (first | apply Kd.S_alloc | apply Kd.S_drewN | apply Kd.S_drew)); (first | exact HO118.out | exact R_any HO118.out)⟩, ⟨blc⟩, ⟨bel HB⟩⟩
             ·rw [if_neg c41] at H
              exact absurd H (by simp)
       ·rw [if_neg c12] at H
        have c12b0 : decide (x27_3 < x6_8) = false := decide_eq_false c12;clear c12;obtain rfl := Option.some.inj H
        go_wp2
        repeat (go_quiet (fail); try go_wp2)
        go_ret
        exact ⟨_, by first | rfl | (simp [errW_none, errW_some] <;> rfl) | (simp [*, errW_none, errW_some] <;> rfl), by (with_reducible repeat (first | apply Kd.S_alloc | apply Kd.S_drewN | apply Kd.S_drew)); (first | exact HO_5.out | exact R_any HO_5.out), bel HB⟩
end Go.Proofs.YtchjgphnglklcaaGreatDoor.Q
end
section
namespace Go.Proofs.YtchjgphnglklcaaGreatDoor.Q
open Go.RowKit Go.Proofs.YtchjgphnglklcaaGreatDoorW.PrintWords Go.Proofs.YtchjgphnglklcaaGreatDoorW.PrintLast Go.Proofs.YtchjgphnglklcaaGreatDoorW.PrintMore
set_option linter.unusedSectionVars false
theorem lines_l (l : List Int) : ∀ k : Nat, (∀ a b c d e f g, impl_tray_lines.j0 k a b c d e f g l = impl_tray_lines.j0 k a b c d e f g []) ∧ (∀ a b c d e f, impl_tray_lines.j1 k a b c d e f l = impl_tray_lines.j1 k a b c d e f []) ∧
  (∀ a b c d e f g, impl_tray_lines.l0 k a b c d e f g l = impl_tray_lines.l0 k a b c d e f g []) ∧ (∀ a b c d e f g h i j m, impl_tray_lines.l1 k a b c d e f g h i j m l = impl_tray_lines.l1 k a b c d e f g h i j m []) ∧
  (∀ a b c d e f g h i j m n o, impl_tray_lines.j4 k a b c d e f g h i j m n o l = impl_tray_lines.j4 k a b c d e f g h i j m n o [])
 | 0 => ⟨fun _ _ _ _ _ _ _ => rfl, fun _ _ _ _ _ _ => rfl, fun _ _ _ _ _ _ _ => rfl, fun _ _ _ _ _ _ _ _ _ _ _ => rfl, fun _ _ _ _ _ _ _ _ _ _ _ _ _ => rfl⟩
 | k + 1 => by
  obtain ⟨h0, h1, h2, h3, h4⟩ := lines_l l k
  refine ⟨fun a b c d e f g => ?_, fun a b c d e f => ?_, fun a b c d e f g => ?_, fun a b c d e f g h i j m => ?_, fun a b c d e f g h i j m n o => ?_⟩
  ·unfold impl_tray_lines.j0
   simp only [h1]
  ·unfold impl_tray_lines.j1
   simp only [h2]
  ·unfold impl_tray_lines.l0
   simp only [h3]
  ·unfold impl_tray_lines.l1
   simp only [h2, h4]
  ·unfold impl_tray_lines.j4
   simp only [h3, impl_tray_number.f]
theorem lines_fl (k : Nat) (w h : Int) (l : List Int) (c : Int) : impl_tray_lines.f k w h l c = impl_tray_lines.f k w h [] c := by
 unfold impl_tray_lines.f
 simp only [(lines_l l k).1]
theorem lines_dec : ∀ (w h : Fin 8) (d : Fin 4), w.val * h.val ≤ 36 → 0 < w.val → 0 < h.val → impl_tray_lines.f 150 w.val h.val [] (dirC d.val) = some (linesL w.val h.val (dirC d.val)) := by decide +kernel
theorem lines_ev {w h d : Nat} (hw : w ≤ 7) (hh : h ≤ 7) (hs : w * h ≤ 36) (hw0 : 0 < w) (hh0 : 0 < h) (hd : d < 4) (cs : List Int) : Ev (fun k => impl_tray_lines.f k w h cs (dirC d)) (linesL w h (dirC d)) := by
 refine Ev.of_mono (fun k => impl_tray_lines.mono _ _ _ _ k) 150 ?_
 rw [lines_fl]
 exact lines_dec ⟨w, by omega⟩ ⟨h, by omega⟩ ⟨d, hd⟩ hs hw0 hh0
end Go.Proofs.YtchjgphnglklcaaGreatDoor.Q
end
section
namespace Go.Proofs.YtchjgphnglklcaaGreatDoor.Q
open Go.RowKit Go.Proofs.YtchjgphnglklcaaGreatDoorW.PrintWords Go.Proofs.YtchjgphnglklcaaGreatDoorW.PrintLast Go.Proofs.YtchjgphnglklcaaGreatDoorW.PrintMore
set_option linter.unusedSectionVars false
def strW (w h : Nat) (cs : List Int) (e : Nat) : Nat → Int → List Int
 | 0, _ => []
 | n + 1, x => x :: if aN w h cs e x.toNat < 0 then [] else strW w h cs e n (aN w h cs e x.toNat)
def startsL (w h : Nat) (cs : List Int) (d : Nat) : List Int := ((List.range (w * h)).filter fun i : Nat => decide (rd cs (i : Int) ≠ 35) && decide (aN w h cs d i < 0)).map fun i : Nat => (i : Int)
def cutsL (w h : Nat) (cs : List Int) (d : Nat) : List (List Int) := (linesL w h (dirC d)).flatMap fun l => cutA cs l []
theorem chainB_app (w h d : Nat) : ∀ (p l : List Int) (pr : Int), chainB w h d pr (p ++ l) = true → chainB w h d (p.getLastD pr) l = true
 | [], l, pr, hc => hc
 | x :: p, l, pr, hc => by
  rw [List.cons_append, chainB] at hc
  simp only [Bool.and_eq_true] at hc
  have := chainB_app w h d p l x hc.2
  rw [List.getLastD_cons]
  exact this
theorem chain_walk (w h : Nat) (cs : List Int) (d : Nat) : ∀ (s : List Int) (x : Int) (q : List Int) (n : Nat), 0 ≤ x → chainB w h d x (s ++ q) = true → (∀ y ∈ s, rd cs y ≠ 35) → (q = [] ∨ ∃ y q', q = y :: q' ∧ rd cs y = 35) → s.length < n → strW w h cs ((d + 2) % 4) n x = x :: s
 | [], x, q, n, hx0, hc, _, hq, hn => by
  obtain ⟨n, rfl⟩ : ∃ m, n = m + 1 := ⟨n - 1, by simp at hn; omega⟩
  rw [List.nil_append] at hc
  have ha : aN w h cs ((d + 2) % 4) x.toNat < 0 := by
   rcases hq with rfl | ⟨y, q', rfl, hy⟩
   ·rw [chainB, decide_eq_false (by omega), Bool.false_or, decide_eq_true_eq] at hc
    unfold aN
    rw [if_pos (by omega)]
    omega
   ·rw [chainB, decide_eq_false (show ¬ x < 0 by omega), Bool.false_or] at hc
    simp only [Bool.and_eq_true, decide_eq_true_eq] at hc
    unfold aN
    rw [if_neg (by omega), hc.1.2, if_pos hy]
    omega
  rw [strW, if_pos ha]
 | y :: s, x, q, n, hx0, hc, hs, hq, hn => by
  obtain ⟨n, rfl⟩ : ∃ m, n = m + 1 := ⟨n - 1, by simp at hn; omega⟩
  rw [List.cons_append, chainB, decide_eq_false (show ¬ x < 0 by omega), Bool.false_or] at hc
  simp only [Bool.and_eq_true, decide_eq_true_eq] at hc
  obtain ⟨⟨⟨⟨y0, y1⟩, y2⟩, y3⟩, hc⟩ := hc
  have ha : aN w h cs ((d + 2) % 4) x.toNat = y := by
   unfold aN
   rw [if_neg (by omega), y3, if_neg (hs y List.mem_cons_self)]
  rw [strW, ha, if_neg (by omega), chain_walk w h cs d s y q n y0 hc (fun z hz => hs z (List.mem_cons_of_mem _ hz)) hq (by simp at hn; omega)]
theorem nodup_of_flat : ∀ L : List (List Int), L.flatten.Nodup → (∀ s ∈ L, s ≠ []) → L.Nodup
 | [], _, _ => List.nodup_nil
 | s :: L, hn, hne => by
  rw [List.flatten_cons, List.nodup_append] at hn
  refine List.nodup_cons.2 ⟨fun hm => ?_, nodup_of_flat L hn.2.1 fun t ht => hne t (List.mem_cons_of_mem _ ht)⟩
  cases s with
  | nil => exact hne [] List.mem_cons_self rfl
  | cons x s => exact hn.2.2 x List.mem_cons_self x (List.mem_flatten.2 ⟨_, hm, List.mem_cons_self⟩) rfl
theorem flat_inj : ∀ L : List (List Int), L.flatten.Nodup → ∀ s t x, s ∈ L → t ∈ L → x ∈ s → x ∈ t → s = t
 | [], _, s, _, _, hs, _, _, _ => by cases hs
 | a :: L, hn, s, t, x, hs, ht, hxs, hxt => by
  rw [List.flatten_cons, List.nodup_append] at hn
  rcases List.mem_cons.1 hs with e1 | hs1
  ·rcases List.mem_cons.1 ht with e2 | ht1
   ·rw [e1, e2]
   ·exact absurd rfl (hn.2.2 x (e1 ▸ hxs) x (List.mem_flatten.2 ⟨_, ht1, hxt⟩))
  ·rcases List.mem_cons.1 ht with e2 | ht1
   ·exact absurd rfl (hn.2.2 x (e2 ▸ hxt) x (List.mem_flatten.2 ⟨_, hs1, hxs⟩))
   ·exact flat_inj L hn.2.1 s t x hs1 ht1 hxs hxt
theorem cuts_flat (w h : Nat) (cs : List Int) (d : Nat) : (cutsL w h cs d).flatten = (linesL w h (dirC d)).flatten.filter fun k => decide (rd cs k ≠ 35) := by
 unfold cutsL;generalize linesL w h (dirC d) = Ls
 induction Ls with
 | nil => rfl
 | cons l Ls ih => rw [List.flatMap_cons, List.flatten_append, ih, cutA_flat, List.nil_append, List.flatten_cons, List.filter_append]
section
variable {w h : Nat} {cs : List Int} (hw : w ≤ 7) (hh : h ≤ 7) (hs : w * h ≤ 36) {d : Nat} (hd : d < 4)
include hw hh hs hd
theorem lines_ok : (linesL w h (dirC d)).flatten.Nodup ∧ (∀ i : Nat, i < w * h → (i : Int) ∈ (linesL w h (dirC d)).flatten) ∧ (∀ l ∈ linesL w h (dirC d), chainB w h d (-1) l = true) := by
 obtain ⟨h1, h2, h3⟩ := lines_all ⟨w, by omega⟩ ⟨h, by omega⟩ ⟨d, hd⟩ hs
 exact ⟨h1, fun i hi => h2 ⟨i, by omega⟩ hi, h3⟩
theorem line_len {l : List Int} (hl : l ∈ linesL w h (dirC d)) : l.length ≤ 7 := by
 unfold linesL at hl;obtain ⟨i, _, rfl⟩ := List.mem_map.1 hl;unfold lineL
 simp only
 split <;> split <;> simp <;> omega
theorem cuts_nodup : (cutsL w h cs d).flatten.Nodup := by
 rw [cuts_flat]
 exact (lines_ok hw hh hs hd).1.filter _
theorem cuts_ne : ∀ s ∈ cutsL w h cs d, s ≠ [] := by
 intro s hm;obtain ⟨l, _, hl⟩ := List.mem_flatMap.1 hm
 exact cutA_ne cs l [] s hl
theorem mem_chain : ∀ (l : List Int) (p : Int), chainB w h d p l = true → ∀ x ∈ l, 0 ≤ x ∧ x < ((w * h : Nat) : Int)
 | [], _, _, x, hx => by cases hx
 | y :: l, p, hc, x, hx => by
  rw [chainB] at hc
  simp only [Bool.and_eq_true, decide_eq_true_eq] at hc
  rcases List.mem_cons.1 hx with rfl | hx
  ·exact hc.1.1.1
  ·exact mem_chain l y hc.2 x hx
theorem cuts_mem (s : List Int) : s ∈ cutsL w h cs d ↔ ∃ i ∈ startsL w h cs d, s = strW w h cs ((d + 2) % 4) 36 i := by
 obtain ⟨h1, h2, h3⟩ := lines_ok hw hh hs hd
 have key : ∀ l ∈ linesL w h (dirC d), ∀ (p s' q : List Int) (x : Int), l = p ++ (x :: s') ++ q → (∀ y ∈ x :: s', rd cs y ≠ 35) → (p = [] ∨ ∃ p' y, p = p' ++ [y] ∧ rd cs y = 35) → (q = [] ∨ ∃ y q', q = y :: q' ∧ rd cs y = 35) → x ∈ startsL w h cs d ∧ x :: s' = strW w h cs ((d + 2) % 4) 36 x := by
  intro l hl p s' q x e hnw hp hq;have hc := h3 l hl
  rw [e, List.append_assoc] at hc
  have hc2 := chainB_app w h d p _ (-1) hc
  rw [List.cons_append, chainB] at hc2
  simp only [Bool.and_eq_true, decide_eq_true_eq] at hc2
  obtain ⟨⟨⟨⟨x0, x1⟩, x2⟩, _⟩, hc3⟩ := hc2
  have hst : aN w h cs d x.toNat < 0 := by
   unfold aN
   rcases hp with rfl | ⟨p', y, rfl, hy⟩
   ·rw [List.getLastD_nil] at x2
    rw [if_pos (by omega)]
    omega
   ·rw [List.getLastD_concat] at x2
    split
    ·omega
    ·rw [x2, if_pos hy]
     omega
  have hll := line_len hw hh hs hd hl
  have hsl : s'.length < 36 := by
   rw [e] at hll
   simp at hll
   omega
  refine ⟨?_, (chain_walk w h cs d s' x q 36 x0 hc3 (fun y hy => hnw y (List.mem_cons_of_mem _ hy)) hq hsl).symm⟩
  unfold startsL
  refine List.mem_map.2 ⟨x.toNat, List.mem_filter.2 ⟨List.mem_range.2 (by omega), ?_⟩, by omega⟩
  rw [Int.toNat_of_nonneg x0, Bool.and_eq_true, decide_eq_true_eq, decide_eq_true_eq]
  exact ⟨hnw x List.mem_cons_self, hst⟩
 constructor
 ·intro hm
  obtain ⟨l, hl, hsl⟩ := List.mem_flatMap.1 hm;obtain ⟨hne, hnw, p, q, e, hp, hq⟩ := (cutA_split cs l [] (by simp) s).1 hsl
  rw [List.nil_append] at e
  cases s with
  | nil => exact absurd rfl hne
  | cons x s' =>
   obtain ⟨k1, k2⟩ := key l hl p s' q x e hnw hp hq
   exact ⟨x, k1, k2⟩
 ·rintro ⟨i, hi, rfl⟩
  unfold startsL at hi;obtain ⟨i, hi2, rfl⟩ := List.mem_map.1 hi;obtain ⟨hi3, hi4⟩ := List.mem_filter.1 hi2;have hin := List.mem_range.1 hi3
  rw [Bool.and_eq_true, decide_eq_true_eq, decide_eq_true_eq] at hi4
  obtain ⟨l, hl, hil⟩ := List.mem_flatten.1 (h2 i hin);obtain ⟨p, r, e⟩ := List.append_of_mem hil;have hc := h3 l hl
  rw [e] at hc
  have hc2 := chainB_app w h d p _ (-1) hc
  rw [chainB] at hc2
  simp only [Bool.and_eq_true, decide_eq_true_eq] at hc2
  obtain ⟨⟨⟨⟨x0, x1⟩, x2⟩, _⟩, hc3⟩ := hc2
  have hp : p = [] ∨ ∃ p' y, p = p' ++ [y] ∧ rd cs y = 35 := by
   rcases List.eq_nil_or_concat p with rfl | ⟨p', y, rfl⟩
   ·exact .inl rfl
   ·refine .inr ⟨p', y, by simp, ?_⟩
    rw [List.concat_eq_append, List.getLastD_concat] at x2
    have hy : 0 ≤ y := (mem_chain hw hh hs hd l (-1) (h3 l hl) y (by rw [e]; simp)).1;have h5 := hi4.2;unfold aN at h5
    rw [Int.toNat_natCast] at x2
    rw [x2, if_neg (by omega)] at h5
    apply Classical.byContradiction
    intro h6
    rw [if_neg h6] at h5
    omega
  have hsp : ∃ s' q, r = s' ++ q ∧ (∀ y ∈ s', rd cs y ≠ 35) ∧ (q = [] ∨ ∃ y q', q = y :: q' ∧ rd cs y = 35) := by
   clear hc hc3 e hil
   induction r with
   | nil => exact ⟨[], [], rfl, by simp, .inl rfl⟩
   | cons y r ih =>
    by_cases hy : rd cs y = 35
    ·exact ⟨[], y :: r, rfl, by simp, .inr ⟨y, r, rfl, hy⟩⟩
    ·obtain ⟨s', q, e1, e2, e3⟩ := ih
     refine ⟨y :: s', q, by rw [e1]; rfl, ?_, e3⟩
     intro z hz
     rcases List.mem_cons.1 hz with rfl | hz
     ·exact hy
     ·exact e2 z hz
  obtain ⟨s', q, rfl, hnw, hq⟩ := hsp
  have hnw2 : ∀ y ∈ (i : Int) :: s', rd cs y ≠ 35 := by
   intro y hy
   rcases List.mem_cons.1 hy with rfl | hy
   ·exact hi4.1
   ·exact hnw y hy
  have e2 : l = p ++ ((i : Int) :: s') ++ q := by rw [e]; simp
  obtain ⟨k1, k2⟩ := key l hl p s' q i e2 hnw2 hp hq
  rw [← k2]
  refine List.mem_flatMap.2 ⟨l, hl, (cutA_split cs l [] (by simp) _).2 ⟨by simp, hnw2, p, q, by rw [List.nil_append]; exact e2, hp, hq⟩⟩
theorem starts_nodup : (startsL w h cs d).Nodup := by
 unfold startsL
 refine List.Pairwise.map _ (fun a b h => ?_) (List.nodup_range.filter _)
 intro e
 exact h (by omega)
theorem cuts_perm : List.Perm (cutsL w h cs d) ((startsL w h cs d).map (strW w h cs ((d + 2) % 4) 36)) := by
 refine (List.perm_ext_iff_of_nodup (nodup_of_flat _ (cuts_nodup hw hh hs hd) (cuts_ne hw hh hs hd)) ?_).2 fun s => ?_
 ·refine List.Pairwise.map _ (fun a b h e => ?_) (starts_nodup hw hh hs hd (cs := cs))
  unfold strW at e
  injection e with e1 _
  exact h e1
 ·rw [cuts_mem hw hh hs hd, List.mem_map]
  constructor
  ·rintro ⟨i, h1, rfl⟩
   exact ⟨i, h1, rfl⟩
  ·rintro ⟨i, h1, rfl⟩
   exact ⟨i, h1, rfl⟩
end
end Go.Proofs.YtchjgphnglklcaaGreatDoor.Q
end
section
namespace Go.Proofs.YtchjgphnglklcaaGreatDoor.Q
set_option linter.unusedSectionVars false
open Go.RowKit Go.Shelf Go.Proofs.YtchjgphnglklcaaGreatDoorW.PrintWords Go.Proofs.YtchjgphnglklcaaGreatDoorW.PrintLast Go.Proofs.YtchjgphnglklcaaGreatDoorW.PrintMore
def leM (a b : List Int) : Bool := decide (Lib.minOf a ≤ Lib.minOf b)
def sortable (x : List (List Int)) : Bool := decide (x.length ≤ 1000) && x.all (fun s => decide (1 ≤ s.length) && decide (s.length ≤ 1000) && decide (0 ≤ Lib.minOf s) && decide (Lib.minOf s ≤ 1000000)) && decide (x.map Lib.minOf).Nodup
def slices_SortFunc_str.f (x : List (List Int)) : Option (List (List Int)) := if sortable x = true then some (x.mergeSort leM) else none
theorem ints_at {w : World} {A : Option Addr} {l : List Int} (h : Kd.C (Kd.int .i64) w A l.length l) (h0 : 1 ≤ l.length) : ∃ b off, A = some ⟨b, off, none⟩ ∧ ∀ j, j < l.length → w.cell? ⟨b, off + j, none⟩ = some (.int .i64 (l.getD j 0)) := by
 obtain ⟨ad, rfl, _⟩ := Kd.at_int h 0 (by omega) (by omega)
 have hx : ∀ j : Nat, j < l.length → w.cell? (ad.add j) = some (.int .i64 (l.getD j 0)) := fun j hj => by
  obtain ⟨ad2, e2, h2⟩ := Kd.at_int h (j : Int) (by omega) (by omega)
  cases e2
  rw [Int.toNat_natCast] at h2
  rw [h2]
  unfold rd
  rw [Int.toNat_natCast]
 have h00 := hx 0 (by omega)
 have hsp : ad.spot = none := by
  rcases hs : ad.spot with _ | z
  ·rfl
  ·rw [Addr.add, if_pos rfl] at h00
   unfold World.cell? at h00
   split at h00
   ·rw [hs] at h00
    simp at h00
   ·cases h00
 obtain ⟨bk, o, sp⟩ := ad;obtain rfl : sp = none := hsp
 refine ⟨bk, o, rfl, fun j hj => ?_⟩
 have h3 := hx j hj;unfold Addr.add at h3
 split at h3
 ·rename_i h4
  subst h4
  exact h3
 ·exact h3
theorem sub_small {x y : Int} (hx : 0 ≤ x ∧ x ≤ 1000000) (hy : 0 ≤ y ∧ y ≤ 1000000) : IntKind.i64.wrap (x - y) = x - y := (i64_w _).trans (by unfold wrap64; omega)
set_option maxHeartbeats 8000000 in
set_option maxRecDepth 100000 in
theorem cmp_calls (A B : Option Addr) (ca cb : Nat) (a b : List Int) (w : World) (ha : Kd.C (Kd.int .i64) w A a.length a) (hb : Kd.C (Kd.int .i64) w B b.length b) (la : 1 ≤ a.length ∧ a.length ≤ 1000) (lb : 1 ≤ b.length ∧ b.length ≤ 1000) (ma : 0 ≤ Lib.minOf a ∧ Lib.minOf a ≤ 1000000) (mb : 0 ≤ Lib.minOf b ∧ Lib.minOf b ≤ 1000000) :
  Calls Tryz.prog 94 #[.slice A a.length ca, .slice B b.length cb] w fun e w' => e = .returned (.int .i64 (Lib.minOf a - Lib.minOf b)) ∧ w' = w := by
 obtain ⟨ba, oa, rfl, xa⟩ := ints_at ha la.1;obtain ⟨bb, ob, rfl, xb⟩ := ints_at hb lb.1;have h1 := Tryz.slices_Min_int ba oa a.length ca a w (by omega) (Nat.le_refl _) (by omega) xa;have h2 := Tryz.slices_Min_int bb ob b.length cb b w (by omega) (Nat.le_refl _) (by omega) xb
 rw [List.take_length] at h1 h2
 have hwr : IntKind.i64.wrap (Lib.minOf a - Lib.minOf b) = Lib.minOf a - Lib.minOf b := sub_small ma mb;have HW := Aside0.mk hwr;generalize Lib.minOf a = x at h1 hwr HW ma ⊢;generalize Lib.minOf b = y at h2 hwr HW mb ⊢;have H1 := Aside0.mk h1;have H2 := Aside0.mk h2;clear ha hb xa xb ma mb la lb h1 h2 HW
 go_enter Tryz.func94, Tryz.ntmps94
 go_wp2_with fail
 refine H1.out.mono ?_
 rintro e w1 ⟨rfl, rfl⟩
 go_wp2_with fail
 refine H2.out.mono ?_
 rintro e w2 ⟨rfl, rfl⟩
 go_wp2_with fail
 go_ret
 exact ⟨rfl, rfl⟩
section
variable {α : Type} [Inhabited α] {enc : α → Value} {w : World} {g : Nat} {cur : Array Value} {T : Nat} (hg : w.heap[g]? = some (.cells cur T (0, 0)))
include hg
theorem sort_heap (m : Nat) (dk : Array α) (os : Array Obj) : (sortWorld enc w g 0 m dk os).heap[g]? = some (.cells (Sort.putCells enc 0 dk cur) T (0, 0)) := by
 have hl := blk_lt hg
 show ((w.heap.modify g _) ++ os)[g]? = _
 rw [Array.getElem?_append_left (by simpa using hl), Array.getElem?_modify, if_pos rfl, hg]
 rfl
theorem sort_other (m : Nat) (dk : Array α) (os : Array Obj) (k : Nat) (hk : k < w.heap.size) (hne : k ≠ g) : (sortWorld enc w g 0 m dk os).heap[k]? = w.heap[k]? := by
 show ((w.heap.modify g _) ++ os)[k]? = _
 rw [Array.getElem?_append_left (by simpa using hk), Array.getElem?_modify, if_neg (Ne.symm hne)]
theorem sort_size (m : Nat) (dk : Array α) (os : Array Obj) : w.heap.size ≤ (sortWorld enc w g 0 m dk os).heap.size := by
 show _ ≤ ((w.heap.modify g _) ++ os).size
 simp
end
theorem putCells_take {α : Type} [Inhabited α] (enc : α → Value) (dk : List α) (cur : Array Value) (h : dk.length ≤ cur.size) : (Sort.putCells enc 0 dk.toArray cur).toList.take dk.length = dk.map enc := by
 refine List.ext_getElem (by simp [Sort.putCells]; omega) fun j h1 h2 => ?_
 have hj : j < dk.length := by simpa using h2
 rw [List.getElem_take, List.getElem_map, Array.getElem_toList]
 unfold Sort.putCells
 rw [Array.getElem_mapIdx, if_pos ⟨Nat.zero_le _, by simpa using hj⟩]
 congr 1
 rw [Nat.sub_zero, getElem!_pos dk.toArray j (by simpa using hj)]
 simp
set_option maxHeartbeats 4000000 in
theorem slices_SortFunc_str.calls (ok : Nat → Prop) (v : Value) (x y : List (List Int)) (w0 w : World) (hB : Below w0.heap.size w0 w) (ho : Kd.S (Kd.slice 3 (Kd.int .i64)) 39 w w0.heap.size ok v x) (h : slices_SortFunc_str.f x = some y) :
  Calls Tryz.prog 93 #[v, .func (.func 94) #[] #[]] w fun e w' => e = .returned (.tuple #[]) ∧ Kd.S (Kd.slice 3 (Kd.int .i64)) 39 w' w0.heap.size ok v y ∧ Below w0.heap.size w0 w' := by
 unfold slices_SortFunc_str.f at h
 split at h
 case isFalse => cases h
 rename_i hs
 unfold sortable at hs
 simp only [Bool.and_eq_true, decide_eq_true_eq, List.all_eq_true] at hs
 obtain ⟨⟨hn1, hall⟩, hnd⟩ := hs;obtain rfl := Option.some.inj h;clear h
 by_cases hx0 : x = []
 ·subst hx0
  obtain ⟨A, c, rfl⟩ := Kd.S_slice ho;have hcon := AnyF.slices_SortFunc_none (P := Tryz.prog) (ρ := Tryz.sortLists_ren) { Tryz.sortLists with } A c (.func (.func 94) #[] #[]) w
  refine hcon.mono ?_
  rintro e w' ⟨rfl, rfl⟩
  rw [List.mergeSort_nil]
  exact ⟨rfl, ho, hB⟩
 ·have hpos : 0 < x.length := List.length_pos_iff.2 hx0
  obtain ⟨f, h0, inner, hown, hrep⟩ := ho
  rw [List.length_zipIdx] at hown
  change w.ownsRow w0.heap.size 39 1 v x.length inner at hown
  rcases hown.2 with ⟨_, hz⟩ | ⟨g, cap, cur, rfl, hbase, hheap, hncap, hmax, hcsz, htake⟩
  ·omega
  have hil : inner.length = x.length := by have := hown.1; omega
  have hrep2 : ∀ i : Fin x.length, (Kd.slice 3 (Kd.int .i64)).M w w0.heap.size (fun k => (ok k ∧ some k ≠ some g) ∧ f k = i.val) x[i] [inner[i.val]'(by rw [hil]; exact i.isLt)] := by
   intro i
   have hz : x.zipIdx[i.val]? = some (x[i], i.val) := by
    rw [List.getElem?_zipIdx, List.getElem?_eq_getElem i.isLt]
    simp
   have h1 := hrep.2 i.val _ hz
   have h2 : (inner.drop (i.val * (Kd.tag f (Kd.slice 3 (Kd.int .i64))).sz)).take (Kd.tag f (Kd.slice 3 (Kd.int .i64))).sz = [inner[i.val]'(by rw [hil]; exact i.isLt)] := by
    show (inner.drop (i.val * 1)).take 1 = _
    rw [Nat.mul_one, List.drop_eq_getElem_cons (by rw [hil]; exact i.isLt)]
    rfl
   rw [h2] at h1
   exact h1
  haveI : Inhabited (Fin x.length) := ⟨⟨0, hpos⟩⟩
  let enc : Fin x.length → Value := fun i => inner[i.val]'(by rw [hil]; exact i.isLt)
  let cf : Fin x.length → Fin x.length → Int := fun i j => Lib.minOf x[i] - Lib.minOf x[j]
  have hlt : ∀ i j, ltOf cf i j = decide (Lib.minOf x[i] < Lib.minOf x[j]) := by
   intro i j
   show decide (Lib.minOf x[i] - Lib.minOf x[j] < 0) = _
   exact decide_eq_decide.2 (by omega)
  have hO : Sort.SWO (ltOf cf) := by
   refine ⟨fun i => ?_, fun i j k h1 h2 => ?_, fun i j k h1 h2 => ?_⟩
   ·rw [hlt]
    simp
   ·rw [hlt, decide_eq_true_eq] at h1 h2 ⊢
    omega
   ·rw [hlt, decide_eq_false_iff_not] at h1 h2 ⊢
    omega
  have hT : ∀ i j, ltOf cf i j = false → ltOf cf j i = false → i = j := by
   intro i j h1 h2
   rw [hlt, decide_eq_false_iff_not] at h1 h2
   have h3 : Lib.minOf x[i] = Lib.minOf x[j] := by omega
   have h4 := (List.getElem_inj (xs := x.map Lib.minOf) (i := i.val) (j := j.val) (h₀ := by simp) (h₁ := by simp) hnd).1 (by simpa using h3)
   exact Fin.ext h4
  have h1c : OneCell enc := by
   intro i;obtain ⟨v, hv, hr⟩ := hrep2 i;obtain ⟨A, c, e⟩ := Kd.R_slice hr
   have e2 : enc i = v := by
    have : [enc i] = [v] := hv
    injection this
   rw [e2, e]
   rfl
  let d : Array (Fin x.length) := Array.ofFn fun i => i
  have hds : d.size = x.length := Array.size_ofFn
  have hdi : ∀ j (hj : j < x.length), d[j]! = ⟨j, hj⟩ := by
   intro j hj
   rw [getElem!_pos d j (by rw [hds]; exact hj)]
   exact Array.getElem_ofFn _
  have hH : Sort.Holds enc w g 0 d := by
   intro j hj
   rw [hds] at hj
   rw [Nat.zero_add, hdi j hj]
   refine ⟨?_, blk_frozen hheap j⟩
   rw [blk_cell hheap j]
   have hjc : j < cur.size := by omega
   have h2 : inner[j]'(by rw [hil]; exact hj) = cur[j] := by
    have h3 : inner[j]? = (cur.toList.take (x.length * 1))[j]? := by rw [htake]
    rw [List.getElem?_eq_getElem (by rw [hil]; exact hj), List.getElem?_take, if_pos (by omega)] at h3
    have h4 : cur.toList[j]? = some cur[j] := by simp [hjc]
    exact Option.some.inj (h3.trans h4)
   rw [Array.getElem?_eq_getElem hjc]
   exact congrArg some h2.symm
  have hcmp : CmpLays1 Tryz.prog 94 #[] enc cf g 0 d.size w := by
   intro m os dk _ i j
   have key : ∀ i : Fin x.length, ∃ A c, enc i = .slice A x[i].length c ∧ Kd.C (Kd.int .i64) (sortWorld enc w g 0 m dk os) A x[i].length x[i] := by
    intro i;obtain ⟨v, hv, hr⟩ := hrep2 i
    have e2 : enc i = v := by
     have : [enc i] = [v] := hv
     injection this
    have hr2 := Kd.R_step (w1 := sortWorld enc w g 0 m dk os) hr fun k hk hks => sort_other hheap m dk os k hks (fun e => hk.1.2 (by rw [e]))
    obtain ⟨A, c, e3, _, hC⟩ := Kd.R_reads hr2
    exact ⟨A, c, e2.trans e3, hC⟩
   obtain ⟨A, ca, ei, hi⟩ := key i;obtain ⟨B, cb, ej, hj⟩ := key j;have a1 := hall x[i] (List.getElem_mem i.isLt);have a2 := hall x[j] (List.getElem_mem j.isLt);have hc := cmp_calls A B ca cb x[i] x[j] _ hi hj ⟨a1.1.1.1, a1.1.1.2⟩ ⟨a2.1.1.1, a2.1.1.2⟩ ⟨a1.1.2, a1.2⟩ ⟨a2.1.2, a2.2⟩
   rw [ei, ej]
   refine Calls.mono hc ?_
   rintro e w' ⟨rfl, rfl⟩
   exact ⟨rfl, 0, #[], (Sort.grow_empty _).symm⟩
  have hcon := Any.slices_SortFunc_total Tryz.sortLists enc h1c cf hO 94 #[] g 0 cap d w (enters_of Tryz.func94 (by kernel_rfl) rfl) hcmp hH (blk_lt hheap) (by omega) hT
  rw [hds] at hcon
  refine Calls.mono hcon ?_
  rintro e w' ⟨rfl, m, os, rfl⟩
  have hdl : d.toList = (List.finRange x.length) := by
   refine List.ext_getElem (by rw [Array.length_toList, hds, List.length_finRange]) fun j h1 h2 => ?_
   rw [Array.getElem_toList, List.getElem_finRange]
   have := hdi j (by simpa using h2)
   rw [getElem!_pos d j (by simpa using h1)] at this
   rw [this]
   rfl
  rw [hdl]
  have hmap : (List.finRange x.length).map (fun i => x[i]) = x := List.ext_getElem (by simp) fun j h1 h2 => by simp
  have hpm : ((List.finRange x.length).mergeSort fun a b => !ltOf cf b a).map (fun i => x[i]) = x.mergeSort leM := by
   rw [List.map_mergeSort (s := leM) (fun a _ b _ => ?_), hmap]
   rw [hlt]
   unfold leM
   by_cases h3 : Lib.minOf x[a] ≤ Lib.minOf x[b]
   ·rw [decide_eq_true h3, decide_eq_false (by omega)]
    rfl
   ·rw [decide_eq_false h3, decide_eq_true (by omega)]
    rfl
  have hpp := List.mergeSort_perm (List.finRange x.length) fun a b => !ltOf cf b a
  generalize hp : ((List.finRange x.length).mergeSort fun a b => !ltOf cf b a) = p at hpm hpp
  have hpl : p.length = x.length := by rw [hpp.length_eq, List.length_finRange]
  have hpn : p.Nodup := hpp.nodup_iff.2 (List.nodup_finRange _)
  rw [← hpm]
  have hyl : (p.map fun i => x[i]).length = x.length := by rw [List.length_map, hpl]
  refine ⟨rfl, ?_, ?_⟩
  ·let f' : Nat → Nat := fun k => if hk : f k < x.length then p.idxOf ⟨f k, hk⟩ else 0
   refine ⟨f', h0, p.map enc, ?_, ?_, ?_⟩
   ·rw [List.length_zipIdx, hyl]
    refine ⟨by rw [List.length_map, hpl]; exact (Nat.mul_one _).symm, .inr ⟨g, cap, Sort.putCells enc 0 p.toArray cur, rfl, hbase, sort_heap hheap m p.toArray os, hncap, hmax, ?_, ?_⟩⟩
    ·unfold Sort.putCells
     rw [Array.size_mapIdx]
     exact hcsz
    ·have := putCells_take enc p cur (by omega)
     rw [hpl] at this
     show _ = _
     rw [show x.length * (Kd.tag f' (Kd.slice 3 (Kd.int .i64))).sz = x.length from Nat.mul_one _]
     exact this
   ·rw [List.length_map, List.length_zipIdx, List.length_map]
    exact (Nat.mul_one _).symm
   ·intro j q hq
    rw [List.getElem?_zipIdx, Nat.zero_add] at hq
    obtain ⟨z, hz, rfl⟩ := Option.map_eq_some_iff.1 hq
    rw [List.getElem?_map] at hz
    obtain ⟨i, hi, rfl⟩ := Option.map_eq_some_iff.1 hz;have hjp : j < p.length := (List.getElem?_eq_some_iff.1 hi).1;have hpj : p[j] = i := (List.getElem?_eq_some_iff.1 hi).2
    have h2 : ((p.map enc).drop (j * (Kd.tag f' (Kd.slice 3 (Kd.int .i64))).sz)).take (Kd.tag f' (Kd.slice 3 (Kd.int .i64))).sz = [enc i] := by
     show ((p.map enc).drop (j * 1)).take 1 = _
     rw [Nat.mul_one, List.drop_eq_getElem_cons (by simpa using hjp)]
     show [(p.map enc)[j]'(by simpa using hjp)] = _
     rw [List.getElem_map, hpj]
    rw [h2]
    have h3 := Kd.M_step (w1 := sortWorld enc w g 0 m p.toArray os) (hrep2 i) fun k hk hks => sort_other hheap m p.toArray os k hks (fun e => hk.1.2 (by rw [e]))
    refine (Kd.slice 3 (Kd.int .i64)).M_mono (fun k hk => ⟨hk.1, ?_⟩) h3
    show f' k = j
    have hk2 : f k < x.length := by rw [hk.2]; exact i.isLt
    show (if hk : f k < x.length then p.idxOf ⟨f k, hk⟩ else 0) = j
    rw [dif_pos hk2]
    have : (⟨f k, hk2⟩ : Fin x.length) = p[j] := by rw [hpj]; exact Fin.ext hk.2
    rw [this]
    exact hpn.idxOf_getElem j hjp
  ·refine ⟨hB.os, hB.tape, hB.output, Nat.le_trans hB.size (sort_size hheap m p.toArray os), fun k hk => ?_⟩
   rw [sort_other hheap m p.toArray os k (Nat.lt_of_lt_of_le hk hB.size) (by omega)]
   exact hB.block k hk
end Go.Proofs.YtchjgphnglklcaaGreatDoor.Q
end
section
namespace Go.Proofs.YtchjgphnglklcaaGreatDoor.Q
set_option linter.unusedSectionVars false
open Go.RowKit Go.Proofs.YtchjgphnglklcaaGreatDoorW.PrintWords Go.Proofs.YtchjgphnglklcaaGreatDoorW.PrintLast Go.Proofs.YtchjgphnglklcaaGreatDoorW.PrintMore
def rdS (xs : List (List Int)) (i : Int) : (List Int) := xs.getD i.toNat ([] : List Int)
theorem at_S {w : World} {A : Option Addr} {n : Nat} {xs : List (List Int)} (h : Kd.C (Kd.slice 3 (Kd.int .i64)) w A n xs) (i : Int) (h0 : 0 ≤ i) (h1 : i < n) : ∃ ad A0 c0, A = some ad ∧ w.cell? (ad.add i.toNat) = some (.slice A0 (rdS xs i).length c0) ∧ (rdS xs i).length ≤ c0 ∧ (Kd.int .i64).C w A0 (rdS xs i).length (rdS xs i) := by
 obtain ⟨ad, c, e, _, hK, hc0⟩ := Kd.C_get h ([] : List Int) i h0 h1;have hc : ∀ j u, c[j]? = some u → w.cell? (ad.add (i.toNat * 1 + j)) = some u := hc0;obtain ⟨A0, c0, rfl, l0, g0⟩ := hK
 exact ⟨ad, A0, c0, e, by have hq := hc 0 _ rfl; rwa [Nat.mul_one, Nat.add_zero] at hq, l0, g0⟩
mutual
def impl_tray_stretches.l0 : Nat → List (List Int) → List (List Int) → Int → Int → Int → Int → List Int → Option ((List (List Int)))
 | 0, _, _, _, _, _, _, _ => none
 | k + 1, x5, x14, x15, x16, x102000, x102001, x102002 => if x16 < x15 then (if 0 ≤ x16 then (if x16 < (x14.length : Int) then (impl_tray_stretches.l1 k x5 (([] : List Int)) x14 x15 x16 (rdS x14 x16) ((rdS x14 x16).length : Int) 0 x102000 x102001 x102002) else (none)) else (none)) else (slices_SortFunc_str.f x5)
def impl_tray_stretches.l1 : Nat → List (List Int) → List Int → List (List Int) → Int → Int → List Int → Int → Int → Int → Int → List Int → Option ((List (List Int)))
 | 0, _, _, _, _, _, _, _, _, _, _, _ => none
 | k + 1, x5, x8, x14, x15, x16, x21, x22, x23, x102000, x102001, x102002 => if x23 < x22 then (if 0 ≤ x23 then (if x23 < (x21.length : Int) then (if 0 ≤ (rd x21 x23) then (if (rd x21 x23) < (x102002.length : Int) then (if (rd x102002 (rd x21 x23)) = 35 then (if (x8.length : Int) > 0 then (if x5.length < 5864062014805 then (impl_tray_stretches.l1 k (x5 ++ [x8]) ([] : List Int) x14 x15 x16 x21 x22 (wrap64 (x23 + 1)) x102000 x102001 x102002) else (none)) else (impl_tray_stretches.l1 k x5 x8 x14 x15 x16 x21 x22 (wrap64 (x23 + 1)) x102000 x102001 x102002)) else (if x8.length < 17592186044416 then (impl_tray_stretches.l1 k x5 (x8 ++ [rd x21 x23]) x14 x15 x16 x21 x22 (wrap64 (x23 + 1)) x102000 x102001 x102002) else (none))) else (none)) else (none)) else (none)) else (none)) else (if (x8.length : Int) > 0 then (if x5.length < 5864062014805 then (impl_tray_stretches.l0 k (x5 ++ [x8]) x14 x15 (wrap64 (x16 + 1)) x102000 x102001 x102002) else (none)) else (impl_tray_stretches.l0 k x5 x14 x15 (wrap64 (x16 + 1)) x102000 x102001 x102002))
end
def impl_tray_stretches.f (k : Nat) (a0_0 : Int) (a0_1 : Int) (l0_2 : List Int) (a1 : Int) : Option ((List (List Int))) := (impl_tray_lines.f k a0_0 a0_1 l0_2 a1).bind fun t105 => (impl_tray_stretches.l0 k (([] : List (List Int))) t105 (t105.length : Int) 0 a0_0 a0_1 l0_2)
set_option maxHeartbeats 8000000 in
set_option maxRecDepth 100000 in
theorem impl_tray_stretches.calls (k : Nat) (a0_0 : Int) (a0_1 : Int) (A0_2 : Option Addr) (c0_2 : Nat) (l0_2 : List Int) (a1 : Int) (r : List (List Int)) (w : World) (hr0_2 : Kd.C (Kd.int .u8) w A0_2 l0_2.length l0_2) (hc0_2 : l0_2.length ≤ c0_2) (h : impl_tray_stretches.f k a0_0 a0_1 l0_2 a1 = some r) :
  Calls Tryz.prog 77 #[.agg #[.int .i64 a0_0, .int .i64 a0_1, .slice A0_2 l0_2.length c0_2], .int .u8 a1] w fun e w' => ∃ v0_ : Value, e = .returned (v0_) ∧ Kd.S (Kd.slice 3 (Kd.int .i64)) 39 w' w.heap.size (fun _ => True) v0_ r ∧ Below w.heap.size w w' := by
 have hu42 := Tryz.underlying64;have HR0_2 := Aside0.mk hr0_2;have HC0_2 := Aside0.mk hc0_2;clear hr0_2 hc0_2;have HB := Aside0.mk (Below.refl w.heap.size w);have H : ((impl_tray_lines.f k a0_0 a0_1 l0_2 a1).bind fun t105 => (impl_tray_stretches.l0 k (([] : List (List Int))) t105 (t105.length : Int) 0 a0_0 a0_1 l0_2)) = some r := h;clear h;obtain ⟨y102, hy102⟩ : ∃ y_ : List (List Int), y_ = (([] : List (List Int))) := ⟨_, rfl⟩;replace H : ((impl_tray_lines.f k a0_0 a0_1 l0_2 a1).bind fun t105 => (impl_tray_stretches.l0 k y102 t105 (t105.length : Int) 0 a0_0 a0_1 l0_2)) = some r := rH hy102 H;have Ny102 := Aside0.mk hy102;clear hy102;replace H := Option.bind_eq_some_iff.mp H;obtain ⟨t105, A30, H⟩ := H;replace H : (impl_tray_stretches.l0 k y102 t105 (t105.length : Int) 0 a0_0 a0_1 l0_2) = some r := H;have A3 := Aside0.mk A30;clear A30;have H' := Aside0.mk H;clear H
 go_enter Tryz.func77, Tryz.ntmps77
 go_wp2_with (first | ((with_reducible refine gate_dst (N := 2) rfl ?_); refine boxE (N := 2) (cs := #[.int .i64 a0_0, .int .i64 a0_1, .slice A0_2 l0_2.length c0_2]) (t := 64) ?_; intro gb101 hg w4 hbox hb; have n0_ := Aside0.mk (below_step (bel HB) hb); have n1_ := Aside0.mk (hbox); have n2_ := Aside0.mk (gsz hg (bel HB)); have n3_ := Aside0.mk (gsz hg (bel HB)); clear HB; have HB := n0_; have BK101 := n1_; have GW101 := n2_; have GE101 := n3_; clear n0_ n1_ n2_ n3_; clear hb hbox hg) | ((with_reducible refine gate_dst (N := 11) rfl ?_); refine Kd.S_lit (Kd.slice 3 (Kd.int .i64)) _ 39 ?hg (N := 11) ?hd (xs := ([] : List (List Int))) (inner := []) (ok := fun _ => True) (okp := fun _ => True) ?hr ?hp (fun _ hk => hk) trivial (Below.refl _ _) (Nat.le_refl _) (by simp) ?_; (case hd => rfl); (case hg => rfl); (case hr => first | (go_simp; done) | (go_simp; rfl)); (case hp => exact (Reps.none _ _)); intro v103 w5 ho6 hb hg_ hnew_; clear hg_ hnew_; (first | rw [← Ny102.out] at ho6 | (simp only [Int.reduceToNat] at ho6; rw [← Ny102.out] at ho6)); have n0_ := Aside0.mk (Kd.S_lower ho6 (below_size (bel HB))); have n1_ := Aside0.mk (blk_below (g := gb101) (o := .cells #[.int .i64 a0_0, .int .i64 a0_1, .slice A0_2 l0_2.length c0_2] 64 (0, 0)) blc hb); have n2_ := Aside0.mk (below_step (bel HB) hb); clear BK101; clear HB; have HO104 := n0_; have BK101 := n1_; have HB := n2_; clear n0_ n1_ n2_; clear hb ho6; have hcz7_0 : w5.cell? ⟨gb101, 0, none⟩ = some (.int .i64 a0_0) := (blk_cell BK101.out 0).trans rfl; have hcz7_1 : w5.cell? ⟨gb101, 1, none⟩ = some (.int .i64 a0_1) := (blk_cell BK101.out 1).trans rfl; have hcz7_2 : w5.cell? ⟨gb101, 2, none⟩ = some (.slice A0_2 l0_2.length c0_2) := (blk_cell BK101.out 2).trans rfl; have hfz7_0 := blk_frozen BK101.out 0; have hfz7_1 := blk_frozen BK101.out 1; have hfz7_2 := blk_frozen BK101.out 2) | ((with_reducible refine gate_callee (f := 92) rfl ?_); refine gcall (some 14) Tryz.func92 #[.agg #[.int .i64 a0_0, .int .i64 a0_1, .slice A0_2 l0_2.length c0_2], .int .u8 a1] rfl ?_; (with_reducible refine (impl_tray_lines.calls k a0_0 a0_1 _ _ l0_2 a1 t105 _ ?side1 ?side2 A3.out).mono ?_); (case side1 => repeat (first | exact (Kd.C_below HR0_2.out HB.out) | (with_reducible refine Kd.C_alloc ?_ _) | (with_reducible refine Kd.C_drewN ?_ _) | (with_reducible refine Kd.C_drew ?_))); (case side2 => exact HC0_2.out); rintro e w8 ⟨v106, rfl, ho0, hb⟩; refine ⟨_, rfl, ?_⟩; have n0_ := Aside0.mk (Kd.S_elder' (by (with_reducible repeat (first | apply Kd.S_alloc | apply Kd.S_drewN | apply Kd.S_drew)); (first | exact HO104.out | exact R_any HO104.out)) (Kd.S_base ho0) hb); have n1_ := Aside0.mk (Kd.S_lower (Kd.S_new' ho0 (Kd.S_lt (by (with_reducible repeat (first | apply Kd.S_alloc | apply Kd.S_drewN | apply Kd.S_drew)); (first | exact HO104.out | exact R_any HO104.out)))) (below_size (bel HB))); have n2_ := Aside0.mk (blk_below (g := gb101) (o := .cells #[.int .i64 a0_0, .int .i64 a0_1, .slice A0_2 l0_2.length c0_2] 64 (0, 0)) blc hb); have n3_ := Aside0.mk (below_step (bel HB) hb); clear HO104; clear BK101; clear HB; have HO104 := n0_; have HO107 := n1_; have BK101 := n2_; have HB := n3_; clear n0_ n1_ n2_ n3_; (try clear hb); (try clear hb2); (try clear hk); (try clear hi); (try clear ho0); obtain ⟨Ao9, co9, eo9⟩ := Kd.S_slice HO107.out; subst eo9))
 go_loopg [5, 16] k (fun kq v5 v16 w' => ∃ (x5_1 : List (List Int)) (x16_1 : Int), v16 = .int .i64 x16_1 ∧ Aside0 (impl_tray_stretches.l0 kq x5_1 t105 (t105.length : Int) x16_1 a0_0 a0_1 l0_2 = some r) ∧ Aside0 (kq ≤ k) ∧ Aside0 (Kd.S (Kd.slice 3 (Kd.int .i64)) 39 w' w.heap.size (fun k_ => some k_ ≠ ((.slice Ao9 t105.length co9) : Value).ownBlock) v5 x5_1) ∧ Aside0 (Kd.S (Kd.slice 3 (Kd.int .i64)) 39 w' w.heap.size (fun k_ => some k_ ≠ (v5 : Value).ownBlock) (.slice Ao9 t105.length co9) t105) ∧ Aside0 (w'.heap[gb101]? = some (.cells #[.int .i64 a0_0, .int .i64 a0_1, (.slice A0_2 l0_2.length c0_2)] 64 (0, 0))) ∧ Aside0 (Below w.heap.size w w'))
 case atStart => exact ⟨(y102), (0), (by first | rfl | (simp; done) | (simp [*]; done)), H', ⟨Nat.le_refl _⟩, ⟨by (with_reducible repeat (first | apply Kd.S_alloc | apply Kd.S_drewN | apply Kd.S_drew)); exact Kd.S_mono HO104.out (fun _ hk => hk.2)⟩, ⟨by (with_reducible repeat (first | apply Kd.S_alloc | apply Kd.S_drewN | apply Kd.S_drew)); exact Kd.S_mono HO107.out (fun _ hk => hk.2)⟩, ⟨blc⟩, ⟨bel HB⟩⟩
 case round =>
  clear H'
  try clear p2
  try clear c3
  try clear c5
  try clear hcz7_0
  try clear hcz7_1
  try clear hcz7_2
  try clear hfz7_0
  try clear hfz7_1
  try clear hfz7_2
  obtain ⟨x5_1, x16_1, rfl, HA, HK1, HO_5, HO_14, BK101, HB⟩ := hrel
  cases gk with
  | zero => exact absurd HA.out (by simp [impl_tray_stretches.l0])
  | succ k1 =>
   have H := HA.out;clear HA
   simp only [impl_tray_stretches.l0] at H
   by_cases c10 : x16_1 < (t105.length : Int)
   ·rw [if_pos c10] at H
    have c10b0 : decide (x16_1 < (t105.length : Int)) = true := decide_eq_true c10;clear c10
    by_cases c11 : 0 ≤ x16_1
    ·rw [if_pos c11] at H
     have c11b0 : decide (0 ≤ x16_1) = true := decide_eq_true c11;clear c11
     by_cases c12 : x16_1 < (t105.length : Int)
     ·rw [if_pos c12] at H
      have c12b0 : decide (x16_1 < (t105.length : Int)) = true := decide_eq_true c12;clear c12;obtain ⟨y109, hy109⟩ : ∃ y_ : List Int, y_ = (([] : List Int)) := ⟨_, rfl⟩;replace H : (impl_tray_stretches.l1 k1 x5_1 y109 t105 (t105.length : Int) x16_1 (rdS t105 x16_1) ((rdS t105 x16_1).length : Int) 0 a0_0 a0_1 l0_2) = some r := rH hy109 H;have Ny109 := Aside0.mk hy109;clear hy109;have H' := Aside0.mk H;clear H;have p108 : 0 ≤ (x16_1 : Int) := of_decide_eq_true (by first | (with_reducible assumption) | assumption);have q108 : x16_1 < (t105.length : Int) := of_decide_eq_true (by first | (with_reducible assumption) | assumption);obtain ⟨ad108, A108_0, c108_0, e108, hx108_0, hl108_0, hi108_0⟩ := at_S (Kd.S_reads' HO_14.out).2.2 x16_1 p108 q108
      cases e108
      obtain ⟨ce108, hce108, hMe108, hcc108⟩ := Kd.S_get HO_14.out [] x16_1 p108 (by first | exact q108 | exact of_decide_eq_true (by first | (with_reducible assumption) | assumption) | (have e_ := (Kd.S_reads' HO_14.out).1; omega));obtain ⟨ve108_0, rfl, ge108_0⟩ := hMe108;have hv108_0 := hcc108 0 _ rfl
      rw [Nat.add_zero, show ((Kd.slice 3 (Kd.int .i64))).sz = 1 from rfl, Nat.mul_one] at hv108_0
      replace hv108_0 := Option.some.inj (hv108_0.symm.trans hx108_0)
      rw [hv108_0] at ge108_0
      have HL108_0 := Aside0.mk (show Kd.R (Kd.int .i64) 3 _ _ _ _ (rdS t105 x16_1) from ge108_0);clear hv108_0 ge108_0;clear hcc108 hce108;have HR108_0 := Aside0.mk hi108_0;have HC108_0 := Aside0.mk hl108_0;clear hi108_0 hl108_0;replace p108 := eq_true p108;replace q108 := eq_true q108
      go_wp2_with (first | ((with_reducible refine gate_dst (N := 20) rfl ?_); refine R_litG (Kd.int .i64) _ 3 ?hg (N := 20) ?hd (xs := ([] : List Int)) (inner := []) (ok := fun _ => True) (okp := fun _ => True) ?hr ?hp (fun _ hk => hk) trivial (Below.refl _ _) (Nat.le_refl _) (by simp) ?_; (case hd => rfl); (case hg => first | rfl | decide | (simp [Region.wanted, yielded]; done) | (go_simp; done)); (case hr => first | (go_simp; done) | (go_simp; rfl)); (case hp => exact (Reps.none _ _)); intro v110 w13 ho14 hb hg_ hnew_; clear hg_ hnew_; (first | rw [← Ny109.out] at ho14 | (simp only [Int.reduceToNat] at ho14; rw [← Ny109.out] at ho14)); have n0_ := Aside0.mk (Kd.S_elder' (by (with_reducible repeat (first | apply Kd.S_alloc | apply Kd.S_drewN | apply Kd.S_drew)); (first | exact HO_5.out | exact R_any HO_5.out)) (Kd.R_base ho14) hb); have n1_ := Aside0.mk (Kd.S_elder' (by (with_reducible repeat (first | apply Kd.S_alloc | apply Kd.S_drewN | apply Kd.S_drew)); (first | exact HO_14.out | exact R_any HO_14.out)) (Kd.R_base ho14) hb); have n2_ := Aside0.mk (Kd.R_elder' (by (with_reducible repeat (first | apply Kd.R_alloc | apply Kd.R_drewN | apply Kd.R_drew)); exact HL108_0.out) (Kd.R_base ho14) hb); have n3_ := Aside0.mk (Kd.R_lower (Kd.R_new' ho14 (Kd.R_lt (by (with_reducible repeat (first | apply Kd.R_alloc | apply Kd.R_drewN | apply Kd.R_drew)); exact HL108_0.out))) (below_size (bel HB))); have n4_ := Aside0.mk (blk_below (g := gb101) (o := .cells #[.int .i64 a0_0, .int .i64 a0_1, .slice A0_2 l0_2.length c0_2] 64 (0, 0)) blc hb); have n5_ := Aside0.mk (Kd.C_below (by repeat (first | (with_reducible exact HR108_0.out) | (with_reducible refine Kd.C_alloc ?_ _) | (with_reducible refine Kd.C_drewN ?_ _) | (with_reducible refine Kd.C_drew ?_) | exact HR108_0.out)) hb); have n6_ := Aside0.mk (below_step (bel HB) hb); clear HO_5; clear HO_14; clear HL108_0; clear BK101; clear HR108_0; clear HB; have HO_5 := n0_; have HO_14 := n1_; have HL108_0 := n2_; have HO111 := n3_; have BK101 := n4_; have HR108_0 := n5_; have HB := n6_; clear n0_ n1_ n2_ n3_ n4_ n5_ n6_; clear hb ho14))
      go_loopg [5, 8, 23] k1 (fun kq v5 v8 v23 w' => ∃ (x5_2 : List (List Int)) (x8_2 : List Int) (x23_2 : Int), v23 = .int .i64 x23_2 ∧ Aside0 (impl_tray_stretches.l1 kq x5_2 x8_2 t105 (t105.length : Int) x16_1 (rdS t105 x16_1) ((rdS t105 x16_1).length : Int) x23_2 a0_0 a0_1 l0_2 = some r) ∧ Aside0 (kq ≤ k1) ∧ Aside0 (Kd.S (Kd.slice 3 (Kd.int .i64)) 39 w' w.heap.size (fun k_ => some k_ ≠ (v8 : Value).ownBlock ∧ some k_ ≠ ((.slice (some ad108) t105.length co9) : Value).ownBlock) v5 x5_2) ∧ Aside0 (Kd.R (Kd.int .i64) 3 w' w.heap.size (fun _ => True) v8 x8_2) ∧ Aside0 (Kd.S (Kd.slice 3 (Kd.int .i64)) 39 w' w.heap.size (fun k_ => some k_ ≠ (v5 : Value).ownBlock ∧ some k_ ≠ (v8 : Value).ownBlock) (.slice (some ad108) t105.length co9) t105) ∧ Aside0 (w'.heap[gb101]? = some (.cells #[.int .i64 a0_0, .int .i64 a0_1, (.slice A0_2 l0_2.length c0_2)] 64 (0, 0))) ∧ Aside0 (Kd.R (Kd.int .i64) 3 w' w.heap.size (fun k_ => some k_ ≠ (v8 : Value).ownBlock) (.slice A108_0 (rdS t105 x16_1).length c108_0) (rdS t105 x16_1)) ∧ Aside0 (Below w.heap.size w w'))
      case atStart => exact ⟨(x5_1), (y109), (0), (by first | rfl | (simp; done) | (simp [*]; done)), H', ⟨Nat.le_refl _⟩, ⟨by (with_reducible repeat (first | apply Kd.S_alloc | apply Kd.S_drewN | apply Kd.S_drew)); exact Kd.S_mono HO_5.out (fun _ hk => ⟨hk.2, hk.1⟩)⟩, ⟨by (with_reducible repeat (first | apply Kd.R_alloc | apply Kd.R_drewN | apply Kd.R_drew)); exact Kd.R_mono HO111.out (fun _ hk => trivial)⟩, ⟨by (with_reducible repeat (first | apply Kd.S_alloc | apply Kd.S_drewN | apply Kd.S_drew)); (first | exact HO_14.out | exact R_any HO_14.out)⟩, ⟨blc⟩, ⟨by (with_reducible repeat (first | apply Kd.R_alloc | apply Kd.R_drewN | apply Kd.R_drew)); exact Kd.R_mono HL108_0.out (fun _ hk => hk.2)⟩, ⟨bel HB⟩⟩
      case round =>
       clear H'
       try clear c1
       try clear p1
       try clear q1
       try clear hx1
       try clear p2
       try clear c3
       try clear c5
       try clear c10
       try clear c10b0
       try clear c10b0y
       try clear p10
       try clear q10
       try clear hx10
       try clear c11
       try clear c11b0
       try clear c11b0y
       try clear c12
       try clear c12b0
       try clear c12b0y
       try clear hcz7_0
       try clear hcz7_1
       try clear hcz7_2
       try clear hfz7_0
       try clear hfz7_1
       try clear hfz7_2
       try clear hx108_0
       try clear p108
       try clear p2
       try clear q108
       obtain ⟨x5_2, x8_2, x23_2, rfl, HA, HK2, HO_5, HO_8, HO_14, BK101, HL108_0, HB⟩ := hrel;have HR108_0 := Aside0.mk (Kd.R_reads' HL108_0.out).2.2
       cases gk with
       | zero => exact absurd HA.out (by simp [impl_tray_stretches.l1])
       | succ k2 =>
        have H := HA.out;clear HA
        simp only [impl_tray_stretches.l1] at H
        by_cases c15 : x23_2 < ((rdS t105 x16_1).length : Int)
        ·rw [if_pos c15] at H
         have c15b0 : decide (x23_2 < ((rdS t105 x16_1).length : Int)) = true := decide_eq_true c15;clear c15
         by_cases c16 : 0 ≤ x23_2
         ·rw [if_pos c16] at H
          have c16b0 : decide (0 ≤ x23_2) = true := decide_eq_true c16;clear c16
          by_cases c17 : x23_2 < ((rdS t105 x16_1).length : Int)
          ·rw [if_pos c17] at H
           have c17b0 : decide (x23_2 < ((rdS t105 x16_1).length : Int)) = true := decide_eq_true c17;clear c17
           by_cases c18 : 0 ≤ (rd (rdS t105 x16_1) x23_2)
           ·rw [if_pos c18] at H
            have c18b0 : decide (0 ≤ (rd (rdS t105 x16_1) x23_2)) = true := decide_eq_true c18;clear c18
            by_cases c19 : (rd (rdS t105 x16_1) x23_2) < (l0_2.length : Int)
            ·rw [if_pos c19] at H
             have c19b0 : decide ((rd (rdS t105 x16_1) x23_2) < (l0_2.length : Int)) = true := decide_eq_true c19;clear c19
             by_cases c20 : (rd l0_2 (rd (rdS t105 x16_1) x23_2)) = 35
             ·rw [if_pos c20] at H
              have c20b0 : ((rd l0_2 (rd (rdS t105 x16_1) x23_2)) == 35) = true := beq_iff_eq.mpr c20;have c20b1 : ((rd l0_2 (rd (rdS t105 x16_1) x23_2)) != 35) = false := bne_eq_false_iff_eq.mpr c20;clear c20
              by_cases c21 : (x8_2.length : Int) > 0
              ·rw [if_pos c21] at H
               have c21b0 : decide (0 < (x8_2.length : Int)) = true := decide_eq_true c21;have c21b1 : decide (0 < x8_2.length) = true := decide_eq_true (by omega);clear c21
               by_cases c22 : x5_2.length < 5864062014805
               ·rw [if_pos c22] at H
                have LMc22 := Aside0.mk c22;clear c22;obtain ⟨y117, hy117⟩ : ∃ y_ : List (List Int), y_ = (x5_2 ++ [x8_2]) := ⟨_, rfl⟩;replace H : (impl_tray_stretches.l1 k2 y117 ([] : List Int) t105 (t105.length : Int) x16_1 (rdS t105 x16_1) ((rdS t105 x16_1).length : Int) (wrap64 (x23_2 + 1)) a0_0 a0_1 l0_2) = some r := rH hy117 H;have Ny117 := Aside0.mk hy117;clear hy117;have H' := Aside0.mk H;clear H;have p115 : 0 ≤ (x23_2 : Int) := of_decide_eq_true (by first | (with_reducible assumption) | assumption);have q115 : x23_2 < ((rdS t105 x16_1).length : Int) := of_decide_eq_true (by first | (with_reducible assumption) | assumption);obtain ⟨ad115, e115, hx115_0⟩ := Kd.at_int HR108_0.out x23_2 p115 q115
                cases e115
                (try replace hx115_0 := (HB.out.cell (World.block_lt_of_cell? w _ hx115_0)).trans hx115_0)
                replace p115 := eq_true p115;replace q115 := eq_true q115;have hcz23_0 : wr.cell? ⟨gb101, 0, none⟩ = some (.int .i64 a0_0) := (blk_cell BK101.out 0).trans rfl;have hcz23_1 : wr.cell? ⟨gb101, 1, none⟩ = some (.int .i64 a0_1) := (blk_cell BK101.out 1).trans rfl;have hcz23_2 : wr.cell? ⟨gb101, 2, none⟩ = some (.slice A0_2 l0_2.length c0_2) := (blk_cell BK101.out 2).trans rfl;have hfz23_0 := blk_frozen BK101.out 0;have hfz23_1 := blk_frozen BK101.out 1;have hfz23_2 := blk_frozen BK101.out 2;have p116 : 0 ≤ ((rd (rdS t105 x16_1) x23_2) : Int) := of_decide_eq_true (by first | (with_reducible assumption) | assumption);have q116 : (rd (rdS t105 x16_1) x23_2) < (l0_2.length : Int) := of_decide_eq_true (by first | (with_reducible assumption) | assumption);obtain ⟨ad116, e116, hx116_0⟩ := Kd.at_int HR0_2.out (rd (rdS t105 x16_1) x23_2) p116 q116
                cases e116
                (try replace hx116_0 := (HB.out.cell (World.block_lt_of_cell? w _ hx116_0)).trans hx116_0)
                replace p116 := eq_true p116;replace q116 := eq_true q116;obtain ⟨Ao24, co24, eo24⟩ := Kd.R_slice HO_8.out;subst eo24
                go_wp2_with (first | ((with_reducible refine gate_builtin (b := .append) (xs := #[.tmp 40, .tmp 42]) rfl ?_); at_builtin; refine Kd.S_append (Kd.slice 3 (Kd.int .i64)) (w0 := w) w.heap.size rfl (.tmp 40) (.tmp 42) 44 39 (.slice none 0 0) 24 rfl Tryz.underlying44 info39 rfl (by decide) (by omega) u5 x5_2 x8_2 [.slice Ao24 x8_2.length co24] (fun k_ => some k_ ≠ (.slice (some ad108) t105.length co9 : Value).ownBlock) (fun k_ => some k_ = (.slice Ao24 x8_2.length co24 : Value).ownBlock) rfl rfl ?aP (fun k_ hk_ => ((Kd.R_mono (ok' := fun k_ => ((fun k_ => some k_ ≠ (.slice (some ad108) t105.length co9 : Value).ownBlock)) k_ ∧ some k_ ≠ (u5 : Value).ownBlock) (Kd.R_apart' (Kd.R_apart' (HO_8.out) (Kd.S_typed HO_14.out) (by decide)) (Kd.S_typed HO_5.out) (by decide)) (fun k_ hk => ⟨hk.1.2, hk.2⟩))).1 k_ hk_.symm) ?aF ?aO ?aB ?aS ?aL ?_; (case aP => exact Kd.M_row (Kd.R_mono (Kd.R_tight rfl (Kd.R_mono (ok' := fun k_ => ((fun k_ => some k_ ≠ (.slice (some ad108) t105.length co9 : Value).ownBlock)) k_ ∧ some k_ ≠ (u5 : Value).ownBlock) (Kd.R_apart' (Kd.R_apart' (HO_8.out) (Kd.S_typed HO_14.out) (by decide)) (Kd.S_typed HO_5.out) (by decide)) (fun k_ hk => ⟨hk.1.2, hk.2⟩))) (fun _ h_ => h_))); (case aB => exact (bel HB)); (case aF => exact (fun k_ hk => Kd.fresh' (Kd.S_lt (by (with_reducible repeat (first | apply Kd.S_alloc | apply Kd.S_drewN | apply Kd.S_drew)); (first | exact HO_14.out | exact R_any HO_14.out))) k_ hk)); (case aO => exact (by (with_reducible repeat (first | apply Kd.S_alloc | apply Kd.S_drewN | apply Kd.S_drew)); exact Kd.S_mono HO_5.out (fun k_ hk => ⟨hk.2, fun e_ => hk.1 e_⟩))); (case aS => exact (below_size (bel HB))); (case aL => have := LMc22.out; omega); intro v118 w25 ho hb hg hat; rw [← Ny117.out] at ho; have n0_ := Aside0.mk (Kd.S_after (ok := (fun k_ => some k_ ≠ (.slice Ao24 x8_2.length co24 : Value).ownBlock)) (by (with_reducible repeat (first | apply Kd.S_alloc | apply Kd.S_drewN | apply Kd.S_drew)); exact Kd.S_mono HO_14.out (fun _ hk => ⟨hk.2, hk.1⟩)) hg hat); have n1_ := Aside0.mk (blk_grown (g := gb101) (o := .cells #[.int .i64 a0_0, .int .i64 a0_1, .slice (some ad116) l0_2.length c0_2] 64 (0, 0)) blc hg (Kd.S_ne HO_5.out BK101.out (by decide))); have n2_ := Aside0.mk (Kd.R_over' (by (with_reducible repeat (first | apply Kd.R_alloc | apply Kd.R_drewN | apply Kd.R_drew)); exact HL108_0.out) (Kd.S_typed (by (with_reducible repeat (first | apply Kd.S_alloc | apply Kd.S_drewN | apply Kd.S_drew)); (first | exact HO_5.out | exact R_any HO_5.out))) (by decide) hg); have n3_ := Aside0.mk (hb); have n4_ := Aside0.mk (ho); clear HO_14; clear BK101; clear HL108_0; clear HB; clear HO_5; clear HO_8; have HO_14 := n0_; have BK101 := n1_; have HL108_0 := n2_; have HB := n3_; have HO119 := n4_; clear n0_ n1_ n2_ n3_ n4_; clear ho hb hg hat))
                go_roundg k2
                case measure => have := HK1.out; have := HK2.out; omega
                case rel => exact ⟨(y117), (([] : List Int)), (wrap64 (x23_2 + 1)), (by first | rfl | (simp; done) | (simp [*]; done)), H', ⟨by have := HK1.out; have := HK2.out; omega⟩, ⟨by (with_reducible repeat (first | apply Kd.S_alloc | apply Kd.S_drewN | apply Kd.S_drew)); exact Kd.S_mono HO119.out (fun _ hk => ⟨(by simp [Value.ownBlock]), hk⟩)⟩, ⟨by first | exact Kd.R_nil _ _ _ _ _ | exact Kd.N_nil _ _ _ _ _ | exact Kd.V_nil _ _ _ _ _ | exact Kd.Q_nil _ _ _ _ _ | exact Kd.S_nil _ _ _ _ _⟩, ⟨by (with_reducible repeat (first | apply Kd.S_alloc | apply Kd.S_drewN | apply Kd.S_drew)); exact Kd.S_mono HO_14.out (fun _ hk => ⟨hk.2, (by simp [Value.ownBlock])⟩)⟩, ⟨blc⟩, ⟨by (with_reducible repeat (first | apply Kd.R_alloc | apply Kd.R_drewN | apply Kd.R_drew)); exact Kd.R_mono HL108_0.out (fun _ hk => (by simp [Value.ownBlock]))⟩, ⟨bel HB⟩⟩
               ·rw [if_neg c22] at H
                exact absurd H (by simp)
              ·rw [if_neg c21] at H
               have c21b0 : decide (0 < (x8_2.length : Int)) = false := decide_eq_false c21;have c21b1 : decide (0 < x8_2.length) = false := decide_eq_false (by omega);clear c21;have H' := Aside0.mk H;clear H;have p115 : 0 ≤ (x23_2 : Int) := of_decide_eq_true (by first | (with_reducible assumption) | assumption);have q115 : x23_2 < ((rdS t105 x16_1).length : Int) := of_decide_eq_true (by first | (with_reducible assumption) | assumption);obtain ⟨ad115, e115, hx115_0⟩ := Kd.at_int HR108_0.out x23_2 p115 q115
               cases e115
               (try replace hx115_0 := (HB.out.cell (World.block_lt_of_cell? w _ hx115_0)).trans hx115_0)
               replace p115 := eq_true p115;replace q115 := eq_true q115;have hcz26_0 : wr.cell? ⟨gb101, 0, none⟩ = some (.int .i64 a0_0) := (blk_cell BK101.out 0).trans rfl;have hcz26_1 : wr.cell? ⟨gb101, 1, none⟩ = some (.int .i64 a0_1) := (blk_cell BK101.out 1).trans rfl;have hcz26_2 : wr.cell? ⟨gb101, 2, none⟩ = some (.slice A0_2 l0_2.length c0_2) := (blk_cell BK101.out 2).trans rfl;have hfz26_0 := blk_frozen BK101.out 0;have hfz26_1 := blk_frozen BK101.out 1;have hfz26_2 := blk_frozen BK101.out 2;have p116 : 0 ≤ ((rd (rdS t105 x16_1) x23_2) : Int) := of_decide_eq_true (by first | (with_reducible assumption) | assumption);have q116 : (rd (rdS t105 x16_1) x23_2) < (l0_2.length : Int) := of_decide_eq_true (by first | (with_reducible assumption) | assumption);obtain ⟨ad116, e116, hx116_0⟩ := Kd.at_int HR0_2.out (rd (rdS t105 x16_1) x23_2) p116 q116
               cases e116
               (try replace hx116_0 := (HB.out.cell (World.block_lt_of_cell? w _ hx116_0)).trans hx116_0)
               replace p116 := eq_true p116;replace q116 := eq_true q116;obtain ⟨Ao27, co27, eo27⟩ := Kd.R_slice HO_8.out;subst eo27
               go_wp2
               go_roundg k2
               case measure => have := HK1.out; have := HK2.out; omega
               case rel => exact ⟨(x5_2), (x8_2), (wrap64 (x23_2 + 1)), (by first | rfl | (simp; done) | (simp [*]; done)), H', ⟨by have := HK1.out; have := HK2.out; omega⟩, ⟨by (with_reducible repeat (first | apply Kd.S_alloc | apply Kd.S_drewN | apply Kd.S_drew)); (first | exact HO_5.out | exact R_any HO_5.out)⟩, ⟨rch HO_8⟩, ⟨by (with_reducible repeat (first | apply Kd.S_alloc | apply Kd.S_drewN | apply Kd.S_drew)); (first | exact HO_14.out | exact R_any HO_14.out)⟩, ⟨blc⟩, ⟨by (with_reducible repeat (first | apply Kd.R_alloc | apply Kd.R_drewN | apply Kd.R_drew)); exact HL108_0.out⟩, ⟨bel HB⟩⟩
             ·rw [if_neg c20] at H
              have c20b0 : ((rd l0_2 (rd (rdS t105 x16_1) x23_2)) == 35) = false := beq_eq_false_iff_ne.mpr c20;have c20b1 : ((rd l0_2 (rd (rdS t105 x16_1) x23_2)) != 35) = true := bne_iff_ne.mpr c20
              by_cases c28 : x8_2.length < 17592186044416
              ·rw [if_pos c28] at H
               have LMc28 := Aside0.mk c28;clear c28;obtain ⟨y120, hy120⟩ : ∃ y_ : List Int, y_ = (x8_2 ++ [rd (rdS t105 x16_1) x23_2]) := ⟨_, rfl⟩;replace H : (impl_tray_stretches.l1 k2 x5_2 y120 t105 (t105.length : Int) x16_1 (rdS t105 x16_1) ((rdS t105 x16_1).length : Int) (wrap64 (x23_2 + 1)) a0_0 a0_1 l0_2) = some r := rH hy120 H;have Ny120 := Aside0.mk hy120;clear hy120;have H' := Aside0.mk H;clear H;have p115 : 0 ≤ (x23_2 : Int) := of_decide_eq_true (by first | (with_reducible assumption) | assumption);have q115 : x23_2 < ((rdS t105 x16_1).length : Int) := of_decide_eq_true (by first | (with_reducible assumption) | assumption);obtain ⟨ad115, e115, hx115_0⟩ := Kd.at_int HR108_0.out x23_2 p115 q115
               cases e115
               (try replace hx115_0 := (HB.out.cell (World.block_lt_of_cell? w _ hx115_0)).trans hx115_0)
               replace p115 := eq_true p115;replace q115 := eq_true q115;have hcz29_0 : wr.cell? ⟨gb101, 0, none⟩ = some (.int .i64 a0_0) := (blk_cell BK101.out 0).trans rfl;have hcz29_1 : wr.cell? ⟨gb101, 1, none⟩ = some (.int .i64 a0_1) := (blk_cell BK101.out 1).trans rfl;have hcz29_2 : wr.cell? ⟨gb101, 2, none⟩ = some (.slice A0_2 l0_2.length c0_2) := (blk_cell BK101.out 2).trans rfl;have hfz29_0 := blk_frozen BK101.out 0;have hfz29_1 := blk_frozen BK101.out 1;have hfz29_2 := blk_frozen BK101.out 2;have p116 : 0 ≤ ((rd (rdS t105 x16_1) x23_2) : Int) := of_decide_eq_true (by first | (with_reducible assumption) | assumption);have q116 : (rd (rdS t105 x16_1) x23_2) < (l0_2.length : Int) := of_decide_eq_true (by first | (with_reducible assumption) | assumption);obtain ⟨ad116, e116, hx116_0⟩ := Kd.at_int HR0_2.out (rd (rdS t105 x16_1) x23_2) p116 q116
               cases e116
               (try replace hx116_0 := (HB.out.cell (World.block_lt_of_cell? w _ hx116_0)).trans hx116_0)
               replace p116 := eq_true p116;replace q116 := eq_true q116
               go_wp2_with (first | ((with_reducible refine gate_builtin (b := .append) (xs := #[.tmp 33, .tmp 35]) rfl ?_); at_builtin; refine Kd.R_append (Kd.int .i64) (w0 := w) w.heap.size rfl (.tmp 33) (.tmp 35) 39 3 (.int .i64 0) 8 rfl Tryz.underlying39 info3 rfl (by decide) (by omega) u8 x8_2 (rd (rdS t105 x16_1) x23_2) [.int .i64 (rd (rdS t105 x16_1) x23_2)] (fun _ => True) (fun _ => False) rfl rfl ?aP (fun _ hk => hk.elim) ?aF ?aO ?aB ?aS ?aL ?_; (case aP => exact rfl); (case aB => exact (bel HB)); (case aF => exact (fun _ _ => trivial)); (case aO => exact (rch HO_8)); (case aS => exact (below_size (bel HB))); (case aL => have := LMc28.out; omega); intro v121 w30 ho hb hg hat; rw [← Ny120.out] at ho; have n0_ := Aside0.mk (Kd.S_after (ok := (fun k_ => some k_ ≠ (.slice (some ad108) t105.length co9 : Value).ownBlock)) (by (with_reducible repeat (first | apply Kd.S_alloc | apply Kd.S_drewN | apply Kd.S_drew)); exact Kd.S_mono HO_5.out (fun _ hk => ⟨hk.2, hk.1⟩)) hg hat); have n1_ := Aside0.mk (Kd.S_after (ok := (fun k_ => some k_ ≠ (u5 : Value).ownBlock)) (by (with_reducible repeat (first | apply Kd.S_alloc | apply Kd.S_drewN | apply Kd.S_drew)); (first | exact HO_14.out | exact R_any HO_14.out)) hg hat); have n2_ := Aside0.mk (blk_grown (g := gb101) (o := .cells #[.int .i64 a0_0, .int .i64 a0_1, .slice (some ad116) l0_2.length c0_2] 64 (0, 0)) blc hg (Kd.R_ne HO_8.out BK101.out (by decide))); have n3_ := Aside0.mk (Kd.R_after (ok := (fun _ => True)) (by (with_reducible repeat (first | apply Kd.R_alloc | apply Kd.R_drewN | apply Kd.R_drew)); exact Kd.R_mono HL108_0.out (fun _ hk => ⟨trivial, hk⟩)) hg hat); have n4_ := Aside0.mk (hb); have n5_ := Aside0.mk (ho); clear HO_5; clear HO_14; clear BK101; clear HL108_0; clear HB; clear HO_8; have HO_5 := n0_; have HO_14 := n1_; have BK101 := n2_; have HL108_0 := n3_; have HB := n4_; have HO122 := n5_; clear n0_ n1_ n2_ n3_ n4_ n5_; clear ho hb hg hat))
               go_roundg k2
               case measure => have := HK1.out; have := HK2.out; omega
               case rel => exact ⟨(x5_2), (y120), (wrap64 (x23_2 + 1)), (by first | rfl | (simp; done) | (simp [*]; done)), H', ⟨by have := HK1.out; have := HK2.out; omega⟩, ⟨by (with_reducible repeat (first | apply Kd.S_alloc | apply Kd.S_drewN | apply Kd.S_drew)); exact Kd.S_mono HO_5.out (fun _ hk => ⟨hk.2, hk.1⟩)⟩, ⟨rch HO122⟩, ⟨by (with_reducible repeat (first | apply Kd.S_alloc | apply Kd.S_drewN | apply Kd.S_drew)); (first | exact HO_14.out | exact R_any HO_14.out)⟩, ⟨blc⟩, ⟨by (with_reducible repeat (first | apply Kd.R_alloc | apply Kd.R_drewN | apply Kd.R_drew)); exact Kd.R_mono HL108_0.out (fun _ hk => hk.2)⟩, ⟨bel HB⟩⟩
              ·rw [if_neg c28] at H
               exact absurd H (by simp)
            ·rw [if_neg c19] at H
             exact absurd H (by simp)
           ·rw [if_neg c18] at H
            exact absurd H (by simp)
          ·rw [if_neg c17] at H
           exact absurd H (by simp)
         ·rw [if_neg c16] at H
          exact absurd H (by simp)
        ·rw [if_neg c15] at H
         have c15b0 : decide (x23_2 < ((rdS t105 x16_1).length : Int)) = false := decide_eq_false c15;clear c15
         by_cases c31 : (x8_2.length : Int) > 0
         ·rw [if_pos c31] at H
          have c31b0 : decide (0 < (x8_2.length : Int)) = true := decide_eq_true c31;have c31b1 : decide (0 < x8_2.length) = true := decide_eq_true (by omega);clear c31
          by_cases c32 : x5_2.length < 5864062014805
          ·rw [if_pos c32] at H
           have LMc32 := Aside0.mk c32;clear c32;obtain ⟨y112, hy112⟩ : ∃ y_ : List (List Int), y_ = (x5_2 ++ [x8_2]) := ⟨_, rfl⟩;replace H : (impl_tray_stretches.l0 k2 y112 t105 (t105.length : Int) (wrap64 (x16_1 + 1)) a0_0 a0_1 l0_2) = some r := rH hy112 H;have Ny112 := Aside0.mk hy112;clear hy112;have H' := Aside0.mk H;clear H;obtain ⟨Ao33, co33, eo33⟩ := Kd.R_slice HO_8.out;subst eo33
           go_wp2_with (first | ((with_reducible refine gate_builtin (b := .append) (xs := #[.tmp 48, .tmp 50]) rfl ?_); at_builtin; refine Kd.S_append (Kd.slice 3 (Kd.int .i64)) (w0 := w) w.heap.size rfl (.tmp 48) (.tmp 50) 44 39 (.slice none 0 0) 24 rfl Tryz.underlying44 info39 rfl (by decide) (by omega) u5 x5_2 x8_2 [.slice Ao33 x8_2.length co33] (fun k_ => some k_ ≠ (.slice (some ad108) t105.length co9 : Value).ownBlock) (fun k_ => some k_ = (.slice Ao33 x8_2.length co33 : Value).ownBlock) rfl rfl ?aP (fun k_ hk_ => ((Kd.R_mono (ok' := fun k_ => ((fun k_ => some k_ ≠ (.slice (some ad108) t105.length co9 : Value).ownBlock)) k_ ∧ some k_ ≠ (u5 : Value).ownBlock) (Kd.R_apart' (Kd.R_apart' (HO_8.out) (Kd.S_typed HO_14.out) (by decide)) (Kd.S_typed HO_5.out) (by decide)) (fun k_ hk => ⟨hk.1.2, hk.2⟩))).1 k_ hk_.symm) ?aF ?aO ?aB ?aS ?aL ?_; (case aP => exact Kd.M_row (Kd.R_mono (Kd.R_tight rfl (Kd.R_mono (ok' := fun k_ => ((fun k_ => some k_ ≠ (.slice (some ad108) t105.length co9 : Value).ownBlock)) k_ ∧ some k_ ≠ (u5 : Value).ownBlock) (Kd.R_apart' (Kd.R_apart' (HO_8.out) (Kd.S_typed HO_14.out) (by decide)) (Kd.S_typed HO_5.out) (by decide)) (fun k_ hk => ⟨hk.1.2, hk.2⟩))) (fun _ h_ => h_))); (case aB => exact (bel HB)); (case aF => exact (fun k_ hk => Kd.fresh' (Kd.S_lt (by (with_reducible repeat (first | apply Kd.S_alloc | apply Kd.S_drewN | apply Kd.S_drew)); (first | exact HO_14.out | exact R_any HO_14.out))) k_ hk)); (case aO => exact (by (with_reducible repeat (first | apply Kd.S_alloc | apply Kd.S_drewN | apply Kd.S_drew)); exact Kd.S_mono HO_5.out (fun k_ hk => ⟨hk.2, fun e_ => hk.1 e_⟩))); (case aS => exact (below_size (bel HB))); (case aL => have := LMc32.out; omega); intro v113 w34 ho hb hg hat; rw [← Ny112.out] at ho; have n0_ := Aside0.mk (Kd.S_after (ok := (fun k_ => some k_ ≠ (.slice Ao33 x8_2.length co33 : Value).ownBlock)) (by (with_reducible repeat (first | apply Kd.S_alloc | apply Kd.S_drewN | apply Kd.S_drew)); exact Kd.S_mono HO_14.out (fun _ hk => ⟨hk.2, hk.1⟩)) hg hat); have n1_ := Aside0.mk (blk_grown (g := gb101) (o := .cells #[.int .i64 a0_0, .int .i64 a0_1, .slice A0_2 l0_2.length c0_2] 64 (0, 0)) blc hg (Kd.S_ne HO_5.out BK101.out (by decide))); have n2_ := Aside0.mk (Kd.R_over' (by (with_reducible repeat (first | apply Kd.R_alloc | apply Kd.R_drewN | apply Kd.R_drew)); exact HL108_0.out) (Kd.S_typed (by (with_reducible repeat (first | apply Kd.S_alloc | apply Kd.S_drewN | apply Kd.S_drew)); (first | exact HO_5.out | exact R_any HO_5.out))) (by decide) hg); have n3_ := Aside0.mk (hb); have n4_ := Aside0.mk (ho); clear HO_14; clear BK101; clear HL108_0; clear HB; clear HO_5; clear HO_8; have HO_14 := n0_; have BK101 := n1_; have HL108_0 := n2_; have HB := n3_; have HO114 := n4_; clear n0_ n1_ n2_ n3_ n4_; clear ho hb hg hat))
           go_roundg k2
           case measure => have := HK1.out; have := HK2.out; omega
           case rel => exact ⟨(y112), (wrap64 (x16_1 + 1)), (by first | rfl | (simp; done) | (simp [*]; done)), H', ⟨by have := HK1.out; have := HK2.out; omega⟩, ⟨by (with_reducible repeat (first | apply Kd.S_alloc | apply Kd.S_drewN | apply Kd.S_drew)); (first | exact HO114.out | exact R_any HO114.out)⟩, ⟨by (with_reducible repeat (first | apply Kd.S_alloc | apply Kd.S_drewN | apply Kd.S_drew)); exact Kd.S_mono HO_14.out (fun _ hk => hk.2)⟩, ⟨blc⟩, ⟨bel HB⟩⟩
          ·rw [if_neg c32] at H
           exact absurd H (by simp)
         ·rw [if_neg c31] at H
          have c31b0 : decide (0 < (x8_2.length : Int)) = false := decide_eq_false c31;have c31b1 : decide (0 < x8_2.length) = false := decide_eq_false (by omega);clear c31;have H' := Aside0.mk H;clear H;obtain ⟨Ao35, co35, eo35⟩ := Kd.R_slice HO_8.out;subst eo35
          go_wp2
          go_roundg k2
          case measure => have := HK1.out; have := HK2.out; omega
          case rel => exact ⟨(x5_2), (wrap64 (x16_1 + 1)), (by first | rfl | (simp; done) | (simp [*]; done)), H', ⟨by have := HK1.out; have := HK2.out; omega⟩, ⟨by (with_reducible repeat (first | apply Kd.S_alloc | apply Kd.S_drewN | apply Kd.S_drew)); exact Kd.S_mono HO_5.out (fun _ hk => hk.2)⟩, ⟨by (with_reducible repeat (first | apply Kd.S_alloc | apply Kd.S_drewN | apply Kd.S_drew)); exact Kd.S_mono HO_14.out (fun _ hk => hk.1)⟩, ⟨blc⟩, ⟨bel HB⟩⟩
     ·rw [if_neg c12] at H
      exact absurd H (by simp)
    ·rw [if_neg c11] at H
     exact absurd H (by simp)
   ·rw [if_neg c10] at H
    have c10b0 : decide (x16_1 < (t105.length : Int)) = false := decide_eq_false c10;clear c10;have A36 := Aside0.mk H;obtain ⟨Ao37, co37, eo37⟩ := Kd.S_slice HO_5.out;subst eo37
    go_wp2_with (first | ((with_reducible refine gate_callee (f := 93) rfl ?_); refine gcall (some 54) Tryz.func93 #[.slice Ao37 x5_1.length co37, .func (.func 94) #[] #[]] rfl ?_; (with_reducible refine (slices_SortFunc_str.calls (fun _ => True) _ x5_1 r w _ (bel HB) ?side1 A36.out).mono ?_); (case side1 => exact (by (with_reducible repeat (first | apply Kd.S_alloc | apply Kd.S_drewN | apply Kd.S_drew)); exact Kd.S_mono HO_5.out (fun _ hk => trivial))); rintro e w38 ⟨rfl, ho, hb⟩; refine ⟨_, rfl, ?_⟩; clear HO_5 HO_14 BK101 HB; have HO_5 := Aside0.mk ho; have HB := Aside0.mk hb))
    go_ret
    exact ⟨_, by first | rfl | (simp [errW_none, errW_some] <;> rfl) | (simp [*, errW_none, errW_some] <;> rfl), by (with_reducible repeat (first | apply Kd.S_alloc | apply Kd.S_drewN | apply Kd.S_drew)); exact Kd.S_mono HO_5.out (fun _ hk => trivial), bel HB⟩
end Go.Proofs.YtchjgphnglklcaaGreatDoor.Q
end
