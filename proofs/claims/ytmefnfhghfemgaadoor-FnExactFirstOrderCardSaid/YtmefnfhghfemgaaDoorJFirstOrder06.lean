/- Texts of this claim, joined. -/
import Derived.Test.YtmefnfhghfemgaaDoorJFirstOrder01
import Derived.Test.YtmefnfhghfemgaaDoorJFirstOrder05
import Derived.RangeFuncBox
import Derived.RangeFuncLeaves
import Derived.RangeFuncNested
import Derived.RangeFuncBound
import Derived.RangeFuncCalls
import Derived.Shelf.Abstract
import Derived.WalkKit
import Derived.OwnWalkIn
import Derived.TacticsInMore
import Derived.LoopNIn
import Derived.LoopIn
import Derived.Maps.AppendAt
import Derived.Laws.BytesArg
import Derived.Test.YtmefnfhghfemgaaDoorJFirstOrder02
import Derived.Test.YtmefnfhghfemgaaDoorJFirstOrder04
import Derived.Maps.OwnOps
import Derived.Maps.OwnSet
import Derived.Maps.Views
import Derived.Maps.RangeWalk
set_option linter.unusedVariables false
set_option linter.unusedSimpArgs false
set_option linter.unusedSectionVars false
section
namespace Go.Proofs.YtmefnfhghfemgaaDoor.Q
open Go.RowKit Go.Proofs.YtmefnfhghfemgaaDoorW.PrintWords Go.Proofs.YtmefnfhghfemgaaDoorW.PrintLast Go.Proofs.YtmefnfhghfemgaaDoorW.PrintMore
attribute [local go_sem] max2_int min2_int max_two min_two max_three min_three max_four min_four
set_option linter.unusedVariables false
set_option linter.unusedSimpArgs false
def impl_tray_own.f (a0_0 : Int) (a0_1 : Int) (l0_2 : List Int) : Option (Int × Int × List Int) := (slices_Clone_u8.f l0_2).bind fun t103 => (some (a0_0, a0_1, t103))
def impl_tray_own.T1 : Bool × List (List Nat × List Nat) := (true, [([], []), ([0], [0]), ([], []), ([2], [2]), ([], []), ([4], [4]), ([5], [5]), ([1, 3, 6], [1, 3, 6]), ([7, 6, 0, 1, 2, 3, 4, 5, 6, 7], [7])])
def impl_tray_own.B1 : List Nat := [0, 1, 0, 4, 0, 16, 48, 127, 255]
theorem impl_tray_own.tab1 : rtab .any (opsOf Tryd.f106 1) = impl_tray_own.T1 := by kernel_rfl
theorem impl_tray_own.bits1 : waitsOk impl_tray_own.T1.2 impl_tray_own.B1 = true := by kernel_rfl
set_option maxHeartbeats 8000000 in
set_option maxRecDepth 100000 in
theorem impl_tray_own.calls (a0_0 : Int) (a0_1 : Int) (A0_2 : Option Addr) (c0_2 : Nat) (l0_2 : List Int) (r1 : Int) (r2 : Int) (r3 : List Int) (w : World) (hr0_2 : Kd.C (Kd.int .u8) w A0_2 l0_2.length l0_2) (hc0_2 : l0_2.length ≤ c0_2) (h : impl_tray_own.f a0_0 a0_1 l0_2 = some (r1, r2, r3)) :
  Calls Tryd.prog 106 #[.agg #[.int .i64 a0_0, .int .i64 a0_1, .slice A0_2 l0_2.length c0_2]] w fun e w' => ∃ v2_ : Value, e = .returned (.agg #[.int .i64 r1, .int .i64 r2, v2_]) ∧ Kd.R (Kd.int .u8) 5 w' w.heap.size (fun _ => True) v2_ r3 ∧ Below w.heap.size w w' := by
 have hu46 := Tryd.underlying46
 have HR0_2 := Aside0.mk hr0_2
 have HC0_2 := Aside0.mk hc0_2
 clear hr0_2 hc0_2
 have HB := Aside0.mk (Below.refl w.heap.size w)
 have H : ((slices_Clone_u8.f l0_2).bind fun t103 => (some (a0_0, a0_1, t103))) = some (r1, r2, r3) := h
 clear h
 replace H := Option.bind_eq_some_iff.mp H
 obtain ⟨t103, A20, H⟩ := H
 replace H : (some (a0_0, a0_1, t103)) = some (r1, r2, r3) := H
 have A2 := Aside0.mk A20
 clear A20
 simp only [Option.some.injEq, Prod.mk.injEq] at H
 obtain ⟨rfl, rfl, rfl⟩ := H
 go_enter Tryd.func106, Tryd.ntmps106
 try go_wp2_with (first | ((with_reducible refine gate_dst (N := 1) rfl ?_); refine boxE (N := 1) (cs := #[.int .i64 a0_0, .int .i64 a0_1, .slice A0_2 l0_2.length c0_2]) (t := 46) ?_; intro gb101 hg w3 hbox hb; have n0_ := Aside0.mk (below_step (bel HB) hb); have n1_ := Aside0.mk (hbox); have n2_ := Aside0.mk (gsz hg (bel HB)); have n3_ := Aside0.mk (gsz hg (bel HB)); clear HB; have HB := n0_; have BK101 := n1_; have GW101 := n2_; have GE101 := n3_; clear n0_ n1_ n2_ n3_; clear hb hbox hg) | ((with_reducible refine gate_dst (N := 2) rfl ?_); refine boxE (N := 2) (cs := #[.int .i64 0, .int .i64 0, .slice none 0 0]) (t := 46) ?_; intro gb102 hg w4 hbox hb; have n0_ := Aside0.mk (blk_below (g := gb101) (o := .cells #[.int .i64 a0_0, .int .i64 a0_1, .slice A0_2 l0_2.length c0_2] 46 (0, 0)) blc hb); have n1_ := Aside0.mk (below_step (bel HB) hb); have n2_ := Aside0.mk (hbox); have n3_ := Aside0.mk (gsz hg (bel HB)); have n4_ := Aside0.mk (gsz hg (bel HB)); have n5_ := Aside0.mk ((by rw [hg]; exact Nat.ne_of_lt (blk_lt (g := gb101) (o := .cells #[.int .i64 a0_0, .int .i64 a0_1, .slice A0_2 l0_2.length c0_2] 46 (0, 0)) blc) : gb101 ≠ gb102)); have n6_ := Aside0.mk ((by rw [hg]; exact Nat.ne_of_gt (blk_lt (g := gb101) (o := .cells #[.int .i64 a0_0, .int .i64 a0_1, .slice A0_2 l0_2.length c0_2] 46 (0, 0)) blc) : gb102 ≠ gb101)); clear BK101; clear HB; have BK101 := n0_; have HB := n1_; have BK102 := n2_; have GW102 := n3_; have GE102 := n4_; have NB101_102 := n5_; have NB102_101 := n6_; clear n0_ n1_ n2_ n3_ n4_ n5_ n6_; clear hb hbox hg))
 have n0_ := Aside0.mk (blk_drew BK101.out)
 have n1_ := Aside0.mk (blk_drew BK102.out)
 have n2_ := Aside0.mk (below_drew1 HB.out)
 clear BK101
 clear BK102
 clear HB
 have BK101 := n0_
 have BK102 := n1_
 have HB := n2_
 clear n0_ n1_ n2_
 refine start_ (n := 9) (S := fun w' => w'.cell? ⟨gb101, 0, none⟩ = some (.int .i64 a0_0) ∧ w'.cell? ⟨gb101, 1, none⟩ = some (.int .i64 a0_1) ∧ w'.cell? ⟨gb101, 2, none⟩ = some (.slice A0_2 l0_2.length c0_2)) (ds := []) #[false, false, false, false, false, false, false, false, false] (by kernel_rfl) rfl rfl ⟨(blk_cell BK101.out 0).trans rfl, (blk_cell BK101.out 1).trans rfl, (blk_cell BK101.out 2).trans rfl⟩ (fun hHeld => ?_); refine with_tabW impl_tray_own.tab1 impl_tray_own.bits1 (fun HT_ HW_ => ?_)
 generalize w4.drew = w5 at BK101 BK102 HB hHeld ⊢
 refine pure_ (i := 0) (N := some 3) (v := ?_) (a' := ?_) #[true, false, false, false, false, false, false, false, false] rfl rfl (any_of HT_.out (by kernel_rfl)) (fun _ _ _ h => h) (Or.inl ⟨by rfl, ?_⟩) ?_ ?_
 rotate_left
 ·intro w'
  go_simp
  with_reducible rfl
 rotate_left
 ·simp only [Act.put, List.setIfInBounds_toArray, List.set_cons_zero, List.set_cons_succ, i64_w, i32_w]
  rfl
 refine pure_ (i := 2) (N := some 5) (v := ?_) (a' := ?_) #[true, false, true, false, false, false, false, false, false] rfl rfl (any_of HT_.out (by kernel_rfl)) (fun _ _ _ h => h) (Or.inl ⟨by rfl, ?_⟩) ?_ ?_
 rotate_left
 ·intro w'
  go_simp
  with_reducible rfl
 rotate_left
 ·simp only [Act.put, List.setIfInBounds_toArray, List.set_cons_zero, List.set_cons_succ, i64_w, i32_w]
  rfl
 refine pure_ (i := 4) (N := some 7) (v := ?_) (a' := ?_) #[true, false, true, false, true, false, false, false, false] rfl rfl (any_of HT_.out (by kernel_rfl)) (fun _ _ _ h => h) (Or.inl ⟨by rfl, ?_⟩) ?_ ?_
 rotate_left
 ·intro w'
  go_simp
  with_reducible rfl
 rotate_left
 ·simp only [Act.put, List.setIfInBounds_toArray, List.set_cons_zero, List.set_cons_succ, i64_w, i32_w]
  rfl
 refine take_ (i := 1) (N := some 4) (v := ?_) (a' := ?_) #[true, true, true, false, true, false, false, false, false] rfl rfl (take_ofW HT_.out HW_.out (by kernel_rfl)) (fun _ _ _ h => h) (Or.inl ⟨by rfl, ?_⟩) hHeld ?_ ?_
 rotate_left
 ·rintro w' ⟨s0, s1, s2⟩
  go_simp
  with_reducible rfl
 rotate_left
 ·simp only [Act.put, List.setIfInBounds_toArray, List.set_cons_zero, List.set_cons_succ, i64_w, i32_w]
  rfl
 refine take_ (i := 3) (N := some 6) (v := ?_) (a' := ?_) #[true, true, true, true, true, false, false, false, false] rfl rfl (take_ofW HT_.out HW_.out (by kernel_rfl)) (fun _ _ _ h => h) (Or.inl ⟨by rfl, ?_⟩) hHeld ?_ ?_
 rotate_left
 ·rintro w' ⟨s0, s1, s2⟩
  go_simp
  with_reducible rfl
 rotate_left
 ·simp only [Act.put, List.setIfInBounds_toArray, List.set_cons_zero, List.set_cons_succ, i64_w, i32_w]
  rfl
 refine take_ (i := 5) (N := some 8) (v := ?_) (a' := ?_) #[true, true, true, true, true, true, false, false, false] rfl rfl (take_ofW HT_.out HW_.out (by kernel_rfl)) (fun _ _ _ h => h) (Or.inl ⟨by rfl, ?_⟩) hHeld ?_ ?_
 rotate_left
 ·rintro w' ⟨s0, s1, s2⟩
  go_simp
  with_reducible rfl
 rotate_left
 ·simp only [Act.put, List.setIfInBounds_toArray, List.set_cons_zero, List.set_cons_succ, i64_w, i32_w]
  rfl
 refine one_ (i := 6) (N := some 9) #[true, true, true, true, true, true, true, false, false] rfl rfl (one_of HT_.out (by kernel_rfl)) (by decide) (fun K hK => ?_)
 refine goes_ Tryd.func134 (by kernel_rfl) rfl #[.slice A0_2 l0_2.length c0_2] (by rfl) rfl rfl (by (try simp only [List.map_toArray, List.map_cons, List.map_nil]); first | done | rfl | (simp only [List.length_drop, List.length_take]; rfl)) ?_
 with_reducible refine (slices_Clone_u8.calls _ _ l0_2 t103 _ ?side1 ?side2 A2.out).mono ?_
 (case side1 => repeat (first | exact (Kd.C_below HR0_2.out HB.out) | (with_reducible refine Kd.C_alloc ?_ _) | (with_reducible refine Kd.C_drewN ?_ _) | (with_reducible refine Kd.C_drew ?_)))
 (case side2 => exact HC0_2.out)
 rintro e w6 ⟨v104, rfl, ho0, hb⟩
 refine ⟨_, rfl, ?_⟩
 have n0_ := Aside0.mk (Kd.R_lower ho0 (below_size (bel HB)))
 have n1_ := Aside0.mk (blk_below (g := gb101) (o := .cells #[.int .i64 a0_0, .int .i64 a0_1, .slice A0_2 l0_2.length c0_2] 46 (0, 0)) blc hb)
 have n2_ := Aside0.mk (blk_below (g := gb102) (o := .cells #[.int .i64 0, .int .i64 0, .slice none 0 0] 46 (0, 0)) blc hb)
 have n3_ := Aside0.mk (below_step (bel HB) hb)
 clear BK101
 clear BK102
 clear HB
 have HO105 := n0_
 have BK101 := n1_
 have BK102 := n2_
 have HB := n3_
 clear n0_ n1_ n2_ n3_
 (try clear hb)
 (try clear hb2)
 (try clear hk)
 (try clear hi)
 (try clear ho0)
 obtain ⟨Ao7, co7, eo7⟩ := Kd.R_slice HO105.out
 (first | subst eo7 | (injection eo7 with f1_ f2_ f3_; have f4_ := f1_.symm; have f5_ := f3_.symm; clear f1_ f2_ f3_; subst f4_; subst f5_))
 refine hK.out _ _ ⟨(blk_cell BK101.out 0).trans rfl, (blk_cell BK101.out 1).trans rfl, (blk_cell BK101.out 2).trans rfl⟩ (fun hHeld => ?_)
 clear hK K
 refine norm_ (a' := ?_) ?_ ?_
 rotate_left
 ·show Act.put _ (some 9) _ = _
  simp only [Act.put, List.setIfInBounds_toArray, List.set_cons_zero, List.set_cons_succ, i64_w, i32_w]
  rfl
 refine pure_ (i := 7) (N := some 10) (v := ?_) (a' := ?_) #[true, true, true, true, true, true, true, true, false] rfl rfl (any_of HT_.out (by kernel_rfl)) (fun _ _ _ h => h) (Or.inl ⟨by rfl, ?_⟩) ?_ ?_
 rotate_left
 ·intro w'
  go_simp
  with_reducible rfl
 rotate_left
 ·simp only [Act.put, List.setIfInBounds_toArray, List.set_cons_zero, List.set_cons_succ, i64_w, i32_w]
  rfl
 refine one_ (i := 8) (N := none) #[true, true, true, true, true, true, true, true, true] rfl rfl (one_of HT_.out (by kernel_rfl)) (by decide) (fun K hK => ?_)
 have hs8 : w6.cell? ⟨gb102, 0, none⟩ = some (.int .i64 0) := (blk_cell BK102.out 0).trans rfl
 have hfs8 := blk_frozen BK102.out 0
 have hns8_0 := NB101_102.out
 have hms8_0 := NB102_101.out
 have hs9 : w6.cell? ⟨gb102, 1, none⟩ = some (.int .i64 0) := (blk_cell BK102.out 1).trans rfl
 have hfs9 := blk_frozen BK102.out 1
 have hns9_0 := NB101_102.out
 have hms9_0 := NB102_101.out
 have hs10 : w6.cell? ⟨gb102, 2, none⟩ = some (.slice none 0 0) := (blk_cell BK102.out 2).trans rfl
 have hfs10 := blk_frozen BK102.out 2
 have hns10_0 := NB101_102.out
 have hms10_0 := NB102_101.out
 refine skip_ (w1 := ?_) (by rfl) rfl ?_ ?_
 rotate_left
 ·go_simp
  rfl
 refine hK.out _ _ ⟨((cell_far (p := ⟨gb102, _, none⟩) NB101_102.out _).trans (((cell_far (p := ⟨gb102, _, none⟩) NB101_102.out _).trans (((cell_far (p := ⟨gb102, _, none⟩) NB101_102.out _).trans (hHeld.1)))))), ((cell_far (p := ⟨gb102, _, none⟩) NB101_102.out _).trans (((cell_far (p := ⟨gb102, _, none⟩) NB101_102.out _).trans (((cell_far (p := ⟨gb102, _, none⟩) NB101_102.out _).trans (hHeld.2.1)))))), ((cell_far (p := ⟨gb102, _, none⟩) NB101_102.out _).trans (((cell_far (p := ⟨gb102, _, none⟩) NB101_102.out _).trans (((cell_far (p := ⟨gb102, _, none⟩) NB101_102.out _).trans (hHeld.2.2))))))⟩ (fun hHeld => ?_)
 clear hK K
 refine done_ (done_of HT_.out (by kernel_rfl)) ?_
 try go_wp2
 refine bodyPost_ret (results_cell_row rfl _ _ gb102 46 #[.int .i64 a0_0, .int .i64 a0_1, .slice Ao7 t103.length co7] (0, 0) _ rfl (by (with_reducible repeat (first | refine blk_drewN ?_ _ | refine blk_drew ?_ | refine blk_alloc ?_ _)); refine blk_put (cs := #[.int .i64 a0_0, .int .i64 a0_1, .slice none 0 0]) ?_ 2 _ rfl; (with_reducible repeat (first | refine blk_drewN ?_ _ | refine blk_drew ?_ | refine blk_alloc ?_ _)); refine blk_put (cs := #[.int .i64 a0_0, .int .i64 0, .slice none 0 0]) ?_ 1 _ rfl; (with_reducible repeat (first | refine blk_drewN ?_ _ | refine blk_drew ?_ | refine blk_alloc ?_ _)); refine blk_put (cs := #[.int .i64 0, .int .i64 0, .slice none 0 0]) ?_ 0 _ rfl; exact blc) Tryd.underlying46 rfl (by kernel_rfl)) rfl ?_
 exact ⟨_, by first | rfl | (simp [errW_none, errW_some] <;> rfl) | (simp [*, errW_none, errW_some] <;> rfl), by (with_reducible repeat (first | apply Kd.R_alloc | apply Kd.R_drewN | apply Kd.R_drew)); exact Kd.R_mono (Kd.R_far (p := ⟨gb102, 2, none⟩) (Kd.R_far (p := ⟨gb102, 1, none⟩) (Kd.R_far (p := ⟨gb102, 0, none⟩) (Kd.R_types HO105.out BK102.out (by decide)) (fun _ hk => hk.2) (.int .i64 a0_0)) (fun _ hk => hk.2) (.int .i64 a0_1)) (fun _ hk => hk.2) (.slice Ao7 t103.length co7)) (fun _ hk => trivial), bel HB⟩
end Go.Proofs.YtmefnfhghfemgaaDoor.Q
end
section
namespace Go.Proofs.YtmefnfhghfemgaaDoor.Q
set_option linter.unusedSectionVars false
open Go.RowKit Go.Proofs.YtmefnfhghfemgaaDoorW.PrintWords Go.Proofs.YtmefnfhghfemgaaDoorW.PrintLast Go.Proofs.YtmefnfhghfemgaaDoorW.PrintMore
def wayB (w h : Nat) (cs : List Int) (a : Int) : Bool := (List.range 4).any fun d => canB w h cs a d
theorem wayB_added {w h : Nat} {cs : List Int} {a : Int} (ha : 0 ≤ a) : wayB w h cs a = true ↔ addedR w h cs a ≠ [] := by
 unfold wayB
 rw [List.any_eq_true]
 constructor
 ·rintro ⟨d, hd, hc⟩
  unfold canB at hc
  rw [Bool.and_eq_true] at hc
  unfold addedR
  rw [if_pos ⟨freeAt_dot ha hc.1, hc.2⟩]
  unfold freeTo
  intro e
  have hm : d ∈ (List.range 4).filter fun d => freeAt w h cs a d := List.mem_filter.2 ⟨hd, hc.1⟩
  rw [List.map_eq_nil_iff.1 e] at hm
  simp at hm
 ·intro hne
  unfold addedR at hne
  by_cases hc : rd cs a = 46 ∧ nextB w h cs a = true
  ·rw [if_pos hc] at hne
   unfold freeTo at hne
   rcases e : (List.range 4).filter (fun d => freeAt w h cs a d) with _ | ⟨d, l⟩
   ·rw [e] at hne
    exact absurd rfl hne
   ·have hm : d ∈ (List.range 4).filter fun d => freeAt w h cs a d := by rw [e]; exact List.mem_cons_self
    have hm2 := List.mem_filter.1 hm
    refine ⟨d, hm2.1, ?_⟩
    unfold canB
    rw [hm2.2, hc.2]
    rfl
  ·rw [if_neg hc] at hne
   exact absurd rfl hne
theorem added_empty (l : List Int) : ((strOfNums l).toList = ([] : List UInt8)) ↔ l = [] := by
 rw [toList_data, strOf_list]
 exact List.map_eq_nil_iff
section
variable {w h : Nat} {cs : List Int} (hw : w ≤ 7) (hh : h ≤ 7) (hs : w * h ≤ 36) (hn : cs.length = w * h)
include hw hh hs hn
theorem buWay_l0 (ho : ∀ c ∈ cs, c ≠ 35) (a : Int) (ha : inCells cs a) : ∀ (m t : Nat), t + m = 4 → ∃ r : Int, Ev (fun k => spec_buWay.l0 k a t w h cs) r ∧ (0 ≤ r ↔ ∃ d : Nat, t ≤ d ∧ d < 4 ∧ canB w h cs a d = true)
 | 0, t, ht => by
  obtain rfl : t = 4 := by omega
  refine ⟨-1, Ev.step (Ev.const (o := some (-1)) rfl) fun k => ?_, ?_⟩
  ·rw [spec_buWay.l0, if_neg (by decide)]
  ·constructor
   ·intro h
    omega
   ·rintro ⟨d, h1, h2, _⟩
    omega
 | m + 1, t, ht => by
  obtain ⟨r, h1, h2⟩ := buWay_l0 ho a ha m (t + 1) (by omega)
  have hcan := buCan_ev hw hh hs hn ho t (by omega) a ha
  have hwt : wrap64 ((t : Int) + 1) = ((t + 1 : Nat) : Int) := w64s t (by omega)
  have hstep : ∀ r', Ev (fun k => if canB w h cs a t = true then some (t : Int) else spec_buWay.l0 k a ((t + 1 : Nat) : Int) w h cs) r' → Ev (fun k => spec_buWay.l0 k a t w h cs) r' := by
   intro r' hr
   refine Ev.step (Ev.bind (f := fun k (t102 : Bool) => (if t102 = true then some (t : Int) else spec_buWay.l0 k a ((t + 1 : Nat) : Int) w h cs)) hcan hr) fun k => ?_
   rw [spec_buWay.l0, if_pos (by omega), hwt]
  cases hc : canB w h cs a t with
  | true =>
   refine ⟨t, hstep _ (Ev.congr (Ev.const (o := some (t : Int)) rfl) fun k => by rw [hc, if_pos rfl]), ?_⟩
   exact ⟨fun _ => ⟨t, Nat.le_refl _, by omega, hc⟩, fun _ => Int.natCast_nonneg _⟩
  | false =>
   refine ⟨r, hstep _ (Ev.congr h1 fun k => by rw [hc, if_neg Bool.false_ne_true]), h2.trans ⟨?_, ?_⟩⟩
   ·rintro ⟨d, d1, d2, d3⟩
    exact ⟨d, by omega, d2, d3⟩
   ·rintro ⟨d, d1, d2, d3⟩
    refine ⟨d, ?_, d2, d3⟩
    rcases Nat.lt_or_ge t d with h5 | h5
    ·omega
    ·obtain rfl : d = t := by omega
     rw [hc] at d3
     cases d3
theorem buWay_ev (ho : ∀ c ∈ cs, c ≠ 35) (a : Int) (ha : inCells cs a) : ∃ r : Int, Ev (fun k => spec_buWay.f k w h cs a) r ∧ (0 ≤ r ↔ wayB w h cs a = true) := by
 obtain ⟨r, h1, h2⟩ := buWay_l0 hw hh hs hn ho a ha 4 0 (by omega)
 refine ⟨r, h1, h2.trans ?_⟩
 unfold wayB
 rw [List.any_eq_true]
 exact ⟨fun ⟨d, _, d2, d3⟩ => ⟨d, List.mem_range.2 d2, d3⟩, fun ⟨d, d2, d3⟩ => ⟨d, Nat.zero_le _, List.mem_range.1 d2, d3⟩⟩
end
end Go.Proofs.YtmefnfhghfemgaaDoor.Q
end
section
namespace Go.Proofs.YtmefnfhghfemgaaDoor.Q
namespace PO
def sumL (l : List Nat) (f : Nat → Nat) : Nat := (l.map f).sum
theorem sumL_nil (f : Nat → Nat) : sumL [] f = 0 := rfl
theorem sumL_cons (a : Nat) (l : List Nat) (f : Nat → Nat) : sumL (a :: l) f = f a + sumL l f := by simp [sumL]
theorem sumL_congr {l : List Nat} {f g : Nat → Nat} (h : ∀ a ∈ l, f a = g a) : sumL l f = sumL l g := by
 induction l with
 | nil => rfl
 | cons a l ih => rw [sumL_cons, sumL_cons, h a (by simp), ih fun b hb => h b (by simp [hb])]
theorem sumL_add (l : List Nat) (f g : Nat → Nat) : sumL l (fun a => f a + g a) = sumL l f + sumL l g := by
 induction l with
 | nil => rfl
 | cons a l ih => simp only [sumL_cons, ih]; omega
theorem sumL_zero (l : List Nat) : sumL l (fun _ => 0) = 0 := by
 induction l with
 | nil => rfl
 | cons a l ih => simp only [sumL_cons, ih]
theorem sumL_swap (l m : List Nat) (f : Nat → Nat → Nat) : sumL l (fun a => sumL m (f a)) = sumL m fun b => sumL l fun a => f a b := by
 induction l with
 | nil => simp only [sumL_nil, sumL_zero]
 | cons a l ih => simp only [sumL_cons, ih, sumL_add]
theorem sumL_mul' (l : List Nat) (f : Nat → Nat) (c : Nat) : sumL l (fun a => c * f a) = c * sumL l f := by
 induction l with
 | nil => simp [sumL_nil]
 | cons a l ih => simp only [sumL_cons, ih, Nat.mul_add]
theorem sumL_le {l : List Nat} {f g : Nat → Nat} (h : ∀ a ∈ l, f a ≤ g a) : sumL l f ≤ sumL l g := by
 induction l with
 | nil => exact Nat.le_refl _
 | cons a l ih =>
  rw [sumL_cons, sumL_cons]
  have := h a (by simp)
  have := ih fun b hb => h b (by simp [hb])
  omega
theorem put_bits {S i : Nat} (hb : S.testBit i = false) (j : Nat) : (S + 2 ^ i).testBit j = (S.testBit j || decide (i = j)) := by
 have h2 : S % 2 ^ (i + 1) < 2 ^ i := by
  rcases Nat.lt_or_ge (S % 2 ^ (i + 1)) (2 ^ i) with h | h
  ·exact h
  ·have h3 : S % 2 ^ (i + 1) < 2 ^ (i + 1) := Nat.mod_lt _ (Nat.two_pow_pos _)
   have h4 := Nat.testBit_of_two_pow_le_and_two_pow_add_one_gt h h3
   rw [Nat.testBit_mod_two_pow, hb] at h4
   simp at h4
 have hS : S = 2 ^ (i + 1) * (S / 2 ^ (i + 1)) + S % 2 ^ (i + 1) := (Nat.div_add_mod S (2 ^ (i + 1))).symm
 have hp : 2 ^ (i + 1) = 2 ^ i + 2 ^ i := by rw [Nat.pow_succ]; omega
 generalize S / 2 ^ (i + 1) = q at hS
 generalize S % 2 ^ (i + 1) = r at hS h2
 have e : S + 2 ^ i = 2 ^ (i + 1) * q + (2 ^ i + r) := by omega
 rw [e, Nat.testBit_two_pow_mul_add q (by omega) j]
 conv => rhs; rw [hS, Nat.testBit_two_pow_mul_add q (by omega) j]
 split
 ·rcases Nat.lt_trichotomy j i with h | h | h
  ·rw [Nat.testBit_two_pow_add_gt h]
   simp
   omega
  ·subst h
   rw [Nat.testBit_two_pow_add_eq, Nat.testBit_lt_two_pow h2]
   simp
  ·omega
 ·rename_i h
  have : decide (i = j) = false := decide_eq_false (by omega)
  rw [this, Bool.or_false]
theorem put_or {S i : Nat} (hb : S.testBit i = false) : S + 2 ^ i = S ||| 2 ^ i := Nat.eq_of_testBit_eq fun j => by rw [put_bits hb, Nat.testBit_or, Nat.testBit_two_pow]
theorem put_lt {n S i : Nat} (hS : S < 2 ^ n) (hi : i < n) (hb : S.testBit i = false) : S + 2 ^ i < 2 ^ n := by
 rw [put_or hb]
 exact Nat.or_lt_two_pow hS (Nat.pow_lt_pow_right (by decide) hi)
section
variable (n : Nat) (e : Nat → Nat → Bool)
def on (S i : Nat) : Nat := if S.testBit i = false ∧ e S i = true then 1 else 0
def back (T k : Nat) : Nat := if T.testBit k = true ∧ e (T - 2 ^ k) k = true then 1 else 0
def ways : Nat → Nat → Nat → Nat
 | 0, _, _ => 0
 | f + 1, S, T => (if S = T then 1 else 0) + sumL (List.range n) fun i => on e S i * ways f (S + 2 ^ i) T
theorem ways_same : ∀ (f g S T : Nat), S < 2 ^ n → 2 ^ n ≤ f + S → 2 ^ n ≤ g + S → ways n e f S T = ways n e g S T
 | 0, g, S, T, hS, hf, hg => by omega
 | f + 1, 0, S, T, hS, hf, hg => by omega
 | f + 1, g + 1, S, T, hS, hf, hg => by
  unfold ways
  refine congrArg _ (sumL_congr fun i hi => ?_)
  unfold on
  split
  ·rename_i h
   have hp := Nat.two_pow_pos i
   rw [ways_same f g (S + 2 ^ i) T (put_lt hS (List.mem_range.1 hi) h.1) (by omega) (by omega)]
  ·rw [Nat.zero_mul, Nat.zero_mul]
def Q (S T : Nat) : Nat := ways n e (2 ^ n) S T
theorem Q_step {S : Nat} (hS : S < 2 ^ n) (T : Nat) : Q n e S T = (if S = T then 1 else 0) + sumL (List.range n) fun i => on e S i * Q n e (S + 2 ^ i) T := by
 have h0 := Nat.two_pow_pos n
 obtain ⟨f, hf⟩ : ∃ f, 2 ^ n = f + 1 := ⟨2 ^ n - 1, by omega⟩
 have h1 : Q n e S T = ways n e (f + 1) S T := by unfold Q; rw [hf]
 rw [h1, ways]
 refine congrArg _ (sumL_congr fun i hi => ?_)
 unfold on
 split
 ·rename_i h
  have hp := Nat.two_pow_pos i
  rw [Q, ways_same n e f (2 ^ n) (S + 2 ^ i) T (put_lt hS (List.mem_range.1 hi) h.1) (by omega) (by omega)]
 ·rw [Nat.zero_mul, Nat.zero_mul]
theorem Q_down : ∀ (f S T : Nat), S < 2 ^ n → 2 ^ n ≤ f + S → T < S → Q n e S T = 0
 | 0, S, T, hS, hf, hT => by omega
 | f + 1, S, T, hS, hf, hT => by
  rw [Q_step n e hS, if_neg (by omega), Nat.zero_add]
  rw [sumL_congr (g := fun _ => 0), sumL_zero]
  intro i hi
  unfold on
  split
  ·rename_i h
   have hp := Nat.two_pow_pos i
   rw [Q_down f (S + 2 ^ i) T (put_lt hS (List.mem_range.1 hi) h.1) (by omega) (by omega)]
  ·rw [Nat.zero_mul]
theorem Q_self {S : Nat} (hS : S < 2 ^ n) : Q n e S S = 1 := by
 rw [Q_step n e hS, if_pos rfl, sumL_congr (g := fun _ => 0), sumL_zero]
 intro i hi
 unfold on
 split
 ·rename_i h
  have hp := Nat.two_pow_pos i
  rw [Q_down n e (2 ^ n) (S + 2 ^ i) S (put_lt hS (List.mem_range.1 hi) h.1) (by omega) (by omega)]
 ·rw [Nat.zero_mul]
theorem take_bit {T k : Nat} (h : T.testBit k = true) : ∃ S, T = S + 2 ^ k ∧ S.testBit k = false := by
 refine ⟨T ^^^ 2 ^ k, ?_, by rw [Nat.testBit_xor, h, Nat.testBit_two_pow_self]; rfl⟩
 have hb : (T ^^^ 2 ^ k).testBit k = false := by rw [Nat.testBit_xor, h, Nat.testBit_two_pow_self]; rfl
 refine Nat.eq_of_testBit_eq fun j => ?_
 rw [put_bits hb, Nat.testBit_xor, Nat.testBit_two_pow]
 by_cases e : k = j
 ·subst e
  rw [h]
  simp
 ·simp [e]
theorem Q_last : ∀ (f S T : Nat), S < 2 ^ n → T < 2 ^ n → 2 ^ n ≤ f + S → S ≠ T → Q n e S T = sumL (List.range n) fun k => back e T k * Q n e S (T - 2 ^ k)
 | 0, S, T, hS, hT, hf, hne => by omega
 | f + 1, S, T, hS, hT, hf, hne => by
  have h1 : Q n e S T = sumL (List.range n) fun i => on e S i * ((if S + 2 ^ i = T then 1 else 0) + sumL (List.range n) fun k => back e T k * Q n e (S + 2 ^ i) (T - 2 ^ k)) := by
   rw [Q_step n e hS, if_neg hne, Nat.zero_add]
   refine sumL_congr fun i hi => ?_
   unfold on
   split
   ·rename_i h
    have hp := Nat.two_pow_pos i
    have hl := put_lt hS (List.mem_range.1 hi) h.1
    by_cases ht : S + 2 ^ i = T
    ·rw [if_pos ht, ht, Q_self n e hT, sumL_congr (g := fun _ => 0), sumL_zero]
     intro k hk
     unfold back
     split
     ·rename_i h2
      obtain ⟨U, hU, _⟩ := take_bit h2.1
      have hp2 := Nat.two_pow_pos k
      rw [Q_down n e (2 ^ n) T (T - 2 ^ k) hT (by omega) (by omega)]
     ·rw [Nat.zero_mul]
    ·rw [if_neg ht, Nat.zero_add, Q_last f (S + 2 ^ i) T hl hT (by omega) ht]
   ·rw [Nat.zero_mul, Nat.zero_mul]
  have h2 : (sumL (List.range n) fun k => back e T k * Q n e S (T - 2 ^ k)) = sumL (List.range n) fun k => back e T k * (if S = T - 2 ^ k then 1 else 0) + back e T k * sumL (List.range n) fun i => on e S i * Q n e (S + 2 ^ i) (T - 2 ^ k) :=
   sumL_congr fun k hk => by rw [Q_step n e hS, Nat.mul_add]
  rw [h1, h2, sumL_add]
  have h3 : (sumL (List.range n) fun i => on e S i * ((if S + 2 ^ i = T then 1 else 0) + sumL (List.range n) fun k => back e T k * Q n e (S + 2 ^ i) (T - 2 ^ k))) = (sumL (List.range n) fun i => on e S i * (if S + 2 ^ i = T then 1 else 0)) + sumL (List.range n) fun i => on e S i * sumL (List.range n) fun k => back e T k * Q n e (S + 2 ^ i) (T - 2 ^ k) := by
   rw [← sumL_add]
   exact sumL_congr fun i hi => Nat.mul_add _ _ _
  rw [h3]
  congr 1
  ·refine sumL_congr fun i hi => ?_
   unfold on back
   by_cases hb : S.testBit i = false ∧ S + 2 ^ i = T
   ·obtain ⟨hb1, hb2⟩ := hb
    have ht : T.testBit i = true := by rw [← hb2, put_bits hb1]; simp
    have hs : T - 2 ^ i = S := by omega
    rw [if_pos hb2, if_pos hs.symm, hs]
    simp [hb1, ht]
   ·have hz : (if T.testBit i = true ∧ e (T - 2 ^ i) i = true then 1 else 0) * (if S = T - 2 ^ i then 1 else 0) = 0 := by
     by_cases ht : T.testBit i = true ∧ S = T - 2 ^ i
     ·obtain ⟨U, hU, hU2⟩ := take_bit ht.1
      have : S = U := by omega
      subst this
      exact absurd ⟨hU2, hU.symm⟩ hb
     ·by_cases h5 : T.testBit i = true
      ·rw [if_neg fun h => ht ⟨h5, h⟩, Nat.mul_zero]
      ·rw [if_neg fun h => h5 h.1, Nat.zero_mul]
    rw [hz]
    by_cases h6 : S.testBit i = false
    ·rw [if_neg fun h => hb ⟨h6, h⟩, Nat.mul_zero]
    ·rw [if_neg fun h => h6 h.1, Nat.zero_mul]
  ·have h4 : (sumL (List.range n) fun i => on e S i * sumL (List.range n) fun k => back e T k * Q n e (S + 2 ^ i) (T - 2 ^ k)) = sumL (List.range n) fun i => sumL (List.range n) fun k => on e S i * (back e T k * Q n e (S + 2 ^ i) (T - 2 ^ k)) :=
    sumL_congr fun i hi => (sumL_mul' _ _ _).symm
   rw [h4, sumL_swap]
   refine sumL_congr fun k hk => ?_
   rw [← sumL_mul']
   exact sumL_congr fun i hi => Nat.mul_left_comm _ _ _
end
theorem count_more {p q : Nat → Bool} {k : Nat} (hp : p k = false) (hq : q k = true) (ho : ∀ j, j ≠ k → q j = p j) : ∀ n, (List.range n).countP q = (List.range n).countP p + if k < n then 1 else 0
 | 0 => rfl
 | n + 1 => by
  have ih := count_more hp hq ho n
  rw [List.range_succ, List.countP_append, List.countP_append, ih, List.countP_singleton, List.countP_singleton]
  rcases Nat.lt_trichotomy k n with h | h | h
  ·have e1 : (if k < n then 1 else 0) = (1 : Nat) := if_pos h
   have e2 : (if k < n + 1 then 1 else 0) = (1 : Nat) := if_pos (by omega)
   rw [e1, e2, ho n (by omega)]
   omega
  ·subst h
   have e1 : (if k < k then 1 else 0) = (0 : Nat) := if_neg (Nat.lt_irrefl _)
   have e2 : (if k < k + 1 then 1 else 0) = (1 : Nat) := if_pos (by omega)
   rw [e1, e2, hp, hq]
   simp
  ·have e1 : (if k < n then 1 else 0) = (0 : Nat) := if_neg (by omega)
   have e2 : (if k < n + 1 then 1 else 0) = (0 : Nat) := if_neg (by omega)
   rw [e1, e2, ho n (by omega)]
   omega
def pc (n T : Nat) : Nat := (List.range n).countP fun i => T.testBit i
theorem pc_put {n S k : Nat} (hb : S.testBit k = false) (hk : k < n) : pc n (S + 2 ^ k) = pc n S + 1 := by
 unfold pc
 rw [count_more (p := fun i => S.testBit i) (q := fun i => (S + 2 ^ k).testBit i) (k := k) hb (by rw [put_bits hb]; simp) (fun j hj => by rw [put_bits hb]; simp [Ne.symm hj]) n, if_pos hk]
theorem pc_le (n T : Nat) : pc n T ≤ n := by
 have := List.countP_le_length (p := fun i => T.testBit i) (l := List.range n)
 rw [List.length_range] at this
 exact this
theorem sumL_const (l : List Nat) (c : Nat) : sumL l (fun _ => c) = l.length * c := by
 induction l with
 | nil => rw [sumL_nil, List.length_nil, Nat.zero_mul]
 | cons a l ih => rw [sumL_cons, ih, List.length_cons, Nat.succ_mul, Nat.add_comm]
theorem sumL_append (l m : List Nat) (f : Nat → Nat) : sumL (l ++ m) f = sumL l f + sumL m f := by simp [sumL]
theorem sumL_part (f : Nat → Nat) (m n : Nat) (h : m ≤ n) : sumL (List.range m) f ≤ sumL (List.range n) f := by
 obtain ⟨d, rfl⟩ : ∃ d, n = m + d := ⟨n - m, by omega⟩
 rw [List.range_add, sumL_append]
 omega
section
variable (n : Nat) (e : Nat → Nat → Bool)
theorem Q_bound (hn : n ≤ 10) : ∀ (m S T : Nat), pc n T ≤ m → S < 2 ^ n → T < 2 ^ n → Q n e S T ≤ 10 ^ m
 | m, S, T, hm, hS, hT => by
  by_cases hst : S = T
  ·subst hst
   rw [Q_self n e hS]
   exact Nat.one_le_pow _ _ (by decide)
  ·rw [Q_last n e (2 ^ n) S T hS hT (by omega) hst]
   match m with
   | 0 =>
    rw [sumL_congr (g := fun _ => 0), sumL_zero]
    ·exact Nat.zero_le _
    ·intro k hk
     unfold back
     split
     ·rename_i h
      obtain ⟨U, hU, hb⟩ := take_bit h.1
      rw [hU, pc_put hb (List.mem_range.1 hk)] at hm
      omega
     ·rw [Nat.zero_mul]
   | m + 1 =>
    have h1 : sumL (List.range n) (fun k => back e T k * Q n e S (T - 2 ^ k)) ≤ sumL (List.range n) fun _ => 10 ^ m := by
     refine sumL_le fun k hk => ?_
     unfold back
     split
     ·rename_i h
      obtain ⟨U, hU, hb⟩ := take_bit h.1
      have hp2 := Nat.two_pow_pos k
      have e1 : T - 2 ^ k = U := by omega
      rw [e1, Nat.one_mul]
      refine Q_bound hn m S U ?_ hS (by omega)
      rw [hU, pc_put hb (List.mem_range.1 hk)] at hm
      omega
     ·rw [Nat.zero_mul]
      exact Nat.zero_le _
    rw [sumL_const, List.length_range] at h1
    rw [Nat.pow_succ, Nat.mul_comm (10 ^ m)]
    exact Nat.le_trans h1 (Nat.mul_le_mul_right _ hn)
theorem Q_fits (hn : n ≤ 10) {S T : Nat} (hS : S < 2 ^ n) (hT : T < 2 ^ n) : Q n e S T ≤ 10000000000 :=
 Nat.le_trans (Q_bound n e hn (pc n T) S T (Nat.le_refl _) hS hT) (Nat.le_trans (Nat.pow_le_pow_right (by decide) (Nat.le_trans (pc_le n T) hn)) (by decide))
end
theorem mu_put {α : Type} (f : Nat → Option α) (s : Nat) (v : α) (M : Nat) (hs : s < M) (hf : f s = none) : (List.range M).countP (fun x => (f x).isNone) = (List.range M).countP (fun x => (if x = s then some v else f x).isNone) + 1 := by
 rw [count_more (p := fun x => (if x = s then some v else f x).isNone) (q := fun x => (f x).isNone) (k := s) (by simp) (by simp [hf]) (fun j hj => by simp [hj]) M, if_pos hs]
end PO
open Go.RowKit Go.Proofs.YtmefnfhghfemgaaDoorW.PrintWords Go.Proofs.YtmefnfhghfemgaaDoorW.PrintLast Go.Proofs.YtmefnfhghfemgaaDoorW.PrintMore
def putC (z L : List Int) (S : Nat) : Nat → List Int
 | 0 => z
 | t + 1 => if S.testBit t = true then (putC z L S t).set (rd L (t : Int)).toNat 111 else putC z L S t
theorem putC_len (z L : List Int) (S : Nat) : ∀ t, (putC z L S t).length = z.length
 | 0 => rfl
 | t + 1 => by
  unfold putC
  split
  ·rw [List.length_set, putC_len z L S t]
  ·exact putC_len z L S t
end Go.Proofs.YtmefnfhghfemgaaDoor.Q
end
section
namespace Go.Proofs.YtmefnfhghfemgaaDoor.Q
set_option linter.unusedSectionVars false
open Go.RowKit Go.Proofs.YtmefnfhghfemgaaDoorW.PrintWords Go.Proofs.YtmefnfhghfemgaaDoorW.PrintLast Go.Proofs.YtmefnfhghfemgaaDoorW.PrintMore
open Classical
theorem ifc {α : Type} {p q : Prop} [Decidable p] [Decidable q] {x y : α} (h : p ↔ q) : (if p then x else y) = (if q then x else y) := by
 by_cases hp : p
 ·rw [if_pos hp, if_pos (h.1 hp)]
 ·rw [if_neg hp, if_neg fun hq => hp (h.2 hq)]
theorem rd_same {a b : List Int} (hl : a.length = b.length) (h : ∀ j : Nat, j < a.length → rd a (j : Int) = rd b (j : Int)) : a = b := by
 refine List.ext_getElem hl fun j h1 h2 => ?_
 have h3 := h j h1
 rwa [rd_nat a j h1, rd_nat b j h2] at h3
def nowC (N : Nat) (L : List Int) (S : Nat) : List Int := putC (List.replicate N 46) L S L.length
structure Cells (N : Nat) (L : List Int) : Prop where
 inN : ∀ i : Nat, i < L.length → 0 ≤ rd L (i : Int) ∧ rd L (i : Int) < (N : Int)
 inj : ∀ i j : Nat, i < L.length → j < L.length → rd L (i : Int) = rd L (j : Int) → i = j
section
variable {N : Nat} {L : List Int} (hL : Cells N L)
include hL
theorem putC_rd (S : Nat) (j : Nat) (hj : j < N) : ∀ t, t ≤ L.length → rd (putC (List.replicate N 46) L S t) (j : Int) = if ∃ i : Nat, i < t ∧ S.testBit i = true ∧ rd L (i : Int) = (j : Int) then 111 else 46
 | 0, _ => by
  rw [if_neg fun ⟨i, h, _⟩ => by omega]
  unfold putC rd
  rw [Int.toNat_natCast, List.getD_eq_getElem?_getD, List.getElem?_replicate, if_pos hj]
  rfl
 | t + 1, ht => by
  have ih := putC_rd S j hj t (by omega)
  have hr := hL.inN t (by omega)
  unfold putC
  by_cases hb : S.testBit t = true
  ·rw [if_pos hb, rd_set _ _ _ _ hr.1 (by rw [putC_len, List.length_replicate]; exact hr.2) (by omega)]
   by_cases e : (j : Int) = rd L (t : Int)
   ·rw [if_pos e, if_pos ⟨t, by omega, hb, e.symm⟩]
   ·rw [if_neg e, ih]
    refine ifc ⟨fun ⟨i, h1, h2, h3⟩ => ⟨i, by omega, h2, h3⟩, fun ⟨i, h1, h2, h3⟩ => ⟨i, ?_, h2, h3⟩⟩
    rcases Nat.lt_or_ge i t with h | h
    ·exact h
    ·obtain rfl : i = t := by omega
     exact absurd h3.symm e
  ·rw [if_neg hb, ih]
   refine ifc ⟨fun ⟨i, h1, h2, h3⟩ => ⟨i, by omega, h2, h3⟩, fun ⟨i, h1, h2, h3⟩ => ⟨i, ?_, h2, h3⟩⟩
   rcases Nat.lt_or_ge i t with h | h
   ·exact h
   ·obtain rfl : i = t := by omega
    exact absurd h2 hb
theorem nowC_len (S : Nat) : (nowC N L S).length = N := by
 unfold nowC
 rw [putC_len, List.length_replicate]
theorem nowC_rd (S : Nat) (j : Nat) (hj : j < N) : rd (nowC N L S) (j : Int) = if ∃ i : Nat, i < L.length ∧ S.testBit i = true ∧ rd L (i : Int) = (j : Int) then 111 else 46 := putC_rd hL S j hj L.length (Nat.le_refl _)
theorem nowC_open (S : Nat) : ∀ c ∈ nowC N L S, c = 46 ∨ c = 111 := by
 intro c hc
 obtain ⟨j, hj, rfl⟩ := List.getElem_of_mem hc
 have h1 := nowC_len hL S
 have h2 := nowC_rd hL S j (by omega)
 rw [rd_nat _ j hj] at h2
 rw [h2]
 split
 ·exact Or.inr rfl
 ·exact Or.inl rfl
theorem nowC_in (S : Nat) (k : Nat) (hk : k < L.length) : inCells (nowC N L S) (rd L (k : Int)) := by
 unfold inCells
 rw [nowC_len hL]
 exact hL.inN k hk
theorem nowC_put (S k : Nat) (hk : k < L.length) (hb : S.testBit k = false) : (nowC N L S).set (rd L (k : Int)).toNat 111 = nowC N L (S + 2 ^ k) := by
 obtain ⟨h0, h1⟩ := hL.inN k hk
 refine rd_same (by rw [List.length_set, nowC_len hL, nowC_len hL]) fun j hj => ?_
 rw [List.length_set, nowC_len hL] at hj
 rw [rd_set _ _ _ _ h0 (by rw [nowC_len hL]; exact h1) (by omega), nowC_rd hL _ j hj, nowC_rd hL _ j hj]
 by_cases e : (j : Int) = rd L (k : Int)
 ·rw [if_pos e, if_pos ⟨k, hk, by rw [PO.put_bits hb]; simp, e.symm⟩]
 ·rw [if_neg e]
  refine ifc ⟨fun ⟨i, h2, h3, h4⟩ => ⟨i, h2, by rw [PO.put_bits hb, h3]; rfl, h4⟩, fun ⟨i, h2, h3, h4⟩ => ⟨i, h2, ?_, h4⟩⟩
  rw [PO.put_bits hb] at h3
  by_cases e2 : k = i
  ·subst e2
   exact absurd h4.symm e
  ·simpa [e2] using h3
end
theorem cells_balls (cs : List Int) : Cells cs.length (ballsOf cs) := by
 have h1 : ∀ i (hi : i < (ballsOf cs).length), ∃ j : Nat, (ballsOf cs)[i] = (j : Int) ∧ j < cs.length := by
  intro i hi
  have hm := List.getElem_mem hi
  unfold ballsOf ballsTo at hm
  obtain ⟨j, hj, h2⟩ := List.mem_map.1 hm
  exact ⟨j, h2.symm, List.mem_range.1 (List.mem_filter.1 hj).1⟩
 refine ⟨fun i hi => ?_, fun i j hi hj h2 => ?_⟩
 ·obtain ⟨j, h2, h3⟩ := h1 i hi
  rw [rd_nat _ i hi, h2]
  omega
 ·rw [rd_nat _ i hi, rd_nat _ j hj] at h2
  have hnd : (ballsOf cs).Nodup := by
   unfold ballsOf ballsTo
   exact List.Pairwise.map _ (fun a b h3 e => h3 (by omega)) (List.Nodup.sublist List.filter_sublist List.nodup_range)
  exact (List.getElem_inj hnd).1 h2
def eS (w h : Nat) (N : Nat) (L : List Int) (S i : Nat) : Bool := decide (S = 0) || wayB w h (nowC N L S) (rd L (i : Int))
end Go.Proofs.YtmefnfhghfemgaaDoor.Q
end
section
namespace Go.Proofs.YtmefnfhghfemgaaDoor.Q
open Go.RowKit Go.Proofs.YtmefnfhghfemgaaDoorW.PrintWords Go.Proofs.YtmefnfhghfemgaaDoorW.PrintLast Go.Proofs.YtmefnfhghfemgaaDoorW.PrintMore
def impl_tray_emptied.f (w h : Int) (cs : List Int) : Option (Int × Int × List Int) := if 0 < cs.length ∧ cs.length ≤ 1000 then some (w, h, emptyC cs) else none
def halfE (cs : List Int) (t : Nat) : List Int := emptyC (cs.take t) ++ cs.drop t
theorem own_val (w h : Int) (cs : List Int) (h0 : 0 < cs.length) (hl : cs.length ≤ 1000) : impl_tray_own.f w h cs = some (w, h, cs) := by
 unfold impl_tray_own.f slices_Clone_u8.f
 rw [if_pos ⟨h0, by omega⟩]
 rfl
theorem halfE_all (cs : List Int) : halfE cs cs.length = emptyC cs := by
 unfold halfE
 rw [List.take_length, List.drop_length, List.append_nil]
theorem halfE_at (cs : List Int) (t : Nat) (h : t < cs.length) : rdOf 0 (halfE cs t) (t : Int) = rd cs (t : Int) := by
 have hl : (emptyC (cs.take t)).length = t := by
  unfold emptyC
  simp
  omega
 unfold rdOf rd halfE
 rw [Int.toNat_natCast, List.getD_eq_getElem?_getD, List.getD_eq_getElem?_getD, List.getElem?_append_right (by omega), hl, Nat.sub_self, List.getElem?_drop, Nat.add_zero]
theorem halfE_succ (cs : List Int) (t : Nat) (h : t < cs.length) : halfE cs (t + 1) = if isB (rd cs (t : Int)) = true then (halfE cs t).set t 46 else halfE cs t := by
 have e1 : cs.take (t + 1) = cs.take t ++ [cs[t]] := List.take_succ_eq_append_getElem h
 have e2 : cs.drop t = cs[t] :: cs.drop (t + 1) := List.drop_eq_getElem_cons h
 have hl : (emptyC (cs.take t)).length = t := by
  unfold emptyC
  simp
  omega
 rw [rd_nat cs t h]
 unfold halfE
 rw [e1, e2]
 have e3 : emptyC (cs.take t ++ [cs[t]]) = emptyC (cs.take t) ++ [if isB cs[t] = true then 46 else cs[t]] := by
  unfold emptyC
  rw [List.map_append]
  rfl
 rw [e3, List.append_assoc]
 by_cases hb : isB cs[t] = true
 ·rw [if_pos hb, if_pos hb, List.set_append_right _ _ (by omega), hl, Nat.sub_self]
  rfl
 ·rw [if_neg hb, if_neg hb]
  rfl
structure EM (w W : World) (gr go gb : Nat) (a b : Int) (n c : Nat) (xs : List Int) : Prop where
 below : Below w.heap.size w W
 res : W.heap[gr]? = some (.cells #[.int .i64 0, .int .i64 0, .slice none 0 0] 46 (0, 0))
 out : W.heap[go]? = some (.cells #[.int .i64 a, .int .i64 b, .slice (some ⟨gb, 0, none⟩) n c] 46 (0, 0))
 row : Kd.R (Kd.int .u8) 5 W w.heap.size (fun _ => True) (.slice (some ⟨gb, 0, none⟩) n c) xs
 gr0 : w.heap.size ≤ gr
 go0 : w.heap.size ≤ go
 gb0 : w.heap.size ≤ gb
 ne : gr ≠ go
 len : xs.length = n
section
variable {w W W1 : World} {gr go gb n c : Nat} {a b : Int} {xs : List Int}
theorem EM.step (h : EM w W gr go gb a b n c xs) (hb : Below W.heap.size W W1) : EM w W1 gr go gb a b n c xs :=
 ⟨below_then h.below h.below.size hb, (hb.block _ (blk_lt h.res)).trans h.res, (hb.block _ (blk_lt h.out)).trans h.out, Kd.R_below h.row hb, h.gr0, h.go0, h.gb0, h.ne, h.len⟩
theorem EM.neb (h : EM w W gr go gb a b n c xs) : gr ≠ gb ∧ go ≠ gb :=
 ⟨fun e => Kd.R_ne h.row h.res (by decide) (by rw [e]; rfl), fun e => Kd.R_ne h.row h.out (by decide) (by rw [e]; rfl)⟩
theorem EM.set (h : EM w W gr go gb a b n c xs) (i x : Int) : EM w (W.setCell ⟨gb, i.toNat, none⟩ (.int .u8 x)) gr go gb a b n c (xs.set i.toNat x) := by
 obtain ⟨n1, n2⟩ := h.neb
 exact ⟨below_set h.below h.gb0, blk_far h.res n1 _, blk_far h.out n2 _, (Kd.R_putg h.row i x).1, h.gr0, h.go0, h.gb0, h.ne, by rw [List.length_set]; exact h.len⟩
end
set_option maxHeartbeats 16000000 in
set_option maxRecDepth 100000 in
theorem impl_tray_emptied.calls (a0_0 a0_1 : Int) (A0_2 : Option Addr) (c0_2 : Nat) (l0_2 : List Int) (r1 r2 : Int) (r3 : List Int) (w : World) (hr0_2 : Kd.C (Kd.int .u8) w A0_2 l0_2.length l0_2) (hc0_2 : l0_2.length ≤ c0_2) (h : impl_tray_emptied.f a0_0 a0_1 l0_2 = some (r1, r2, r3)) :
  Calls Tryd.prog 68 #[.agg #[.int .i64 a0_0, .int .i64 a0_1, .slice A0_2 l0_2.length c0_2]] w fun e w' => ∃ v2_ : Value, e = .returned (.agg #[.int .i64 r1, .int .i64 r2, v2_]) ∧ Kd.R (Kd.int .u8) 5 w' w.heap.size (fun _ => True) v2_ r3 ∧ Below w.heap.size w w' := by
 unfold impl_tray_emptied.f at h
 split at h
 case isFalse => cases h
 rename_i hl
 simp only [Option.some.injEq, Prod.mk.injEq] at h
 obtain ⟨rfl, rfl, rfl⟩ := h
 have hu := Tryd.underlying46
 have HR := Aside0.mk hr0_2
 have HC := Aside0.mk hc0_2
 have HL := Aside0.mk hl
 have HV := Aside0.mk (own_val a0_0 a0_1 l0_2 hl.1 hl.2)
 clear hr0_2 hc0_2 hl
 go_enter Tryd.func68, Tryd.ntmps68
 go_wp2_with (first
  | ((with_reducible refine gate_dst (N := 1) rfl ?_); refine box_event ?hg (N := 1) ?hd (cs := #[.int .i64 a0_0, .int .i64 a0_1, .slice A0_2 l0_2.length c0_2]) (t := 46) ?hr ?_; (case hd => rfl); (case hg => rfl); (case hr => first | (go_simp; done) | (go_simp; rfl)); intro gt hg w1 hbox hb; (have HB1 := Aside0.mk hb); (have HT := Aside0.mk hbox); clear hbox hb hg)
  | ((with_reducible refine gate_dst (N := 2) rfl ?_); refine box_event ?hg (N := 2) ?hd (cs := #[.int .i64 0, .int .i64 0, .slice none 0 0]) (t := 46) ?hr ?_; (case hd => rfl); (case hg => rfl); (case hr => first | (go_simp; done) | (go_simp; rfl)); intro gr hg w2 hbox hb; (have HG2 := Aside0.mk (show w.heap.size ≤ gr by rw [hg]; exact HB1.out.size)); (have HB2 := Aside0.mk (below_then HB1.out HB1.out.size hb)); (have HT2 := Aside0.mk ((hb.block gt (blk_lt HT.out)).trans HT.out)); (have HRS := Aside0.mk hbox); (have z0 := (blk_cell HT2.out 0).trans rfl); (have z1 := (blk_cell HT2.out 1).trans rfl); (have z2 := (blk_cell HT2.out 2).trans rfl); clear hbox hb hg HT HB1))
 refine (impl_tray_own.calls a0_0 a0_1 _ c0_2 l0_2 a0_0 a0_1 l0_2 _ (Kd.C_below HR.out HB2.out) HC.out HV.out).mono ?_
 rintro e w3 ⟨v2, rfl, ho, hb3⟩
 obtain ⟨gb, c, rfl, hgb, hlb, cl, hcl⟩ := Kd.R_form ho HL.out.1
 have HB3 := Aside0.mk (below_then HB2.out HB2.out.size hb3)
 have HRS3 := Aside0.mk ((hb3.block gr (blk_lt HRS.out)).trans HRS.out)
 have HO3 := Aside0.mk (Kd.R_lower ho HB2.out.size)
 have HGB := Aside0.mk (Nat.le_trans HB2.out.size hgb)
 clear z0 z1 z2 HT2 HRS HB2 ho hb3 hgb hlb hcl
 go_wp2_with (first
  | ((with_reducible refine gate_dst (N := 3) rfl ?_); refine box_event ?hg (N := 3) ?hd (cs := #[.int .i64 0, .int .i64 0, .slice none 0 0]) (t := 46) ?hr ?_; (case hd => rfl); (case hg => rfl); (case hr => first | (go_simp; done) | (go_simp; rfl)); intro go hg w4 hbox hb; (have HGO := Aside0.mk (show w.heap.size ≤ go by rw [hg]; exact HB3.out.size)); (have HNE := Aside0.mk (show gr ≠ go by rw [hg]; exact Nat.ne_of_lt (blk_lt HRS3.out))); (have HB4 := Aside0.mk (below_then HB3.out HB3.out.size hb)); (have HRS4 := Aside0.mk ((hb.block gr (blk_lt HRS3.out)).trans HRS3.out)); (have HO4 := Aside0.mk (Kd.R_below HO3.out hb)); (have HU := Aside0.mk hbox); (have y0 := (blk_cell HU.out 0).trans rfl); (have y1 := (blk_cell HU.out 1).trans rfl); (have y2 := (blk_cell HU.out 2).trans rfl); (have f0 := blk_frozen HU.out 0); (have f1 := blk_frozen HU.out 1); (have f2 := blk_frozen HU.out 2); clear hbox hb hg HB3 HRS3 HO3)
  | ((with_reducible refine gate_store (t := 46) (p := 3) rfl ?_); refine store_event (t := 46) (p := 3) (v := ?vo) (w1 := (((w4.setCell ⟨go, 0, none⟩ (.int .i64 a0_0)).setCell ⟨go, 1, none⟩ (.int .i64 a0_1)).setCell ⟨go, 2, none⟩ (.slice (some ⟨gb, 0, none⟩) l0_2.length c))) ?hg ?ho ?hn ?hr ?_; (case ho => rfl); (case hg => rfl); (case hn => rfl); (case hr => first | (go_simp; done) | (go_simp; rfl)); intro w5 hw; (have HE := Aside0.mk (show EM w w5 gr go gb a0_0 a0_1 l0_2.length c l0_2 from by rw [hw]; exact ⟨below_set (below_set (below_set HB4.out HGO.out) HGO.out) HGO.out, blk_far (blk_far (blk_far HRS4.out HNE.out _) HNE.out _) HNE.out _, (by refine blk_put (cs := #[.int .i64 a0_0, .int .i64 a0_1, .slice none 0 0]) ?_ 2 _ rfl; refine blk_put (cs := #[.int .i64 a0_0, .int .i64 0, .slice none 0 0]) ?_ 1 _ rfl; refine blk_put (cs := #[.int .i64 0, .int .i64 0, .slice none 0 0]) ?_ 0 _ rfl; exact HU.out), Kd.R_mono (Kd.R_far (p := ⟨go, 2, none⟩) (Kd.R_far (p := ⟨go, 1, none⟩) (Kd.R_far (p := ⟨go, 0, none⟩) (Kd.R_types HO4.out HU.out (by decide)) (fun _ hk => hk.2) (.int .i64 a0_0)) (fun _ hk => hk.2) (.int .i64 a0_1)) (fun _ hk => hk.2) (.slice (some ⟨gb, 0, none⟩) l0_2.length c)) (fun _ _ => trivial), HG2.out, HGO.out, HGB.out, HNE.out, rfl⟩)); clear hw HU HO4 HRS4 HB4 y0 y1 y2 f0 f1 f2; (have y0 := (blk_cell HE.out.out 0).trans rfl); (have y1 := (blk_cell HE.out.out 1).trans rfl); (have y2 := (blk_cell HE.out.out 2).trans rfl)))
 have HE0 := Aside0.mk (show EM w w5 gr go gb a0_0 a0_1 l0_2.length c (halfE l0_2 0) from HE.out)
 have HL2 := Aside0.mk HL.out.2
 clear HE y0 y1 y2
 go_loopg [11] l0_2.length (fun gg v11 wr => ∃ t : Nat, v11 = .int .i64 t ∧ Aside0 (t ≤ l0_2.length ∧ l0_2.length - t ≤ gg) ∧ Aside0 (EM w wr gr go gb a0_0 a0_1 l0_2.length c (halfE l0_2 t)))
 case atStart => exact ⟨0, rfl, ⟨Nat.zero_le _, by omega⟩, HE0⟩
 case round =>
  clear HE0
  obtain ⟨t, rfl, HA, HE⟩ := hrel
  have y0 := (blk_cell HE.out.out 0).trans rfl
  have y1 := (blk_cell HE.out.out 1).trans rfl
  have y2 := (blk_cell HE.out.out 2).trans rfl
  have hwt : wrap64 ((t : Int) + 1) = ((t + 1 : Nat) : Int) := by
   have := HA.out
   have := HL2.out
   unfold wrap64
   omega
  by_cases hlt : t < l0_2.length
  ·have c1 : decide ((t : Int) < (l0_2.length : Int)) = true := decide_eq_true (by omega)
   have p1 : (0 ≤ (t : Int)) = True := eq_true (by omega)
   have p2 : ((t : Int) < (l0_2.length : Int)) = True := eq_true (by omega)
   obtain ⟨x0, x1⟩ := Kd.R_celln 0 HE.out.row (t : Int) (by omega) (by omega)
   rw [halfE_at l0_2 t hlt] at x0
   rw [Int.toNat_natCast] at x0 x1
   have hsucc := halfE_succ l0_2 t hlt
   generalize rd l0_2 (t : Int) = v at x0 hsucc
   have HS := Aside0.mk hsucc
   clear hsucc
   cases hb : isB v with
   | true =>
    have hv := isBall_eq v
    rw [hb] at hv
    have HV2 := Aside0.mk hv
    clear hv
    go_wp2_with (go_at_call 66; refine (impl_isBall.calls v true _ HV2.out).mono ?_; rintro e w6 ⟨rfl, ⟨nd, rfl⟩⟩; (have HE6 := Aside0.mk (HE.out.step (pw_below_drewN (Below.refl _ _) nd))); clear y0 y1 y2 x0 x1; (have y0 := (blk_cell HE6.out.out 0).trans rfl); (have y1 := (blk_cell HE6.out.out 1).trans rfl); (have y2 := (blk_cell HE6.out.out 2).trans rfl); (obtain ⟨x0, x1⟩ := Kd.R_celln 0 HE6.out.row (t : Int) (by omega) (by omega)); rw [Int.toNat_natCast] at x0 x1)
    go_roundg (l0_2.length - (t + 1))
    case measure => have := HA.out; omega
    case rel =>
     refine ⟨t + 1, by first | rfl | rw [hwt], ⟨by have := HA.out; omega, Nat.le_refl _⟩, ?_⟩
     have h8 := HE6.out.set (t : Int) 46
     rw [Int.toNat_natCast] at h8
     rw [HS.out, if_pos hb]
     exact ⟨h8⟩
   | false =>
    have hv := isBall_eq v
    rw [hb] at hv
    have HV2 := Aside0.mk hv
    clear hv
    go_wp2_with (go_at_call 66; refine (impl_isBall.calls v false _ HV2.out).mono ?_; rintro e w6 ⟨rfl, ⟨nd, rfl⟩⟩; (have HE6 := Aside0.mk (HE.out.step (pw_below_drewN (Below.refl _ _) nd))); clear y0 y1 y2 x0 x1; (have y0 := (blk_cell HE6.out.out 0).trans rfl); (have y1 := (blk_cell HE6.out.out 1).trans rfl); (have y2 := (blk_cell HE6.out.out 2).trans rfl); (obtain ⟨x0, x1⟩ := Kd.R_celln 0 HE6.out.row (t : Int) (by omega) (by omega)); rw [Int.toNat_natCast] at x0 x1)
    go_roundg (l0_2.length - (t + 1))
    case measure => have := HA.out; omega
    case rel =>
     refine ⟨t + 1, by first | rfl | rw [hwt], ⟨by have := HA.out; omega, Nat.le_refl _⟩, ?_⟩
     rw [HS.out, if_neg (by rw [hb]; decide)]
     exact HE6
  ·have hAt := HA.out.1
   obtain rfl : t = l0_2.length := by omega
   have c1 : decide ((l0_2.length : Int) < (l0_2.length : Int)) = false := decide_eq_false (by omega)
   clear hAt HA hlt hwt
   rw [halfE_all] at HE
   have r0 := (blk_cell HE.out.res 0).trans rfl
   have r1 := (blk_cell HE.out.res 1).trans rfl
   have r2 := (blk_cell HE.out.res 2).trans rfl
   have g0 := blk_frozen HE.out.res 0
   have g1 := blk_frozen HE.out.res 1
   have g2 := blk_frozen HE.out.res 2
   go_wp2_with fail
   refine bodyPost_ret (results_cell_row rfl _ _ gr 46 #[.int .i64 a0_0, .int .i64 a0_1, .slice (some ⟨gb, 0, none⟩) l0_2.length c] (0, 0) _ rfl (by refine blk_put (cs := #[.int .i64 a0_0, .int .i64 a0_1, .slice none 0 0]) ?_ 2 _ rfl; refine blk_put (cs := #[.int .i64 a0_0, .int .i64 0, .slice none 0 0]) ?_ 1 _ rfl; refine blk_put (cs := #[.int .i64 0, .int .i64 0, .slice none 0 0]) ?_ 0 _ rfl; exact HE.out.res) Tryd.underlying46 rfl (by kernel_rfl)) rfl ?_
   exact ⟨_, rfl, Kd.R_mono (Kd.R_far (p := ⟨gr, 2, none⟩) (Kd.R_far (p := ⟨gr, 1, none⟩) (Kd.R_far (p := ⟨gr, 0, none⟩) (Kd.R_types HE.out.row HE.out.res (by decide)) (fun _ hk => hk.2) (.int .i64 a0_0)) (fun _ hk => hk.2) (.int .i64 a0_1)) (fun _ hk => hk.2) (.slice (some ⟨gb, 0, none⟩) l0_2.length c)) (fun _ _ => trivial), below_set (below_set (below_set HE.out.below HE.out.gr0) HE.out.gr0) HE.out.gr0⟩
end Go.Proofs.YtmefnfhghfemgaaDoor.Q
end
section
namespace Go.Proofs.YtmefnfhghfemgaaDoor.Q
set_option linter.unusedSectionVars false
open Go.RowKit Go.Proofs.YtmefnfhghfemgaaDoorW.PrintWords Go.Proofs.YtmefnfhghfemgaaDoorW.PrintLast Go.Proofs.YtmefnfhghfemgaaDoorW.PrintMore
noncomputable def PE : Value → Option (DataW Unit × List MemPlace) := plainElem Tryd.prog 3
theorem keyI : Maps.Keyed Tryd.prog 3 := Maps.int_keyed Tryd.underlying3
def lk (x : Int) : Lit := .int .i64 x
theorem lk_key (x : Int) : WideAt.IsKeyLit (lk x) := by simp [WideAt.IsKeyLit, lk]
theorem lk_ne {x y : Int} (h : x ≠ y) : lk x ≠ lk y := fun e => h (by injection e)
structure Holds (D : DataW Unit) (f : Int → Option Int) : Prop where
 map : Maps.IsMap D
 at' : ∀ (x : Int) (z : DataW Unit), D.atKey (lk x) z = match f x with | some c => .lit (lk c) | none => z
 has' : ∀ x : Int, Maps.has D (lk x) = (f x).isSome
theorem Holds.made : Holds (.map []) fun _ => none := ⟨Maps.isMap_empty, fun _ _ => rfl, fun _ => rfl⟩
def upd (f : Int → Option Int) (k v : Int) : Int → Option Int := fun x => if x = k then some v else f x
theorem Holds.put {D : DataW Unit} {f : Int → Option Int} (h : Holds D f) (k v : Int) : Holds (D.put (lk k) (.lit (lk v))) (upd f k v) := by
 refine ⟨h.map.put _ _, fun x z => ?_, fun x => ?_⟩
 ·unfold upd
  by_cases e : x = k
  ·rw [if_pos e, e, Maps.atKey_put_same h.map (lk_key k)]
  ·rw [if_neg e, Maps.atKey_put_other (lk_ne e), h.at']
 ·unfold upd
  by_cases e : x = k
  ·rw [if_pos e, e, Maps.has_put_same h.map (lk_key k)]
   rfl
  ·rw [if_neg e, Maps.has_put_other (lk_ne e), h.has']
def MP (w : World) (b n : Nat) (f : Int → Option Int) : Prop := ∃ D : DataW Unit, w.ownsMap Tryd.prog 3 PE b n D ∧ Holds D f
theorem MP.made (w : World) : MP (w.alloc (.map #[] 0)) w.heap.size 0 fun _ => none := ⟨_, World.ownsMap_made w _ _ _, Holds.made⟩
theorem MP.lt {w : World} {b n : Nat} {f : Int → Option Int} (h : MP w b n f) : b < w.heap.size := by
 obtain ⟨D, h1, _⟩ := h
 exact h1.lt
theorem MP.kept {w w' : World} {b n : Nat} {f : Int → Option Int} {row : Option Nat} (h : MP w b n f) (hg : w.grownBy w' row) (hne : some b ≠ row) : MP w' b n f := by
 obtain ⟨D, h1, h2⟩ := h
 exact ⟨D, h1.kept hg hne, h2⟩
theorem MP.below {w w' : World} {b n : Nat} {f : Int → Option Int} (h : MP w b n f) (hb : Below w.heap.size w w') : MP w' b n f := h.kept (grown_of_below hb none) (by simp)
theorem MP.set {w : World} {b n g : Nat} {f : Int → Option Int} (h : MP w b n f) (hne : b ≠ g) (i : Nat) (v : Value) : MP (w.setCell ⟨g, i, none⟩ v) b n f := by
 obtain ⟨D, ⟨es, clock, hb, r⟩, h2⟩ := h
 refine ⟨D, ⟨es, clock, ?_, r⟩, h2⟩
 rw [← hb]
 exact Below.heap_setCell w ⟨g, i, none⟩ v b hne
def NC (w : World) (r : Nat) : Prop := ∀ (c : Array Value) (q : Nat) (z : Nat × Nat), w.heap[r]? ≠ some (.cells c q z)
theorem R_turn {α : Type} {d : Kd α} {e base : Nat} {ok : Nat → Prop} {w w1 : World} {v : Value} {xs : List α} (h : Kd.R d e w base ok v xs) {r : Nat} (hg : w.grownBy w1 (some r)) (hn : NC w r) : Kd.R d e w1 base ok v xs :=
 Kd.R_mono (Kd.R_move (Kd.R_bound h) (fun k hk => hg.block k hk.2.2.1 (by
  rintro e
  cases e
  obtain ⟨_, _, _, q, _, cells, hc⟩ := hk
  exact hn _ _ _ hc))) (fun _ hk => hk.1)
theorem blk_turn {w w1 : World} {g r q : Nat} {c : Array Value} {z : Nat × Nat} (h : w.heap[g]? = some (.cells c q z)) (hg : w.grownBy w1 (some r)) (hn : NC w r) : w1.heap[g]? = some (.cells c q z) := by
 refine blk_grown h hg ?_
 rintro e
 cases e
 exact hn _ _ _ h
theorem MP.nc {w : World} {b n : Nat} {f : Int → Option Int} (h : MP w b n f) : NC w b := by
 obtain ⟨D, ⟨es, clock, hb, _⟩, _⟩ := h
 intro c q z e
 rw [hb] at e
 cases e
theorem pe_int {c : Int} (hw : (Lit.int .i64 c).wf = true) : PE (.int .i64 c) = some (.lit (lk c), []) := plainElem_int Tryd.underlying3 hw
end Go.Proofs.YtmefnfhghfemgaaDoor.Q
end
section
namespace Go.Proofs.YtmefnfhghfemgaaDoor.Q
set_option linter.unusedSectionVars false
open Go.RowKit Go.Proofs.YtmefnfhghfemgaaDoorW.PrintWords Go.Proofs.YtmefnfhghfemgaaDoorW.PrintLast Go.Proofs.YtmefnfhghfemgaaDoorW.PrintMore
def fits64 (x : Int) : Prop := -9223372036854775808 ≤ x ∧ x ≤ 9223372036854775807
theorem lk_wf64 {x : Int} (h : fits64 x) : (Lit.int .i64 x).wf = true := by
 unfold Lit.wf
 rw [Bool.and_eq_true]
 exact ⟨decide_eq_true (Int.le_trans (by decide) h.1), decide_eq_true (Int.le_trans h.2 (by decide))⟩
theorem zeroIw (w : World) : (zeroValue 3).run Tryd.prog w = .ok (.int .i64 0) w := by kernel_rfl
def litIw : DataW Unit → Int
 | .lit (.int _ c) => c
 | _ => 0
theorem wpList_putW {P : Program} {ops : Array Oper} {rest : List Oper} {o : Oper} {a : Act} {Q : Exit → Act → World → Prop} (hP : P = Tryd.prog) (w : World) (hg : o.guard = none) (m x v : Operand) (t : TypeId) (hop : o.op = .mapUpdate t m x v) (ht : Tryd.prog.underlying t = some (.map 3 3))
  (b n : Nat) (f : Int → Option Int) (h : MP w b n f) (hn : n < 1000000) (kx c : Int) (hm : a.eval m = .map (some b)) (hx : a.eval x = .int .i64 kx) (hv : a.eval v = .int .i64 c) (hk : fits64 kx) (hc : fits64 c)
  (hK : ∀ w', MP w' b (n + 1) (upd f kx c) → w.grownBy w' (some b) → wpList P ops Q rest (a.put o.dst undef) w') : wpList P ops Q (o :: rest) a w := by
 subst hP
 obtain ⟨D, hown, hh⟩ := h
 exact wpList_mapUpdate_own w hg m x v t hop 3 3 keyI ht PE b n D hm hown (by unfold maxLen; omega) _ _ (lk kx) hx hv (Maps.keyOf_int_mk Tryd.underlying3 (lk_wf64 hk)) (.lit (lk c)) [] (pe_int (lk_wf64 hc)) fun w' h1 h2 => hK w' ⟨_, h1, hh.put kx c⟩ h2
theorem wpList_lookW {P : Program} {ops : Array Oper} {rest : List Oper} {o : Oper} {a : Act} {Q : Exit → Act → World → Prop} (hP : P = Tryd.prog) (w : World) (hg : o.guard = none) (m x : Operand) (t : TypeId) (hop : o.op = .lookup t m x true) (ht : Tryd.prog.underlying t = some (.map 3 3))
  (b n : Nat) (f : Int → Option Int) (h : MP w b n f) (kx : Int) (hm : a.eval m = .map (some b)) (hx : a.eval x = .int .i64 kx) (hk : fits64 kx)
  (hK : wpList P ops Q rest (a.put o.dst (.tuple #[.int .i64 ((f kx).getD 0), .bool (f kx).isSome])) w) : wpList P ops Q (o :: rest) a w := by
 subst hP
 obtain ⟨D, hown, hh⟩ := h
 refine wpList_lookup_own_ok_int w hg m x t hop 3 3 .i64 keyI ht Tryd.underlying3 (zeroIw w) b n D hm hown _ (lk kx) hx (Maps.keyOf_int_mk Tryd.underlying3 (lk_wf64 hk)) fun c hat _ => ?_
 have hc : c = (f kx).getD 0 := by
  rw [hh.at'] at hat
  cases e : f kx with
  | none =>
   rw [e] at hat
   exact (congrArg litIw hat).symm
  | some c' =>
   rw [e] at hat
   exact (congrArg litIw hat).symm
 have hhas : Maps.has D (lk kx) = (f kx).isSome := hh.has' kx
 rw [hc]
 rw [show Maps.has D (lk kx) = (f kx).isSome from hhas]
 exact hK
theorem wpList_hit {P : Program} {ops : Array Oper} {rest : List Oper} {o : Oper} {a : Act} {Q : Exit → Act → World → Prop} (hP : P = Tryd.prog) (w : World) (hg : o.guard = none) (m x : Operand) (t : TypeId) (hop : o.op = .lookup t m x true) (ht : Tryd.prog.underlying t = some (.map 3 3))
  (b n : Nat) (f : Int → Option Int) (h : MP w b n f) (kx : Int) (hm : a.eval m = .map (some b)) (hx : a.eval x = .int .i64 kx) (hk : fits64 kx) (v : Int) (hf : f kx = some v)
  (hK : wpList P ops Q rest (a.put o.dst (.tuple #[.int .i64 v, .bool true])) w) : wpList P ops Q (o :: rest) a w :=
 wpList_lookW hP w hg m x t hop ht b n f h kx hm hx hk (by rw [hf]; exact hK)
theorem wpList_miss {P : Program} {ops : Array Oper} {rest : List Oper} {o : Oper} {a : Act} {Q : Exit → Act → World → Prop} (hP : P = Tryd.prog) (w : World) (hg : o.guard = none) (m x : Operand) (t : TypeId) (hop : o.op = .lookup t m x true) (ht : Tryd.prog.underlying t = some (.map 3 3))
  (b n : Nat) (f : Int → Option Int) (h : MP w b n f) (kx : Int) (hm : a.eval m = .map (some b)) (hx : a.eval x = .int .i64 kx) (hk : fits64 kx) (hf : f kx = none)
  (hK : wpList P ops Q rest (a.put o.dst (.tuple #[.int .i64 0, .bool false])) w) : wpList P ops Q (o :: rest) a w :=
 wpList_lookW hP w hg m x t hop ht b n f h kx hm hx hk (by rw [hf]; exact hK)
end Go.Proofs.YtmefnfhghfemgaaDoor.Q
end
section
namespace Go.Proofs.YtmefnfhghfemgaaDoor.Q
set_option linter.unusedSectionVars false
set_option linter.unusedSimpArgs false
set_option linter.unusedVariables false
open Go.RowKit Go.Proofs.YtmefnfhghfemgaaDoorW.PrintWords Go.Proofs.YtmefnfhghfemgaaDoorW.PrintLast Go.Proofs.YtmefnfhghfemgaaDoorW.PrintMore
def sumO (ad : Int → Option Bool) (rec : Nat → Option Int) (L : List Int) (S : Nat) : Nat → Nat → Int → Option Int
 | 0, _, a => some a
 | m + 1, i, a => if S.testBit i = true then sumO ad rec L S m (i + 1) a else if S = 0 then (rec (S + 2 ^ i)).bind fun c => sumO ad rec L S m (i + 1) (wrap64 (a + c)) else (ad (rd L (i : Int))).bind fun b => if b = true then (rec (S + 2 ^ i)).bind fun c => sumO ad rec L S m (i + 1) (wrap64 (a + c)) else sumO ad rec L S m (i + 1) a
def addO (k : Nat) (w h : Int) (c : List Int) (a : Int) : Option Bool := (impl_tray_added.f k w h c a).bind fun s => some (!decide (s.toList = ([] : List UInt8)))
def ordF : Nat → Int → Int → List Int → List Int → Nat → Option Int
 | 0, _, _, _, _, _ => none
 | k + 1, w, h, l, L, S => if S < 2 ^ L.length ∧ (0 < l.length ∧ l.length ≤ 1000) ∧ L.length ≤ 10 ∧ inB l L = true then (if S = 2 ^ L.length - 1 then some 1 else sumO (addO k w h (putC (emptyC l) L S L.length)) (ordF k w h l L) L S L.length 0 0) else none
theorem sumO_mono {ad ad' : Int → Option Bool} {rec rec' : Nat → Option Int} (ha : ∀ a, LeO (ad a) (ad' a)) (hr : ∀ S, LeO (rec S) (rec' S)) (L : List Int) (S : Nat) : ∀ (m i : Nat) (a : Int), LeO (sumO ad rec L S m i a) (sumO ad' rec' L S m i a)
 | 0, _, _ => LeO.refl _
 | m + 1, i, a => by
  unfold sumO
  exact LeO.ite (sumO_mono ha hr L S m _ _) (LeO.ite (LeO.bind (hr _) fun c => sumO_mono ha hr L S m _ _) (LeO.bind (ha _) fun b => LeO.ite (LeO.bind (hr _) fun c => sumO_mono ha hr L S m _ _) (sumO_mono ha hr L S m _ _)))
theorem ordF_mono : ∀ (k : Nat) (w h : Int) (l L : List Int) (S : Nat), LeO (ordF k w h l L S) (ordF (k + 1) w h l L S)
 | 0, _, _, _, _, _ => LeO.none _
 | k + 1, w, h, l, L, S => by
  unfold ordF
  exact LeO.ite (LeO.ite (LeO.refl _) (sumO_mono (fun a => LeO.bind (impl_tray_added.mono _ _ _ _ _) fun _ => LeO.refl _) (ordF_mono k w h l L) L S _ _ _)) (LeO.refl _)
theorem ordF_same {k k' : Nat} {w h : Int} {l L : List Int} {S : Nat} {r r' : Int} (h1 : ordF k w h l L S = some r) (h2 : ordF k' w h l L S = some r') : r = r' := by
 have e1 := at_rounds (g := fun k => ordF k w h l L S) (fun k => ordF_mono k w h l L S) (Nat.le_max_left k k') h1
 have e2 := at_rounds (g := fun k => ordF k w h l L S) (fun k => ordF_mono k w h l L S) (Nat.le_max_right k k') h2
 exact Option.some.inj (e1.symm.trans e2)
theorem wrap_fits (n : Int) : fits64 (wrap64 n) := by unfold fits64 wrap64; omega
theorem sumO_fits {ad : Int → Option Bool} {rec : Nat → Option Int} {L : List Int} {S : Nat} : ∀ (m i : Nat) (a r : Int), fits64 a → sumO ad rec L S m i a = some r → fits64 r
 | 0, _, a, r, ha, h => by
  rw [← Option.some.inj h]
  exact ha
 | m + 1, i, a, r, ha, h => by
  unfold sumO at h
  split at h
  ·exact sumO_fits m _ _ _ ha h
  split at h
  ·obtain ⟨c, _, h⟩ := Option.bind_eq_some_iff.1 h
   exact sumO_fits m _ _ _ (wrap_fits _) h
  ·obtain ⟨b, _, h⟩ := Option.bind_eq_some_iff.1 h
   split at h
   ·obtain ⟨c, _, h⟩ := Option.bind_eq_some_iff.1 h
    exact sumO_fits m _ _ _ (wrap_fits _) h
   ·exact sumO_fits m _ _ _ ha h
def TR (w h : Int) (l L : List Int) (f : Int → Option Int) : Prop := ∀ x c, f x = some c → ∃ k S : Nat, x = (S : Int) ∧ ordF k w h l L S = some c
def mu (f : Int → Option Int) : Nat := (List.range 1024).countP fun x : Nat => (f (x : Int)).isNone
theorem mu_upd (f : Int → Option Int) (S : Nat) (v : Int) (hS : S < 1024) (hf : f (S : Int) = none) : mu f = mu (upd f S v) + 1 := by
 have h := PO.mu_put (fun x : Nat => f (x : Int)) S v 1024 hS hf
 have e2 : (fun x : Nat => (upd f S v (x : Int)).isNone) = fun x : Nat => (if x = S then some v else f (x : Int)).isNone := by
  funext x
  unfold upd
  by_cases e : x = S
  ·rw [if_pos e, if_pos (by omega)]
  ·rw [if_neg e, if_neg (by omega)]
 unfold mu
 rw [e2]
 exact h
theorem mu_none : mu (fun _ => none) ≤ 1024 := by
 have := List.countP_le_length (p := fun x : Nat => ((fun _ : Int => (none : Option Int)) (x : Int)).isNone) (l := List.range 1024)
 rw [List.length_range] at this
 exact this
structure OR (W : World) (go gl gk gc b : Nat) (tw th : Int) (A : Option Addr) (c : Nat) (l : List Int) (AL : Option Addr) (cL : Nat) (L : List Int) : Prop where
 own : W.heap[go]? = some (.cells #[.int .i64 tw, .int .i64 th, .slice A l.length c] 46 (0, 0))
 lst : W.heap[gl]? = some (.cells #[.slice AL L.length cL] 31 (0, 0))
 kno : W.heap[gk]? = some (.cells #[.map (some b)] 86 (0, 0))
 cnt : W.heap[gc]? = some (.cells #[.func (.func 67) #[] #[.pointer (some ⟨gl, 0, none⟩), .pointer (some ⟨gk, 0, none⟩), .pointer (some ⟨go, 0, none⟩), .pointer (some ⟨gc, 0, none⟩)]] 52 (0, 0))
 cells : Kd.V (Kd.int .u8) 5 W 0 (fun k => k ≠ b) (.slice A l.length c) l
 list : Kd.V (Kd.int .i64) 3 W 0 (fun k => k ≠ b) (.slice AL L.length cL) L
section
variable {W W1 : World} {go gl gk gc b : Nat} {tw th : Int} {A AL : Option Addr} {c cL : Nat} {l L : List Int}
theorem OR.turn (h : OR W go gl gk gc b tw th A c l AL cL L) (hn : NC W b) (hg : W.grownBy W1 (some b)) : OR W1 go gl gk gc b tw th A c l AL cL L :=
 ⟨blk_turn h.own hg hn, blk_turn h.lst hg hn, blk_turn h.kno hg hn, blk_turn h.cnt hg hn, Kd.V_grown h.cells hg (fun k hk e => hk (Option.some.inj e)), Kd.V_grown h.list hg (fun k hk e => hk (Option.some.inj e))⟩
theorem OR.below (h : OR W go gl gk gc b tw th A c l AL cL L) (hb : Below W.heap.size W W1) : OR W1 go gl gk gc b tw th A c l AL cL L :=
 ⟨blk_below h.own hb, blk_below h.lst hb, blk_below h.kno hb, blk_below h.cnt hb, Kd.V_below h.cells hb, Kd.V_below h.list hb⟩
end
structure NW (w W : World) (go gb : Nat) (a b : Int) (n c : Nat) (xs : List Int) (mb : Nat) : Prop where
 grown : w.grownBy W (some mb)
 out : W.heap[go]? = some (.cells #[.int .i64 a, .int .i64 b, .slice (some ⟨gb, 0, none⟩) n c] 46 (0, 0))
 row : Kd.R (Kd.int .u8) 5 W w.heap.size (fun _ => True) (.slice (some ⟨gb, 0, none⟩) n c) xs
 go0 : w.heap.size ≤ go
 gb0 : w.heap.size ≤ gb
 mb0 : mb < w.heap.size
 len : xs.length = n
section
variable {w W W1 : World} {go gb n c mb : Nat} {a b : Int} {xs : List Int}
theorem NW.turn (h : NW w W go gb a b n c xs mb) (hg : W.grownBy W1 (some mb)) : NW w W1 go gb a b n c xs mb := by
 have h1 := h.go0
 have h2 := h.mb0
 exact ⟨h.grown.trans hg, blk_grown h.out hg (by simp; omega), Kd.R_mono (Kd.R_grown (Kd.R_bound h.row) hg (fun k hk e => by have h3 := hk.2.1; have h4 := Option.some.inj e; omega)) (fun _ _ => trivial), h.go0, h.gb0, h.mb0, h.len⟩
theorem NW.step (h : NW w W go gb a b n c xs mb) (hb : Below W.heap.size W W1) : NW w W1 go gb a b n c xs mb := h.turn (grown_of_below hb _)
theorem NW.neb (h : NW w W go gb a b n c xs mb) : go ≠ gb := fun e => Kd.R_ne h.row h.out (by decide) (by rw [e]; rfl)
theorem NW.set (h : NW w W go gb a b n c xs mb) (i x : Int) : NW w (W.setCell ⟨gb, i.toNat, none⟩ (.int .u8 x)) go gb a b n c (xs.set i.toNat x) mb := by
 obtain ⟨h1, h2⟩ := Kd.R_putg h.row i x
 exact ⟨h.grown.andThen h2 (fun j e => Or.inl (by rw [← Option.some.inj e]; exact h.gb0)), blk_far h.out h.neb _, h1, h.go0, h.gb0, h.mb0, by rw [List.length_set]; exact h.len⟩
end
end Go.Proofs.YtmefnfhghfemgaaDoor.Q
end
section
namespace Go.Proofs.YtmefnfhghfemgaaDoor.Q
set_option linter.unusedSectionVars false
open Go.RowKit Go.Proofs.YtmefnfhghfemgaaDoorW.PrintWords Go.Proofs.YtmefnfhghfemgaaDoorW.PrintLast Go.Proofs.YtmefnfhghfemgaaDoorW.PrintMore
open Classical
theorem emptyC_open {cs : List Int} (ho : ∀ c ∈ cs, c = 46 ∨ c = 111) : emptyC cs = List.replicate cs.length 46 := by
 refine rd_same (by unfold emptyC; simp) fun j hj => ?_
 unfold emptyC at hj ⊢
 rw [List.length_map] at hj
 rw [rd_nat _ j (by rw [List.length_map]; exact hj), rd_nat _ j (by rw [List.length_replicate]; exact hj), List.getElem_map, List.getElem_replicate]
 rcases ho _ (List.getElem_mem hj) with h | h <;> rw [h] <;> decide
def cntQ (w h : Nat) (cs : List Int) (S : Nat) : Nat := PO.Q (ballsOf cs).length (eS w h (w * h) (ballsOf cs)) S (2 ^ (ballsOf cs).length - 1)
section
variable {w h : Nat} {cs : List Int} (hw : w ≤ 7) (hh : h ≤ 7) (hs : w * h ≤ 36) (hn : cs.length = w * h) (h10 : (ballsOf cs).length ≤ 10)
include hw hh hs hn h10
theorem full_lt : 2 ^ (ballsOf cs).length - 1 < 2 ^ (ballsOf cs).length := by
 have := Nat.two_pow_pos (ballsOf cs).length
 omega
theorem addO_ev (S i : Nat) (hi : i < (ballsOf cs).length) : Ev (fun k => addO k w h (nowC (w * h) (ballsOf cs) S) (rd (ballsOf cs) (i : Int))) (wayB w h (nowC (w * h) (ballsOf cs) S) (rd (ballsOf cs) (i : Int))) := by
 have hL : Cells (w * h) (ballsOf cs) := hn ▸ cells_balls cs
 have hin := nowC_in hL S i hi
 have h0 := hin
 unfold inCells at h0
 refine Ev.bind (f := fun _ (s : ByteArray) => some (!decide (s.toList = ([] : List UInt8)))) (added_ev hw hh hs (nowC_len hL S) _ hin) (Ev.const ?_)
 congr 1
 cases hx : wayB w h (nowC (w * h) (ballsOf cs) S) (rd (ballsOf cs) (i : Int)) with
 | true => rw [decide_eq_false fun e => (wayB_added h0.1).1 hx ((added_empty _).1 e)]; rfl
 | false =>
  rw [decide_eq_true ((added_empty _).2 (Classical.byContradiction fun q => by
   have := (wayB_added h0.1).2 q
   rw [hx] at this
   cases this))]
  rfl
theorem sumO_ev (S : Nat) (hS : S < 2 ^ (ballsOf cs).length) (hf : S ≠ 2 ^ (ballsOf cs).length - 1)
  (hrec : ∀ i, i < (ballsOf cs).length → S.testBit i = false → Ev (fun k => ordF k w h cs (ballsOf cs) (S + 2 ^ i)) ((cntQ w h cs (S + 2 ^ i) : Nat) : Int)) :
  ∀ (m i : Nat), i + m = (ballsOf cs).length → Ev (fun k => sumO (addO k w h (nowC (w * h) (ballsOf cs) S)) (ordF k w h cs (ballsOf cs)) (ballsOf cs) S m i ((PO.sumL (List.range i) (fun j => PO.on (eS w h (w * h) (ballsOf cs)) S j * cntQ w h cs (S + 2 ^ j)) : Nat) : Int)) ((cntQ w h cs S : Nat) : Int)
 | 0, i, hi => by
  obtain rfl : i = (ballsOf cs).length := by omega
  refine Ev.congr (Ev.const (o := some ((cntQ w h cs S : Nat) : Int)) rfl) fun k => ?_
  unfold sumO
  congr 2
  unfold cntQ
  rw [PO.Q_step _ _ hS, if_neg hf, Nat.zero_add]
 | m + 1, i, hi => by
  have ih := sumO_ev S hS hf hrec m (i + 1) (by omega)
  have hg : PO.sumL (List.range (i + 1)) (fun j => PO.on (eS w h (w * h) (ballsOf cs)) S j * cntQ w h cs (S + 2 ^ j)) ≤ 10000000000 := by
   refine Nat.le_trans (PO.sumL_part _ (i + 1) (ballsOf cs).length (by omega)) ?_
   have h1 := PO.Q_fits (ballsOf cs).length (eS w h (w * h) (ballsOf cs)) h10 hS (full_lt hw hh hs hn h10)
   rw [PO.Q_step _ _ hS, if_neg hf, Nat.zero_add] at h1
   exact h1
  have hstep : PO.sumL (List.range (i + 1)) (fun j => PO.on (eS w h (w * h) (ballsOf cs)) S j * cntQ w h cs (S + 2 ^ j)) = PO.sumL (List.range i) (fun j => PO.on (eS w h (w * h) (ballsOf cs)) S j * cntQ w h cs (S + 2 ^ j)) + PO.on (eS w h (w * h) (ballsOf cs)) S i * cntQ w h cs (S + 2 ^ i) := by
   rw [List.range_succ, PO.sumL_append, PO.sumL_cons, PO.sumL_nil, Nat.add_zero]
  rw [hstep] at ih hg
  generalize PO.sumL (List.range i) (fun j => PO.on (eS w h (w * h) (ballsOf cs)) S j * cntQ w h cs (S + 2 ^ j)) = acc at ih hg ⊢
  have hadd := addO_ev hw hh hs hn h10 S i (by omega)
  by_cases hb : S.testBit i = true
  ·have e0 : PO.on (eS w h (w * h) (ballsOf cs)) S i = 0 := by
    unfold PO.on
    rw [if_neg fun h => by rw [hb] at h; cases h.1]
   rw [e0, Nat.zero_mul, show acc + 0 = acc from rfl] at ih
   refine Ev.congr ih fun k => ?_
   rw [sumO, if_pos hb]
  ·have hb2 : S.testBit i = false := by simpa using hb
   have hr := hrec i (by omega) hb2
   have hwr : ∀ c : Nat, acc + 1 * c ≤ 10000000000 → wrap64 ((acc : Int) + (c : Int)) = ((acc + 1 * c : Nat) : Int) := fun c hc => by
    unfold wrap64
    omega
   by_cases h0 : S = 0
   ·have e1 : PO.on (eS w h (w * h) (ballsOf cs)) S i = 1 := by
     unfold PO.on eS
     rw [if_pos ⟨hb2, by rw [decide_eq_true h0]; rfl⟩]
    rw [e1] at ih hg
    refine Ev.congr (Ev.bind (f := fun k (c : Int) => sumO (addO k w h (nowC (w * h) (ballsOf cs) S)) (ordF k w h cs (ballsOf cs)) (ballsOf cs) S m (i + 1) (wrap64 ((acc : Int) + c))) hr (Ev.congr ih fun k => ?_)) fun k => ?_
    ·rw [hwr _ hg]
    ·rw [sumO, if_neg hb, if_pos h0]
   ·cases hx : wayB w h (nowC (w * h) (ballsOf cs) S) (rd (ballsOf cs) (i : Int)) with
    | true =>
     rw [hx] at hadd
     have e1 : PO.on (eS w h (w * h) (ballsOf cs)) S i = 1 := by
      unfold PO.on eS
      rw [if_pos ⟨hb2, by rw [hx, Bool.or_true]⟩]
     rw [e1] at ih hg
     refine Ev.congr (Ev.bind (f := fun k (b : Bool) => if b = true then (ordF k w h cs (ballsOf cs) (S + 2 ^ i)).bind fun c => sumO (addO k w h (nowC (w * h) (ballsOf cs) S)) (ordF k w h cs (ballsOf cs)) (ballsOf cs) S m (i + 1) (wrap64 ((acc : Int) + c)) else sumO (addO k w h (nowC (w * h) (ballsOf cs) S)) (ordF k w h cs (ballsOf cs)) (ballsOf cs) S m (i + 1) (acc : Int)) hadd ?_) fun k => ?_
     ·refine Ev.congr (Ev.bind (f := fun k (c : Int) => sumO (addO k w h (nowC (w * h) (ballsOf cs) S)) (ordF k w h cs (ballsOf cs)) (ballsOf cs) S m (i + 1) (wrap64 ((acc : Int) + c))) hr (Ev.congr ih fun k => ?_)) fun k => if_pos rfl
      rw [hwr _ hg]
     ·rw [sumO, if_neg hb, if_neg h0]
    | false =>
     rw [hx] at hadd
     have e1 : PO.on (eS w h (w * h) (ballsOf cs)) S i = 0 := by
      unfold PO.on eS
      rw [if_neg fun h => by rw [decide_eq_false h0, hx] at h; cases h.2]
     rw [e1, Nat.zero_mul, show acc + 0 = acc from rfl] at ih
     refine Ev.congr (Ev.bind (f := fun k (b : Bool) => if b = true then (ordF k w h cs (ballsOf cs) (S + 2 ^ i)).bind fun c => sumO (addO k w h (nowC (w * h) (ballsOf cs) S)) (ordF k w h cs (ballsOf cs)) (ballsOf cs) S m (i + 1) (wrap64 ((acc : Int) + c)) else sumO (addO k w h (nowC (w * h) (ballsOf cs) S)) (ordF k w h cs (ballsOf cs)) (ballsOf cs) S m (i + 1) (acc : Int)) hadd (Ev.congr ih fun k => if_neg Bool.false_ne_true)) fun k => ?_
     rw [sumO, if_neg hb, if_neg h0]
theorem inB_balls : inB cs (ballsOf cs) = true := by
 have hL : Cells (w * h) (ballsOf cs) := hn ▸ cells_balls cs
 unfold inB
 rw [Bool.and_eq_true]
 refine ⟨decide_eq_true (by omega), List.all_eq_true.2 fun v hv => decide_eq_true ?_⟩
 obtain ⟨i, hi, rfl⟩ := List.getElem_of_mem hv
 have := hL.inN i hi
 rw [rd_nat _ i hi] at this
 rw [hn]
 exact this
theorem ordF_ev (ho : ∀ c ∈ cs, c = 46 ∨ c = 111) (h1 : 1 ≤ cs.length) : ∀ (m S : Nat), 2 ^ (ballsOf cs).length ≤ m + S → S < 2 ^ (ballsOf cs).length → Ev (fun k => ordF k w h cs (ballsOf cs) S) ((cntQ w h cs S : Nat) : Int)
 | 0, S, hm, hS => by omega
 | m + 1, S, hm, hS => by
  have hguard : S < 2 ^ (ballsOf cs).length ∧ (0 < cs.length ∧ cs.length ≤ 1000) ∧ (ballsOf cs).length ≤ 10 ∧ inB cs (ballsOf cs) = true := ⟨hS, ⟨by omega, by omega⟩, h10, inB_balls hw hh hs hn h10⟩
  by_cases hf : S = 2 ^ (ballsOf cs).length - 1
  ·refine Ev.step (Ev.const (o := some ((cntQ w h cs S : Nat) : Int)) rfl) fun k => ?_
   rw [ordF, if_pos hguard, if_pos hf]
   unfold cntQ
   rw [← hf, PO.Q_self _ _ hS]
   rfl
  ·have h2 := sumO_ev hw hh hs hn h10 S hS hf (fun i hi hb => ordF_ev ho h1 m (S + 2 ^ i) (by have := Nat.two_pow_pos i; omega) (PO.put_lt hS hi hb)) (ballsOf cs).length 0 (by omega)
   refine Ev.step h2 fun k => ?_
   rw [ordF, if_pos hguard, if_neg hf, emptyC_open ho, hn]
   rfl
end
end Go.Proofs.YtmefnfhghfemgaaDoor.Q
end
section
namespace Go.Proofs.YtmefnfhghfemgaaDoor.Q
open Go.RowKit Go.Proofs.YtmefnfhghfemgaaDoorW.PrintWords Go.Proofs.YtmefnfhghfemgaaDoorW.PrintLast Go.Proofs.YtmefnfhghfemgaaDoorW.PrintMore
attribute [local go_sem] max2_int min2_int max_two min_two max_three min_three max_four min_four
set_option linter.unusedVariables false
set_option linter.unusedSimpArgs false
def spec_tyEmpty.l0 : Nat → Int → Int → Int → Int → Int → List Int → Option (Int × Int × List Int)
 | 0, _, _, _, _, _, _ => none
 | k + 1, x0, x1, x6, x103000, x103001, x103002 => if x6 < (wrap64 (x0 * x1)) then (if x103002.length < 140737488355328 then (spec_tyEmpty.l0 k x0 x1 (wrap64 (x6 + 1)) x103000 x103001 (x103002 ++ [46])) else (none)) else (some (x103000, x103001, x103002))
def spec_tyEmpty.f (k : Nat) (a0 : Int) (a1 : Int) : Option (Int × Int × List Int) := spec_tyEmpty.l0 k a0 a1 0 a0 a1 ([] : List Int)
set_option maxHeartbeats 8000000 in
set_option maxRecDepth 100000 in
theorem spec_tyEmpty.calls (k : Nat) (a0 : Int) (a1 : Int) (r1 : Int) (r2 : Int) (r3 : List Int) (w : World) (h : spec_tyEmpty.f k a0 a1 = some (r1, r2, r3)) :
  Calls Tryd.prog 37 #[.int .i64 a0, .int .i64 a1] w fun e w' => ∃ v2_ : Value, e = .returned (.agg #[.int .i64 r1, .int .i64 r2, v2_]) ∧ Kd.R (Kd.int .u8) 5 w' w.heap.size (fun _ => True) v2_ r3 ∧ Below w.heap.size w w' := by
 have hu40 := Tryd.underlying40
 have HB := Aside0.mk (Below.refl w.heap.size w)
 have H : (spec_tyEmpty.l0 k a0 a1 0 a0 a1 ([] : List Int)) = some (r1, r2, r3) := h
 clear h
 have H' := Aside0.mk H
 clear H
 go_enter Tryd.func37, Tryd.ntmps37
 go_wp2_with (first | ((with_reducible refine gate_dst (N := 4) rfl ?_); refine boxE (N := 4) (cs := #[.int .i64 0, .int .i64 0, .slice none 0 0]) (t := 40) ?_; intro gb101 hg w3 hbox hb; have n0_ := Aside0.mk (below_step (bel HB) hb); have n1_ := Aside0.mk (hbox); have n2_ := Aside0.mk (gsz hg (bel HB)); have n3_ := Aside0.mk (gsz hg (bel HB)); clear HB; have HB := n0_; have BK101 := n1_; have GW101 := n2_; have GE101 := n3_; clear n0_ n1_ n2_ n3_; clear hb hbox hg) | ((with_reducible refine gate_dst (N := 5) rfl ?_); refine boxE (N := 5) (cs := #[.int .i64 0, .int .i64 0, .slice none 0 0]) (t := 40) ?_; intro gb102 hg w4 hbox hb; have n0_ := Aside0.mk (blk_below (g := gb101) (o := .cells #[.int .i64 0, .int .i64 0, .slice none 0 0] 40 (0, 0)) blc hb); have n1_ := Aside0.mk (below_step (bel HB) hb); have n2_ := Aside0.mk (hbox); have n3_ := Aside0.mk (gsz hg (bel HB)); have n4_ := Aside0.mk (gsz hg (bel HB)); have n5_ := Aside0.mk ((by rw [hg]; exact Nat.ne_of_lt (blk_lt (g := gb101) (o := .cells #[.int .i64 0, .int .i64 0, .slice none 0 0] 40 (0, 0)) blc) : gb101 ≠ gb102)); have n6_ := Aside0.mk ((by rw [hg]; exact Nat.ne_of_gt (blk_lt (g := gb101) (o := .cells #[.int .i64 0, .int .i64 0, .slice none 0 0] 40 (0, 0)) blc) : gb102 ≠ gb101)); clear BK101; clear HB; have BK101 := n0_; have HB := n1_; have BK102 := n2_; have GW102 := n3_; have GE102 := n4_; have NB101_102 := n5_; have NB102_101 := n6_; clear n0_ n1_ n2_ n3_ n4_ n5_ n6_; clear hb hbox hg; have hnb5 := NB102_101.out; have hnc5 := NB101_102.out; have hcz6_0 : w4.cell? ⟨gb102, 0, none⟩ = some (.int .i64 0) := (blk_cell BK102.out 0).trans rfl; have hcz6_1 : w4.cell? ⟨gb102, 1, none⟩ = some (.int .i64 0) := (blk_cell BK102.out 1).trans rfl; have hcz6_2 : w4.cell? ⟨gb102, 2, none⟩ = some (.slice none 0 0) := (blk_cell BK102.out 2).trans rfl; have hfz6_0 := blk_frozen BK102.out 0; have hfz6_1 := blk_frozen BK102.out 1; have hfz6_2 := blk_frozen BK102.out 2))
 go_loopg [6] k (fun kq v6 w' => ∃ (x6_1 : Int) (x103002_1 : List Int) (u103002 : Value), v6 = .int .i64 x6_1 ∧ Aside0 (spec_tyEmpty.l0 kq a0 a1 x6_1 a0 a1 x103002_1 = some (r1, r2, r3)) ∧ Aside0 (kq ≤ k) ∧ Aside0 (Kd.R (Kd.int .u8) 5 w' w.heap.size (fun _ => True) u103002 x103002_1) ∧ Aside0 (w'.heap[gb101]? = some (.cells #[.int .i64 0, .int .i64 0, (.slice none 0 0)] 40 (0, 0))) ∧ Aside0 (w'.heap[gb102]? = some (.cells #[.int .i64 a0, .int .i64 a1, u103002] 40 (0, 0))) ∧ Aside0 (Below w.heap.size w w'))
 case atStart => exact ⟨(0), (([] : List Int)), (.slice none 0 0), (by first | rfl | (simp; done) | (simp [*]; done)), H', ⟨Nat.le_refl _⟩, ⟨by first | exact Kd.R_nil _ _ _ _ _ | exact Kd.N_nil _ _ _ _ _ | exact Kd.V_nil _ _ _ _ _ | exact Kd.Q_nil _ _ _ _ _ | exact Kd.S_nil _ _ _ _ _⟩, ⟨by (with_reducible repeat (first | refine blk_drewN ?_ _ | refine blk_drew ?_ | refine blk_alloc ?_ _)); refine blk_far ?_ NB101_102.out _; (with_reducible repeat (first | refine blk_drewN ?_ _ | refine blk_drew ?_ | refine blk_alloc ?_ _)); refine blk_far ?_ NB101_102.out _; (with_reducible repeat (first | refine blk_drewN ?_ _ | refine blk_drew ?_ | refine blk_alloc ?_ _)); refine blk_far ?_ NB101_102.out _; exact blc⟩, ⟨by (with_reducible repeat (first | refine blk_drewN ?_ _ | refine blk_drew ?_ | refine blk_alloc ?_ _)); refine blk_put (cs := #[.int .i64 a0, .int .i64 a1, .slice none 0 0]) ?_ 2 _ rfl; (with_reducible repeat (first | refine blk_drewN ?_ _ | refine blk_drew ?_ | refine blk_alloc ?_ _)); refine blk_put (cs := #[.int .i64 a0, .int .i64 0, .slice none 0 0]) ?_ 1 _ rfl; (with_reducible repeat (first | refine blk_drewN ?_ _ | refine blk_drew ?_ | refine blk_alloc ?_ _)); refine blk_put (cs := #[.int .i64 0, .int .i64 0, .slice none 0 0]) ?_ 0 _ rfl; exact blc⟩, ⟨bel HB⟩⟩
 case round =>
  clear H'
  try clear p2
  try clear c3
  try clear c5
  try clear hcz6_0
  try clear hcz6_1
  try clear hcz6_2
  try clear hfz6_0
  try clear hfz6_1
  try clear hfz6_2
  obtain ⟨x6_1, x103002_1, u103002, rfl, HA, HK1, HO_103002, BK101, BK102, HB⟩ := hrel
  cases gk with
  | zero => exact absurd HA.out (by simp [spec_tyEmpty.l0])
  | succ k1 =>
   have H := HA.out
   clear HA
   simp only [spec_tyEmpty.l0] at H
   by_cases c7 : x6_1 < (wrap64 (a0 * a1))
   ·rw [if_pos c7] at H
    have c7b0 : decide (x6_1 < (wrap64 (a0 * a1))) = true := decide_eq_true c7
    clear c7
    by_cases c8 : x103002_1.length < 140737488355328
    ·rw [if_pos c8] at H
     have LMc8 := Aside0.mk c8
     clear c8
     obtain ⟨y103, hy103⟩ : ∃ y_ : List Int, y_ = (x103002_1 ++ [46]) := ⟨_, rfl⟩
     replace H : (spec_tyEmpty.l0 k1 a0 a1 (wrap64 (x6_1 + 1)) a0 a1 y103) = some (r1, r2, r3) := rH hy103 H
     have Ny103 := Aside0.mk hy103
     clear hy103
     have H' := Aside0.mk H
     clear H
     have hnb9 := NB102_101.out
     have hnc9 := NB101_102.out
     have hcz10_0 : wr.cell? ⟨gb102, 0, none⟩ = some (.int .i64 a0) := (blk_cell BK102.out 0).trans rfl
     have hcz10_1 : wr.cell? ⟨gb102, 1, none⟩ = some (.int .i64 a1) := (blk_cell BK102.out 1).trans rfl
     have hcz10_2 : wr.cell? ⟨gb102, 2, none⟩ = some (u103002) := (blk_cell BK102.out 2).trans rfl
     have hfz10_0 := blk_frozen BK102.out 0
     have hfz10_1 := blk_frozen BK102.out 1
     have hfz10_2 := blk_frozen BK102.out 2
     go_wp2_with (first | ((with_reducible refine gate_builtin (b := .append) (xs := #[.tmp 18, .tmp 19]) rfl ?_); at_builtin; refine Kd.R_append (Kd.int .u8) (w0 := w) w.heap.size rfl (.tmp 18) (.tmp 19) 38 5 (.int .u8 0) 1 rfl Tryd.underlying38 info5 rfl (by decide) (by omega) u103002 x103002_1 46 [.int .u8 46] (fun _ => True) (fun _ => False) rfl rfl ?aP (fun _ hk => hk.elim) ?aF ?aO ?aB ?aS ?aL ?_; (case aP => exact rfl); (case aB => exact (bel HB)); (case aF => exact (fun _ _ => trivial)); (case aO => exact (rch HO_103002)); (case aS => exact (below_size (bel HB))); (case aL => have := LMc8.out; omega); intro v104 w11 ho hb hg hat; rw [← Ny103.out] at ho; have n0_ := Aside0.mk (blk_grown (g := gb101) (o := .cells #[.int .i64 0, .int .i64 0, .slice none 0 0] 40 (0, 0)) blc hg (Kd.R_ne HO_103002.out BK101.out (by decide))); have n1_ := Aside0.mk (blk_grown (g := gb102) (o := .cells #[.int .i64 a0, .int .i64 a1, u103002] 40 (0, 0)) blc hg (Kd.R_ne HO_103002.out BK102.out (by decide))); have n2_ := Aside0.mk (hb); have n3_ := Aside0.mk (ho); clear BK101; clear BK102; clear HB; clear HO_103002; have BK101 := n0_; have BK102 := n1_; have HB := n2_; have HO105 := n3_; clear n0_ n1_ n2_ n3_; clear ho hb hg hat; obtain ⟨Ao12, co12, eo12⟩ := Kd.R_slice HO105.out; subst eo12; have hcz13_0 : w11.cell? ⟨gb102, 0, none⟩ = some (.int .i64 a0) := (blk_cell BK102.out 0).trans rfl; have hcz13_1 : w11.cell? ⟨gb102, 1, none⟩ = some (.int .i64 a1) := (blk_cell BK102.out 1).trans rfl; have hcz13_2 : w11.cell? ⟨gb102, 2, none⟩ = some (u103002) := (blk_cell BK102.out 2).trans rfl; have hfz13_0 := blk_frozen BK102.out 0; have hfz13_1 := blk_frozen BK102.out 1; have hfz13_2 := blk_frozen BK102.out 2))
     go_roundg k1
     case measure => have := HK1.out; omega
     case rel => exact ⟨(wrap64 (x6_1 + 1)), (y103), (.slice Ao12 y103.length co12), (by first | rfl | (simp; done) | (simp [*]; done)), H', ⟨by have := HK1.out; omega⟩, ⟨by (with_reducible repeat (first | apply Kd.R_alloc | apply Kd.R_drewN | apply Kd.R_drew)); exact Kd.R_mono (Kd.R_far (p := ⟨gb102, 2, none⟩) (Kd.R_types HO105.out BK102.out (by decide)) (fun _ hk => hk.2) (.slice Ao12 y103.length co12)) (fun _ hk => trivial)⟩, ⟨by (with_reducible repeat (first | refine blk_drewN ?_ _ | refine blk_drew ?_ | refine blk_alloc ?_ _)); refine blk_far ?_ NB101_102.out _; exact blc⟩, ⟨by (with_reducible repeat (first | refine blk_drewN ?_ _ | refine blk_drew ?_ | refine blk_alloc ?_ _)); refine blk_put (cs := #[.int .i64 a0, .int .i64 a1, u103002]) ?_ 2 _ rfl; exact blc⟩, ⟨bel HB⟩⟩
    ·rw [if_neg c8] at H
     exact absurd H (by simp)
   ·rw [if_neg c7] at H
    have c7b0 : decide (x6_1 < (wrap64 (a0 * a1))) = false := decide_eq_false c7
    clear c7
    simp only [Option.some.injEq, Prod.mk.injEq] at H
    obtain ⟨rfl, rfl, rfl⟩ := H
    have hnb14 := NB102_101.out
    have hnc14 := NB101_102.out
    have hcz15_0 : wr.cell? ⟨gb102, 0, none⟩ = some (.int .i64 a0) := (blk_cell BK102.out 0).trans rfl
    have hcz15_1 : wr.cell? ⟨gb102, 1, none⟩ = some (.int .i64 a1) := (blk_cell BK102.out 1).trans rfl
    have hcz15_2 : wr.cell? ⟨gb102, 2, none⟩ = some (u103002) := (blk_cell BK102.out 2).trans rfl
    have hfz15_0 := blk_frozen BK102.out 0
    have hfz15_1 := blk_frozen BK102.out 1
    have hfz15_2 := blk_frozen BK102.out 2
    have hcz16_0 : wr.cell? ⟨gb101, 0, none⟩ = some (.int .i64 0) := (blk_cell BK101.out 0).trans rfl
    have hcz16_1 : wr.cell? ⟨gb101, 1, none⟩ = some (.int .i64 0) := (blk_cell BK101.out 1).trans rfl
    have hcz16_2 : wr.cell? ⟨gb101, 2, none⟩ = some (.slice none 0 0) := (blk_cell BK101.out 2).trans rfl
    have hfz16_0 := blk_frozen BK101.out 0
    have hfz16_1 := blk_frozen BK101.out 1
    have hfz16_2 := blk_frozen BK101.out 2
    obtain ⟨Ao17, co17, eo17⟩ := Kd.R_slice HO_103002.out
    subst eo17
    go_wp2
    refine bodyPost_ret (results_cell_row rfl _ _ gb101 40 #[.int .i64 a0, .int .i64 a1, .slice Ao17 x103002_1.length co17] (0, 0) _ rfl (by (with_reducible repeat (first | refine blk_drewN ?_ _ | refine blk_drew ?_ | refine blk_alloc ?_ _)); refine blk_put (cs := #[.int .i64 a0, .int .i64 a1, .slice none 0 0]) ?_ 2 _ rfl; (with_reducible repeat (first | refine blk_drewN ?_ _ | refine blk_drew ?_ | refine blk_alloc ?_ _)); refine blk_put (cs := #[.int .i64 a0, .int .i64 0, .slice none 0 0]) ?_ 1 _ rfl; (with_reducible repeat (first | refine blk_drewN ?_ _ | refine blk_drew ?_ | refine blk_alloc ?_ _)); refine blk_put (cs := #[.int .i64 0, .int .i64 0, .slice none 0 0]) ?_ 0 _ rfl; exact blc) Tryd.underlying40 rfl (by kernel_rfl)) rfl ?_
    exact ⟨_, by first | rfl | (simp [errW_none, errW_some] <;> rfl) | (simp [*, errW_none, errW_some] <;> rfl), by (with_reducible repeat (first | apply Kd.R_alloc | apply Kd.R_drewN | apply Kd.R_drew)); exact Kd.R_mono (Kd.R_far (p := ⟨gb101, 2, none⟩) (Kd.R_far (p := ⟨gb101, 1, none⟩) (Kd.R_far (p := ⟨gb101, 0, none⟩) (Kd.R_types HO_103002.out BK101.out (by decide)) (fun _ hk => hk.2) (.int .i64 a0)) (fun _ hk => hk.2) (.int .i64 a1)) (fun _ hk => hk.2) (.slice Ao17 x103002_1.length co17)) (fun _ hk => trivial), bel HB⟩
end Go.Proofs.YtmefnfhghfemgaaDoor.Q
end
section
namespace Go.Proofs.YtmefnfhghfemgaaDoor.Q
set_option linter.unusedSectionVars false
set_option linter.unusedSimpArgs false
open Go.RowKit Go.Proofs.YtmefnfhghfemgaaDoorW.PrintWords Go.Proofs.YtmefnfhghfemgaaDoorW.PrintLast Go.Proofs.YtmefnfhghfemgaaDoorW.PrintMore
open Classical
theorem wn (n : Nat) (h : n ≤ 100000000000) : wrap64 (n : Int) = (n : Int) := by unfold wrap64; omega
theorem ws (n : Nat) (h : n ≤ 1000000) : wrap64 ((n : Int) + 1) = ((n + 1 : Nat) : Int) := by unfold wrap64; omega
theorem shl_nat (i : Nat) (h : i ≤ 10) : shl .i64 1 (i : Int) = ((2 ^ i : Nat) : Int) := by
 have h2 : 2 ^ i ≤ 2 ^ 10 := Nat.pow_le_pow_right (by decide) h
 have h1 : (2 : Int) ^ min i 64 = ((2 ^ i : Nat) : Int) := by rw [Nat.min_eq_left (by omega)]; simp
 unfold shl
 rw [i64_w, Int.one_mul, Int.toNat_natCast, show (IntKind.i64.bits : Nat) = 64 from rfl, h1]
 exact wn _ (Nat.le_trans h2 (by decide))
theorem shr_bit (S i : Nat) (h : i ≤ 10) : Int.tmod (shr .i64 (S : Int) (i : Int)) 2 = if S.testBit i = true then 1 else 0 := by
 have h1 : (2 : Int) ^ min i 64 = ((2 ^ i : Nat) : Int) := by rw [Nat.min_eq_left (by omega)]; simp
 unfold shr
 rw [Int.toNat_natCast, show (IntKind.i64.bits : Nat) = 64 from rfl, h1, show (S : Int) / ((2 ^ i : Nat) : Int) = ((S / 2 ^ i : Nat) : Int) from (Int.natCast_ediv _ _).symm, Nat.testBit_eq_decide_div_mod_eq]
 rw [show Int.tmod ((S / 2 ^ i : Nat) : Int) 2 = ((S / 2 ^ i % 2 : Nat) : Int) from rfl]
 rcases Nat.mod_two_eq_zero_or_one (S / 2 ^ i) with h5 | h5 <;> rw [h5] <;> simp
theorem shr_one {S i : Nat} (h : i ≤ 10) (hb : S.testBit i = true) : Int.tmod (shr .i64 (S : Int) (i : Int)) 2 = 1 := by rw [shr_bit S i h, if_pos hb]
theorem shr_zero {S i : Nat} (h : i ≤ 10) (hb : S.testBit i = false) : Int.tmod (shr .i64 (S : Int) (i : Int)) 2 = 0 := by rw [shr_bit S i h, if_neg (by rw [hb]; decide)]
section
variable {w h : Nat} (hs : w * h ≤ 36)
include hs
theorem empty_l0 : ∀ (m t : Nat), t + m = w * h → Ev (fun k => spec_tyEmpty.l0 k w h t w h (List.replicate t 46)) ((w : Int), (h : Int), List.replicate (w * h) 46)
 | 0, t, ht => by
  obtain rfl : t = w * h := by omega
  refine Ev.step (Ev.const (o := some ((w : Int), (h : Int), List.replicate (w * h) 46)) rfl) fun k => ?_
  rw [spec_tyEmpty.l0, if_neg]
  rw [show ((w : Int) * (h : Int)) = ((w * h : Nat) : Int) by simp, wn _ (by omega)]
  omega
 | m + 1, t, ht => by
  have ih := empty_l0 m (t + 1) (by omega)
  refine Ev.step ih fun k => ?_
  rw [spec_tyEmpty.l0, if_pos, if_pos, ws t (by omega), List.replicate_succ']
  ·rw [List.length_replicate]
   exact Nat.lt_of_le_of_lt (show t ≤ 36 by omega) (by decide)
  ·rw [show ((w : Int) * (h : Int)) = ((w * h : Nat) : Int) by simp, wn _ (by omega)]
   omega
theorem empty_ev : Ev (fun k => spec_tyEmpty.f k w h) ((w : Int), (h : Int), List.replicate (w * h) 46) := empty_l0 hs (w * h) 0 (by omega)
end
theorem pc_zero (n : Nat) : PO.pc n 0 = 0 := by
 unfold PO.pc
 rw [List.countP_eq_zero]
 intro a _
 simp
end Go.Proofs.YtmefnfhghfemgaaDoor.Q
end
