/- What each of these functions tells, in plain Lean, and the walk that shows it: for every input at which the plain form has an answer. Written by a program of the claim's author (xprint). -/
import Derived.Test.YtbplbbialcbceaaDoorQ0
import Derived.Test.YtbplbbialcbceaaDoorQg
import Derived.Test.YtbplbbialcbceaaDoorXcall
namespace Go.Proofs.YtbplbbialcbceaaDoor.Q
open Go.RowKit Go.Proofs.YtbplbbialcbceaaDoorW.PrintWords Go.Proofs.YtbplbbialcbceaaDoorW.PrintLast Go.Proofs.YtbplbbialcbceaaDoorW.PrintMore
attribute [local go_sem] max2_int min2_int max_two min_two max_three min_three max_four min_four
set_option linter.unusedVariables false
set_option linter.unusedSimpArgs false

/-! ### spec_skBlocked: function 44 -/
mutual
def spec_skBlocked.l0 : Nat → List Int → Int → List Bool → Bool → Int → Int → List Int → Option (List Bool)
 | 0, _, _, _, _, _, _, _ => none
 | k + 1, x1, x3, x9, x10, x102000, x102001, x102002 => if x10 = true then (spec_skBlocked.l1 k x1 x3 x9 false x1 (x1.length : Int) 0 x102000 x102001 x102002) else (some x9)
def spec_skBlocked.l1 : Nat → List Int → Int → List Bool → Bool → List Int → Int → Int → Int → Int → List Int → Option (List Bool)
 | 0, _, _, _, _, _, _, _, _, _, _ => none
 | k + 1, x1, x3, x9, x10, x17, x18, x19, x102000, x102001, x102002 => if x19 < x18 then (if 0 ≤ x19 then (if x19 < (x17.length : Int) then (if (rd x17 x19) < 0 then (spec_skBlocked.j2 k x1 x3 x9 x10 x19 (rd x17 x19) x17 x18 x19 true x102000 x102001 x102002) else (if 0 ≤ (rd x17 x19) then (if (rd x17 x19) < (x9.length : Int) then (spec_skBlocked.j2 k x1 x3 x9 x10 x19 (rd x17 x19) x17 x18 x19 (rdOf false x9 (rd x17 x19)) x102000 x102001 x102002) else (none)) else (none))) else (none)) else (none)) else (spec_skBlocked.l0 k x1 x3 x9 x10 x102000 x102001 x102002)
def spec_skBlocked.j2 : Nat → List Int → Int → List Bool → Bool → Int → Int → List Int → Int → Int → Bool → Int → Int → List Int → Option (List Bool)
 | 0, _, _, _, _, _, _, _, _, _, _, _, _, _ => none
 | k + 1, x1, x3, x9, x10, x11, x12, x17, x18, x19, x31, x102000, x102001, x102002 => if x31 = true then (spec_skBlocked.l1 k x1 x3 x9 x10 x17 x18 (wrap64 (x19 + 1)) x102000 x102001 x102002) else ((spec_tiAhead.f x102000 x102001 x102002 x11 x3).bind fun t107 => (if t107 < 0 then (if 0 ≤ x12 then (if x12 < (x9.length : Int) then (spec_skBlocked.l1 k x1 x3 (x9.set (x12 : Int).toNat true) true x17 x18 (wrap64 (x19 + 1)) x102000 x102001 x102002) else (none)) else (none)) else (if 0 ≤ t107 then (if t107 < (x1.length : Int) then (if (rd x1 t107) ≥ 0 then (if (rd x1 t107) = x12 then (spec_skBlocked.l1 k x1 x3 x9 x10 x17 x18 (wrap64 (x19 + 1)) x102000 x102001 x102002) else (if 0 ≤ (rd x1 t107) then (if (rd x1 t107) < (x9.length : Int) then (if rdOf false x9 (rd x1 t107) = true then (if 0 ≤ x12 then (if x12 < (x9.length : Int) then (spec_skBlocked.l1 k x1 x3 (x9.set (x12 : Int).toNat true) true x17 x18 (wrap64 (x19 + 1)) x102000 x102001 x102002) else (none)) else (none)) else (spec_skBlocked.l1 k x1 x3 x9 x10 x17 x18 (wrap64 (x19 + 1)) x102000 x102001 x102002)) else (none)) else (none))) else (spec_skBlocked.l1 k x1 x3 x9 x10 x17 x18 (wrap64 (x19 + 1)) x102000 x102001 x102002)) else (none)) else (none))))
end
def spec_skBlocked.f (k : Nat) (a0_0 : Int) (a0_1 : Int) (l0_2 : List Int) (l1 : List Int) (a2 : Int) (a3 : Int) : Option (List Bool) := if 0 ≤ a2 then (if (a2 : Int).toNat ≤ 281474976710656 then (spec_skBlocked.l0 k l1 a3 (List.replicate (a2 : Int).toNat false) true a0_0 a0_1 l0_2) else (none)) else (none)
theorem spec_skBlocked.mono_l : ∀ k, (∀ y0 y1 y2 y3 y4 y5 y6, LeO (spec_skBlocked.l0 k y0 y1 y2 y3 y4 y5 y6) (spec_skBlocked.l0 (k + 1) y0 y1 y2 y3 y4 y5 y6)) ∧ (∀ y0 y1 y2 y3 y4 y5 y6 y7 y8 y9, LeO (spec_skBlocked.l1 k y0 y1 y2 y3 y4 y5 y6 y7 y8 y9) (spec_skBlocked.l1 (k + 1) y0 y1 y2 y3 y4 y5 y6 y7 y8 y9)) ∧ (∀ y0 y1 y2 y3 y4 y5 y6 y7 y8 y9 y10 y11 y12, LeO (spec_skBlocked.j2 k y0 y1 y2 y3 y4 y5 y6 y7 y8 y9 y10 y11 y12) (spec_skBlocked.j2 (k + 1) y0 y1 y2 y3 y4 y5 y6 y7 y8 y9 y10 y11 y12))
 | 0 => ⟨fun _ _ _ _ _ _ _ r h => by simp [spec_skBlocked.l0] at h, fun _ _ _ _ _ _ _ _ _ _ r h => by simp [spec_skBlocked.l1] at h, fun _ _ _ _ _ _ _ _ _ _ _ _ _ r h => by simp [spec_skBlocked.j2] at h⟩
 | k + 1 => by
  obtain ⟨ih0, ih1, ih2⟩ := spec_skBlocked.mono_l k
  refine ⟨?_, ?_, ?_⟩
  ·intro y0 y1 y2 y3 y4 y5 y6
   unfold spec_skBlocked.l0
   repeat' first
   | (with_reducible exact ih0 _ _ _ _ _ _ _)
   | (with_reducible exact ih1 _ _ _ _ _ _ _ _ _ _)
   | (with_reducible exact ih2 _ _ _ _ _ _ _ _ _ _ _ _ _)
   | (with_reducible exact LeO.refl _)
   | (with_reducible exact LeO.none _)
   | (with_reducible refine LeO.ite ?_ ?_)
   | (with_reducible refine LeO.bind ?_ (fun _ => ?_))
   | exact ih0 _ _ _ _ _ _ _
   | exact ih1 _ _ _ _ _ _ _ _ _ _
   | exact ih2 _ _ _ _ _ _ _ _ _ _ _ _ _
   | exact LeO.none _
   | refine LeO.ite ?_ ?_
   | refine LeO.bind ?_ (fun _ => ?_)
  ·intro y0 y1 y2 y3 y4 y5 y6 y7 y8 y9
   unfold spec_skBlocked.l1
   repeat' first
   | (with_reducible exact ih0 _ _ _ _ _ _ _)
   | (with_reducible exact ih1 _ _ _ _ _ _ _ _ _ _)
   | (with_reducible exact ih2 _ _ _ _ _ _ _ _ _ _ _ _ _)
   | (with_reducible exact LeO.refl _)
   | (with_reducible exact LeO.none _)
   | (with_reducible refine LeO.ite ?_ ?_)
   | (with_reducible refine LeO.bind ?_ (fun _ => ?_))
   | exact ih0 _ _ _ _ _ _ _
   | exact ih1 _ _ _ _ _ _ _ _ _ _
   | exact ih2 _ _ _ _ _ _ _ _ _ _ _ _ _
   | exact LeO.none _
   | refine LeO.ite ?_ ?_
   | refine LeO.bind ?_ (fun _ => ?_)
  ·intro y0 y1 y2 y3 y4 y5 y6 y7 y8 y9 y10 y11 y12
   unfold spec_skBlocked.j2
   repeat' first
   | (with_reducible exact ih0 _ _ _ _ _ _ _)
   | (with_reducible exact ih1 _ _ _ _ _ _ _ _ _ _)
   | (with_reducible exact ih2 _ _ _ _ _ _ _ _ _ _ _ _ _)
   | (with_reducible exact LeO.refl _)
   | (with_reducible exact LeO.none _)
   | (with_reducible refine LeO.ite ?_ ?_)
   | (with_reducible refine LeO.bind ?_ (fun _ => ?_))
   | exact ih0 _ _ _ _ _ _ _
   | exact ih1 _ _ _ _ _ _ _ _ _ _
   | exact ih2 _ _ _ _ _ _ _ _ _ _ _ _ _
   | exact LeO.none _
   | refine LeO.ite ?_ ?_
   | refine LeO.bind ?_ (fun _ => ?_)
theorem spec_skBlocked.mono : ∀ a0 a1 a2 a3 a4 a5 k, LeO (spec_skBlocked.f k a0 a1 a2 a3 a4 a5) (spec_skBlocked.f (k + 1) a0 a1 a2 a3 a4 a5) := by
 intro a0 a1 a2 a3 a4 a5 k
 obtain ⟨ih0, ih1, ih2⟩ := spec_skBlocked.mono_l k
 unfold spec_skBlocked.f
 repeat' first
   | (with_reducible exact ih0 _ _ _ _ _ _ _)
   | (with_reducible exact ih1 _ _ _ _ _ _ _ _ _ _)
   | (with_reducible exact ih2 _ _ _ _ _ _ _ _ _ _ _ _ _)
   | (with_reducible exact LeO.refl _)
   | (with_reducible exact LeO.none _)
   | (with_reducible refine LeO.ite ?_ ?_)
   | (with_reducible refine LeO.bind ?_ (fun _ => ?_))
   | exact ih0 _ _ _ _ _ _ _
   | exact ih1 _ _ _ _ _ _ _ _ _ _
   | exact ih2 _ _ _ _ _ _ _ _ _ _ _ _ _
   | exact LeO.none _
   | refine LeO.ite ?_ ?_
   | refine LeO.bind ?_ (fun _ => ?_)
set_option maxHeartbeats 8000000 in
set_option maxRecDepth 100000 in
theorem spec_skBlocked.calls (k : Nat) (a0_0 : Int) (a0_1 : Int) (A0_2 : Option Addr) (c0_2 : Nat) (l0_2 : List Int) (A1 : Option Addr) (c1 : Nat) (l1 : List Int) (a2 : Int) (a3 : Int) (r : List Bool) (w : World) (hr0_2 : Kd.C (Kd.int .u8) w A0_2 l0_2.length l0_2) (hc0_2 : l0_2.length ≤ c0_2) (hr1 : Kd.C (Kd.int .i64) w A1 l1.length l1) (hc1 : l1.length ≤ c1) (h : spec_skBlocked.f k a0_0 a0_1 l0_2 l1 a2 a3 = some r) :
  Calls Tryd.prog 44 #[.agg #[.int .i64 a0_0, .int .i64 a0_1, .slice A0_2 l0_2.length c0_2], .slice A1 l1.length c1, .int .i64 a2, .int .i64 a3] w fun e w' => ∃ v0_ : Value, e = .returned (v0_) ∧ Kd.R Kd.bool 4 w' w.heap.size (fun _ => True) v0_ r ∧ Below w.heap.size w w' := by
 have hu39 := Tryd.underlying39
 have HR0_2 := Aside0.mk hr0_2
 have HC0_2 := Aside0.mk hc0_2
 clear hr0_2 hc0_2
 have HR1 := Aside0.mk hr1
 have HC1 := Aside0.mk hc1
 clear hr1 hc1
 have HB := Aside0.mk (Below.refl w.heap.size w)
 have H : (if 0 ≤ a2 then (if (a2 : Int).toNat ≤ 281474976710656 then (spec_skBlocked.l0 k l1 a3 (List.replicate (a2 : Int).toNat false) true a0_0 a0_1 l0_2) else (none)) else (none)) = some r := h
 clear h
 by_cases c5 : 0 ≤ a2
 ·rw [if_pos c5] at H
  have c5b0 := eq_true c5
  have c5b1 : decide (0 ≤ a2) = true := decide_eq_true c5
  clear c5
  by_cases c6 : (a2 : Int).toNat ≤ 281474976710656
  ·rw [if_pos c6] at H
   have c6b0 := eq_true c6
   have c6b1 : decide ((a2 : Int).toNat ≤ 281474976710656) = true := decide_eq_true c6
   clear c6
   obtain ⟨y102, hy102⟩ : ∃ y_ : List Bool, y_ = (List.replicate (a2 : Int).toNat false) := ⟨_, rfl⟩
   replace H : (spec_skBlocked.l0 k l1 a3 y102 true a0_0 a0_1 l0_2) = some r := by first | (rw [hy102]; with_reducible exact H) | (have H2_ := (Option.bind_some _ _).symm.trans H; rw [hy102]; with_reducible exact H2_) | (have H2_ := (Option.bind_some _ _).symm.trans H; with_reducible exact H2_) | with_reducible exact H | (rw [hy102]; exact H) | exact H
   have Ny102 := Aside0.mk hy102
   clear hy102
   have H' := Aside0.mk H
   clear H
   go_enter Tryd.func44, Tryd.ntmps44
   go_wp2_with (first | ((with_reducible refine gate_dst (N := 4) rfl ?_); refine box_event ?hg (N := 4) ?hd (cs := #[.int .i64 a0_0, .int .i64 a0_1, .slice A0_2 l0_2.length c0_2]) (t := 39) ?hr ?_; (case hd => rfl); (case hg => rfl); (case hr => first | (go_simp; done) | (go_simp; rfl)); intro gb101 hg w7 hbox hb; have n0_ := Aside0.mk (below_step (bel HB) hb); have n1_ := Aside0.mk (hbox); have n2_ := Aside0.mk ((by rw [hg]; exact (below_size (bel HB)) : w.heap.size ≤ gb101)); have n3_ := Aside0.mk ((by rw [hg]; exact (below_size (bel HB)) : w.heap.size ≤ gb101)); clear HB; have HB := n0_; have BK101 := n1_; have GW101 := n2_; have GE101 := n3_; clear n0_ n1_ n2_ n3_; clear hb hbox hg) | ((with_reducible refine gate_dst (N := 15) rfl ?_); refine Kd.R_make Kd.bool _ 4 rfl (N := 15) rfl 61 _ _ rfl a2 rfl rfl Tryd.underlying61 (.bool false) 1 info4 rfl (by decide) (by omega) false (ok := fun _ => True) (okp := fun _ => True) rfl (fun _ hk => hk) trivial (of_decide_eq_true (by first | (with_reducible assumption) | assumption)) (Nat.le_trans (Nat.mul_le_mul_right _ (of_decide_eq_true (by first | (with_reducible assumption) | assumption) : a2.toNat ≤ 281474976710656)) (by omega)) (Below.refl _ _) (Nat.le_refl _) ?_; intro v103 w8 ho9 hb hg_ hnew_; clear hg_ hnew_; (first | rw [← Ny102.out] at ho9 | (simp only [Int.reduceToNat] at ho9; rw [← Ny102.out] at ho9)); have n0_ := Aside0.mk (Kd.R_lower ho9 (below_size (bel HB))); have n1_ := Aside0.mk (blk_below (g := gb101) (o := .cells #[.int .i64 a0_0, .int .i64 a0_1, .slice A0_2 l0_2.length c0_2] 39 (0, 0)) blc hb); have n2_ := Aside0.mk (below_step (bel HB) hb); clear BK101; clear HB; have HO104 := n0_; have BK101 := n1_; have HB := n2_; clear n0_ n1_ n2_; clear hb ho9))
   go_loopg [10] k (fun kq v10 w' => ∃ (x9_1 : List Bool) (x10_1 : Bool), v10 = .bool x10_1 ∧ Aside0 (spec_skBlocked.l0 kq l1 a3 x9_1 x10_1 a0_0 a0_1 l0_2 = some r) ∧ Aside0 (kq ≤ k) ∧ Aside0 (Kd.R Kd.bool 4 w' w.heap.size (fun _ => True) v103 x9_1) ∧ Aside0 (w'.heap[gb101]? = some (.cells #[.int .i64 a0_0, .int .i64 a0_1, (.slice A0_2 l0_2.length c0_2)] 39 (0, 0))) ∧ Aside0 (Below w.heap.size w w'))
   case atStart => exact ⟨(y102), (true), (by first | rfl | (simp; done) | (simp [*]; done)), H', ⟨Nat.le_refl _⟩, ⟨rch HO104⟩, ⟨blc⟩, ⟨bel HB⟩⟩
   case round =>
    clear H'
    try clear c1
    try clear p2
    try clear c4
    try clear c5
    try clear c5b0
    try clear c5b0y
    try clear c5b1
    try clear c6
    try clear c6b0
    try clear c6b0y
    try clear c6b1
    obtain ⟨x9_1, x10_1, rfl, HA, HK1, HO_9, BK101, HB⟩ := hrel
    cases gk with
    | zero => exact absurd HA.out (by simp [spec_skBlocked.l0])
    | succ k1 =>
     have H := HA.out
     clear HA
     simp only [spec_skBlocked.l0] at H
     by_cases c10 : x10_1 = true
     ·subst c10
      have H1 : (spec_skBlocked.l1 k1 l1 a3 x9_1 false l1 (l1.length : Int) 0 a0_0 a0_1 l0_2) = some r := by rw [if_pos rfl] at H; exact H
      clear H
      have H := H1
      clear H1
      have H' := Aside0.mk H
      clear H
      go_wp2
      go_loopg [10, 19] k1 (fun kq v10 v19 w' => ∃ (x9_2 : List Bool) (x10_2 : Bool) (x19_2 : Int), v10 = .bool x10_2 ∧ v19 = .int .i64 x19_2 ∧ Aside0 (spec_skBlocked.l1 kq l1 a3 x9_2 x10_2 l1 (l1.length : Int) x19_2 a0_0 a0_1 l0_2 = some r) ∧ Aside0 (kq ≤ k1) ∧ Aside0 (Kd.R Kd.bool 4 w' w.heap.size (fun _ => True) v103 x9_2) ∧ Aside0 (w'.heap[gb101]? = some (.cells #[.int .i64 a0_0, .int .i64 a0_1, (.slice A0_2 l0_2.length c0_2)] 39 (0, 0))) ∧ Aside0 (Below w.heap.size w w'))
      case atStart => exact ⟨(x9_1), (false), (0), (by first | rfl | (simp; done) | (simp [*]; done)), (by first | rfl | (simp; done) | (simp [*]; done)), H', ⟨Nat.le_refl _⟩, ⟨rch HO_9⟩, ⟨blc⟩, ⟨bel HB⟩⟩
      case round =>
       clear H'
       try clear c1
       try clear p2
       try clear c4
       try clear c5
       try clear c5b0
       try clear c5b0y
       try clear c5b1
       try clear c6
       try clear c6b0
       try clear c6b0y
       try clear c6b1
       try clear c10
       try clear p2
       obtain ⟨x9_2, x10_2, x19_2, rfl, rfl, HA, HK2, HO_9, BK101, HB⟩ := hrel
       cases gk with
       | zero => exact absurd HA.out (by simp [spec_skBlocked.l1])
       | succ k2 =>
        have H := HA.out
        clear HA
        simp only [spec_skBlocked.l1] at H
        by_cases c11 : x19_2 < (l1.length : Int)
        ·rw [if_pos c11] at H
         have c11b0 : decide (x19_2 < (l1.length : Int)) = true := decide_eq_true c11
         clear c11
         by_cases c12 : 0 ≤ x19_2
         ·rw [if_pos c12] at H
          have c12b0 : decide (0 ≤ x19_2) = true := decide_eq_true c12
          clear c12
          by_cases c13 : x19_2 < (l1.length : Int)
          ·rw [if_pos c13] at H
           have c13b0 : decide (x19_2 < (l1.length : Int)) = true := decide_eq_true c13
           clear c13
           have HC14 := Aside0.mk H
           clear H
           have p105 : 0 ≤ (x19_2 : Int) := of_decide_eq_true (by first | (with_reducible assumption) | assumption)
           have q105 : x19_2 < (l1.length : Int) := of_decide_eq_true (by first | (with_reducible assumption) | assumption)
           obtain ⟨ad105, e105, hx105_0⟩ := Kd.at_int HR1.out x19_2 p105 q105
           cases e105
           (try replace hx105_0 := (HB.out.cell (World.block_lt_of_cell? w _ hx105_0)).trans hx105_0)
           replace p105 := eq_true p105
           replace q105 := eq_true q105
           go_upto_region 8 with (fail)
           go_cut [31] (fun v31 wc => ∃ (kq : Nat) (x31_13 : Bool), v31 = .bool x31_13 ∧ Aside0 (spec_skBlocked.j2 kq l1 a3 x9_2 x10_2 x19_2 (rd l1 x19_2) l1 (l1.length : Int) x19_2 x31_13 a0_0 a0_1 l0_2 = some r) ∧ Aside0 (kq ≤ k2) ∧ Aside0 (Kd.R Kd.bool 4 wc w.heap.size (fun _ => True) v103 x9_2) ∧ Aside0 (wc.heap[gb101]? = some (.cells #[.int .i64 a0_0, .int .i64 a0_1, (.slice A0_2 l0_2.length c0_2)] 39 (0, 0))) ∧ Aside0 (Below w.heap.size w wc))
           case first =>
            have H := HC14.out
            clear HC14
            by_cases c15 : (rd l1 x19_2) < 0
            ·rw [if_pos c15] at H
             have c15b0 : decide ((rd l1 x19_2) < 0) = true := decide_eq_true c15
             clear c15
             (first | rw [c15b0] | (simp only [i64_w, i32_w]; rw [c15b0]) | skip)
             have H' := Aside0.mk H
             clear H
             go_wp2
             go_meet
             case rel => exact ⟨_, (true), (by first | rfl | (simp; done) | (simp [*]; done)), H', ⟨by have := HK1.out; have := HK2.out; first | omega | exact Nat.le_refl _⟩, ⟨rch HO_9⟩, ⟨blc⟩, ⟨bel HB⟩⟩
            ·rw [if_neg c15] at H
             have c15b0 : decide ((rd l1 x19_2) < 0) = false := decide_eq_false c15
             clear c15
             (first | rw [c15b0] | (simp only [i64_w, i32_w]; rw [c15b0]) | skip)
             by_cases c16 : 0 ≤ (rd l1 x19_2)
             ·rw [if_pos c16] at H
              have c16b0 : decide (0 ≤ (rd l1 x19_2)) = true := decide_eq_true c16
              clear c16
              by_cases c17 : (rd l1 x19_2) < (x9_2.length : Int)
              ·rw [if_pos c17] at H
               have c17b0 : decide ((rd l1 x19_2) < (x9_2.length : Int)) = true := decide_eq_true c17
               clear c17
               have H' := Aside0.mk H
               clear H
               obtain ⟨Ao18, co18, eo18⟩ := Kd.R_slice HO_9.out
               subst eo18
               have p106 : 0 ≤ ((rd l1 x19_2) : Int) := of_decide_eq_true (by first | (with_reducible assumption) | assumption)
               have q106 : (rd l1 x19_2) < (x9_2.length : Int) := of_decide_eq_true (by first | (with_reducible assumption) | assumption)
               obtain ⟨ad106, e106, hx106_0⟩ := Kd.at_bool (Kd.R_reads' HO_9.out).2.2 (rd l1 x19_2) p106 q106
               cases e106
               replace p106 := eq_true p106
               replace q106 := eq_true q106
               go_wp2
               go_meet
               case rel => exact ⟨_, (rdOf false x9_2 (rd l1 x19_2)), (by first | rfl | (simp; done) | (simp [*]; done)), H', ⟨by have := HK1.out; have := HK2.out; first | omega | exact Nat.le_refl _⟩, ⟨rch HO_9⟩, ⟨blc⟩, ⟨bel HB⟩⟩
              ·rw [if_neg c17] at H
               exact absurd H (by simp)
             ·rw [if_neg c16] at H
              exact absurd H (by simp)
           case rest =>
            clear HC14
            try clear c1
            try clear p1
            try clear q1
            try clear hx1
            try clear p2
            try clear c4
            try clear c5
            try clear c5b0
            try clear c5b0y
            try clear c5b1
            try clear c6
            try clear c6b0
            try clear c6b0y
            try clear c6b1
            try clear c10
            try clear p10
            try clear q10
            try clear hx10
            try clear c11
            try clear c11b0
            try clear c11b0y
            try clear c12
            try clear c12b0
            try clear c12b0y
            try clear c13
            try clear c13b0
            try clear c13b0y
            try clear c15
            try clear c15b0
            try clear c15b0y
            try clear c16
            try clear c16b0
            try clear c16b0y
            try clear c17
            try clear c17b0
            try clear c17b0y
            try clear hx105_0
            try clear hx106_0
            try clear p105
            try clear p106
            try clear p2
            try clear q105
            try clear q106
            obtain ⟨kq, x31_13, rfl, HA, HJ13, HO_9, BK101, HB⟩ := hcut
            cases kq with
            | zero => exact absurd HA.out (by simp [spec_skBlocked.j2])
            | succ kj13 =>
             have H := HA.out
             clear HA
             simp only [spec_skBlocked.j2] at H
             by_cases c19 : x31_13 = true
             ·subst c19
              have H1 : (spec_skBlocked.l1 kj13 l1 a3 x9_2 x10_2 l1 (l1.length : Int) (wrap64 (x19_2 + 1)) a0_0 a0_1 l0_2) = some r := by rw [if_pos rfl] at H; exact H
              clear H
              have H := H1
              clear H1
              have H' := Aside0.mk H
              clear H
              go_wp2
              go_roundg kj13
              case measure => have := HK1.out; have := HK2.out; have := HJ13.out; omega
              case rel => exact ⟨(x9_2), (x10_2), (wrap64 (x19_2 + 1)), (by first | rfl | (simp; done) | (simp [*]; done)), (by first | rfl | (simp; done) | (simp [*]; done)), H', ⟨by have := HK1.out; have := HK2.out; have := HJ13.out; omega⟩, ⟨rch HO_9⟩, ⟨blc⟩, ⟨bel HB⟩⟩
             ·replace c19 := Bool.eq_false_iff.mpr c19
              subst c19
              have H1 : ((spec_tiAhead.f a0_0 a0_1 l0_2 x19_2 a3).bind fun t107 => (if t107 < 0 then (if 0 ≤ (rd l1 x19_2) then (if (rd l1 x19_2) < (x9_2.length : Int) then (spec_skBlocked.l1 kj13 l1 a3 (x9_2.set ((rd l1 x19_2) : Int).toNat true) true l1 (l1.length : Int) (wrap64 (x19_2 + 1)) a0_0 a0_1 l0_2) else (none)) else (none)) else (if 0 ≤ t107 then (if t107 < (l1.length : Int) then (if (rd l1 t107) ≥ 0 then (if (rd l1 t107) = (rd l1 x19_2) then (spec_skBlocked.l1 kj13 l1 a3 x9_2 x10_2 l1 (l1.length : Int) (wrap64 (x19_2 + 1)) a0_0 a0_1 l0_2) else (if 0 ≤ (rd l1 t107) then (if (rd l1 t107) < (x9_2.length : Int) then (if rdOf false x9_2 (rd l1 t107) = true then (if 0 ≤ (rd l1 x19_2) then (if (rd l1 x19_2) < (x9_2.length : Int) then (spec_skBlocked.l1 kj13 l1 a3 (x9_2.set ((rd l1 x19_2) : Int).toNat true) true l1 (l1.length : Int) (wrap64 (x19_2 + 1)) a0_0 a0_1 l0_2) else (none)) else (none)) else (spec_skBlocked.l1 kj13 l1 a3 x9_2 x10_2 l1 (l1.length : Int) (wrap64 (x19_2 + 1)) a0_0 a0_1 l0_2)) else (none)) else (none))) else (spec_skBlocked.l1 kj13 l1 a3 x9_2 x10_2 l1 (l1.length : Int) (wrap64 (x19_2 + 1)) a0_0 a0_1 l0_2)) else (none)) else (none)))) = some r := by rw [if_neg (show ¬ (false = true) by decide)] at H; exact H
              clear H
              have H := H1
              clear H1
              replace H := Option.bind_eq_some_iff.mp H
              obtain ⟨t107, A200, H⟩ := H
              replace H : (if t107 < 0 then (if 0 ≤ (rd l1 x19_2) then (if (rd l1 x19_2) < (x9_2.length : Int) then (spec_skBlocked.l1 kj13 l1 a3 (x9_2.set ((rd l1 x19_2) : Int).toNat true) true l1 (l1.length : Int) (wrap64 (x19_2 + 1)) a0_0 a0_1 l0_2) else (none)) else (none)) else (if 0 ≤ t107 then (if t107 < (l1.length : Int) then (if (rd l1 t107) ≥ 0 then (if (rd l1 t107) = (rd l1 x19_2) then (spec_skBlocked.l1 kj13 l1 a3 x9_2 x10_2 l1 (l1.length : Int) (wrap64 (x19_2 + 1)) a0_0 a0_1 l0_2) else (if 0 ≤ (rd l1 t107) then (if (rd l1 t107) < (x9_2.length : Int) then (if rdOf false x9_2 (rd l1 t107) = true then (if 0 ≤ (rd l1 x19_2) then (if (rd l1 x19_2) < (x9_2.length : Int) then (spec_skBlocked.l1 kj13 l1 a3 (x9_2.set ((rd l1 x19_2) : Int).toNat true) true l1 (l1.length : Int) (wrap64 (x19_2 + 1)) a0_0 a0_1 l0_2) else (none)) else (none)) else (spec_skBlocked.l1 kj13 l1 a3 x9_2 x10_2 l1 (l1.length : Int) (wrap64 (x19_2 + 1)) a0_0 a0_1 l0_2)) else (none)) else (none))) else (spec_skBlocked.l1 kj13 l1 a3 x9_2 x10_2 l1 (l1.length : Int) (wrap64 (x19_2 + 1)) a0_0 a0_1 l0_2)) else (none)) else (none))) = some r := H
              have A20 := Aside0.mk A200
              clear A200
              by_cases c21 : t107 < 0
              ·rw [if_pos c21] at H
               have c21b0 : decide (t107 < 0) = true := decide_eq_true c21
               clear c21
               by_cases c22 : 0 ≤ (rd l1 x19_2)
               ·rw [if_pos c22] at H
                have c22b0 : decide (0 ≤ (rd l1 x19_2)) = true := decide_eq_true c22
                clear c22
                by_cases c23 : (rd l1 x19_2) < (x9_2.length : Int)
                ·rw [if_pos c23] at H
                 have c23b0 : decide ((rd l1 x19_2) < (x9_2.length : Int)) = true := decide_eq_true c23
                 clear c23
                 obtain ⟨y108, hy108⟩ : ∃ y_ : List Bool, y_ = (x9_2.set ((rd l1 x19_2) : Int).toNat true) := ⟨_, rfl⟩
                 replace H : (spec_skBlocked.l1 kj13 l1 a3 y108 true l1 (l1.length : Int) (wrap64 (x19_2 + 1)) a0_0 a0_1 l0_2) = some r := by first | (rw [hy108]; with_reducible exact H) | (have H2_ := (Option.bind_some _ _).symm.trans H; rw [hy108]; with_reducible exact H2_) | (have H2_ := (Option.bind_some _ _).symm.trans H; with_reducible exact H2_) | with_reducible exact H | (rw [hy108]; exact H) | exact H
                 have Ny108 := Aside0.mk hy108
                 clear hy108
                 have H' := Aside0.mk H
                 clear H
                 have hcz25_0 : wc.cell? ⟨gb101, 0, none⟩ = some (.int .i64 a0_0) := (blk_cell BK101.out 0).trans rfl
                 have hcz25_1 : wc.cell? ⟨gb101, 1, none⟩ = some (.int .i64 a0_1) := (blk_cell BK101.out 1).trans rfl
                 have hcz25_2 : wc.cell? ⟨gb101, 2, none⟩ = some (.slice A0_2 l0_2.length c0_2) := (blk_cell BK101.out 2).trans rfl
                 have hfz25_0 := blk_frozen BK101.out 0
                 have hfz25_1 := blk_frozen BK101.out 1
                 have hfz25_2 := blk_frozen BK101.out 2
                 go_wp2_with (first | ((with_reducible refine gate_callee (f := 71) rfl ?_); refine goesL_ (some 35) rfl rfl Tryd.func71 (by kernel_rfl) rfl #[.agg #[.int .i64 a0_0, .int .i64 a0_1, .slice A0_2 l0_2.length c0_2], .int .i64 x19_2, .int .i64 a3] rfl (by (try simp only [List.map_toArray, List.map_cons, List.map_nil]); first | done | rfl | (simp only [List.length_drop, List.length_take]; rfl)) ?_; (with_reducible refine (spec_tiAhead.calls a0_0 a0_1 _ _ l0_2 x19_2 a3 t107 _ ?side1 ?side2 A20.out).mono ?_); (case side1 => repeat (first | exact (Kd.C_below HR0_2.out HB.out) | (with_reducible refine Kd.C_alloc ?_ _) | (with_reducible refine Kd.C_drewN ?_ _) | (with_reducible refine Kd.C_drew ?_))); (case side2 => exact HC0_2.out); rintro e w26 ⟨rfl, hb⟩; refine ⟨_, rfl, ?_⟩; have n0_ := Aside0.mk (Kd.R_below (rch HO_9) hb); have n1_ := Aside0.mk (blk_below (g := gb101) (o := .cells #[.int .i64 a0_0, .int .i64 a0_1, .slice A0_2 l0_2.length c0_2] 39 (0, 0)) blc hb); have n2_ := Aside0.mk (below_step (bel HB) hb); clear HO_9; clear BK101; clear HB; have HO_9 := n0_; have BK101 := n1_; have HB := n2_; clear n0_ n1_ n2_; (try clear hb); (try clear hb2); (try clear hk); (try clear hi); have p24 : 0 ≤ ((rd l1 x19_2) : Int) := of_decide_eq_true (by first | (with_reducible assumption) | assumption); have q24 : ((rd l1 x19_2) : Int) < ((x9_2.length : Int) : Int) := of_decide_eq_true (by first | (with_reducible assumption) | assumption); obtain ⟨go24, co24, eo24, gb24, gl24, cl24, HG24⟩ := Kd.R_form HO_9.out (by omega); (first | cases eo24 | (injection eo24 with ea_ en_ ec_; (first | subst ea_ | (injection ea_ with ea_; subst ea_)); subst ec_; clear en_)); have GB24 := Aside0.mk gb24; have GG24 := Aside0.mk HG24; clear gb24 gl24 HG24; obtain ⟨hx24_0, hf24_0⟩ := Kd.R_celln false HO_9.out ((rd l1 x19_2) : Int) p24 q24; replace p24 := eq_true p24; replace q24 := eq_true q24; obtain ⟨hy27_, hz27_⟩ := Kd.R_celln false HO_9.out ((rd l1 x19_2) : Int) (of_decide_eq_true (by first | (with_reducible assumption) | assumption)) (of_decide_eq_true (by first | (with_reducible assumption) | assumption)); have HP27 := Kd.R_putg HO_9.out ((rd l1 x19_2) : Int) true) | ((with_reducible refine gate_store (t := 4) (p := 64) rfl ?_); refine store_event (t := 4) (p := 64) (v := ?vo_w28) (w1 := (w26.setCell ⟨go24, ((rd l1 x19_2) : Int).toNat, none⟩ (.bool true))) ?hg ?ho ?hn ?hr ?_; (case ho => rfl); (case hg => rfl); (case hn => rfl); (case hr => first | (go_simp; done) | (go_simp; rfl)); intro w28 hw; have hg : w26.grownBy w28 (some go24) := (by rw [hw]; exact HP27.2); have hp_ : Kd.R Kd.bool 4 w28 w.heap.size (fun _ => True) (.slice (some ⟨go24, 0, none⟩) x9_2.length co24) y108 := (by rw [hw, Ny108.out]; (first | exact HP27.1 | exact R_any HP27.1)); clear HP27; have n0_ := Aside0.mk (hp_); have n1_ := Aside0.mk (blk_grown (g := gb101) (o := .cells #[.int .i64 a0_0, .int .i64 a0_1, .slice A0_2 l0_2.length c0_2] 39 (0, 0)) blc hg (Kd.R_ne HO_9.out BK101.out (by decide))); have n2_ := Aside0.mk ((by rw [hw]; exact below_set (HB.out) GB24.out : Below w.heap.size w w28)); clear HO_9; clear BK101; clear HB; have HO_9 := n0_; have BK101 := n1_; have HB := n2_; clear n0_ n1_ n2_; clear hg hw hp_))
                 go_roundg kj13
                 case measure => have := HK1.out; have := HK2.out; have := HJ13.out; omega
                 case rel => exact ⟨(y108), (true), (wrap64 (x19_2 + 1)), (by first | rfl | (simp; done) | (simp [*]; done)), (by first | rfl | (simp; done) | (simp [*]; done)), H', ⟨by have := HK1.out; have := HK2.out; have := HJ13.out; omega⟩, ⟨rch HO_9⟩, ⟨blc⟩, ⟨bel HB⟩⟩
                ·rw [if_neg c23] at H
                 exact absurd H (by simp)
               ·rw [if_neg c22] at H
                exact absurd H (by simp)
              ·rw [if_neg c21] at H
               have c21b0 : decide (t107 < 0) = false := decide_eq_false c21
               clear c21
               by_cases c29 : 0 ≤ t107
               ·rw [if_pos c29] at H
                have c29b0 : decide (0 ≤ t107) = true := decide_eq_true c29
                clear c29
                by_cases c30 : t107 < (l1.length : Int)
                ·rw [if_pos c30] at H
                 have c30b0 : decide (t107 < (l1.length : Int)) = true := decide_eq_true c30
                 clear c30
                 by_cases c31 : (rd l1 t107) ≥ 0
                 ·rw [if_pos c31] at H
                  have c31b0 : decide (0 ≤ (rd l1 t107)) = true := decide_eq_true c31
                  clear c31
                  by_cases c32 : (rd l1 t107) = (rd l1 x19_2)
                  ·rw [if_pos c32] at H
                   have c32b0 : ((rd l1 t107) == (rd l1 x19_2)) = true := beq_iff_eq.mpr c32
                   have c32b1 : ((rd l1 t107) != (rd l1 x19_2)) = false := bne_eq_false_iff_eq.mpr c32
                   clear c32
                   have H' := Aside0.mk H
                   clear H
                   have hcz33_0 : wc.cell? ⟨gb101, 0, none⟩ = some (.int .i64 a0_0) := (blk_cell BK101.out 0).trans rfl
                   have hcz33_1 : wc.cell? ⟨gb101, 1, none⟩ = some (.int .i64 a0_1) := (blk_cell BK101.out 1).trans rfl
                   have hcz33_2 : wc.cell? ⟨gb101, 2, none⟩ = some (.slice A0_2 l0_2.length c0_2) := (blk_cell BK101.out 2).trans rfl
                   have hfz33_0 := blk_frozen BK101.out 0
                   have hfz33_1 := blk_frozen BK101.out 1
                   have hfz33_2 := blk_frozen BK101.out 2
                   go_wp2_with (first | ((with_reducible refine gate_callee (f := 71) rfl ?_); refine goesL_ (some 35) rfl rfl Tryd.func71 (by kernel_rfl) rfl #[.agg #[.int .i64 a0_0, .int .i64 a0_1, .slice A0_2 l0_2.length c0_2], .int .i64 x19_2, .int .i64 a3] rfl (by (try simp only [List.map_toArray, List.map_cons, List.map_nil]); first | done | rfl | (simp only [List.length_drop, List.length_take]; rfl)) ?_; (with_reducible refine (spec_tiAhead.calls a0_0 a0_1 _ _ l0_2 x19_2 a3 t107 _ ?side1 ?side2 A20.out).mono ?_); (case side1 => repeat (first | exact (Kd.C_below HR0_2.out HB.out) | (with_reducible refine Kd.C_alloc ?_ _) | (with_reducible refine Kd.C_drewN ?_ _) | (with_reducible refine Kd.C_drew ?_))); (case side2 => exact HC0_2.out); rintro e w34 ⟨rfl, hb⟩; refine ⟨_, rfl, ?_⟩; have n0_ := Aside0.mk (Kd.R_below (rch HO_9) hb); have n1_ := Aside0.mk (blk_below (g := gb101) (o := .cells #[.int .i64 a0_0, .int .i64 a0_1, .slice A0_2 l0_2.length c0_2] 39 (0, 0)) blc hb); have n2_ := Aside0.mk (below_step (bel HB) hb); clear HO_9; clear BK101; clear HB; have HO_9 := n0_; have BK101 := n1_; have HB := n2_; clear n0_ n1_ n2_; (try clear hb); (try clear hb2); (try clear hk); (try clear hi); have p109 : 0 ≤ (t107 : Int) := of_decide_eq_true (by first | (with_reducible assumption) | assumption); have q109 : t107 < (l1.length : Int) := of_decide_eq_true (by first | (with_reducible assumption) | assumption); obtain ⟨ad109, e109, hx109_0⟩ := Kd.at_int HR1.out t107 p109 q109; obtain rfl : ad105 = ad109 := (by injection e109); replace hx109_0 := (HB.out.cell (World.block_lt_of_cell? w _ hx109_0)).trans hx109_0; replace p109 := eq_true p109; replace q109 := eq_true q109; have p110 : 0 ≤ (t107 : Int) := of_decide_eq_true (by first | (with_reducible assumption) | assumption); have q110 : t107 < (l1.length : Int) := of_decide_eq_true (by first | (with_reducible assumption) | assumption); obtain ⟨ad110, e110, hx110_0⟩ := Kd.at_int HR1.out t107 p110 q110; obtain rfl : ad105 = ad110 := (by injection e110); replace hx110_0 := (HB.out.cell (World.block_lt_of_cell? w _ hx110_0)).trans hx110_0; replace p110 := eq_true p110; replace q110 := eq_true q110))
                   go_roundg kj13
                   case measure => have := HK1.out; have := HK2.out; have := HJ13.out; omega
                   case rel => exact ⟨(x9_2), (x10_2), (wrap64 (x19_2 + 1)), (by first | rfl | (simp; done) | (simp [*]; done)), (by first | rfl | (simp; done) | (simp [*]; done)), H', ⟨by have := HK1.out; have := HK2.out; have := HJ13.out; omega⟩, ⟨rch HO_9⟩, ⟨blc⟩, ⟨bel HB⟩⟩
                  ·rw [if_neg c32] at H
                   have c32b0 : ((rd l1 t107) == (rd l1 x19_2)) = false := beq_eq_false_iff_ne.mpr c32
                   have c32b1 : ((rd l1 t107) != (rd l1 x19_2)) = true := bne_iff_ne.mpr c32
                   by_cases c35 : 0 ≤ (rd l1 t107)
                   ·rw [if_pos c35] at H
                    have c35b0 : decide (0 ≤ (rd l1 t107)) = true := decide_eq_true c35
                    clear c35
                    by_cases c36 : (rd l1 t107) < (x9_2.length : Int)
                    ·rw [if_pos c36] at H
                     have c36b0 : decide ((rd l1 t107) < (x9_2.length : Int)) = true := decide_eq_true c36
                     clear c36
                     obtain ⟨bq37, hbq37⟩ : ∃ b_ : Bool, b_ = (rdOf false x9_2 (rd l1 t107)) := ⟨_, rfl⟩
                     replace H : (if bq37 = true then (if 0 ≤ (rd l1 x19_2) then (if (rd l1 x19_2) < (x9_2.length : Int) then (spec_skBlocked.l1 kj13 l1 a3 (x9_2.set ((rd l1 x19_2) : Int).toNat true) true l1 (l1.length : Int) (wrap64 (x19_2 + 1)) a0_0 a0_1 l0_2) else (none)) else (none)) else (spec_skBlocked.l1 kj13 l1 a3 x9_2 x10_2 l1 (l1.length : Int) (wrap64 (x19_2 + 1)) a0_0 a0_1 l0_2)) = some r := by rw [← hbq37] at H; exact H
                     have Nbq37 := Aside0.mk hbq37
                     clear hbq37
                     by_cases c38 : bq37 = true
                     ·subst c38
                      have H1 : (if 0 ≤ (rd l1 x19_2) then (if (rd l1 x19_2) < (x9_2.length : Int) then (spec_skBlocked.l1 kj13 l1 a3 (x9_2.set ((rd l1 x19_2) : Int).toNat true) true l1 (l1.length : Int) (wrap64 (x19_2 + 1)) a0_0 a0_1 l0_2) else (none)) else (none)) = some r := by rw [if_pos rfl] at H; exact H
                      clear H
                      have H := H1
                      clear H1
                      by_cases c39 : 0 ≤ (rd l1 x19_2)
                      ·rw [if_pos c39] at H
                       have c39b0 : decide (0 ≤ (rd l1 x19_2)) = true := decide_eq_true c39
                       clear c39
                       by_cases c40 : (rd l1 x19_2) < (x9_2.length : Int)
                       ·rw [if_pos c40] at H
                        have c40b0 : decide ((rd l1 x19_2) < (x9_2.length : Int)) = true := decide_eq_true c40
                        clear c40
                        obtain ⟨y113, hy113⟩ : ∃ y_ : List Bool, y_ = (x9_2.set ((rd l1 x19_2) : Int).toNat true) := ⟨_, rfl⟩
                        replace H : (spec_skBlocked.l1 kj13 l1 a3 y113 true l1 (l1.length : Int) (wrap64 (x19_2 + 1)) a0_0 a0_1 l0_2) = some r := by first | (rw [hy113]; with_reducible exact H) | (have H2_ := (Option.bind_some _ _).symm.trans H; rw [hy113]; with_reducible exact H2_) | (have H2_ := (Option.bind_some _ _).symm.trans H; with_reducible exact H2_) | with_reducible exact H | (rw [hy113]; exact H) | exact H
                        have Ny113 := Aside0.mk hy113
                        clear hy113
                        have H' := Aside0.mk H
                        clear H
                        have hcz42_0 : wc.cell? ⟨gb101, 0, none⟩ = some (.int .i64 a0_0) := (blk_cell BK101.out 0).trans rfl
                        have hcz42_1 : wc.cell? ⟨gb101, 1, none⟩ = some (.int .i64 a0_1) := (blk_cell BK101.out 1).trans rfl
                        have hcz42_2 : wc.cell? ⟨gb101, 2, none⟩ = some (.slice A0_2 l0_2.length c0_2) := (blk_cell BK101.out 2).trans rfl
                        have hfz42_0 := blk_frozen BK101.out 0
                        have hfz42_1 := blk_frozen BK101.out 1
                        have hfz42_2 := blk_frozen BK101.out 2
                        go_wp2_with (first | ((with_reducible refine gate_callee (f := 71) rfl ?_); refine goesL_ (some 35) rfl rfl Tryd.func71 (by kernel_rfl) rfl #[.agg #[.int .i64 a0_0, .int .i64 a0_1, .slice A0_2 l0_2.length c0_2], .int .i64 x19_2, .int .i64 a3] rfl (by (try simp only [List.map_toArray, List.map_cons, List.map_nil]); first | done | rfl | (simp only [List.length_drop, List.length_take]; rfl)) ?_; (with_reducible refine (spec_tiAhead.calls a0_0 a0_1 _ _ l0_2 x19_2 a3 t107 _ ?side1 ?side2 A20.out).mono ?_); (case side1 => repeat (first | exact (Kd.C_below HR0_2.out HB.out) | (with_reducible refine Kd.C_alloc ?_ _) | (with_reducible refine Kd.C_drewN ?_ _) | (with_reducible refine Kd.C_drew ?_))); (case side2 => exact HC0_2.out); rintro e w43 ⟨rfl, hb⟩; refine ⟨_, rfl, ?_⟩; have n0_ := Aside0.mk (Kd.R_below (rch HO_9) hb); have n1_ := Aside0.mk (blk_below (g := gb101) (o := .cells #[.int .i64 a0_0, .int .i64 a0_1, .slice A0_2 l0_2.length c0_2] 39 (0, 0)) blc hb); have n2_ := Aside0.mk (below_step (bel HB) hb); clear HO_9; clear BK101; clear HB; have HO_9 := n0_; have BK101 := n1_; have HB := n2_; clear n0_ n1_ n2_; (try clear hb); (try clear hb2); (try clear hk); (try clear hi); have p109 : 0 ≤ (t107 : Int) := of_decide_eq_true (by first | (with_reducible assumption) | assumption); have q109 : t107 < (l1.length : Int) := of_decide_eq_true (by first | (with_reducible assumption) | assumption); obtain ⟨ad109, e109, hx109_0⟩ := Kd.at_int HR1.out t107 p109 q109; obtain rfl : ad105 = ad109 := (by injection e109); replace hx109_0 := (HB.out.cell (World.block_lt_of_cell? w _ hx109_0)).trans hx109_0; replace p109 := eq_true p109; replace q109 := eq_true q109; have p110 : 0 ≤ (t107 : Int) := of_decide_eq_true (by first | (with_reducible assumption) | assumption); have q110 : t107 < (l1.length : Int) := of_decide_eq_true (by first | (with_reducible assumption) | assumption); obtain ⟨ad110, e110, hx110_0⟩ := Kd.at_int HR1.out t107 p110 q110; obtain rfl : ad105 = ad110 := (by injection e110); replace hx110_0 := (HB.out.cell (World.block_lt_of_cell? w _ hx110_0)).trans hx110_0; replace p110 := eq_true p110; replace q110 := eq_true q110; have p111 : 0 ≤ (t107 : Int) := of_decide_eq_true (by first | (with_reducible assumption) | assumption); have q111 : t107 < (l1.length : Int) := of_decide_eq_true (by first | (with_reducible assumption) | assumption); obtain ⟨ad111, e111, hx111_0⟩ := Kd.at_int HR1.out t107 p111 q111; obtain rfl : ad105 = ad111 := (by injection e111); replace hx111_0 := (HB.out.cell (World.block_lt_of_cell? w _ hx111_0)).trans hx111_0; replace p111 := eq_true p111; replace q111 := eq_true q111; obtain ⟨Ao44, co44, eo44⟩ := Kd.R_slice HO_9.out; subst eo44; have p112 : 0 ≤ ((rd l1 t107) : Int) := of_decide_eq_true (by first | (with_reducible assumption) | assumption); have q112 : (rd l1 t107) < (x9_2.length : Int) := of_decide_eq_true (by first | (with_reducible assumption) | assumption); obtain ⟨ad112, e112, hx112_0⟩ := Kd.at_bool (Kd.R_reads' HO_9.out).2.2 (rd l1 t107) p112 q112; (try rw [← Nbq37.out] at hx112_0); cases e112; replace p112 := eq_true p112; replace q112 := eq_true q112; have p41 : 0 ≤ ((rd l1 x19_2) : Int) := of_decide_eq_true (by first | (with_reducible assumption) | assumption); have q41 : ((rd l1 x19_2) : Int) < ((x9_2.length : Int) : Int) := of_decide_eq_true (by first | (with_reducible assumption) | assumption); obtain ⟨go41, co41, eo41, gb41, gl41, cl41, HG41⟩ := Kd.R_form HO_9.out (by omega); (first | cases eo41 | (injection eo41 with ea_ en_ ec_; (first | subst ea_ | (injection ea_ with ea_; subst ea_)); subst ec_; clear en_)); have GB41 := Aside0.mk gb41; have GG41 := Aside0.mk HG41; clear gb41 gl41 HG41; (first | simp only [add_plain] at hx112_0 | skip); obtain ⟨hx41_0, hf41_0⟩ := Kd.R_celln false HO_9.out ((rd l1 x19_2) : Int) p41 q41; replace p41 := eq_true p41; replace q41 := eq_true q41; obtain ⟨hy45_, hz45_⟩ := Kd.R_celln false HO_9.out ((rd l1 x19_2) : Int) (of_decide_eq_true (by first | (with_reducible assumption) | assumption)) (of_decide_eq_true (by first | (with_reducible assumption) | assumption)); have HP45 := Kd.R_putg HO_9.out ((rd l1 x19_2) : Int) true) | ((with_reducible refine gate_store (t := 4) (p := 64) rfl ?_); refine store_event (t := 4) (p := 64) (v := ?vo_w46) (w1 := (w43.setCell ⟨go41, ((rd l1 x19_2) : Int).toNat, none⟩ (.bool true))) ?hg ?ho ?hn ?hr ?_; (case ho => rfl); (case hg => rfl); (case hn => rfl); (case hr => first | (go_simp; done) | (go_simp; rfl)); intro w46 hw; have hg : w43.grownBy w46 (some go41) := (by rw [hw]; exact HP45.2); have hp_ : Kd.R Kd.bool 4 w46 w.heap.size (fun _ => True) (.slice (some ⟨go41, 0, none⟩) x9_2.length co44) y113 := (by rw [hw, Ny113.out]; (first | exact HP45.1 | exact R_any HP45.1)); clear HP45; have n0_ := Aside0.mk (hp_); have n1_ := Aside0.mk (blk_grown (g := gb101) (o := .cells #[.int .i64 a0_0, .int .i64 a0_1, .slice A0_2 l0_2.length c0_2] 39 (0, 0)) blc hg (Kd.R_ne HO_9.out BK101.out (by decide))); have n2_ := Aside0.mk ((by rw [hw]; exact below_set (HB.out) GB41.out : Below w.heap.size w w46)); clear HO_9; clear BK101; clear HB; have HO_9 := n0_; have BK101 := n1_; have HB := n2_; clear n0_ n1_ n2_; clear hg hw hp_))
                        go_roundg kj13
                        case measure => have := HK1.out; have := HK2.out; have := HJ13.out; omega
                        case rel => exact ⟨(y113), (true), (wrap64 (x19_2 + 1)), (by first | rfl | (simp; done) | (simp [*]; done)), (by first | rfl | (simp; done) | (simp [*]; done)), H', ⟨by have := HK1.out; have := HK2.out; have := HJ13.out; omega⟩, ⟨rch HO_9⟩, ⟨blc⟩, ⟨bel HB⟩⟩
                       ·rw [if_neg c40] at H
                        exact absurd H (by simp)
                      ·rw [if_neg c39] at H
                       exact absurd H (by simp)
                     ·replace c38 := Bool.eq_false_iff.mpr c38
                      subst c38
                      have H1 : (spec_skBlocked.l1 kj13 l1 a3 x9_2 x10_2 l1 (l1.length : Int) (wrap64 (x19_2 + 1)) a0_0 a0_1 l0_2) = some r := by rw [if_neg (show ¬ (false = true) by decide)] at H; exact H
                      clear H
                      have H := H1
                      clear H1
                      have H' := Aside0.mk H
                      clear H
                      have hcz47_0 : wc.cell? ⟨gb101, 0, none⟩ = some (.int .i64 a0_0) := (blk_cell BK101.out 0).trans rfl
                      have hcz47_1 : wc.cell? ⟨gb101, 1, none⟩ = some (.int .i64 a0_1) := (blk_cell BK101.out 1).trans rfl
                      have hcz47_2 : wc.cell? ⟨gb101, 2, none⟩ = some (.slice A0_2 l0_2.length c0_2) := (blk_cell BK101.out 2).trans rfl
                      have hfz47_0 := blk_frozen BK101.out 0
                      have hfz47_1 := blk_frozen BK101.out 1
                      have hfz47_2 := blk_frozen BK101.out 2
                      go_wp2_with (first | ((with_reducible refine gate_callee (f := 71) rfl ?_); refine goesL_ (some 35) rfl rfl Tryd.func71 (by kernel_rfl) rfl #[.agg #[.int .i64 a0_0, .int .i64 a0_1, .slice A0_2 l0_2.length c0_2], .int .i64 x19_2, .int .i64 a3] rfl (by (try simp only [List.map_toArray, List.map_cons, List.map_nil]); first | done | rfl | (simp only [List.length_drop, List.length_take]; rfl)) ?_; (with_reducible refine (spec_tiAhead.calls a0_0 a0_1 _ _ l0_2 x19_2 a3 t107 _ ?side1 ?side2 A20.out).mono ?_); (case side1 => repeat (first | exact (Kd.C_below HR0_2.out HB.out) | (with_reducible refine Kd.C_alloc ?_ _) | (with_reducible refine Kd.C_drewN ?_ _) | (with_reducible refine Kd.C_drew ?_))); (case side2 => exact HC0_2.out); rintro e w48 ⟨rfl, hb⟩; refine ⟨_, rfl, ?_⟩; have n0_ := Aside0.mk (Kd.R_below (rch HO_9) hb); have n1_ := Aside0.mk (blk_below (g := gb101) (o := .cells #[.int .i64 a0_0, .int .i64 a0_1, .slice A0_2 l0_2.length c0_2] 39 (0, 0)) blc hb); have n2_ := Aside0.mk (below_step (bel HB) hb); clear HO_9; clear BK101; clear HB; have HO_9 := n0_; have BK101 := n1_; have HB := n2_; clear n0_ n1_ n2_; (try clear hb); (try clear hb2); (try clear hk); (try clear hi); have p109 : 0 ≤ (t107 : Int) := of_decide_eq_true (by first | (with_reducible assumption) | assumption); have q109 : t107 < (l1.length : Int) := of_decide_eq_true (by first | (with_reducible assumption) | assumption); obtain ⟨ad109, e109, hx109_0⟩ := Kd.at_int HR1.out t107 p109 q109; obtain rfl : ad105 = ad109 := (by injection e109); replace hx109_0 := (HB.out.cell (World.block_lt_of_cell? w _ hx109_0)).trans hx109_0; replace p109 := eq_true p109; replace q109 := eq_true q109; have p110 : 0 ≤ (t107 : Int) := of_decide_eq_true (by first | (with_reducible assumption) | assumption); have q110 : t107 < (l1.length : Int) := of_decide_eq_true (by first | (with_reducible assumption) | assumption); obtain ⟨ad110, e110, hx110_0⟩ := Kd.at_int HR1.out t107 p110 q110; obtain rfl : ad105 = ad110 := (by injection e110); replace hx110_0 := (HB.out.cell (World.block_lt_of_cell? w _ hx110_0)).trans hx110_0; replace p110 := eq_true p110; replace q110 := eq_true q110; have p111 : 0 ≤ (t107 : Int) := of_decide_eq_true (by first | (with_reducible assumption) | assumption); have q111 : t107 < (l1.length : Int) := of_decide_eq_true (by first | (with_reducible assumption) | assumption); obtain ⟨ad111, e111, hx111_0⟩ := Kd.at_int HR1.out t107 p111 q111; obtain rfl : ad105 = ad111 := (by injection e111); replace hx111_0 := (HB.out.cell (World.block_lt_of_cell? w _ hx111_0)).trans hx111_0; replace p111 := eq_true p111; replace q111 := eq_true q111; obtain ⟨Ao49, co49, eo49⟩ := Kd.R_slice HO_9.out; subst eo49; have p112 : 0 ≤ ((rd l1 t107) : Int) := of_decide_eq_true (by first | (with_reducible assumption) | assumption); have q112 : (rd l1 t107) < (x9_2.length : Int) := of_decide_eq_true (by first | (with_reducible assumption) | assumption); obtain ⟨ad112, e112, hx112_0⟩ := Kd.at_bool (Kd.R_reads' HO_9.out).2.2 (rd l1 t107) p112 q112; (try rw [← Nbq37.out] at hx112_0); cases e112; replace p112 := eq_true p112; replace q112 := eq_true q112))
                      go_roundg kj13
                      case measure => have := HK1.out; have := HK2.out; have := HJ13.out; omega
                      case rel => exact ⟨(x9_2), (x10_2), (wrap64 (x19_2 + 1)), (by first | rfl | (simp; done) | (simp [*]; done)), (by first | rfl | (simp; done) | (simp [*]; done)), H', ⟨by have := HK1.out; have := HK2.out; have := HJ13.out; omega⟩, ⟨rch HO_9⟩, ⟨blc⟩, ⟨bel HB⟩⟩
                    ·rw [if_neg c36] at H
                     exact absurd H (by simp)
                   ·rw [if_neg c35] at H
                    exact absurd H (by simp)
                 ·rw [if_neg c31] at H
                  have c31b0 : decide (0 ≤ (rd l1 t107)) = false := decide_eq_false c31
                  clear c31
                  have H' := Aside0.mk H
                  clear H
                  have hcz50_0 : wc.cell? ⟨gb101, 0, none⟩ = some (.int .i64 a0_0) := (blk_cell BK101.out 0).trans rfl
                  have hcz50_1 : wc.cell? ⟨gb101, 1, none⟩ = some (.int .i64 a0_1) := (blk_cell BK101.out 1).trans rfl
                  have hcz50_2 : wc.cell? ⟨gb101, 2, none⟩ = some (.slice A0_2 l0_2.length c0_2) := (blk_cell BK101.out 2).trans rfl
                  have hfz50_0 := blk_frozen BK101.out 0
                  have hfz50_1 := blk_frozen BK101.out 1
                  have hfz50_2 := blk_frozen BK101.out 2
                  go_wp2_with (first | ((with_reducible refine gate_callee (f := 71) rfl ?_); refine goesL_ (some 35) rfl rfl Tryd.func71 (by kernel_rfl) rfl #[.agg #[.int .i64 a0_0, .int .i64 a0_1, .slice A0_2 l0_2.length c0_2], .int .i64 x19_2, .int .i64 a3] rfl (by (try simp only [List.map_toArray, List.map_cons, List.map_nil]); first | done | rfl | (simp only [List.length_drop, List.length_take]; rfl)) ?_; (with_reducible refine (spec_tiAhead.calls a0_0 a0_1 _ _ l0_2 x19_2 a3 t107 _ ?side1 ?side2 A20.out).mono ?_); (case side1 => repeat (first | exact (Kd.C_below HR0_2.out HB.out) | (with_reducible refine Kd.C_alloc ?_ _) | (with_reducible refine Kd.C_drewN ?_ _) | (with_reducible refine Kd.C_drew ?_))); (case side2 => exact HC0_2.out); rintro e w51 ⟨rfl, hb⟩; refine ⟨_, rfl, ?_⟩; have n0_ := Aside0.mk (Kd.R_below (rch HO_9) hb); have n1_ := Aside0.mk (blk_below (g := gb101) (o := .cells #[.int .i64 a0_0, .int .i64 a0_1, .slice A0_2 l0_2.length c0_2] 39 (0, 0)) blc hb); have n2_ := Aside0.mk (below_step (bel HB) hb); clear HO_9; clear BK101; clear HB; have HO_9 := n0_; have BK101 := n1_; have HB := n2_; clear n0_ n1_ n2_; (try clear hb); (try clear hb2); (try clear hk); (try clear hi); have p109 : 0 ≤ (t107 : Int) := of_decide_eq_true (by first | (with_reducible assumption) | assumption); have q109 : t107 < (l1.length : Int) := of_decide_eq_true (by first | (with_reducible assumption) | assumption); obtain ⟨ad109, e109, hx109_0⟩ := Kd.at_int HR1.out t107 p109 q109; obtain rfl : ad105 = ad109 := (by injection e109); replace hx109_0 := (HB.out.cell (World.block_lt_of_cell? w _ hx109_0)).trans hx109_0; replace p109 := eq_true p109; replace q109 := eq_true q109))
                  go_roundg kj13
                  case measure => have := HK1.out; have := HK2.out; have := HJ13.out; omega
                  case rel => exact ⟨(x9_2), (x10_2), (wrap64 (x19_2 + 1)), (by first | rfl | (simp; done) | (simp [*]; done)), (by first | rfl | (simp; done) | (simp [*]; done)), H', ⟨by have := HK1.out; have := HK2.out; have := HJ13.out; omega⟩, ⟨rch HO_9⟩, ⟨blc⟩, ⟨bel HB⟩⟩
                ·rw [if_neg c30] at H
                 exact absurd H (by simp)
               ·rw [if_neg c29] at H
                exact absurd H (by simp)
          ·rw [if_neg c13] at H
           exact absurd H (by simp)
         ·rw [if_neg c12] at H
          exact absurd H (by simp)
        ·rw [if_neg c11] at H
         have c11b0 : decide (x19_2 < (l1.length : Int)) = false := decide_eq_false c11
         clear c11
         have H' := Aside0.mk H
         clear H
         go_wp2
         go_roundg k2
         case measure => have := HK1.out; have := HK2.out; omega
         case rel => exact ⟨(x9_2), (x10_2), (by first | rfl | (simp; done) | (simp [*]; done)), H', ⟨by have := HK1.out; have := HK2.out; omega⟩, ⟨rch HO_9⟩, ⟨blc⟩, ⟨bel HB⟩⟩
     ·replace c10 := Bool.eq_false_iff.mpr c10
      subst c10
      have H1 : (some x9_1) = some r := by rw [if_neg (show ¬ (false = true) by decide)] at H; exact H
      clear H
      have H := H1
      clear H1
      obtain rfl := Option.some.inj H
      go_wp2
      go_ret
      exact ⟨_, by first | rfl | (simp [errW_none, errW_some] <;> rfl) | (simp [*, errW_none, errW_some] <;> rfl), rch HO_9, bel HB⟩
  ·rw [if_neg c6] at H
   exact absurd H (by simp)
 ·rw [if_neg c5] at H
  exact absurd H (by simp)

end Go.Proofs.YtbplbbialcbceaaDoor.Q
