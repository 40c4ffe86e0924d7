/- slices.ContainsFunc over whole numbers, at whatever predicate that returns at each of the row's numbers. -/
import Derived.Test.YtbplbbialcbceaaDoorQ0
import Derived.Deep.LoopGhost
import Derived.Deep.Draws
namespace Go.Proofs.YtbplbbialcbceaaDoor.Q
open Go.RowKit Go.Proofs.YtbplbbialcbceaaDoorW.PrintWords Go.Proofs.YtbplbbialcbceaaDoorW.PrintLast Go.Proofs.YtbplbbialcbceaaDoorW.PrintMore
theorem wrap64_small (n : Nat) (h : n < 1000000) : wrap64 ((n : Int) + 1) = ((n + 1 : Nat) : Int) := by unfold wrap64; omega
def PredI (g : Nat) (lb : Array Value) (p : Int → Bool) (zs : List Int) (w : World) : Prop :=
  ∀ W, Below w.heap.size w W → ∀ x ∈ zs, Calls Tryd.prog g (#[.int .i64 x] ++ lb) W fun e W' => e = .returned (.bool (p x)) ∧ Below W.heap.size W W'
set_option maxHeartbeats 4000000 in
set_option maxRecDepth 100000 in
theorem idxI (g : Nat) (lb : Array Value) (eg : ∀ args w, (callFunc g args).run Tryd.prog w = .ok (.enter g args) w) (p : Int → Bool) (A0 : Option Addr) (c0 : Nat) (zs : List Int) (w : World) (hr0 : Kd.C (Kd.int .i64) w A0 zs.length zs) (hn : zs.length ≤ 1000000) (hp : PredI g lb p zs w) :
    Calls Tryd.prog 110 #[.slice A0 zs.length c0, .func (.func g) #[] lb] w fun e w' => ∃ i : Int, e = .returned (.int .i64 i) ∧ (decide (0 ≤ i) = zs.any p) ∧ Below w.heap.size w w' := by
  have HR := Aside0.mk hr0
  have HP := Aside0.mk hp
  clear hr0 hp
  go_enter Tryd.func110, Tryd.ntmps110
  go_wp2
  go_loopg [5, 8] zs.length (fun gg _ s8 wr => ∃ kk : Nat, s8 = .int .i64 kk ∧ Aside0 (kk ≤ zs.length ∧ zs.length - kk ≤ gg ∧ ∀ j : Nat, j < kk → p (rd zs j) = false) ∧ Aside0 (Below w.heap.size w wr))
  case atStart => exact ⟨0, rfl, ⟨Nat.zero_le _, by omega, fun j hj => absurd hj (Nat.not_lt_zero _)⟩, ⟨Below.refl _ _⟩⟩
  case round =>
    obtain ⟨kk, rfl, HA, HB⟩ := hrel
    obtain ⟨hkk, hgg, hno⟩ := HA.out
    by_cases hlt : kk < zs.length
    · have c1 : decide ((kk : Int) < (zs.length : Int)) = true := decide_eq_true (by omega)
      have p1 : (0 ≤ (kk : Int)) = True := eq_true (by omega)
      have p2 : ((kk : Int) < (zs.length : Int)) = True := eq_true (by omega)
      obtain ⟨ad, e1, hx⟩ := Kd.at_int (Kd.C_below HR.out HB.out) (kk : Int) (by omega) (by omega)
      cases e1
      rw [Int.toNat_natCast] at hx
      have hm : rd zs kk ∈ zs := by
        unfold rd
        rw [Int.toNat_natCast, List.getD_eq_getElem?_getD, List.getElem?_eq_getElem hlt]
        exact List.getElem_mem hlt
      have hcall : ∀ W, Below wr.heap.size wr W → Calls Tryd.prog g (#[.int .i64 (rd zs kk)] ++ lb) W fun e W' => e = .returned (.bool (p (rd zs kk))) ∧ Below W.heap.size W W' := fun W hW =>
        HP.out W (below_then HB.out HB.out.size hW) (rd zs kk) hm
      generalize hv : rd zs kk = y at hx hcall hm
      have HV := Aside0.mk (show rd zs kk = y ∧ y ∈ zs from ⟨hv, hm⟩)
      clear hv hm hno hgg hkk
      cases hq : p y with
      | true =>
        rw [hq] at hcall
        go_wp2_with fail
        refine (hcall _ (Below.refl _ _)).mono ?_
        rintro e w' ⟨rfl, hb⟩
        clear hcall
        go_wp2
        go_ret
        refine ⟨_, rfl, ?_, below_then HB.out HB.out.size hb⟩
        rw [decide_eq_true (by omega)]
        exact (List.any_eq_true.2 ⟨y, HV.out.2, hq⟩).symm
      | false =>
        rw [hq] at hcall
        go_wp2_with fail
        refine (hcall _ (Below.refl _ _)).mono ?_
        rintro e w' ⟨rfl, hb⟩
        clear hcall
        go_wp2
        go_roundg (zs.length - (kk + 1))
        case measure => have := HA.out.2.1; omega
        case rel =>
          refine ⟨kk + 1, by first | rfl | rw [wrap64_small kk (by omega)] | simp, ⟨by omega, by omega, fun j hj => ?_⟩, ⟨below_then HB.out HB.out.size hb⟩⟩
          by_cases e : j = kk
          · rw [e, HV.out.1]
            exact hq
          · exact HA.out.2.2 j (by omega)
    · obtain rfl : kk = zs.length := by omega
      have c1 : decide ((zs.length : Int) < (zs.length : Int)) = false := decide_eq_false (by omega)
      go_wp2
      go_ret
      refine ⟨_, rfl, ?_, HB.out⟩
      rw [decide_eq_false (by omega)]
      refine (Bool.eq_false_iff.2 fun h => ?_).symm
      obtain ⟨x, hx, hpx⟩ := List.any_eq_true.1 h
      obtain ⟨j, hj, rfl⟩ := List.getElem_of_mem hx
      have h2 := hno j hj
      unfold rd at h2
      rw [Int.toNat_natCast, List.getD_eq_getElem?_getD, List.getElem?_eq_getElem hj] at h2
      exact absurd hpx (by simpa using h2)
set_option maxHeartbeats 4000000 in
set_option maxRecDepth 100000 in
theorem contI (g : Nat) (lb : Array Value) (eg : ∀ args w, (callFunc g args).run Tryd.prog w = .ok (.enter g args) w) (p : Int → Bool) (A0 : Option Addr) (c0 : Nat) (zs : List Int) (w : World) (hr0 : Kd.C (Kd.int .i64) w A0 zs.length zs) (hn : zs.length ≤ 1000000) (hp : PredI g lb p zs w) :
    Calls Tryd.prog 81 #[.slice A0 zs.length c0, .func (.func g) #[] lb] w fun e w' => e = .returned (.bool (zs.any p)) ∧ Below w.heap.size w w' := by
  have hI := idxI g lb eg p A0 c0 zs w hr0 hn hp
  clear eg hp hr0
  go_enter Tryd.func81, Tryd.ntmps81
  go_wp2_with fail
  refine hI.mono ?_
  rintro e w' ⟨i, rfl, hi, hb⟩
  clear hI
  go_wp2
  go_ret
  exact ⟨by rw [← hi]; rfl, hb⟩
end Go.Proofs.YtbplbbialcbceaaDoor.Q
