/- impl.areWithin: whether all numbers of a list lie between two others (its closure captures the two bounds). -/
import Derived.Test.YtbplbbialcbceaaDoorXfunc
import Derived.Test.YtbplbbialcbceaaDoorQc
import Derived.RangeFuncBox
namespace Go.Proofs.YtbplbbialcbceaaDoor.Q
open Go.RowKit Go.Proofs.YtbplbbialcbceaaDoorW.PrintWords Go.Proofs.YtbplbbialcbceaaDoorW.PrintLast Go.Proofs.YtbplbbialcbceaaDoorW.PrintMore
def impl_areWithin.f (l0 : List Int) (lo hi : Int) : Option Bool := if l0.length ≤ 1000000 then some (!l0.any (fun x => !decide (lo ≤ x ∧ x ≤ hi))) else none
theorem within_val (a lo hi : Int) : impl_within.f a lo hi = some (decide (lo ≤ a ∧ a ≤ hi)) := by
  unfold impl_within.f
  by_cases h : lo ≤ a
  · rw [if_pos h]
    simp [h]
  · rw [if_neg h]
    simp [h]
set_option maxHeartbeats 4000000 in
set_option maxRecDepth 100000 in
theorem within_pred (lo hi : Int) (Bl Bh : Nat) (zs : List Int) (w : World) (hl : Bl < w.heap.size) (hh : Bh < w.heap.size) (cl : w.cell? ⟨Bl, 0, none⟩ = some (.int .i64 lo)) (ch : w.cell? ⟨Bh, 0, none⟩ = some (.int .i64 hi)) :
    PredI 91 #[.pointer (some ⟨Bl, 0, none⟩), .pointer (some ⟨Bh, 0, none⟩)] (fun x => !decide (lo ≤ x ∧ x ≤ hi)) zs w := by
  intro W hb x _
  have c1 := (hb.cell (p := ⟨Bl, 0, none⟩) hl).trans cl
  have c2 := (hb.cell (p := ⟨Bh, 0, none⟩) hh).trans ch
  have hc := fun W => impl_within.calls x lo hi _ W (within_val x lo hi)
  show Calls _ _ _ _ fun e W' => e = .returned (.bool (!decide (lo ≤ x ∧ x ≤ hi))) ∧ _
  generalize decide (lo ≤ x ∧ x ≤ hi) = b at hc ⊢
  clear cl ch hb
  show Calls Tryd.prog 91 #[.int .i64 x, .pointer (some ⟨Bl, 0, none⟩), .pointer (some ⟨Bh, 0, none⟩)] W _
  go_enter Tryd.func91, Tryd.ntmps91
  go_wp2_with fail
  refine (hc _).mono ?_
  rintro e w' ⟨rfl, ⟨nd, rfl⟩⟩
  go_wp2
  go_ret
  exact ⟨rfl, pw_below_drewN (Below.refl _ _) _⟩
set_option maxHeartbeats 4000000 in
set_option maxRecDepth 100000 in
theorem impl_areWithin.calls (A0 : Option Addr) (c0 : Nat) (l0 : List Int) (lo hi : Int) (r : Bool) (w : World) (hr0 : Kd.C (Kd.int .i64) w A0 l0.length l0) (hc0 : l0.length ≤ c0) (h : impl_areWithin.f l0 lo hi = some r) :
    Calls Tryd.prog 61 #[.slice A0 l0.length c0, .int .i64 lo, .int .i64 hi] w fun e w' => e = .returned (.bool r) ∧ Below w.heap.size w w' := by
  unfold impl_areWithin.f at h
  split at h
  case isFalse => cases h
  rename_i hn
  obtain rfl := Option.some.inj h
  have hb0 : Below w.heap.size w ((w.alloc (.cells #[.int .i64 lo] 3)).alloc (.cells #[.int .i64 hi] 3)) := ((Below.refl _ w).alloc (Nat.le_refl _) _).alloc (by simp) _
  have h1 := Boxed.new w 3 (.int .i64 lo)
  have h2 := Boxed.new (w.alloc (.cells #[.int .i64 lo] 3)) 3 (.int .i64 hi)
  have hp := within_pred lo hi w.heap.size (w.heap.size + 1) l0 ((w.alloc (.cells #[.int .i64 lo] 3)).alloc (.cells #[.int .i64 hi] 3)) (by simp; omega) (by simp) (h1.alloc _).cell (by rw [World.size_alloc] at h2; exact h2.cell)
  have hcall := contI 91 #[.pointer (some ⟨w.heap.size, 0, none⟩), .pointer (some ⟨w.heap.size + 1, 0, none⟩)] (enters_of Tryd.func91 (by kernel_rfl) rfl) _ A0 c0 l0 _ (Kd.C_below hr0 hb0) hn hp
  clear hp h1 h2 hr0 h
  generalize l0.any (fun x => !decide (lo ≤ x ∧ x ≤ hi)) = b at hcall ⊢
  go_enter Tryd.func61, Tryd.ntmps61
  go_wp2_with fail
  refine hcall.mono ?_
  rintro e w' ⟨rfl, hb⟩
  clear hcall
  go_wp2
  go_ret
  exact ⟨rfl, below_then hb0 hb0.size hb⟩
end Go.Proofs.YtbplbbialcbceaaDoor.Q
