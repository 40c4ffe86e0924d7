/- A cell's neighbours: both sides list the same. -/
import Derived.Test.YtbplbbialcbceaaDoorPtray
import Derived.Test.YtbplbbialcbceaaDoorQd
namespace Go.Proofs.YtbplbbialcbceaaDoor.Q
open Go.RowKit Go.Proofs.YtbplbbialcbceaaDoorW.PrintWords Go.Proofs.YtbplbbialcbceaaDoorW.PrintLast Go.Proofs.YtbplbbialcbceaaDoorW.PrintMore
theorem Ev.of_mono {α : Type} {g : Nat → Option α} {r : α} (hm : ∀ k, LeO (g k) (g (k + 1))) (k0 : Nat) (h : g k0 = some r) : Ev g r := by
  refine ⟨k0, fun k hk => ?_⟩
  obtain ⟨d, rfl⟩ : ∃ d, k = k0 + d := ⟨k - k0, by omega⟩
  clear hk
  induction d with
  | zero => exact h
  | succ d ih => exact hm _ _ ih
def nbs (w h i : Nat) : List Int := (spec_tyNear.f 2 w h [] i).getD []
theorem near_all : ∀ (w h : Fin 8) (i : Fin 36), i.val < w.val * h.val → spec_tyNear.f 2 w.val h.val [] i.val = some (nbs w.val h.val i.val) ∧ impl_tray_beside.f 6 w.val h.val [] i.val = some (nbs w.val h.val i.val) ∧
    (nbs w.val h.val i.val).length ≤ 4 ∧ ∀ j ∈ nbs w.val h.val i.val, 0 ≤ j ∧ j < ((w.val * h.val : Nat) : Int) ∧ (i.val : Int) ∈ nbs w.val h.val j.toNat := by decide +kernel
theorem near_l (k : Nat) (w h : Int) (l : List Int) (i : Int) : spec_tyNear.f k w h l i = spec_tyNear.f k w h [] i := by
  have h1 : ∀ k a b c d, spec_tyNear.j1 k a b c d w h l = spec_tyNear.j1 k a b c d w h [] := by
    intro k a b c d
    cases k <;> simp only [spec_tyNear.j1]
  have h0 : ∀ k a b c d, spec_tyNear.j0 k a b c d w h l = spec_tyNear.j0 k a b c d w h [] := by
    intro k a b c d
    cases k <;> simp only [spec_tyNear.j0, h1]
  simp only [spec_tyNear.f, h0]
theorem beside_l (k : Nat) (w h : Int) (l : List Int) (i : Int) : impl_tray_beside.f k w h l i = impl_tray_beside.f k w h [] i := by
  have h0 : ∀ k a b c d e g, impl_tray_beside.l0 k a b c d e g w h l = impl_tray_beside.l0 k a b c d e g w h [] := by
    intro k
    induction k with
    | zero => intros; rfl
    | succ k ih =>
      intros
      simp only [impl_tray_beside.l0, ih]
      rfl
  simp only [impl_tray_beside.f, h0]
section
variable {w h i : Nat} (hw : w ≤ 7) (hh : h ≤ 7) (hs : w * h ≤ 36) (hi : i < w * h)
include hw hh hs hi
theorem near_ev (l : List Int) : Ev (fun k => spec_tyNear.f k w h l i) (nbs w h i) := by
  refine Ev.of_mono (fun k => spec_tyNear.mono _ _ _ _ k) 2 ?_
  rw [near_l]
  exact (near_all ⟨w, by omega⟩ ⟨h, by omega⟩ ⟨i, by omega⟩ hi).1
theorem beside_ev (l : List Int) : Ev (fun k => impl_tray_beside.f k w h l i) (nbs w h i) := by
  refine Ev.of_mono (fun k => impl_tray_beside.mono _ _ _ _ k) 6 ?_
  rw [beside_l]
  exact (near_all ⟨w, by omega⟩ ⟨h, by omega⟩ ⟨i, by omega⟩ hi).2.1
theorem nbs_len : (nbs w h i).length ≤ 4 := (near_all ⟨w, by omega⟩ ⟨h, by omega⟩ ⟨i, by omega⟩ hi).2.2.1
theorem nbs_at {j : Int} (hj : j ∈ nbs w h i) : 0 ≤ j ∧ j < ((w * h : Nat) : Int) ∧ (i : Int) ∈ nbs w h j.toNat := (near_all ⟨w, by omega⟩ ⟨h, by omega⟩ ⟨i, by omega⟩ hi).2.2.2 j hj
end
end Go.Proofs.YtbplbbialcbceaaDoor.Q
