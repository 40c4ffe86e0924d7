/- What some library contracts want of a world: the variable MaxLen of internal/bytealg holds some number; it lives on wherever nothing old has turned. -/
import Derived.Test.YtbplbbialcbceaaDoorQ0
namespace Go.Proofs.YtbplbbialcbceaaDoor.Q
open Go.RowKit Go.Proofs.YtbplbbialcbceaaDoorW.PrintWords Go.Proofs.YtbplbbialcbceaaDoorW.PrintLast Go.Proofs.YtbplbbialcbceaaDoorW.PrintMore
def GoodW (w : World) : Prop := ∃ m, w.cell? ⟨0, 0, none⟩ = some (.int .i64 m)
theorem GoodW.below {w w1 : World} (h : GoodW w) (hb : Below w.heap.size w w1) : GoodW w1 := by
  obtain ⟨m, hm⟩ := h
  exact ⟨m, pw_cell_below hb hm⟩
theorem GoodW.drewN {w : World} (h : GoodW w) (n : Nat) : GoodW (w.drewN n) := h.below (pw_below_drewN (Below.refl _ _) n)
theorem GoodW.drew {w : World} (h : GoodW w) : GoodW w.drew := h.below (below_drew (Below.refl _ _))
end Go.Proofs.YtbplbbialcbceaaDoor.Q
