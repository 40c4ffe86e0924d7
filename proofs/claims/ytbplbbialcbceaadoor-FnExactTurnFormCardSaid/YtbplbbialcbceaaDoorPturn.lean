/- The tray turned by a quarter: both sides make the same cells. -/
import Derived.Test.YtbplbbialcbceaaDoorPtext
import Derived.Test.YtbplbbialcbceaaDoorQu
namespace Go.Proofs.YtbplbbialcbceaaDoor.Q
set_option linter.unusedSectionVars false
open Go.RowKit Go.Proofs.YtbplbbialcbceaaDoorW.PrintWords Go.Proofs.YtbplbbialcbceaaDoorW.PrintLast Go.Proofs.YtbplbbialcbceaaDoorW.PrintMore
/-- Where a cell comes to, and where it comes from. -/
def sg (w h k : Nat) : Nat := k % w * h + (h - 1 - k / w)
def tu (w h j : Nat) : Nat := (h - 1 - j % h) * w + j / h
def turnL (w h : Nat) (cs : List Int) : List Int := (List.range (w * h)).map fun j => rd cs (tu w h j : Nat)
theorem turn_all : ∀ (w h : Fin 8) (k : Fin 36), k.val < w.val * h.val → sg w.val h.val k.val < w.val * h.val ∧ tu w.val h.val (sg w.val h.val k.val) = k.val ∧ tu w.val h.val k.val < w.val * h.val ∧ sg w.val h.val (tu w.val h.val k.val) = k.val ∧
    impl_tray_number.f h.val w.val [] (wrap64 ((wrap64 ((h.val : Int) - 1)) - (wrap64 (Int.tdiv k.val w.val)))) (Int.tmod k.val w.val) = some ((sg w.val h.val k.val : Nat) : Int) := by decide +kernel
theorem turnL_len (w h : Nat) (cs : List Int) : (turnL w h cs).length = w * h := by
  unfold turnL
  rw [List.length_map, List.length_range]
theorem turnL_at (w h : Nat) (cs : List Int) (j : Nat) (hj : j < w * h) : rd (turnL w h cs) (j : Int) = rd cs (tu w h j : Nat) := by
  rw [rd_nat _ j (by rw [turnL_len]; exact hj)]
  unfold turnL
  rw [List.getElem_map, List.getElem_range]
section
variable {w h : Nat} {cs : List Int} (hw1 : 1 ≤ w) (hw : w ≤ 7) (hh1 : 1 ≤ h) (hh : h ≤ 7) (hs : w * h ≤ 36) (hn : cs.length = w * h)
include hw1 hw hh1 hh hs hn
theorem number_l (l : List Int) (a b x y : Int) : impl_tray_number.f a b l x y = impl_tray_number.f a b [] x y := rfl
theorem turned_l0 : ∀ (m t : Nat) (O : List Int), t + m = w * h → O.length = w * h → (∀ k : Nat, k < t → rd O (sg w h k : Nat) = rd cs (k : Nat)) →
    ∃ O' : List Int, O'.length = w * h ∧ (∀ k : Nat, k < w * h → rd O' (sg w h k : Nat) = rd cs (k : Nat)) ∧ Ev (fun k => impl_tray_turned.l0 k cs cs.length t w h cs h w O) ((h : Int), (w : Int), O')
  | 0, t, O, ht, hO, hv => by
    obtain rfl : t = w * h := by omega
    refine ⟨O, hO, hv, Ev.step (Ev.const (o := some ((h : Int), (w : Int), O)) rfl) fun k => ?_⟩
    rw [impl_tray_turned.l0, if_neg (by omega)]
  | m + 1, t, O, ht, hO, hv => by
    have hlt : t < w * h := by omega
    obtain ⟨s1, s2, _, _, s5⟩ := turn_all ⟨w, by omega⟩ ⟨h, by omega⟩ ⟨t, by omega⟩ hlt
    simp only at s1 s2 s5
    have e0 : (0 : Int) ≤ ((sg w h t : Nat) : Int) := Int.natCast_nonneg _
    have e1 : ((sg w h t : Nat) : Int) < (O.length : Int) := Int.ofNat_lt.2 (by rw [hO]; exact s1)
    have c1 : (t : Int) < (cs.length : Int) := Int.ofNat_lt.2 (by rw [hn]; exact hlt)
    have c0 : (0 : Int) ≤ (t : Int) := Int.natCast_nonneg _
    have cw : ¬ (w : Int) = 0 := by omega
    obtain ⟨O', h1, h2, h3⟩ := turned_l0 m (t + 1) (O.set ((sg w h t : Nat) : Int).toNat (rd cs (t : Int))) (by omega) (by rw [List.length_set]; exact hO) (fun k hk => by
      rw [rd_set O (sg w h t : Nat) (sg w h k : Nat) _ e0 e1 (Int.natCast_nonneg _)]
      by_cases e : k = t
      · rw [e, if_pos rfl]
      · rw [if_neg]
        · exact hv k (by omega)
        · intro e2
          have e3 : sg w h k = sg w h t := Int.ofNat.inj e2
          have hk2 := (turn_all ⟨w, by omega⟩ ⟨h, by omega⟩ ⟨k, by omega⟩ (show k < w * h by omega)).2.1
          simp only at hk2
          rw [e3, s2] at hk2
          exact e hk2.symm)
    have hwt := w64s t (by omega)
    refine ⟨O', h1, h2, Ev.step h3 fun k => ?_⟩
    rw [impl_tray_turned.l0, if_pos c1, if_pos c0, if_pos c1, if_neg cw, number_l hw1 hw hh1 hh hs hn O, s5, Option.bind_some, if_pos e0, if_pos e1, hwt]
theorem turned_ev : Ev (fun k => impl_tray_turned.f k w h cs) ((h : Int), (w : Int), turnL w h cs) := by
  obtain ⟨O, h1, h2, h3⟩ := turned_l0 hw1 hw hh1 hh hs hn (w * h) 0 (List.replicate (w * h) 0) (by omega) (by simp) (fun k hk => by omega)
  have hO : O = turnL w h cs := by
    refine List.ext_getElem (by rw [h1, turnL_len]) fun j j1 j2 => ?_
    have hj : j < w * h := by rw [← h1]; exact j1
    obtain ⟨_, _, s3, s4, _⟩ := turn_all ⟨w, by omega⟩ ⟨h, by omega⟩ ⟨j, by omega⟩ hj
    simp only at s3 s4
    have h4 := h2 _ s3
    rw [s4, ← turnL_at w h cs j hj, rd_nat O j j1, rd_nat _ j j2] at h4
    exact h4
  rw [hO] at h3
  refine Ev.congr h3 fun k => ?_
  unfold impl_tray_turned.f
  rw [if_pos (Int.natCast_nonneg _), if_pos (by rw [Int.toNat_natCast, hn]; exact Nat.le_trans hs (by decide)), Int.toNat_natCast, hn]
  rfl
end
/-- The cells that have come, column by column. -/
def turnTo (w h : Nat) (cs : List Int) (t : Nat) : List Int := (List.range t).map fun j => rd cs (tu w h j : Nat)
theorem turnTo_succ (w h : Nat) (cs : List Int) (t : Nat) : turnTo w h cs (t + 1) = turnTo w h cs t ++ [rd cs (tu w h t : Nat)] := by
  unfold turnTo
  rw [List.range_succ, List.map_append]
  rfl
theorem tu_at (w h x y : Nat) (hy : y < h) : tu w h (x * h + (h - 1 - y)) = y * w + x := by
  unfold tu
  have h1 : (x * h + (h - 1 - y)) % h = h - 1 - y := by
    rw [Nat.mul_comm, Nat.mul_add_mod]
    exact Nat.mod_eq_of_lt (by omega)
  have h2 : (x * h + (h - 1 - y)) / h = x := by
    rw [Nat.mul_comm, Nat.mul_add_div (by omega), Nat.div_eq_of_lt (by omega), Nat.add_zero]
  rw [h1, h2, show h - 1 - (h - 1 - y) = y by omega]
section
variable {w h : Nat} {cs : List Int} (hw1 : 1 ≤ w) (hw : w ≤ 7) (hh1 : 1 ≤ h) (hh : h ≤ 7) (hs : w * h ≤ 36) (hn : cs.length = w * h)
include hw1 hw hh1 hh hs hn
theorem tyTurn_l1 (x : Nat) (hx : x < w) (K : Int × Int × List Int) (hK : Ev (fun k => spec_tyTurn.l0 k ((x + 1 : Nat) : Int) w h cs h w (turnTo w h cs ((x + 1) * h))) K) :
    ∀ (m : Nat), m ≤ h → Ev (fun k => spec_tyTurn.l1 k x ((m : Int) - 1) w h cs h w (turnTo w h cs (x * h + (h - m)))) K
  | 0, _ => by
    have hwx := w64s x (by omega)
    rw [show x * h + (h - 0) = (x + 1) * h by rw [Nat.succ_mul]; rfl]
    refine Ev.step hK fun k => ?_
    rw [spec_tyTurn.l1, if_neg (by omega), hwx]
  | m + 1, hm => by
    have ih := tyTurn_l1 x hx K hK m (by omega)
    have hmh : m < h := by omega
    have hlt : m * w + x < w * h := by
      have a1 : m * w + w ≤ h * w := by rw [← Nat.succ_mul]; exact Nat.mul_le_mul_right w hmh
      rw [Nat.mul_comm w h]
      omega
    have e2 : ((m + 1 : Nat) : Int) - 1 = (m : Int) := by omega
    have hst : x * h + (h - m) = x * h + (h - (m + 1)) + 1 := by omega
    have htu : tu w h (x * h + (h - (m + 1))) = m * w + x := by
      rw [show h - (m + 1) = h - 1 - m by omega]
      exact tu_at w h x m hmh
    rw [hst, turnTo_succ, htu] at ih
    have hlen : (turnTo w h cs (x * h + (h - (m + 1)))).length < 140737488355328 := by
      unfold turnTo
      rw [List.length_map, List.length_range]
      have a1 : x * h + h ≤ w * h := by rw [← Nat.succ_mul]; exact Nat.mul_le_mul_right h hx
      have a2 : x * h + (h - (m + 1)) ≤ 36 := Nat.le_trans (Nat.add_le_add_left (Nat.sub_le _ _) _) (Nat.le_trans a1 hs)
      exact Nat.lt_of_le_of_lt a2 (by decide)
    have b0 : (0 : Int) ≤ ((m * w + x : Nat) : Int) := Int.natCast_nonneg _
    have b1 : ((m * w + x : Nat) : Int) < (cs.length : Int) := Int.ofNat_lt.2 (by rw [hn]; exact hlt)
    have m36 : m * w + x ≤ 36 := Nat.le_trans (Nat.le_of_lt hlt) hs
    have m0 : m * w ≤ 36 := Nat.le_trans (Nat.le_add_right _ _) m36
    have c0 : (m : Int) ≥ 0 := Int.natCast_nonneg _
    have hwm : wrap64 ((m : Int) - 1) = (m : Int) - 1 := w64 (by omega) (by omega)
    have n0 : wrap64 ((wrap64 ((m : Int) * (w : Int))) + (x : Int)) = ((m * w + x : Nat) : Int) := by
      rw [← Int.natCast_mul, w64n _ (Nat.le_trans m0 (by decide)), ← Int.natCast_add]
      exact w64n _ (Nat.le_trans m36 (by decide))
    rw [e2]
    refine Ev.step ih fun k => ?_
    rw [spec_tyTurn.l1, if_pos c0, n0, if_pos b0, if_pos b1, if_pos hlen, hwm]
theorem tyTurn_l0 : ∀ (m x : Nat), x + m = w → Ev (fun k => spec_tyTurn.l0 k x w h cs h w (turnTo w h cs (x * h))) ((h : Int), (w : Int), turnL w h cs)
  | 0, x, hx => by
    obtain rfl : x = w := by omega
    refine Ev.step (Ev.const (o := some ((h : Int), (x : Int), turnL x h cs)) rfl) fun k => ?_
    rw [spec_tyTurn.l0, if_neg (by omega)]
    rfl
  | m + 1, x, hx => by
    have ih := tyTurn_l0 m (x + 1) (by omega)
    have h1 := tyTurn_l1 hw1 hw hh1 hh hs hn x (by omega) _ ih h (Nat.le_refl _)
    rw [Nat.sub_self, Nat.add_zero] at h1
    have hwh : wrap64 ((h : Int) - 1) = (h : Int) - 1 := w64 (by omega) (by omega)
    refine Ev.step h1 fun k => ?_
    rw [spec_tyTurn.l0, if_pos (by omega), hwh]
theorem tyTurn_ev : Ev (fun k => spec_tyTurn.f k w h cs) ((h : Int), (w : Int), turnL w h cs) := by
  have h1 := tyTurn_l0 hw1 hw hh1 hh hs hn w 0 (by omega)
  rw [Nat.zero_mul] at h1
  exact h1
end
end Go.Proofs.YtbplbbialcbceaaDoor.Q
