/- The cell ahead of a cell, and free ways: both sides go the same way. -/
import Derived.Test.YtbplbbialcbceaaDoorPnum
import Derived.Test.YtbplbbialcbceaaDoorQg
import Derived.Test.YtbplbbialcbceaaDoorQh
namespace Go.Proofs.YtbplbbialcbceaaDoor.Q
set_option linter.unusedSectionVars false
open Go.RowKit Go.Proofs.YtbplbbialcbceaaDoorW.PrintWords Go.Proofs.YtbplbbialcbceaaDoorW.PrintLast Go.Proofs.YtbplbbialcbceaaDoorW.PrintMore
def dirC (d : Nat) : Int := ([117, 114, 100, 108] : List Int).getD d 0
/-- The number of the cell ahead, -1 beyond a side. -/
def ah (w h : Nat) (i : Nat) (d : Nat) : Int := (impl_tray_ahead.f 1 w h [] i (dirC d)).getD (-1)
/-- How many cells are left in a direction. -/
def left (w h i d : Nat) : Nat := if d = 0 then i / w else if d = 1 then w - 1 - i % w else if d = 2 then h - 1 - i / w else i % w
theorem ah_all : ∀ (w h : Fin 8) (i : Fin 36) (d : Fin 4), i.val < w.val * h.val → impl_tray_ahead.f 1 w.val h.val [] i.val (dirC d.val) = some (ah w.val h.val i.val d.val) ∧
    spec_tiAhead.f w.val h.val (List.replicate (w.val * h.val) 0) i.val d.val = some (ah w.val h.val i.val d.val) ∧
    -1 ≤ ah w.val h.val i.val d.val ∧ ah w.val h.val i.val d.val < ((w.val * h.val : Nat) : Int) ∧ left w.val h.val i.val d.val ≤ 6 ∧
    (0 ≤ ah w.val h.val i.val d.val → left w.val h.val (ah w.val h.val i.val d.val).toNat d.val < left w.val h.val i.val d.val) := by decide +kernel
theorem ahead_l (k : Nat) (w h : Int) (l : List Int) (i c : Int) : impl_tray_ahead.f k w h l i c = impl_tray_ahead.f k w h [] i c := by
  have h0 : ∀ k a b w h, impl_tray_ahead.j0 k a b w h l = impl_tray_ahead.j0 k a b w h [] := by
    intro k a b w h
    cases k with
    | zero => rfl
    | succ k => rfl
  simp only [impl_tray_ahead.f, h0]
def seen (cs : List Int) (j : Int) : Option Int := if 0 ≤ j then (if j < (cs.length : Int) then (if rd cs j = 35 then some (-1) else some j) else none) else none
theorem seen_rep (cs : List Int) (n : Nat) (hn : cs.length = n) (j r : Int) (h : seen (List.replicate n 0) j = some r) : j = r ∧ seen cs j = some (if rd cs j = 35 then -1 else j) ∧ 0 ≤ j := by
  unfold seen at h ⊢
  rw [List.length_replicate] at h
  by_cases h1 : 0 ≤ j
  · rw [if_pos h1] at h ⊢
    by_cases h2 : j < (n : Int)
    · rw [if_pos h2] at h
      rw [if_pos (by omega)]
      have h3 : rd (List.replicate n (0 : Int)) j = 0 := by
        unfold rd
        rw [List.getD_eq_getElem?_getD, List.getElem?_replicate, if_pos (by omega)]
        rfl
      rw [if_neg (by omega)] at h
      refine ⟨Option.some.inj h, ?_, h1⟩
      split <;> rfl
    · rw [if_neg h2] at h
      cases h
  · rw [if_neg h1] at h
    cases h
theorem tiAhead_of (cs : List Int) (n : Nat) (hn : cs.length = n) (w h i d r : Int) (hr : spec_tiAhead.f w h (List.replicate n 0) i d = some r) : spec_tiAhead.f w h cs i d = some (if r < 0 then r else if rd cs r = 35 then -1 else r) := by
  have key : ∀ (x y j : Int), ((spec_tyCell.f w h (List.replicate n 0) x y).bind fun t => if t = true then seen (List.replicate n 0) j else some (-1)) = some r →
      ((spec_tyCell.f w h cs x y).bind fun t => if t = true then seen cs j else some (-1)) = some (if r < 0 then r else if rd cs r = 35 then -1 else r) := by
    intro x y j hx
    obtain ⟨t, h1, h2⟩ := Option.bind_eq_some_iff.1 hx
    have h3 : spec_tyCell.f w h cs x y = some t := h1
    rw [h3, Option.bind_some]
    by_cases ht : t = true
    · rw [if_pos ht] at h2 ⊢
      obtain ⟨rfl, h4, h5⟩ := seen_rep cs n hn j r h2
      rw [h4, if_neg (show ¬ j < 0 by omega)]
    · rw [if_neg ht] at h2 ⊢
      obtain rfl := Option.some.inj h2
      rfl
  unfold spec_tiAhead.f at hr ⊢
  by_cases h0 : w = 0
  · rw [if_pos h0] at hr
    cases hr
  rw [if_neg h0] at hr ⊢
  by_cases h1 : d = 0
  · rw [if_pos h1] at hr ⊢
    exact key _ _ _ hr
  rw [if_neg h1] at hr ⊢
  by_cases h2 : d = 1
  · rw [if_pos h2] at hr ⊢
    exact key _ _ _ hr
  rw [if_neg h2] at hr ⊢
  by_cases h3 : d = 2
  · rw [if_pos h3] at hr ⊢
    exact key _ _ _ hr
  rw [if_neg h3] at hr ⊢
  exact key _ _ _ hr
section
variable {w h i d : Nat} (hw : w ≤ 7) (hh : h ≤ 7) (hs : w * h ≤ 36) (hi : i < w * h) (hd : d < 4)
include hw hh hs hi hd
theorem ahead_ev (cs : List Int) : Ev (fun k => impl_tray_ahead.f k w h cs i (dirC d)) (ah w h i d) := by
  refine Ev.of_mono (fun k => impl_tray_ahead.mono _ _ _ _ _ k) 1 ?_
  rw [ahead_l]
  exact (ah_all ⟨w, by omega⟩ ⟨h, by omega⟩ ⟨i, by omega⟩ ⟨d, hd⟩ hi).1
theorem tiAhead_eq (cs : List Int) (hn : cs.length = w * h) : spec_tiAhead.f w h cs i d = some (if ah w h i d < 0 then -1 else if rd cs (ah w h i d) = 35 then -1 else ah w h i d) := by
  obtain ⟨_, h2, h3, _⟩ := ah_all ⟨w, by omega⟩ ⟨h, by omega⟩ ⟨i, by omega⟩ ⟨d, hd⟩ hi
  have h4 := tiAhead_of cs (w * h) hn w h i d _ h2
  simp only at h3 h4
  rw [h4]
  congr 1
  by_cases h5 : ah w h i d < 0
  · rw [if_pos h5, if_pos h5]
    omega
  · rw [if_neg h5, if_neg h5]
theorem ah_lt : -1 ≤ ah w h i d ∧ ah w h i d < ((w * h : Nat) : Int) := by
  have h1 := ah_all ⟨w, by omega⟩ ⟨h, by omega⟩ ⟨i, by omega⟩ ⟨d, hd⟩ hi
  exact ⟨h1.2.2.1, h1.2.2.2.1⟩
theorem left_le : left w h i d ≤ 6 := (ah_all ⟨w, by omega⟩ ⟨h, by omega⟩ ⟨i, by omega⟩ ⟨d, hd⟩ hi).2.2.2.2.1
theorem left_lt (h0 : 0 ≤ ah w h i d) : left w h (ah w h i d).toNat d < left w h i d := (ah_all ⟨w, by omega⟩ ⟨h, by omega⟩ ⟨i, by omega⟩ ⟨d, hd⟩ hi).2.2.2.2.2 h0
end
/-- A free way from a cell on, in a direction. -/
def fr (w h : Nat) (cs : List Int) (d : Nat) : Nat → Int → Bool
  | 0, _ => true
  | n + 1, i => if i < 0 then true else if rd cs i = 46 then fr w h cs d n (ah w h i.toNat d) else false
def opp (d : Nat) : Nat := (d + 2) % 4
def freeAt (w h : Nat) (cs : List Int) (a : Int) (d : Nat) : Bool := fr w h cs (opp d) 8 a
section
variable {w h : Nat} {cs : List Int} (hw : w ≤ 7) (hh : h ≤ 7) (hs : w * h ≤ 36) (hn : cs.length = w * h)
include hw hh hs hn
theorem free_l0 (ho : ∀ c ∈ cs, c ≠ 35) (d : Nat) (hd : d < 4) : ∀ (n : Nat) (i : Int), -1 ≤ i → i < ((w * h : Nat) : Int) → (0 ≤ i → left w h i.toNat (opp d) + 1 < n) → 0 < n → Ev (fun k => spec_buFree.l0 k d i w h cs) (fr w h cs (opp d) n i)
  | 0, i, _, _, _, hz => absurd hz (Nat.lt_irrefl _)
  | n + 1, i, h0, h1, hl, _ => by
    unfold fr
    by_cases hi : i < 0
    · rw [if_pos hi]
      refine Ev.step (Ev.const (o := some true) rfl) fun k => ?_
      rw [spec_buFree.l0, if_neg (by omega)]
    · rw [if_neg hi]
      obtain ⟨j, rfl⟩ : ∃ j : Nat, i = j := ⟨i.toNat, by omega⟩
      have hj : j < w * h := by omega
      have hod : opp d < 4 := Nat.mod_lt _ (by decide)
      have hto := tiAhead_eq hw hh hs hj hod cs hn
      have hlt := ah_lt hw hh hs hj hod
      have hw2 : wrap64 ((d : Int) + 2) = ((d + 2 : Nat) : Int) := by rw [w64 (by omega) (by omega)]; omega
      have hm : Int.tmod ((d + 2 : Nat) : Int) 4 = (opp d : Int) := by
        unfold opp
        rw [Int.tmod_eq_emod_of_nonneg (by omega)]
        omega
      have e1 : (if ah w h j (opp d) < 0 then -1 else if rd cs (ah w h j (opp d)) = 35 then -1 else ah w h j (opp d)) = ah w h j (opp d) := by
        by_cases h5 : ah w h j (opp d) < 0
        · rw [if_pos h5]; omega
        · rw [if_neg h5, if_neg]
          intro h6
          refine ho _ ?_ h6
          have h7 : (ah w h j (opp d)).toNat < cs.length := by omega
          unfold rd
          rw [List.getD_eq_getElem?_getD, List.getElem?_eq_getElem h7]
          exact List.getElem_mem h7
      rw [e1] at hto
      have c0 : (0 : Int) ≤ (j : Int) := by omega
      have c1 : (j : Int) < (cs.length : Int) := by omega
      by_cases hr : rd cs (j : Int) = 46
      · rw [if_pos hr]
        have h8 := hl (by omega)
        rw [Int.toNat_natCast] at h8
        by_cases hneg : ah w h j (opp d) < 0
        · have ih := free_l0 ho d hd n (ah w h j (opp d)) hlt.1 hlt.2 (fun h6 => by omega) (by omega)
          rw [show ((j : Int)).toNat = j from Int.toNat_natCast j]
          refine Ev.step ih fun k => ?_
          rw [spec_buFree.l0, if_pos (by omega), if_pos c0, if_pos c1, if_pos hr, hw2, hm, hto, Option.bind_some]
        · have hll := left_lt hw hh hs hj hod (by omega)
          have ih := free_l0 ho d hd n (ah w h j (opp d)) hlt.1 hlt.2 (fun h6 => by omega) (by omega)
          rw [show ((j : Int)).toNat = j from Int.toNat_natCast j]
          refine Ev.step ih fun k => ?_
          rw [spec_buFree.l0, if_pos (by omega), if_pos c0, if_pos c1, if_pos hr, hw2, hm, hto, Option.bind_some]
      · rw [if_neg hr]
        refine Ev.step (Ev.const (o := some false) rfl) fun k => ?_
        rw [spec_buFree.l0, if_pos (by omega), if_pos c0, if_pos c1, if_neg hr]
theorem buFree_ev (ho : ∀ c ∈ cs, c ≠ 35) (d : Nat) (hd : d < 4) (a : Int) (ha : inCells cs a) : Ev (fun k => spec_buFree.f k w h cs a d) (freeAt w h cs a d) := by
  unfold inCells at ha
  have hod : opp d < 4 := Nat.mod_lt _ (by decide)
  refine free_l0 hw hh hs hn ho d hd 8 a (by omega) (by omega) (fun h0 => ?_) (by omega)
  have := left_le hw hh hs (i := a.toNat) (by omega) hod
  omega
/-- The program's walk along a way: where it ends. -/
theorem walk_l1 (a : Int) (x5 : List Int) (x7 : Int) (L : List Int) (x14 : Int) (e : Nat) (he : e < 4) (hx : x5.length ≤ 4) (r : ByteArray) :
    ∀ (n : Nat) (i : Int), -1 ≤ i → i < ((w * h : Nat) : Int) → (0 ≤ i → left w h i.toNat e + 1 < n) → 0 < n →
      Ev (fun k => if fr w h cs e n i = true then impl_tray_freeWays.l0 k a (x5 ++ [x7]) L L.length (wrap64 (x14 + 1)) w h cs else impl_tray_freeWays.l0 k a x5 L L.length (wrap64 (x14 + 1)) w h cs) r →
      Ev (fun k => impl_tray_freeWays.l1 k a x5 x7 i (dirC e) L L.length x14 w h cs) r
  | 0, i, _, _, _, hz => absurd hz (Nat.lt_irrefl _)
  | n + 1, i, h0, hi1, hl, _ => fun hr0 => by
    have c6 : x5.length < 140737488355328 := Nat.lt_of_le_of_lt hx (by decide)
    unfold fr at hr0
    by_cases hi : i < 0
    · rw [if_pos hi] at hr0
      refine Ev.step hr0 fun k => ?_
      rw [impl_tray_freeWays.l1, if_neg (by omega), if_pos hi, if_pos c6, if_pos rfl]
    · rw [if_neg hi] at hr0
      obtain ⟨j, rfl⟩ : ∃ j : Nat, i = j := ⟨i.toNat, by omega⟩
      have hj : j < w * h := by omega
      have hlt := ah_lt hw hh hs hj he
      have hah := ahead_ev hw hh hs hj he cs
      have c0 : (0 : Int) ≤ (j : Int) := by omega
      have c1 : (j : Int) < (cs.length : Int) := by omega
      by_cases hr : rd cs (j : Int) = 46
      · rw [if_pos hr] at hr0
        have h8 := hl (by omega)
        rw [Int.toNat_natCast] at h8 hr0
        have ih := walk_l1 a x5 x7 L x14 e he hx r n (ah w h j e) hlt.1 hlt.2 (fun h6 => by
          have := left_lt hw hh hs hj he h6
          omega) (by omega) hr0
        refine Ev.step (Ev.bind (f := fun k t114 => impl_tray_freeWays.l1 k a x5 x7 t114 (dirC e) L L.length x14 w h cs) hah ih) fun k => ?_
        rw [impl_tray_freeWays.l1, if_pos (by omega), if_pos c0, if_pos c1, if_pos hr]
      · rw [if_neg hr] at hr0
        refine Ev.step hr0 fun k => ?_
        rw [impl_tray_freeWays.l1, if_pos (by omega), if_pos c0, if_pos c1, if_neg hr, if_neg hi, if_neg (by decide)]
end
/-- The directions that are free, as a text. -/
def freeTo (w h : Nat) (cs : List Int) (a : Int) (t : Nat) : List Int := ((List.range t).filter fun d => freeAt w h cs a d).map dirC
theorem freeTo_succ (w h : Nat) (cs : List Int) (a : Int) (t : Nat) : freeTo w h cs a (t + 1) = if freeAt w h cs a t = true then freeTo w h cs a t ++ [dirC t] else freeTo w h cs a t := by
  unfold freeTo
  rw [List.range_succ, List.filter_append, List.map_append]
  by_cases hm : freeAt w h cs a t = true
  · rw [if_pos hm]; simp [hm]
  · rw [if_neg hm]; simp [hm]
theorem freeTo_len (w h : Nat) (cs : List Int) (a : Int) (t : Nat) : (freeTo w h cs a t).length ≤ t := by
  unfold freeTo
  rw [List.length_map]
  have := List.length_filter_le (fun d => freeAt w h cs a d) (List.range t)
  rw [List.length_range] at this
  exact this
theorem turned_dir : ∀ d : Fin 4, impl_turnedWord.f (strOfNums [dirC d.val]) 2 = some (strOfNums [dirC (opp d.val)]) ∧ (0 : Int) < ((strOfNums [dirC (opp d.val)]).size : Int) ∧ bt (strOfNums [dirC (opp d.val)]) 0 = dirC (opp d.val) := by decide
section
variable {w h : Nat} {cs : List Int} (hw : w ≤ 7) (hh : h ≤ 7) (hs : w * h ≤ 36) (hn : cs.length = w * h)
include hw hh hs hn
theorem freeWays_l0 (a : Int) (ha : inCells cs a) : ∀ (m t : Nat), t + m = 4 → Ev (fun k => impl_tray_freeWays.l0 k a (freeTo w h cs a t) [117, 114, 100, 108] (([117, 114, 100, 108] : List Int).length : Int) t w h cs) (strOfNums (freeTo w h cs a 4))
  | 0, t, ht => by
    obtain rfl : t = 4 := by omega
    refine Ev.step (Ev.const (o := some (strOfNums (freeTo w h cs a 4))) rfl) fun k => ?_
    rw [impl_tray_freeWays.l0, if_neg (by decide)]
  | m + 1, t, ht => by
    have ih := freeWays_l0 a ha m (t + 1) (by omega)
    have hwt : wrap64 ((t : Int) + 1) = ((t + 1 : Nat) : Int) := by rw [w64 (by omega) (by omega)]; omega
    have ht4 : t < 4 := by omega
    have hod : opp t < 4 := Nat.mod_lt _ (by decide)
    obtain ⟨e1, e2, e3⟩ := turned_dir ⟨t, ht4⟩
    simp only at e1 e2 e3
    have hrd : rd ([117, 114, 100, 108] : List Int) (t : Int) = dirC t := by
      unfold rd dirC
      rw [Int.toNat_natCast]
    rw [freeTo_succ] at ih
    have hin := ha
    unfold inCells at hin
    have hll := left_le hw hh hs (i := a.toNat) (by omega) hod
    refine Ev.step (walk_l1 hw hh hs hn a (freeTo w h cs a t) (dirC t) [117, 114, 100, 108] t (opp t) hod (by have := freeTo_len w h cs a t; omega) _ 8 a (by omega) (by omega) (fun _ => by omega) (by omega) (Ev.congr ih fun k => ?_)) fun k => ?_
    · rw [hwt]
      show (if freeAt w h cs a t = true then _ else _) = _
      by_cases hf : freeAt w h cs a t = true
      · rw [if_pos hf, if_pos hf]
      · rw [if_neg hf, if_neg hf]
    · rw [impl_tray_freeWays.l0, if_pos (by simp; omega), if_pos (by omega), if_pos (by simp; omega), hrd, e1, Option.bind_some, if_pos e2, e3]
theorem freeWays_ev (a : Int) (ha : inCells cs a) : Ev (fun k => impl_tray_freeWays.f k w h cs a) (strOfNums (freeTo w h cs a 4)) :=
  Ev.bind (f := fun k t105 => impl_tray_freeWays.l0 k a (([] : List Int)) t105 (t105.length : Int) 0 w h cs) (Ev.const (o := some [117, 114, 100, 108]) rfl) (freeWays_l0 hw hh hs hn a ha 4 0 (by omega))
end
end Go.Proofs.YtbplbbialcbceaaDoor.Q
