/- The text of cells: both sides write the same, and reading it gives the cells again. -/
import Derived.Test.YtbplbbialcbceaaDoorPcell
import Derived.Test.YtbplbbialcbceaaDoorQt
import Derived.Test.YtbplbbialcbceaaDoorXtext
namespace Go.Proofs.YtbplbbialcbceaaDoor.Q
set_option linter.unusedSectionVars false
open Go.RowKit Go.Proofs.YtbplbbialcbceaaDoorW.PrintWords Go.Proofs.YtbplbbialcbceaaDoorW.PrintLast Go.Proofs.YtbplbbialcbceaaDoorW.PrintMore
theorem le_big {n : Nat} (h : n ≤ 200) : n ≤ 9223372036854775807 := Nat.le_trans h (by decide)
theorem w64n (n : Nat) (h : n ≤ 1000000) : wrap64 (n : Int) = (n : Int) := w64 (by omega) (by omega)
theorem w64s (n : Nat) (h : n ≤ 1000000) : wrap64 ((n : Int) + 1) = ((n + 1 : Nat) : Int) := by rw [w64 (by omega) (by omega)]; omega
def jn : List (List UInt8) → List UInt8
  | [] => []
  | [r] => r
  | r :: s :: rs => r ++ 47 :: jn (s :: rs)
theorem jn_join : ∀ xs : List (List UInt8), Lib.join xs [47] = jn xs
  | [] => rfl
  | [r] => by simp [Lib.join, List.intercalate, jn]
  | r :: s :: rs => by
    have ih := jn_join (s :: rs)
    unfold Lib.join at ih ⊢
    simp only [List.intercalate, List.intersperse, List.flatten_cons, jn] at ih ⊢
    rw [← ih]
    simp
theorem jn_snoc : ∀ (xs : List (List UInt8)) (x : List UInt8), jn (xs ++ [x]) = if xs = [] then x else jn xs ++ 47 :: x
  | [], x => rfl
  | [r], x => by simp [jn]
  | r :: s :: rs, x => by
    have ih := jn_snoc (s :: rs) x
    rw [if_neg (by simp)] at ih ⊢
    show r ++ 47 :: jn ((s :: rs) ++ [x]) = _
    rw [ih]
    simp [jn]
theorem rows_jn : ∀ xs : List (List UInt8), xs ≠ [] → (∀ r ∈ xs, (47 : UInt8) ∉ r) → rows 47 (jn xs) = xs
  | [], h, _ => absurd rfl h
  | [r], _, h => rows_free 47 r (h r (by simp))
  | r :: s :: rs, _, h => by
    show rows 47 (r ++ 47 :: jn (s :: rs)) = _
    rw [rows_at 47 _ r (h r (by simp)), rows_jn (s :: rs) (by simp) fun x hx => h x (List.mem_cons_of_mem _ hx)]
/-- The text of n rows of c cells. -/
def rowL (l : List Int) (c k : Nat) : List UInt8 := ((l.drop (k * c)).take c).map fun n => UInt8.ofNat n.toNat
def txL (l : List Int) (c n : Nat) : List UInt8 := jn ((List.range n).map (rowL l c))
def tx (l : List Int) (c n : Nat) : ByteArray := ⟨(txL l c n).toArray⟩
theorem tx_list (l : List Int) (c n : Nat) : (tx l c n).data.toList = txL l c n := rfl
theorem txL_succ (l : List Int) (c n : Nat) : txL l c (n + 1) = if n = 0 then rowL l c 0 else txL l c n ++ 47 :: rowL l c n := by
  unfold txL
  rw [List.range_succ, List.map_append, List.map_singleton, jn_snoc]
  by_cases h : n = 0
  · subst h
    simp
  · rw [if_neg h, if_neg (by simpa using h)]
theorem rowL_len (l : List Int) (c k : Nat) : (rowL l c k).length ≤ c := by
  unfold rowL
  rw [List.length_map, List.length_take]
  omega
theorem txL_len (l : List Int) (c : Nat) : ∀ n, (txL l c n).length ≤ n * (c + 1)
  | 0 => by simp [txL, jn]
  | n + 1 => by
    have ih := txL_len l c n
    have h1 := rowL_len l c n
    have h2 := rowL_len l c 0
    rw [txL_succ, Nat.succ_mul]
    split
    · omega
    · rw [List.length_append, List.length_cons]
      omega
theorem ba_ext {a b : ByteArray} (h : a.data.toList = b.data.toList) : a = b := by
  obtain ⟨⟨a⟩⟩ := a
  obtain ⟨⟨b⟩⟩ := b
  simp at h
  rw [h]
theorem strOf_list (l : List Int) : (strOfNums l).data.toList = l.map fun n => UInt8.ofNat n.toNat := rfl
theorem text_val (w h : Nat) (l : List Int) (hw : 1 ≤ w) (hh : 1 ≤ h) (hs : w * h ≤ 36) (hn : l.length = w * h) : impl_tray_text.f w h l = some (tx l w h) := by
  have hd : l.length / w = h := by rw [hn, Nat.mul_div_cancel_left h (by omega)]
  unfold impl_tray_text.f
  have h1 : 1 ≤ w * h := Nat.mul_pos hw hh
  rw [Int.toNat_natCast, hd, if_pos ⟨by omega, by omega, by omega, by rw [hn, Nat.mul_comm]⟩]
  have h2 : ((List.range h).map (rowS l w)).map (·.data.toList) = (List.range h).map (rowL l w) := by
    rw [List.map_map]
    rfl
  have h4 : h ≤ w * h := Nat.le_mul_of_pos_left h hw
  have h5 := txL_len l w h
  have h6 : h * (w + 1) ≤ 72 := by rw [Nat.mul_add, Nat.mul_one, Nat.mul_comm]; omega
  have h7 : Lib.join (((List.range h).map (rowS l w)).map (·.data.toList)) (⟨#[47]⟩ : ByteArray).data.toList = txL l w h := by
    rw [h2]
    exact jn_join _
  unfold strings_Join.f
  rw [h7, List.length_map, List.length_range, if_pos ⟨by omega, by omega⟩]
  rfl
section
variable {w h : Nat} {cs : List Int} (hw1 : 1 ≤ w) (hh1 : 1 ≤ h) (hs : w * h ≤ 36) (hn : cs.length = w * h)
include hw1 hh1 hs hn
theorem ty_text_l0 : ∀ (m t : Nat), t + m = h → Ev (fun k => spec_tyText.l0 k (tx cs w t) t w h cs) (tx cs w h)
  | 0, t, ht => by
    obtain rfl : t = h := by omega
    refine Ev.step (Ev.const (o := some (tx cs w t)) rfl) fun k => ?_
    rw [spec_tyText.l0, if_neg (by omega)]
  | m + 1, t, ht => by
    have ih := ty_text_l0 m (t + 1) (by omega)
    have hth : t < h := by omega
    have h4 : h ≤ w * h := Nat.le_mul_of_pos_left h hw1
    have hle : (t + 1) * w ≤ w * h := by rw [Nat.mul_comm w h]; exact Nat.mul_le_mul_right w hth
    have ht1 : t * w + w = (t + 1) * w := (Nat.succ_mul t w).symm
    have hB : (t + 1) * w ≤ 36 := Nat.le_trans hle hs
    have hA : t * w ≤ 36 := Nat.le_trans (Nat.mul_le_mul_right w (Nat.le_succ t)) hB
    have hcut : strOfNums ((cs.take (((((t + 1) * w : Nat) : Int)).toNat)).drop ((((t * w : Nat) : Int)).toNat)) = strOfNums ((cs.drop (t * w)).take w) := by
      rw [Int.toNat_natCast, Int.toNat_natCast, List.drop_take, show (t + 1) * w - t * w = w from by rw [← ht1]; exact Nat.add_sub_cancel_left _ _]
    have h6 : t * (w + 1) ≤ 72 := by
      have a1 : t * (w + 1) ≤ h * (w + 1) := Nat.mul_le_mul_right _ (by omega)
      have a2 : h * (w + 1) ≤ 72 := by rw [Nat.mul_add, Nat.mul_one, Nat.mul_comm]; omega
      exact Nat.le_trans a1 a2
    have hsz : (tx cs w t).size ≤ 72 := by
      show (txL cs w t).toArray.size ≤ 72
      rw [List.size_toArray]
      exact Nat.le_trans (txL_len cs w t) h6
    have hrs : (strOfNums ((cs.drop (t * w)).take w)).size ≤ 36 := by
      rw [strOfNums_size, List.length_take]
      exact Nat.le_trans (Nat.min_le_left _ _) (Nat.le_trans (Nat.le_mul_of_pos_right w hh1) hs)
    have hs1 : (tx cs w t ++ (⟨#[47]⟩ : ByteArray)).size ≤ 73 := by
      rw [ByteArray.size_append]
      exact Nat.add_le_add hsz (Nat.le_refl 1)
    have e0 : (0 : Int) ≤ ((t * w : Nat) : Int) := Int.natCast_nonneg _
    have e1 : ((t * w : Nat) : Int) ≤ (((t + 1) * w : Nat) : Int) := Int.ofNat_le.2 (Nat.mul_le_mul_right w (Nat.le_succ t))
    have e2 : (((t + 1) * w : Nat) : Int) ≤ (cs.length : Int) := Int.ofNat_le.2 (by rw [hn]; exact hle)
    have b1 : (tx cs w t).size + (strOfNums ((cs.drop (t * w)).take w)).size ≤ 9223372036854775807 := le_big (Nat.le_trans (Nat.add_le_add hsz hrs) (by decide))
    have b2 : (tx cs w t).size + 1 ≤ 9223372036854775807 := le_big (Nat.le_trans (Nat.add_le_add hsz (Nat.le_refl 1)) (by decide))
    have b3 : (tx cs w t ++ (⟨#[47]⟩ : ByteArray)).size + (strOfNums ((cs.drop (t * w)).take w)).size ≤ 9223372036854775807 := le_big (Nat.le_trans (Nat.add_le_add hs1 hrs) (by decide))
    have c1 : (t : Int) < (h : Int) := Int.ofNat_lt.2 hth
    have hwt := w64s t (Nat.le_trans (Nat.le_of_lt hth) (Nat.le_trans h4 (Nat.le_trans hs (by decide))))
    have m0 : wrap64 ((t : Int) * (w : Int)) = ((t * w : Nat) : Int) := by
      rw [← Int.natCast_mul]
      exact w64n _ (Nat.le_trans hA (by decide))
    have m1 : wrap64 (((t + 1 : Nat) : Int) * (w : Int)) = (((t + 1) * w : Nat) : Int) := by
      rw [← Int.natCast_mul]
      exact w64n _ (Nat.le_trans hB (by decide))
    refine Ev.step ih fun k => ?_
    rw [spec_tyText.l0, if_pos c1]
    by_cases h0 : t = 0
    · have c2 : ¬ (t : Int) > 0 := by
        rw [h0]
        decide
      have hx : (tx cs w t) ++ strOfNums ((cs.drop (t * w)).take w) = tx cs w (t + 1) := by
        apply ba_ext
        rw [tx_list, txL_succ, if_pos h0, ByteArray.data_append, Array.toList_append, tx_list, h0]
        rfl
      rw [if_neg c2, hwt, m0, m1, if_pos e0, if_pos e1, if_pos e2, hcut, if_pos b1, hx]
    · have c2 : (t : Int) > 0 := Int.natCast_pos.2 (Nat.pos_of_ne_zero h0)
      have hx : (tx cs w t ++ (⟨#[47]⟩ : ByteArray)) ++ strOfNums ((cs.drop (t * w)).take w) = tx cs w (t + 1) := by
        apply ba_ext
        rw [tx_list, txL_succ, if_neg h0, ByteArray.data_append, Array.toList_append, ByteArray.data_append, Array.toList_append, tx_list, List.append_assoc]
        rfl
      rw [if_pos c2, if_pos b2, hwt, m0, m1, if_pos e0, if_pos e1, if_pos e2, hcut, if_pos b3, hx]
theorem tyText_ev : Ev (fun k => spec_tyText.f k w h cs) (tx cs w h) := ty_text_l0 hw1 hh1 hs hn h 0 (by omega)
end
/-- Cells that are bytes of a tray. -/
def cellsOK (cs : List Int) : Prop := ∀ c ∈ cs, ∃ b : UInt8, c = (b.toNat : Int) ∧ isCellB b = true
theorem rowL_cells {cs : List Int} (hc : cellsOK cs) (c k : Nat) : (rowL cs c k).all isCellB = true ∧ ints (rowL cs c k) = (cs.drop (k * c)).take c := by
  unfold rowL ints
  have h1 : ∀ l : List Int, (∀ x ∈ l, ∃ b : UInt8, x = (b.toNat : Int) ∧ isCellB b = true) → (l.map fun n => UInt8.ofNat n.toNat).all isCellB = true ∧ (l.map fun n => UInt8.ofNat n.toNat).map (fun b => (b.toNat : Int)) = l := by
    intro l
    induction l with
    | nil => intro _; exact ⟨rfl, rfl⟩
    | cons x l ih =>
      intro h
      obtain ⟨b, rfl, hb⟩ := h x List.mem_cons_self
      obtain ⟨i1, i2⟩ := ih fun y hy => h y (List.mem_cons_of_mem _ hy)
      have e : UInt8.ofNat (((b.toNat : Nat) : Int)).toNat = b := by simp
      refine ⟨?_, ?_⟩
      · rw [List.map_cons, List.all_cons, e, hb, i1]
        rfl
      · rw [List.map_cons, List.map_cons, e, i2]
  exact h1 _ fun x hx => hc x (List.drop_subset _ _ (List.take_subset _ _ hx))
theorem cellB_47 : isCellB 47 = false := by decide
theorem flat_rows (cs : List Int) (c : Nat) : ∀ m, ((List.range m).map fun k => (cs.drop (k * c)).take c).flatten = cs.take (m * c)
  | 0 => by simp
  | m + 1 => by
    rw [List.range_succ, List.map_append, List.flatten_append, flat_rows cs c m, List.map_singleton, List.flatten_singleton, Nat.succ_mul, List.take_add]
theorem ints_flat : ∀ L : List (List UInt8), ints L.flatten = (L.map ints).flatten
  | [] => rfl
  | r :: L => by rw [List.flatten_cons, ints_append, ints_flat L, List.map_cons, List.flatten_cons]
section
variable {w h : Nat} {cs : List Int} (hw1 : 1 ≤ w) (hw : w ≤ 7) (hh1 : 1 ≤ h) (hh : h ≤ 7) (hs : w * h ≤ 36) (hn : cs.length = w * h)
include hw1 hw hh1 hh hs hn
theorem tx_rows (hc : cellsOK cs) : rows 47 (tx cs w h).data.toList = (List.range h).map (rowL cs w) := by
  rw [tx_list]
  unfold txL
  refine rows_jn _ (by simp; omega) fun r hr => ?_
  obtain ⟨k, _, rfl⟩ := List.mem_map.1 hr
  intro h47
  have h1 := List.all_eq_true.1 (rowL_cells hc w k).1 47 h47
  rw [cellB_47] at h1
  cases h1
theorem tx_flat (hc : cellsOK cs) : ints ((List.range h).map (rowL cs w)).flatten = cs := by
  rw [ints_flat, List.map_map]
  have h1 : (List.range h).map (ints ∘ rowL cs w) = (List.range h).map fun k => (cs.drop (k * w)).take w := List.map_congr_left fun k _ => (rowL_cells hc w k).2
  rw [h1, flat_rows, List.take_of_length_le (by rw [hn, Nat.mul_comm]; exact Nat.le_refl _)]
/-- Reading the text of cells gives the cells. -/
theorem trayOf_tx (hc : cellsOK cs) (hnm : namedOK cs) : trayOf (tx cs w h) = some ((w : Int), (h : Int), cs) := by
  unfold trayOf trayRows
  rw [tx_rows hw1 hw hh1 hh hs hn hc]
  have hlen : ∀ k, k < h → (rowL cs w k).length = w := by
    intro k hk
    unfold rowL
    rw [List.length_map, List.length_take, List.length_drop, hn]
    have : k * w + w ≤ w * h := by rw [← Nat.succ_mul, Nat.mul_comm w h]; exact Nat.mul_le_mul_right w hk
    omega
  have htw : tw ((List.range h).map (rowL cs w)) = w := by
    unfold tw
    obtain ⟨m, rfl⟩ : ∃ m, h = m + 1 := ⟨h - 1, by omega⟩
    rw [List.range_succ_eq_map, List.map_cons, List.headD_cons]
    exact hlen 0 (by omega)
  have hok : okRows ((List.range h).map (rowL cs w)) := by
    unfold okRows
    rw [htw, List.length_map, List.length_range, tx_flat hw1 hw hh1 hh hs hn hc]
    refine ⟨⟨hw1, hw, hh, hs⟩, fun r hr => ?_, hnm⟩
    obtain ⟨k, hk, rfl⟩ := List.mem_map.1 hr
    exact ⟨hlen k (List.mem_range.1 hk), (rowL_cells hc w k).1⟩
  rw [if_pos hok, htw, List.length_map, List.length_range, tx_flat hw1 hw hh1 hh hs hn hc]
theorem tx_size : (tx cs w h).size ≤ 1048576 := by
  show (txL cs w h).toArray.size ≤ _
  rw [List.size_toArray]
  have h5 := txL_len cs w h
  have h6 : h * (w + 1) ≤ 72 := by
    have h4 : h ≤ w * h := Nat.le_mul_of_pos_left h hw1
    rw [Nat.mul_add, Nat.mul_one, Nat.mul_comm]
    omega
  omega
end
theorem open_cells {cs : List Int} (ho : ∀ c ∈ cs, c = 46 ∨ c = 111) : cellsOK cs ∧ namedOK cs := by
  refine ⟨fun c hc => ?_, fun c h1 h2 => ?_⟩
  · rcases ho c hc with rfl | rfl
    · exact ⟨46, rfl, by decide⟩
    · exact ⟨111, rfl, by decide⟩
  · have : cs.count c = 0 := List.count_eq_zero.2 fun hm => by rcases ho c hm with h | h <;> omega
    omega
end Go.Proofs.YtbplbbialcbceaaDoor.Q
