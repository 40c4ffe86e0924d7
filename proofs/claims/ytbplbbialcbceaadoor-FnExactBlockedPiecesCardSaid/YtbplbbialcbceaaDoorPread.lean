/- The plain law of the program's own reader. -/
import Derived.Test.YtbplbbialcbceaaDoorPtray
namespace Go.Proofs.YtbplbbialcbceaaDoor.Q
open Go.RowKit Go.Proofs.YtbplbbialcbceaaDoorW.PrintWords Go.Proofs.YtbplbbialcbceaaDoorW.PrintLast Go.Proofs.YtbplbbialcbceaaDoorW.PrintMore
theorem dw_nil {α : Type} (p : α → Bool) : ∀ l : List α, l.dropWhile p = [] ↔ ∀ b ∈ l, p b = true
  | [] => by simp
  | b :: l => by
    rw [List.dropWhile_cons]
    by_cases h : p b = true
    · rw [if_pos h, dw_nil p l]
      simp [h]
    · rw [if_neg h]
      simp [h]
theorem dw_all {α : Type} (p : α → Bool) : ∀ l : List α, (∀ b ∈ l.dropWhile p, p b = true) → ∀ b ∈ l, p b = true
  | [], _ => by simp
  | b :: l, h => by
    rw [List.dropWhile_cons] at h
    by_cases hb : p b = true
    · rw [if_pos hb] at h
      have ih := dw_all p l h
      simpa [hb] using ih
    · rw [if_neg hb] at h
      exact h
theorem trimS_nil (l cs : List UInt8) : Lib.trimS l cs = [] ↔ ∀ b ∈ l, cs.contains b = true := by
  unfold Lib.trimS Lib.trimLeftS Lib.trimRightS
  rw [dw_nil]
  constructor
  · intro h
    have h2 := dw_all (cs.contains ·) l.reverse (fun b hb => h b (by simpa using hb))
    exact fun b hb => h2 b (by simpa using hb)
  · intro h b hb
    rw [List.mem_reverse] at hb
    exact h b (by simpa using (List.dropWhile_sublist _).subset hb)
/-- Trim at a set of ASCII bytes leaves nothing. -/
theorem trim_tell (s cut : ByteArray) (hs : s.size ≤ 1048576) (hc : cut.size < 100) (ha : asciiB cut.data.toList = true) :
    ∃ t, strings_Trim.f s cut = some t ∧ (t.toList = [] ↔ ∀ b ∈ s.data.toList, cut.data.toList.contains b = true) := by
  refine ⟨_, if_pos ⟨by omega, by omega, ha⟩, ?_⟩
  rw [← trimS_nil]
  generalize Lib.trimS s.data.toList cut.data.toList = l
  have e : (⟨l.toArray⟩ : ByteArray).toList = l := ByteArray.toList_mk l
  rw [e]
/-! ### the six names -/
theorem encode_name : ∀ n : Fin 6, Utf8.encode (97 + (n.val : Int)) = ⟨#[UInt8.ofNat (97 + n.val)]⟩ := by decide +kernel
theorem count_name (s : ByteArray) (n : Nat) (h1 : 97 ≤ n) (h2 : n ≤ 102) : (runeS.f (n : Int)).bind (fun t => strings_Count.f s t) = some ((s.data.toList.count (UInt8.ofNat n) : Nat) : Int) := by
  have h := encode_name ⟨n - 97, by omega⟩
  simp only [show (97 + ((n - 97 : Nat) : Int)) = (n : Int) by omega, show 97 + (n - 97) = n by omega] at h
  unfold runeS.f
  rw [Option.bind_some, h]
  rfl
theorem it_l1 (s : ByteArray) : ∀ (m n : Nat), 97 ≤ n → n + m = 103 → ∀ R : Bool, (R = true ↔ ∀ c : Nat, n ≤ c → c ≤ 102 → s.data.toList.count (UInt8.ofNat c) ≤ 1) → Ev (fun k => impl_IsTray.l1 k s n) R
  | 0, n, h1, h2, R, hR => by
    obtain rfl : R = true := hR.2 fun c h3 h4 => by omega
    refine Ev.step (Ev.const (o := some true) rfl) fun k => ?_
    rw [impl_IsTray.l1, if_neg (by omega)]
  | m + 1, n, h1, h2, R, hR => by
    have hc := count_name s n h1 (by omega)
    obtain ⟨t, e1, e2⟩ := Option.bind_eq_some_iff.1 hc
    have hw : wrap32 ((n : Int) + 1) = ((n + 1 : Nat) : Int) := by unfold wrap32; omega
    by_cases hn : s.data.toList.count (UInt8.ofNat n) ≤ 1
    · have ih := it_l1 s m (n + 1) (by omega) (by omega) R (hR.trans ⟨fun h c h3 h4 => h c (by omega) h4, fun h c h3 h4 => by
        by_cases h5 : n = c
        · rw [← h5]; exact hn
        · exact h c (by omega) h4⟩)
      refine Ev.step ih fun k => ?_
      rw [impl_IsTray.l1, if_pos (by omega), e1, Option.bind_some, e2, Option.bind_some, if_neg (by omega), hw]
    · obtain rfl : R = false := Bool.eq_false_iff.2 fun h => hn (hR.1 h n (Nat.le_refl _) (by omega))
      refine Ev.step (Ev.const (o := some false) rfl) fun k => ?_
      rw [impl_IsTray.l1, if_pos (by omega), e1, Option.bind_some, e2, Option.bind_some, if_pos (by omega)]
theorem named_count (s : ByteArray) : namedOK (ints (rows 47 s.data.toList).flatten) ↔ ∀ c : Nat, 97 ≤ c → c ≤ 102 → s.data.toList.count (UInt8.ofNat c) ≤ 1 := by
  have h : ∀ c : Nat, 97 ≤ c → c ≤ 102 → (ints (rows 47 s.data.toList).flatten).count (c : Int) = s.data.toList.count (UInt8.ofNat c) := by
    intro c h1 h2
    have e : ((UInt8.ofNat c).toNat : Int) = c := by
      rw [UInt8.toNat_ofNat']
      omega
    rw [← e, ints_count, rows_count 47 (UInt8.ofNat c)]
    intro e2
    have := congrArg UInt8.toNat e2
    rw [UInt8.toNat_ofNat'] at this
    have h47 : (47 : UInt8).toNat = 47 := rfl
    omega
  constructor
  · intro h1 c h2 h3
    rw [← h c h2 h3]
    exact h1 c (by omega) (by omega)
  · intro h1 c h2 h3
    have h4 := h c.toNat (by omega) (by omega)
    rw [show ((c.toNat : Nat) : Int) = c by omega] at h4
    rw [h4]
    exact h1 _ (by omega) (by omega)
/-! ### the rows -/
theorem within_eq (a lo hi : Int) : impl_within.f a lo hi = some (decide (lo ≤ a ∧ a ≤ hi)) := by
  unfold impl_within.f
  by_cases h : lo ≤ a
  · rw [if_pos h]
    simp [h]
  · rw [if_neg h]
    simp [h]
theorem isSize_eq (w h : Nat) (hw : w ≤ 1048576) (hh : h ≤ 1048577) : impl_isSize.f w h = some (decide (1 ≤ w ∧ w ≤ 7 ∧ 1 ≤ h ∧ h ≤ 7 ∧ w * h ≤ 36)) := by
  unfold impl_isSize.f
  rw [within_eq, Option.bind_some]
  by_cases h1 : 1 ≤ w ∧ w ≤ 7
  · rw [decide_eq_true (by omega), if_pos rfl, within_eq, Option.bind_some]
    by_cases h2 : 1 ≤ h ∧ h ≤ 7
    · rw [decide_eq_true (by omega), if_pos rfl]
      have h3 : w * h ≤ 7 * 7 := Nat.mul_le_mul h1.2 h2.2
      have e : wrap64 ((w : Int) * h) = ((w * h : Nat) : Int) := by
        rw [← Int.natCast_mul]
        exact w64 (by omega) (by omega)
      rw [e]
      congr 1
      exact decide_eq_decide.2 ⟨fun h => ⟨h1.1, h1.2, h2.1, h2.2, by omega⟩, fun h => by omega⟩
    · rw [decide_eq_false (by omega), if_neg (by decide), decide_eq_false (by omega)]
  · rw [decide_eq_false (by omega), if_neg (by decide), decide_eq_false (by omega)]
theorem rowsL_len (s : ByteArray) : (rowsL s).length = (rows 47 s.data.toList).length := by rw [← rowsL_map, List.length_map]
theorem rowsL_drop (s : ByteArray) (i : Nat) (h : i < (rowsL s).length) : (rows 47 s.data.toList).drop i = (rdOf ByteArray.empty (rowsL s) (i : Int)).data.toList :: (rows 47 s.data.toList).drop (i + 1) := by
  rw [← rowsL_map]
  have h2 : i < ((rowsL s).map (·.data.toList)).length := by rw [List.length_map]; exact h
  rw [List.drop_eq_getElem_cons h2]
  congr 1
  unfold rdOf
  rw [List.getElem_map, Int.toNat_natCast, List.getD_eq_getElem?_getD, List.getElem?_eq_getElem h]
  rfl
theorem rowsL_tw (s : ByteArray) (h : 0 < (rowsL s).length) : (rdOf ByteArray.empty (rowsL s) 0).size = tw (rows 47 s.data.toList) := by
  have e := rowsL_drop s 0 h
  rw [List.drop_zero] at e
  unfold tw
  rw [e, List.headD_cons, data_length]
  rfl
theorem rows_le (c : UInt8) (l r : List UInt8) (h : r ∈ rows c l) : r.length ≤ l.length := by
  have h1 := rows_flat c l
  have h2 : r.length ≤ (rows c l).flatten.length := (List.sublist_flatten_of_mem h).length_le
  omega
def cutAll : ByteArray := ⟨#[35, 46, 111, 97, 98, 99, 100, 101, 102]⟩
theorem it_l0 (s : ByteArray) (hs : s.size ≤ 1048576) (w : Nat) (hw : (rdOf ByteArray.empty (rowsL s) 0).size = w) (K : Bool) (hK : Ev (fun k => impl_IsTray.l1 k s 97) K) :
    ∀ (m i : Nat), i + m = (rowsL s).length → Ev (fun k => impl_IsTray.l0 k s (rowsL s) (rowsL s) (rowsL s).length i) (if evenRows w ((rows 47 s.data.toList).drop i) then K else false)
  | 0, i, hi => by
    have e : (rows 47 s.data.toList).drop i = [] := List.drop_eq_nil_of_le (by rw [← rowsL_len]; omega)
    rw [e, if_pos (show evenRows w [] from fun r hr => by simp at hr)]
    refine Ev.step hK fun k => ?_
    rw [impl_IsTray.l0, if_neg (by omega)]
  | m + 1, i, hi => by
    have ih := it_l0 s hs w hw K hK m (i + 1) (by omega)
    have hlt : i < (rowsL s).length := by omega
    have hlen : (rowsL s).length ≤ 1048577 := by
      have h1 := rows_size 47 s.data.toList
      have h2 := data_length s
      rw [rowsL_len]
      omega
    have hd := rowsL_drop s i hlt
    have hrow : (rdOf ByteArray.empty (rowsL s) (i : Int)).data.toList ∈ rows 47 s.data.toList := (List.drop_sublist i _).subset (by rw [hd]; exact List.mem_cons_self)
    have hsz : (rdOf ByteArray.empty (rowsL s) (i : Int)).size ≤ 1048576 := by
      have h1 := rows_le 47 _ _ hrow
      rw [data_length, data_length] at h1
      omega
    have hwr : wrap64 ((i : Int) + 1) = ((i + 1 : Nat) : Int) := by rw [w64 (by omega) (by omega)]; omega
    rw [hd]
    generalize hrw : rdOf ByteArray.empty (rowsL s) (i : Int) = row at hsz hd ⊢
    obtain ⟨t, et, ht⟩ := trim_tell row cutAll hsz (by decide) (by decide)
    have hcell : (∀ b ∈ row.data.toList, cutAll.data.toList.contains b = true) ↔ row.data.toList.all isCellB = true := by
      rw [List.all_eq_true]
      rfl
    rw [ite_iff ((evenRows_cons w row.data.toList ((rows 47 s.data.toList).drop (i + 1))).trans (show _ ↔ (row.size = w ∧ t.toList = []) ∧ evenRows w ((rows 47 s.data.toList).drop (i + 1)) by rw [← hcell, ← ht, data_length]))]
    by_cases h1 : row.size = w
    · by_cases h2 : t.toList = []
      · rw [ite_iff (show ((row.size = w ∧ t.toList = []) ∧ evenRows w ((rows 47 s.data.toList).drop (i + 1))) ↔ evenRows w ((rows 47 s.data.toList).drop (i + 1)) from ⟨fun h => h.2, fun h => ⟨⟨h1, h2⟩, h⟩⟩)]
        refine Ev.step ih fun k => ?_
        rw [impl_IsTray.l0, if_pos (by omega), if_pos (by omega), if_pos (by omega), if_pos (by omega), hrw, hw, if_pos (by omega)]
        show (strings_Trim.f row cutAll).bind _ = _
        rw [et, Option.bind_some, if_pos h2, hwr]
      · rw [if_neg fun h => h2 h.1.2]
        refine Ev.step (Ev.const (o := some false) rfl) fun k => ?_
        rw [impl_IsTray.l0, if_pos (by omega), if_pos (by omega), if_pos (by omega), if_pos (by omega), hrw, hw, if_pos (by omega)]
        show (strings_Trim.f row cutAll).bind _ = _
        rw [et, Option.bind_some, if_neg h2]
    · rw [if_neg fun h => h1 h.1.1]
      refine Ev.step (Ev.const (o := some false) rfl) fun k => ?_
      rw [impl_IsTray.l0, if_pos (by omega), if_pos (by omega), if_pos (by omega), if_pos (by omega), hrw, hw, if_neg (by omega)]
theorem isTray_ev (s : ByteArray) (hs : s.size ≤ 1048576) : Ev (fun k => impl_IsTray.f k s) (trayOf s).isSome := by
  have h1 := rows_size 47 s.data.toList
  have h2 := data_length s
  have h3 := rowsL_len s
  have hne : 0 < (rowsL s).length := by
    rw [h3]
    exact List.length_pos_iff.2 (rows_ne 47 _)
  have hw := rowsL_tw s hne
  have hwle : tw (rows 47 s.data.toList) ≤ 1048576 := by
    have e := rowsL_drop s 0 hne
    rw [List.drop_zero] at e
    have := rows_le 47 s.data.toList _ (by rw [e]; exact List.mem_cons_self)
    rw [data_length, data_length] at this
    have h4 : (rdOf ByteArray.empty (rowsL s) ((0 : Nat) : Int)).size = (rdOf ByteArray.empty (rowsL s) 0).size := rfl
    omega
  have hsp : strings_Split.f s ⟨#[47]⟩ = some (rowsL s) := if_pos ⟨by omega, by decide⟩
  have hss := isSize_eq (tw (rows 47 s.data.toList)) (rowsL s).length hwle (by omega)
  have hf : ∀ k, impl_IsTray.f k s = if decide (1 ≤ tw (rows 47 s.data.toList) ∧ tw (rows 47 s.data.toList) ≤ 7 ∧ 1 ≤ (rowsL s).length ∧ (rowsL s).length ≤ 7 ∧ tw (rows 47 s.data.toList) * (rowsL s).length ≤ 36) = true then impl_IsTray.l0 k s (rowsL s) (rowsL s) (rowsL s).length 0 else some false := by
    intro k
    unfold impl_IsTray.f
    rw [hsp, Option.bind_some, if_pos (by omega), hw, hss, Option.bind_some]
  refine Ev.congr ?_ hf
  unfold trayOf trayRows
  by_cases hc : 1 ≤ tw (rows 47 s.data.toList) ∧ tw (rows 47 s.data.toList) ≤ 7 ∧ 1 ≤ (rowsL s).length ∧ (rowsL s).length ≤ 7 ∧ tw (rows 47 s.data.toList) * (rowsL s).length ≤ 36
  · rw [decide_eq_true hc]
    refine Ev.congr ?_ (fun k => if_pos rfl)
    have h5 := it_l0 s hs _ hw (decide (namedOK (ints (rows 47 s.data.toList).flatten))) (it_l1 s 6 97 (by omega) (by omega) _ (by rw [decide_eq_true_iff]; exact named_count s)) (rowsL s).length 0 (by omega)
    rw [List.drop_zero] at h5
    have e : (if okRows (rows 47 s.data.toList) then some ((tw (rows 47 s.data.toList) : Int), ((rows 47 s.data.toList).length : Int), ints (rows 47 s.data.toList).flatten) else none).isSome =
        if evenRows (tw (rows 47 s.data.toList)) (rows 47 s.data.toList) then decide (namedOK (ints (rows 47 s.data.toList).flatten)) else false := by
      by_cases h6 : evenRows (tw (rows 47 s.data.toList)) (rows 47 s.data.toList)
      · by_cases h7 : namedOK (ints (rows 47 s.data.toList).flatten)
        · rw [if_pos h6, if_pos (show okRows _ from ⟨by rw [h3] at hc; omega, h6, h7⟩), decide_eq_true h7]
          rfl
        · rw [if_pos h6, if_neg fun h => h7 h.2.2, decide_eq_false h7]
          rfl
      · rw [if_neg h6, if_neg fun h => h6 h.2.1]
        rfl
    rw [e]
    exact h5
  · rw [if_neg fun h => hc (by have h4 := h.1; rw [h3]; omega), decide_eq_false hc]
    exact Ev.congr (Ev.const (o := some false) rfl) (fun k => if_neg (by decide))
theorem joined_ints (s : ByteArray) : bytesOf (joinedB s) = ints (rows 47 s.data.toList).flatten := by
  unfold bytesOf ints
  rw [joinedB_list]
theorem trayOf_row (s : ByteArray) : trayOf s = none ∨ (s.size ≤ 42 ∧ impl_read.f s = trayOf s) := by
  rcases h : trayOf s with _ | t
  · exact Or.inl rfl
  · have hs := trayOf_small s (by rw [h]; exact fun e => nomatch e)
    refine Or.inr ⟨hs, ?_⟩
    rw [← h]
    have hne : 0 < (rowsL s).length := by
      rw [rowsL_len]
      exact List.length_pos_iff.2 (rows_ne 47 _)
    have hw := rowsL_tw s hne
    unfold trayOf trayRows at h ⊢
    split at h
    · rename_i hk
      rw [if_pos hk]
      unfold impl_read.f
      rw [if_pos (by omega), joined_ints, rowsL_len, ← hw]
      rfl
    · cases h
end Go.Proofs.YtbplbbialcbceaaDoor.Q
