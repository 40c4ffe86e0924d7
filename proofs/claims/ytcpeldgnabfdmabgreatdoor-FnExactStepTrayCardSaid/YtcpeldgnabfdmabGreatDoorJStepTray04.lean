/- Texts of this claim, joined. -/
import Derived.Test.YtcpeldgnabfdmabGreatDoorJStepTray01
import Derived.Laws.AppendOwn
import Derived.Test.YtcpeldgnabfdmabGreatDoorJStepTray02
import Derived.Test.YtcpeldgnabfdmabGreatDoorJStepTray03
import Derived.Carry
import Derived.RangeFuncBox
import Derived.RangeFuncLeaves
import Derived.RangeFuncCalls
import Derived.Shelf.Abstract
import Derived.WalkKit
import Derived.OwnWalkIn
import Derived.TacticsInMore
import Derived.LoopNIn
import Derived.LoopIn
import Derived.Maps.AppendAt
import Derived.RangeFuncNested
import Derived.RangeFuncBound
import Derived.Laws.BytesArg
set_option linter.unusedVariables false
set_option linter.unusedSimpArgs false
set_option linter.unusedSectionVars false
section
namespace Go.Proofs.YtcpeldgnabfdmabGreatDoor.Q
open Go.RowKit Go.Proofs.YtcpeldgnabfdmabGreatDoorW.PrintWords Go.Proofs.YtcpeldgnabfdmabGreatDoorW.PrintLast Go.Proofs.YtcpeldgnabfdmabGreatDoorW.PrintMore
theorem dw_nil {α : Type} (p : α → Bool) : ∀ l : List α, l.dropWhile p = [] ↔ ∀ b ∈ l, p b = true
 | [] => by simp
 | b :: l => by
  rw [List.dropWhile_cons]
  by_cases h : p b = true
  ·rw [if_pos h, dw_nil p l]
   simp [h]
  ·rw [if_neg h]
   simp [h]
theorem dw_all {α : Type} (p : α → Bool) : ∀ l : List α, (∀ b ∈ l.dropWhile p, p b = true) → ∀ b ∈ l, p b = true
 | [], _ => by simp
 | b :: l, h => by
  rw [List.dropWhile_cons] at h
  by_cases hb : p b = true
  ·rw [if_pos hb] at h
   have ih := dw_all p l h
   simpa [hb] using ih
  ·rw [if_neg hb] at h
   exact h
theorem trimS_nil (l cs : List UInt8) : Lib.trimS l cs = [] ↔ ∀ b ∈ l, cs.contains b = true := by
 unfold Lib.trimS Lib.trimLeftS Lib.trimRightS
 rw [dw_nil]
 constructor
 ·intro h
  have h2 := dw_all (cs.contains ·) l.reverse (fun b hb => h b (by simpa using hb))
  exact fun b hb => h2 b (by simpa using hb)
 ·intro h b hb
  rw [List.mem_reverse] at hb
  exact h b (by simpa using (List.dropWhile_sublist _).subset hb)
theorem trim_tell (s cut : ByteArray) (hs : s.size ≤ 1048576) (hc : cut.size < 100) (ha : asciiB cut.data.toList = true) :
  ∃ t, strings_Trim.f s cut = some t ∧ (t.toList = [] ↔ ∀ b ∈ s.data.toList, cut.data.toList.contains b = true) := by
 refine ⟨_, if_pos ⟨by omega, by omega, ha⟩, ?_⟩
 rw [← trimS_nil]
 generalize Lib.trimS s.data.toList cut.data.toList = l
 have e : (⟨l.toArray⟩ : ByteArray).toList = l := ByteArray.toList_mk l
 rw [e]
theorem encode_name : ∀ n : Fin 6, Utf8.encode (97 + (n.val : Int)) = ⟨#[UInt8.ofNat (97 + n.val)]⟩ := by decide +kernel
theorem count_name (s : ByteArray) (n : Nat) (h1 : 97 ≤ n) (h2 : n ≤ 102) : (runeS.f (n : Int)).bind (fun t => strings_Count.f s t) = some ((s.data.toList.count (UInt8.ofNat n) : Nat) : Int) := by
 have h := encode_name ⟨n - 97, by omega⟩
 simp only [show (97 + ((n - 97 : Nat) : Int)) = (n : Int) by omega, show 97 + (n - 97) = n by omega] at h
 unfold runeS.f
 rw [Option.bind_some, h]
 rfl
theorem it_l1 (s : ByteArray) : ∀ (m n : Nat), 97 ≤ n → n + m = 103 → ∀ R : Bool, (R = true ↔ ∀ c : Nat, n ≤ c → c ≤ 102 → s.data.toList.count (UInt8.ofNat c) ≤ 1) → Ev (fun k => impl_IsTray.l1 k s n) R
 | 0, n, h1, h2, R, hR => by
  obtain rfl : R = true := hR.2 fun c h3 h4 => by omega
  refine Ev.step (Ev.const (o := some true) rfl) fun k => ?_
  rw [impl_IsTray.l1, if_neg (by omega)]
 | m + 1, n, h1, h2, R, hR => by
  have hc := count_name s n h1 (by omega)
  obtain ⟨t, e1, e2⟩ := Option.bind_eq_some_iff.1 hc
  have hw : wrap32 ((n : Int) + 1) = ((n + 1 : Nat) : Int) := by unfold wrap32; omega
  by_cases hn : s.data.toList.count (UInt8.ofNat n) ≤ 1
  ·have ih := it_l1 s m (n + 1) (by omega) (by omega) R (hR.trans ⟨fun h c h3 h4 => h c (by omega) h4, fun h c h3 h4 => by
    by_cases h5 : n = c
    ·rw [← h5]; exact hn
    ·exact h c (by omega) h4⟩)
   refine Ev.step ih fun k => ?_
   rw [impl_IsTray.l1, if_pos (by omega), e1, Option.bind_some, e2, Option.bind_some, if_neg (by omega), hw]
  ·obtain rfl : R = false := Bool.eq_false_iff.2 fun h => hn (hR.1 h n (Nat.le_refl _) (by omega))
   refine Ev.step (Ev.const (o := some false) rfl) fun k => ?_
   rw [impl_IsTray.l1, if_pos (by omega), e1, Option.bind_some, e2, Option.bind_some, if_pos (by omega)]
theorem named_count (s : ByteArray) : namedOK (ints (rows 47 s.data.toList).flatten) ↔ ∀ c : Nat, 97 ≤ c → c ≤ 102 → s.data.toList.count (UInt8.ofNat c) ≤ 1 := by
 have h : ∀ c : Nat, 97 ≤ c → c ≤ 102 → (ints (rows 47 s.data.toList).flatten).count (c : Int) = s.data.toList.count (UInt8.ofNat c) := by
  intro c h1 h2
  have e : ((UInt8.ofNat c).toNat : Int) = c := by
   rw [UInt8.toNat_ofNat']
   omega
  rw [← e, ints_count, rows_count 47 (UInt8.ofNat c)]
  intro e2
  have := congrArg UInt8.toNat e2
  rw [UInt8.toNat_ofNat'] at this
  have h47 : (47 : UInt8).toNat = 47 := rfl
  omega
 constructor
 ·intro h1 c h2 h3
  rw [← h c h2 h3]
  exact h1 c (by omega) (by omega)
 ·intro h1 c h2 h3
  have h4 := h c.toNat (by omega) (by omega)
  rw [show ((c.toNat : Nat) : Int) = c by omega] at h4
  rw [h4]
  exact h1 _ (by omega) (by omega)
theorem within_eq (a lo hi : Int) : impl_within.f a lo hi = some (decide (lo ≤ a ∧ a ≤ hi)) := by
 unfold impl_within.f
 by_cases h : lo ≤ a
 ·rw [if_pos h]
  simp [h]
 ·rw [if_neg h]
  simp [h]
theorem isSize_eq (w h : Nat) (hw : w ≤ 1048576) (hh : h ≤ 1048577) : impl_isSize.f w h = some (decide (1 ≤ w ∧ w ≤ 7 ∧ 1 ≤ h ∧ h ≤ 7 ∧ w * h ≤ 36)) := by
 unfold impl_isSize.f
 rw [within_eq, Option.bind_some]
 by_cases h1 : 1 ≤ w ∧ w ≤ 7
 ·rw [decide_eq_true (by omega), if_pos rfl, within_eq, Option.bind_some]
  by_cases h2 : 1 ≤ h ∧ h ≤ 7
  ·rw [decide_eq_true (by omega), if_pos rfl]
   have h3 : w * h ≤ 7 * 7 := Nat.mul_le_mul h1.2 h2.2
   have e : wrap64 ((w : Int) * h) = ((w * h : Nat) : Int) := by
    rw [← Int.natCast_mul]
    exact w64 (by omega) (by omega)
   rw [e]
   congr 1
   exact decide_eq_decide.2 ⟨fun h => ⟨h1.1, h1.2, h2.1, h2.2, by omega⟩, fun h => by omega⟩
  ·rw [decide_eq_false (by omega), if_neg (by decide), decide_eq_false (by omega)]
 ·rw [decide_eq_false (by omega), if_neg (by decide), decide_eq_false (by omega)]
theorem rowsL_len (s : ByteArray) : (rowsL s).length = (rows 47 s.data.toList).length := by rw [← rowsL_map, List.length_map]
theorem rowsL_drop (s : ByteArray) (i : Nat) (h : i < (rowsL s).length) : (rows 47 s.data.toList).drop i = (rdOf ByteArray.empty (rowsL s) (i : Int)).data.toList :: (rows 47 s.data.toList).drop (i + 1) := by
 rw [← rowsL_map]
 have h2 : i < ((rowsL s).map (·.data.toList)).length := by rw [List.length_map]; exact h
 rw [List.drop_eq_getElem_cons h2]
 congr 1
 unfold rdOf
 rw [List.getElem_map, Int.toNat_natCast, List.getD_eq_getElem?_getD, List.getElem?_eq_getElem h]
 rfl
theorem rowsL_tw (s : ByteArray) (h : 0 < (rowsL s).length) : (rdOf ByteArray.empty (rowsL s) 0).size = tw (rows 47 s.data.toList) := by
 have e := rowsL_drop s 0 h
 rw [List.drop_zero] at e
 unfold tw
 rw [e, List.headD_cons, data_length]
 rfl
theorem rows_le (c : UInt8) (l r : List UInt8) (h : r ∈ rows c l) : r.length ≤ l.length := by
 have h1 := rows_flat c l
 have h2 : r.length ≤ (rows c l).flatten.length := (List.sublist_flatten_of_mem h).length_le
 omega
def cutAll : ByteArray := ⟨#[35, 46, 111, 97, 98, 99, 100, 101, 102]⟩
theorem it_l0 (s : ByteArray) (hs : s.size ≤ 1048576) (w : Nat) (hw : (rdOf ByteArray.empty (rowsL s) 0).size = w) (K : Bool) (hK : Ev (fun k => impl_IsTray.l1 k s 97) K) :
  ∀ (m i : Nat), i + m = (rowsL s).length → Ev (fun k => impl_IsTray.l0 k s (rowsL s) (rowsL s) (rowsL s).length i) (if evenRows w ((rows 47 s.data.toList).drop i) then K else false)
 | 0, i, hi => by
  have e : (rows 47 s.data.toList).drop i = [] := List.drop_eq_nil_of_le (by rw [← rowsL_len]; omega)
  rw [e, if_pos (show evenRows w [] from fun r hr => by simp at hr)]
  refine Ev.step hK fun k => ?_
  rw [impl_IsTray.l0, if_neg (by omega)]
 | m + 1, i, hi => by
  have ih := it_l0 s hs w hw K hK m (i + 1) (by omega)
  have hlt : i < (rowsL s).length := by omega
  have hlen : (rowsL s).length ≤ 1048577 := by
   have h1 := rows_size 47 s.data.toList
   have h2 := data_length s
   rw [rowsL_len]
   omega
  have hd := rowsL_drop s i hlt
  have hrow : (rdOf ByteArray.empty (rowsL s) (i : Int)).data.toList ∈ rows 47 s.data.toList := (List.drop_sublist i _).subset (by rw [hd]; exact List.mem_cons_self)
  have hsz : (rdOf ByteArray.empty (rowsL s) (i : Int)).size ≤ 1048576 := by
   have h1 := rows_le 47 _ _ hrow
   rw [data_length, data_length] at h1
   omega
  have hwr : wrap64 ((i : Int) + 1) = ((i + 1 : Nat) : Int) := by rw [w64 (by omega) (by omega)]; omega
  rw [hd]
  generalize hrw : rdOf ByteArray.empty (rowsL s) (i : Int) = row at hsz hd ⊢
  obtain ⟨t, et, ht⟩ := trim_tell row cutAll hsz (by decide) (by decide)
  have hcell : (∀ b ∈ row.data.toList, cutAll.data.toList.contains b = true) ↔ row.data.toList.all isCellB = true := by
   rw [List.all_eq_true]
   rfl
  rw [ite_iff ((evenRows_cons w row.data.toList ((rows 47 s.data.toList).drop (i + 1))).trans (show _ ↔ (row.size = w ∧ t.toList = []) ∧ evenRows w ((rows 47 s.data.toList).drop (i + 1)) by rw [← hcell, ← ht, data_length]))]
  by_cases h1 : row.size = w
  ·by_cases h2 : t.toList = []
   ·rw [ite_iff (show ((row.size = w ∧ t.toList = []) ∧ evenRows w ((rows 47 s.data.toList).drop (i + 1))) ↔ evenRows w ((rows 47 s.data.toList).drop (i + 1)) from ⟨fun h => h.2, fun h => ⟨⟨h1, h2⟩, h⟩⟩)]
    refine Ev.step ih fun k => ?_
    rw [impl_IsTray.l0, if_pos (by omega), if_pos (by omega), if_pos (by omega), if_pos (by omega), hrw, hw, if_pos (by omega)]
    show (strings_Trim.f row cutAll).bind _ = _
    rw [et, Option.bind_some, if_pos h2, hwr]
   ·rw [if_neg fun h => h2 h.1.2]
    refine Ev.step (Ev.const (o := some false) rfl) fun k => ?_
    rw [impl_IsTray.l0, if_pos (by omega), if_pos (by omega), if_pos (by omega), if_pos (by omega), hrw, hw, if_pos (by omega)]
    show (strings_Trim.f row cutAll).bind _ = _
    rw [et, Option.bind_some, if_neg h2]
  ·rw [if_neg fun h => h1 h.1.1]
   refine Ev.step (Ev.const (o := some false) rfl) fun k => ?_
   rw [impl_IsTray.l0, if_pos (by omega), if_pos (by omega), if_pos (by omega), if_pos (by omega), hrw, hw, if_neg (by omega)]
theorem isTray_ev (s : ByteArray) (hs : s.size ≤ 1048576) : Ev (fun k => impl_IsTray.f k s) (trayOf s).isSome := by
 have h1 := rows_size 47 s.data.toList
 have h2 := data_length s
 have h3 := rowsL_len s
 have hne : 0 < (rowsL s).length := by
  rw [h3]
  exact List.length_pos_iff.2 (rows_ne 47 _)
 have hw := rowsL_tw s hne
 have hwle : tw (rows 47 s.data.toList) ≤ 1048576 := by
  have e := rowsL_drop s 0 hne
  rw [List.drop_zero] at e
  have := rows_le 47 s.data.toList _ (by rw [e]; exact List.mem_cons_self)
  rw [data_length, data_length] at this
  have h4 : (rdOf ByteArray.empty (rowsL s) ((0 : Nat) : Int)).size = (rdOf ByteArray.empty (rowsL s) 0).size := rfl
  omega
 have hsp : strings_Split.f s ⟨#[47]⟩ = some (rowsL s) := if_pos ⟨by omega, by decide⟩
 have hss := isSize_eq (tw (rows 47 s.data.toList)) (rowsL s).length hwle (by omega)
 have hf : ∀ k, impl_IsTray.f k s = if decide (1 ≤ tw (rows 47 s.data.toList) ∧ tw (rows 47 s.data.toList) ≤ 7 ∧ 1 ≤ (rowsL s).length ∧ (rowsL s).length ≤ 7 ∧ tw (rows 47 s.data.toList) * (rowsL s).length ≤ 36) = true then impl_IsTray.l0 k s (rowsL s) (rowsL s) (rowsL s).length 0 else some false := by
  intro k
  unfold impl_IsTray.f
  rw [hsp, Option.bind_some, if_pos (by omega), hw, hss, Option.bind_some]
 refine Ev.congr ?_ hf
 unfold trayOf trayRows
 by_cases hc : 1 ≤ tw (rows 47 s.data.toList) ∧ tw (rows 47 s.data.toList) ≤ 7 ∧ 1 ≤ (rowsL s).length ∧ (rowsL s).length ≤ 7 ∧ tw (rows 47 s.data.toList) * (rowsL s).length ≤ 36
 ·rw [decide_eq_true hc]
  refine Ev.congr ?_ (fun k => if_pos rfl)
  have h5 := it_l0 s hs _ hw (decide (namedOK (ints (rows 47 s.data.toList).flatten))) (it_l1 s 6 97 (by omega) (by omega) _ (by rw [decide_eq_true_iff]; exact named_count s)) (rowsL s).length 0 (by omega)
  rw [List.drop_zero] at h5
  have e : (if okRows (rows 47 s.data.toList) then some ((tw (rows 47 s.data.toList) : Int), ((rows 47 s.data.toList).length : Int), ints (rows 47 s.data.toList).flatten) else none).isSome =
    if evenRows (tw (rows 47 s.data.toList)) (rows 47 s.data.toList) then decide (namedOK (ints (rows 47 s.data.toList).flatten)) else false := by
   by_cases h6 : evenRows (tw (rows 47 s.data.toList)) (rows 47 s.data.toList)
   ·by_cases h7 : namedOK (ints (rows 47 s.data.toList).flatten)
    ·rw [if_pos h6, if_pos (show okRows _ from ⟨by rw [h3] at hc; omega, h6, h7⟩), decide_eq_true h7]
     rfl
    ·rw [if_pos h6, if_neg fun h => h7 h.2.2, decide_eq_false h7]
     rfl
   ·rw [if_neg h6, if_neg fun h => h6 h.2.1]
    rfl
  rw [e]
  exact h5
 ·rw [if_neg fun h => hc (by have h4 := h.1; rw [h3]; omega), decide_eq_false hc]
  exact Ev.congr (Ev.const (o := some false) rfl) (fun k => if_neg (by decide))
theorem joined_ints (s : ByteArray) : bytesOf (joinedB s) = ints (rows 47 s.data.toList).flatten := by
 unfold bytesOf ints
 rw [joinedB_list]
theorem trayOf_row (s : ByteArray) : trayOf s = none ∨ (s.size ≤ 42 ∧ impl_read.f s = trayOf s) := by
 rcases h : trayOf s with _ | t
 ·exact Or.inl rfl
 ·have hs := trayOf_small s (by rw [h]; exact fun e => nomatch e)
  refine Or.inr ⟨hs, ?_⟩
  rw [← h]
  have hne : 0 < (rowsL s).length := by
   rw [rowsL_len]
   exact List.length_pos_iff.2 (rows_ne 47 _)
  have hw := rowsL_tw s hne
  unfold trayOf trayRows at h ⊢
  split at h
  ·rename_i hk
   rw [if_pos hk]
   unfold impl_read.f
   rw [if_pos (by omega), joined_ints, rowsL_len, ← hw]
   rfl
  ·cases h
theorem trayOf_some {s : ByteArray} {t : Int × Int × List Int} (ht : trayOf s = some t) : ∃ w h : Nat, t = ((w : Int), (h : Int), ints (rows 47 s.data.toList).flatten) ∧ 1 ≤ w ∧ w ≤ 7 ∧ 1 ≤ h ∧ h ≤ 7 ∧ w * h ≤ 36 ∧ (ints (rows 47 s.data.toList).flatten).length = w * h := by
 unfold trayOf trayRows at ht
 split at ht
 ·rename_i hk
  have h1 := evenRows_flat _ _ hk.2.1
  have h2 := List.length_pos_iff.2 (rows_ne 47 s.data.toList)
  have h3 := hk.1
  refine ⟨_, _, (Option.some.inj ht).symm, h3.1, h3.2.1, by omega, h3.2.2.1, h3.2.2.2, ?_⟩
  rw [ints_length, h1]
 ·cases ht
theorem tray_parts {s : ByteArray} {t : Int × Int × List Int} (ht : trayOf s = some t) : ∃ (w h : Nat) (cs : List Int), t = ((w : Int), (h : Int), cs) ∧ 1 ≤ w ∧ w ≤ 7 ∧ 1 ≤ h ∧ h ≤ 7 ∧ w * h ≤ 36 ∧ cs.length = w * h := by
 obtain ⟨w, h, e, h1, h2, h3, h4, h5, h6⟩ := trayOf_some ht
 exact ⟨w, h, _, e, h1, h2, h3, h4, h5, h6⟩
theorem tray_read {s : ByteArray} {t : Int × Int × List Int} (ht : trayOf s = some t) : impl_read.f s = some t := by
 rw [← ht]
 exact ((trayOf_row s).resolve_left (by rw [ht]; exact fun e => nomatch e)).2
end Go.Proofs.YtcpeldgnabfdmabGreatDoor.Q
end
section
namespace Go.Proofs.YtcpeldgnabfdmabGreatDoor.Q
open Go.RowKit Go.Proofs.YtcpeldgnabfdmabGreatDoorW.PrintWords Go.Proofs.YtcpeldgnabfdmabGreatDoorW.PrintLast Go.Proofs.YtcpeldgnabfdmabGreatDoorW.PrintMore
attribute [local go_sem] max2_int min2_int max_two min_two max_three min_three max_four min_four
set_option linter.unusedVariables false
set_option linter.unusedSimpArgs false
def spec_tiDirs.f  : Option (ByteArray) := some (⟨#[117, 114, 100, 108]⟩ : ByteArray)
set_option maxHeartbeats 8000000 in
set_option maxRecDepth 100000 in
theorem spec_tiDirs.calls  (r : ByteArray) (w : World) (h : spec_tiDirs.f  = some r) :
  Calls Tryz.prog 35 #[] w fun e w' => e = .returned (.string r) ∧ Drawn0 w w' := by
 have H : (some (⟨#[117, 114, 100, 108]⟩ : ByteArray)) = some r := h
 clear h
 obtain rfl := Option.some.inj H
 go_enter Tryz.func35, Tryz.ntmps35
 go_wp2
 go_ret
 exact ⟨by first | rfl | (simp; done) | (simp [*]; done), by repeat (first | exact Drawn0.refl _ | apply Drawn0.step)⟩
end Go.Proofs.YtcpeldgnabfdmabGreatDoor.Q
end
section
namespace Go.Proofs.YtcpeldgnabfdmabGreatDoor.Q
open Go.RowKit Go.Shelf Go.Proofs.YtcpeldgnabfdmabGreatDoorW.PrintWords Go.Proofs.YtcpeldgnabfdmabGreatDoorW.PrintLast Go.Proofs.YtcpeldgnabfdmabGreatDoorW.PrintMore
def strings_Contains.f (a0 a1 : ByteArray) : Option Bool := if a1.size = 1 then some (decide (0 ≤ Lib.indexByte a0.data.toList (a1.data.toList.getD 0 0))) else none
theorem strings_Contains.calls (a0 a1 : ByteArray) (r : Bool) (w : World) (h : strings_Contains.f a0 a1 = some r) :
  Calls Tryz.prog 41 #[.string a0, .string a1] w fun e w' => e = .returned (.bool r) ∧ Drawn0 w w' := by
 unfold strings_Contains.f at h
 split at h
 ·rename_i hc
  obtain rfl := Option.some.inj h
  obtain ⟨c, rfl⟩ := Lib.one_byte a1 hc
  exact (Tryz.strings_Contains_one a0 c w).mono fun e w' ⟨he, hw⟩ => ⟨he, hw ▸ Drawn0.refl _⟩
 ·cases h
end Go.Proofs.YtcpeldgnabfdmabGreatDoor.Q
end
section
namespace Go.Proofs.YtcpeldgnabfdmabGreatDoor.Q
open Go.RowKit Go.Proofs.YtcpeldgnabfdmabGreatDoorW.PrintWords Go.Proofs.YtcpeldgnabfdmabGreatDoorW.PrintLast Go.Proofs.YtcpeldgnabfdmabGreatDoorW.PrintMore
attribute [local go_sem] max2_int min2_int max_two min_two max_three min_three max_four min_four
set_option linter.unusedVariables false
set_option linter.unusedSimpArgs false
def spec_tiDir.l0 : Nat → ByteArray → Int → Option (Int)
 | 0, _, _ => none
 | k + 1, x0, x3 => if x3 < 4 then ((spec_tiDirs.f).bind fun t101 => (if 0 ≤ x3 then (if x3 ≤ (wrap64 (x3 + 1)) then (if (wrap64 (x3 + 1)) ≤ (t101.size : Int) then (if x0.toList = (t101.extract (x3 : Int).toNat ((wrap64 (x3 + 1)) : Int).toNat).toList then (some x3) else (spec_tiDir.l0 k x0 (wrap64 (x3 + 1)))) else (none)) else (none)) else (none))) else (some (-1))
def spec_tiDir.f (k : Nat) (a0 : ByteArray) : Option (Int) := spec_tiDir.l0 k a0 0
set_option maxHeartbeats 8000000 in
set_option maxRecDepth 100000 in
theorem spec_tiDir.calls (k : Nat) (a0 : ByteArray) (r : Int) (w : World) (h : spec_tiDir.f k a0 = some r) :
  Calls Tryz.prog 19 #[.string a0] w fun e w' => e = .returned (.int .i64 r) ∧ Drawn0 w w' := by
 have H : (spec_tiDir.l0 k a0 0) = some r := h
 clear h
 have H' := Aside0.mk H
 clear H
 go_enter Tryz.func19, Tryz.ntmps19
 go_wp2
 go_loopg [3] k (fun kq v3 w' => ∃ (x3_1 : Int), v3 = .int .i64 x3_1 ∧ Aside0 (spec_tiDir.l0 kq a0 x3_1 = some r) ∧ Aside0 (kq ≤ k) ∧ Drawn0 w w')
 case atStart => exact ⟨(0), (by first | rfl | (simp; done) | (simp [*]; done)), H', ⟨Nat.le_refl _⟩, by repeat (first | exact Drawn0.refl _ | apply Drawn0.step)⟩
 case round =>
  clear H'
  try clear c1
  obtain ⟨x3_1, rfl, HA, HK1, ⟨m1, rfl⟩⟩ := hrel
  cases gk with
  | zero => exact absurd HA.out (by simp [spec_tiDir.l0])
  | succ k1 =>
   have H := HA.out
   clear HA
   simp only [spec_tiDir.l0] at H
   by_cases c2 : x3_1 < 4
   ·rw [if_pos c2] at H
    have c2b0 : decide (x3_1 < 4) = true := decide_eq_true c2
    clear c2
    replace H := Option.bind_eq_some_iff.mp H
    obtain ⟨t101, A30, H⟩ := H
    replace H : (if 0 ≤ x3_1 then (if x3_1 ≤ (wrap64 (x3_1 + 1)) then (if (wrap64 (x3_1 + 1)) ≤ (t101.size : Int) then (if a0.toList = (t101.extract (x3_1 : Int).toNat ((wrap64 (x3_1 + 1)) : Int).toNat).toList then (some x3_1) else (spec_tiDir.l0 k1 a0 (wrap64 (x3_1 + 1)))) else (none)) else (none)) else (none)) = some r := H
    have A3 := Aside0.mk A30
    clear A30
    by_cases c4 : 0 ≤ x3_1
    ·rw [if_pos c4] at H
     have c4b0 := eq_true c4
     have c4b1 : decide (0 ≤ x3_1) = true := decide_eq_true c4
     clear c4
     by_cases c5 : x3_1 ≤ (wrap64 (x3_1 + 1))
     ·rw [if_pos c5] at H
      have c5b0 := eq_true c5
      have c5b1 : decide (x3_1 ≤ (wrap64 (x3_1 + 1))) = true := decide_eq_true c5
      by_cases c6 : (wrap64 (x3_1 + 1)) ≤ (t101.size : Int)
      ·rw [if_pos c6] at H
       have c6b0 := eq_true c6
       have c6b1 : decide ((wrap64 (x3_1 + 1)) ≤ (t101.size : Int)) = true := decide_eq_true c6
       by_cases c7 : a0.toList = (t101.extract (x3_1 : Int).toNat ((wrap64 (x3_1 + 1)) : Int).toNat).toList
       ·rw [if_pos c7] at H
        have c7b0 : (a0.toList == (t101.extract (x3_1 : Int).toNat ((wrap64 (x3_1 + 1)) : Int).toNat).toList) = true := beq_iff_eq.mpr c7
        have c7b1 : (a0.toList != (t101.extract (x3_1 : Int).toNat ((wrap64 (x3_1 + 1)) : Int).toNat).toList) = false := bne_eq_false_iff_eq.mpr c7
        clear c7
        obtain rfl := Option.some.inj H
        go_wp2_with (first | ((with_reducible refine gate_callee (f := 35) rfl ?_); refine gcall (some 9) Tryz.func35 #[] rfl ?_; (with_reducible refine (spec_tiDirs.calls  t101 _ A3.out).mono ?_); rintro e w' ⟨rfl, ⟨nd, rfl⟩⟩; refine ⟨_, rfl, ?_⟩))
        go_ret
        exact ⟨by first | rfl | (simp; done) | (simp [*]; done), by repeat (first | exact Drawn0.refl _ | apply Drawn0.step)⟩
       ·rw [if_neg c7] at H
        have c7b0 : (a0.toList == (t101.extract (x3_1 : Int).toNat ((wrap64 (x3_1 + 1)) : Int).toNat).toList) = false := beq_eq_false_iff_ne.mpr c7
        have c7b1 : (a0.toList != (t101.extract (x3_1 : Int).toNat ((wrap64 (x3_1 + 1)) : Int).toNat).toList) = true := bne_iff_ne.mpr c7
        have H' := Aside0.mk H
        clear H
        go_wp2_with (first | ((with_reducible refine gate_callee (f := 35) rfl ?_); refine gcall (some 9) Tryz.func35 #[] rfl ?_; (with_reducible refine (spec_tiDirs.calls  t101 _ A3.out).mono ?_); rintro e w' ⟨rfl, ⟨nd, rfl⟩⟩; refine ⟨_, rfl, ?_⟩))
        go_roundg k1
        case measure => have := HK1.out; omega
        case rel => exact ⟨(wrap64 (x3_1 + 1)), (by first | rfl | (simp; done) | (simp [*]; done)), H', ⟨by have := HK1.out; omega⟩, by repeat (first | exact Drawn0.refl _ | apply Drawn0.step)⟩
      ·rw [if_neg c6] at H
       exact absurd H (by simp)
     ·rw [if_neg c5] at H
      exact absurd H (by simp)
    ·rw [if_neg c4] at H
     exact absurd H (by simp)
   ·rw [if_neg c2] at H
    have c2b0 : decide (x3_1 < 4) = false := decide_eq_false c2
    clear c2
    obtain rfl := Option.some.inj H
    go_wp2
    go_ret
    exact ⟨by first | rfl | (simp; done) | (simp [*]; done), by repeat (first | exact Drawn0.refl _ | apply Drawn0.step)⟩
def impl_isDir.f (a0 : ByteArray) : Option (Bool) := if (a0.size : Int) = 1 then ((strings_Contains.f (⟨#[117, 114, 100, 108]⟩ : ByteArray) a0).bind fun t101 => (some t101)) else (some false)
set_option maxHeartbeats 8000000 in
set_option maxRecDepth 100000 in
theorem impl_isDir.calls (a0 : ByteArray) (r : Bool) (w : World) (h : impl_isDir.f a0 = some r) :
  Calls Tryz.prog 24 #[.string a0] w fun e w' => e = .returned (.bool r) ∧ Drawn0 w w' := by
 have H : (if (a0.size : Int) = 1 then ((strings_Contains.f (⟨#[117, 114, 100, 108]⟩ : ByteArray) a0).bind fun t101 => (some t101)) else (some false)) = some r := h
 clear h
 by_cases c2 : (a0.size : Int) = 1
 ·rw [if_pos c2] at H
  have c2b0 : ((a0.size : Int) == 1) = true := beq_iff_eq.mpr c2
  have c2b1 : ((a0.size : Int) != 1) = false := bne_eq_false_iff_eq.mpr c2
  clear c2
  replace H := Option.bind_eq_some_iff.mp H
  obtain ⟨t101, A30, H⟩ := H
  replace H : (some t101) = some r := H
  have A3 := Aside0.mk A30
  clear A30
  obtain rfl := Option.some.inj H
  go_enter Tryz.func24, Tryz.ntmps24
  go_wp2_with (first | (go_at_call 41; (with_reducible refine (strings_Contains.calls (⟨#[117, 114, 100, 108]⟩ : ByteArray) a0 t101 _ A3.out).mono ?_); rintro e w' ⟨rfl, ⟨nd, rfl⟩⟩))
  go_ret
  exact ⟨by first | rfl | (simp; done) | (simp [*]; done), by repeat (first | exact Drawn0.refl _ | apply Drawn0.step)⟩
 ·rw [if_neg c2] at H
  have c2b0 : ((a0.size : Int) == 1) = false := beq_eq_false_iff_ne.mpr c2
  have c2b1 : ((a0.size : Int) != 1) = true := bne_iff_ne.mpr c2
  obtain rfl := Option.some.inj H
  go_enter Tryz.func24, Tryz.ntmps24
  go_wp2
  go_ret
  exact ⟨by first | rfl | (simp; done) | (simp [*]; done), by repeat (first | exact Drawn0.refl _ | apply Drawn0.step)⟩
end Go.Proofs.YtcpeldgnabfdmabGreatDoor.Q
end
section
namespace Go.Proofs.YtcpeldgnabfdmabGreatDoor.Q
set_option linter.unusedSectionVars false
open Go.RowKit Go.Proofs.YtcpeldgnabfdmabGreatDoorW.PrintWords Go.Proofs.YtcpeldgnabfdmabGreatDoorW.PrintLast Go.Proofs.YtcpeldgnabfdmabGreatDoorW.PrintMore
def dirB (d : Nat) : UInt8 := ([117, 114, 100, 108] : List UInt8).getD d 0
theorem toList_data (s : ByteArray) : s.toList = s.data.toList := by
 obtain ⟨⟨l⟩⟩ := s
 exact ByteArray.toList_mk l
theorem has_byte : ∀ (l : List UInt8) (c : UInt8), decide (0 ≤ Lib.indexByte l c) = decide (c ∈ l)
 | [], c => by simp [Lib.indexByte]
 | b :: l, c => by
  have ih := has_byte l c
  have hge := Lib.indexByte_ge l c
  unfold Lib.indexByte
  by_cases hb : b = c
  ·subst hb
   simp
  ·have h1 : (b == c) = false := by simpa using hb
   have h2 : (c ∈ b :: l) ↔ c ∈ l := by simp [Ne.symm hb]
   rw [h1, decide_eq_decide.2 h2, ← ih]
   rw [decide_eq_decide]
   rw [if_neg Bool.false_ne_true]
   by_cases h3 : Lib.indexByte l c = -1
   ·rw [h3]
    decide
   ·rw [show (Lib.indexByte l c == -1) = false by simpa using h3, if_neg Bool.false_ne_true]
    omega
def dirFrom (l : List UInt8) : Nat → Nat → Int
 | 0, _ => -1
 | m + 1, t => if l = [dirB t] then t else dirFrom l m (t + 1)
def dirI (s : ByteArray) : Int := dirFrom s.data.toList 4 0
theorem cut_toList : ∀ d : Fin 4, ((⟨#[117, 114, 100, 108]⟩ : ByteArray).extract ((d.val : Int)).toNat (((d.val + 1 : Nat) : Int)).toNat).toList = [dirB d.val] := by
 intro d
 rw [toList_data]
 revert d
 decide
theorem tiDir_l0 (s : ByteArray) : ∀ (m t : Nat), t + m = 4 → Ev (fun k => spec_tiDir.l0 k s t) (dirFrom s.data.toList m t)
 | 0, t, ht => by
  obtain rfl : t = 4 := by omega
  refine Ev.step (Ev.const (o := some (-1)) rfl) fun k => ?_
  rw [spec_tiDir.l0, if_neg (by decide)]
 | m + 1, t, ht => by
  have ih := tiDir_l0 s m (t + 1) (by omega)
  have ht4 : t < 4 := by omega
  have hwt : wrap64 ((t : Int) + 1) = ((t + 1 : Nat) : Int) := by rw [w64 (by omega) (by omega)]; omega
  have hcut := cut_toList ⟨t, ht4⟩
  simp only at hcut
  have hsz : ((⟨#[117, 114, 100, 108]⟩ : ByteArray).size : Int) = 4 := rfl
  unfold dirFrom
  have hgo : ∀ k, spec_tiDir.l0 (k + 1) s t = if s.data.toList = [dirB t] then some (t : Int) else spec_tiDir.l0 k s ((t + 1 : Nat) : Int) := by
   intro k
   rw [spec_tiDir.l0, if_pos (by omega), hwt]
   show (Option.some (⟨#[117, 114, 100, 108]⟩ : ByteArray)).bind _ = _
   rw [Option.bind_some, if_pos (by omega), if_pos (by omega), if_pos (by rw [hsz]; omega), hcut, toList_data]
  by_cases he : s.data.toList = [dirB t]
  ·rw [if_pos he]
   exact Ev.step (Ev.const (o := some (t : Int)) rfl) fun k => by rw [hgo, if_pos he]
  ·rw [if_neg he]
   exact Ev.step ih fun k => by rw [hgo, if_neg he]
theorem tiDir_ev (s : ByteArray) : Ev (fun k => spec_tiDir.f k s) (dirI s) := tiDir_l0 s 4 0 (by omega)
theorem dirI_cases (s : ByteArray) : (dirI s = -1 ∧ ∀ d : Nat, d < 4 → s.data.toList ≠ [dirB d]) ∨ ∃ d : Nat, d < 4 ∧ dirI s = d ∧ s.data.toList = [dirB d] := by
 unfold dirI dirFrom
 by_cases h0 : s.data.toList = [dirB 0]
 ·exact Or.inr ⟨0, by omega, by rw [if_pos h0], h0⟩
 rw [if_neg h0]
 unfold dirFrom
 by_cases h1 : s.data.toList = [dirB (0 + 1)]
 ·exact Or.inr ⟨1, by omega, by rw [if_pos h1], h1⟩
 rw [if_neg h1]
 unfold dirFrom
 by_cases h2 : s.data.toList = [dirB (0 + 1 + 1)]
 ·exact Or.inr ⟨2, by omega, by rw [if_pos h2], h2⟩
 rw [if_neg h2]
 unfold dirFrom
 by_cases h3 : s.data.toList = [dirB (0 + 1 + 1 + 1)]
 ·exact Or.inr ⟨3, by omega, by rw [if_pos h3], h3⟩
 rw [if_neg h3]
 refine Or.inl ⟨rfl, fun d hd => ?_⟩
 obtain h | h | h | h : d = 0 ∨ d = 1 ∨ d = 2 ∨ d = 3 := by omega
 ·subst h; exact h0
 ·subst h; exact h1
 ·subst h; exact h2
 ·subst h; exact h3
theorem one_byte_of {s : ByteArray} {b : UInt8} (h : s.data.toList = [b]) : s = ⟨#[b]⟩ := by
 obtain ⟨⟨l⟩⟩ := s
 simp at h
 subst h
 rfl
theorem dirB_mem : ∀ c : UInt8, c ∈ ([117, 114, 100, 108] : List UInt8) → ∃ d : Nat, d < 4 ∧ c = dirB d := by
 intro c hc
 simp only [List.mem_cons, List.not_mem_nil, or_false] at hc
 rcases hc with h | h | h | h
 ·exact ⟨0, by omega, h⟩
 ·exact ⟨1, by omega, h⟩
 ·exact ⟨2, by omega, h⟩
 ·exact ⟨3, by omega, h⟩
theorem isDir_eq (s : ByteArray) : impl_isDir.f s = some (decide (0 ≤ dirI s)) := by
 unfold impl_isDir.f
 rcases dirI_cases s with ⟨h1, h2⟩ | ⟨d, hd, h1, h2⟩
 ·rw [h1]
  by_cases hs : (s.size : Int) = 1
  ·rw [if_pos hs]
   have hs2 : s.size = 1 := by omega
   obtain ⟨c, rfl⟩ := Lib.one_byte s hs2
   unfold strings_Contains.f
   rw [if_pos (show (⟨#[c]⟩ : ByteArray).size = 1 from rfl), has_byte, Option.bind_some]
   congr 1
   show decide (c ∈ ([117, 114, 100, 108] : List UInt8)) = _
   rw [decide_eq_decide]
   constructor
   ·intro hc
    obtain ⟨d, hd, rfl⟩ := dirB_mem c hc
    exact absurd rfl (h2 d hd)
   ·intro h
    omega
  ·rw [if_neg hs]
   rfl
 ·obtain rfl := one_byte_of h2
  rw [h1, if_pos (show ((⟨#[dirB d]⟩ : ByteArray).size : Int) = 1 from rfl)]
  unfold strings_Contains.f
  rw [if_pos (show (⟨#[dirB d]⟩ : ByteArray).size = 1 from rfl), has_byte, Option.bind_some]
  congr 1
  rw [decide_eq_decide]
  constructor
  ·intro _
   omega
  ·intro _
   show dirB d ∈ ([117, 114, 100, 108] : List UInt8)
   obtain h | h | h | h : d = 0 ∨ d = 1 ∨ d = 2 ∨ d = 3 := by omega
   ·subst h; decide
   ·subst h; decide
   ·subst h; decide
   ·subst h; decide
end Go.Proofs.YtcpeldgnabfdmabGreatDoor.Q
end
section
namespace Go.Proofs.YtcpeldgnabfdmabGreatDoor.Q
open Go.RowKit Go.Proofs.YtcpeldgnabfdmabGreatDoorW.PrintWords Go.Proofs.YtcpeldgnabfdmabGreatDoorW.PrintLast Go.Proofs.YtcpeldgnabfdmabGreatDoorW.PrintMore
attribute [local go_sem] max2_int min2_int max_two min_two max_three min_three max_four min_four
set_option linter.unusedVariables false
set_option linter.unusedSimpArgs false
def spec_tyText.l0 : Nat → ByteArray → Int → Int → Int → List Int → Option (ByteArray)
 | 0, _, _, _, _, _ => none
 | k + 1, x3, x4, x102000, x102001, x102002 => if x4 < x102001 then (if x4 > 0 then (if x3.size + 1 ≤ 9223372036854775807 then (if 0 ≤ (wrap64 (x4 * x102000)) then (if (wrap64 (x4 * x102000)) ≤ (wrap64 ((wrap64 (x4 + 1)) * x102000)) then (if (wrap64 ((wrap64 (x4 + 1)) * x102000)) ≤ (x102002.length : Int) then (if (x3 ++ (⟨#[47]⟩ : ByteArray)).size + (strOfNums ((x102002.take ((wrap64 ((wrap64 (x4 + 1)) * x102000)) : Int).toNat).drop ((wrap64 (x4 * x102000)) : Int).toNat)).size ≤ 9223372036854775807 then (spec_tyText.l0 k ((x3 ++ (⟨#[47]⟩ : ByteArray)) ++ (strOfNums ((x102002.take ((wrap64 ((wrap64 (x4 + 1)) * x102000)) : Int).toNat).drop ((wrap64 (x4 * x102000)) : Int).toNat))) (wrap64 (x4 + 1)) x102000 x102001 x102002) else (none)) else (none)) else (none)) else (none)) else (none)) else (if 0 ≤ (wrap64 (x4 * x102000)) then (if (wrap64 (x4 * x102000)) ≤ (wrap64 ((wrap64 (x4 + 1)) * x102000)) then (if (wrap64 ((wrap64 (x4 + 1)) * x102000)) ≤ (x102002.length : Int) then (if x3.size + (strOfNums ((x102002.take ((wrap64 ((wrap64 (x4 + 1)) * x102000)) : Int).toNat).drop ((wrap64 (x4 * x102000)) : Int).toNat)).size ≤ 9223372036854775807 then (spec_tyText.l0 k (x3 ++ (strOfNums ((x102002.take ((wrap64 ((wrap64 (x4 + 1)) * x102000)) : Int).toNat).drop ((wrap64 (x4 * x102000)) : Int).toNat))) (wrap64 (x4 + 1)) x102000 x102001 x102002) else (none)) else (none)) else (none)) else (none))) else (some x3)
def spec_tyText.f (k : Nat) (a0_0 : Int) (a0_1 : Int) (l0_2 : List Int) : Option (ByteArray) := spec_tyText.l0 k (⟨#[]⟩ : ByteArray) 0 a0_0 a0_1 l0_2
set_option maxHeartbeats 8000000 in
set_option maxRecDepth 100000 in
theorem spec_tyText.calls (k : Nat) (a0_0 : Int) (a0_1 : Int) (A0_2 : Option Addr) (c0_2 : Nat) (l0_2 : List Int) (r : ByteArray) (w : World) (hr0_2 : Kd.C (Kd.int .u8) w A0_2 l0_2.length l0_2) (hc0_2 : l0_2.length ≤ c0_2) (h : spec_tyText.f k a0_0 a0_1 l0_2 = some r) :
  Calls Tryz.prog 10 #[.agg #[.int .i64 a0_0, .int .i64 a0_1, .slice A0_2 l0_2.length c0_2]] w fun e w' => e = .returned (.string r) ∧ Below w.heap.size w w' := by
 have hu29 := Tryz.underlying29
 have HR0_2 := Aside0.mk hr0_2
 have HC0_2 := Aside0.mk hc0_2
 clear hr0_2 hc0_2
 have HB := Aside0.mk (Below.refl w.heap.size w)
 have H : (spec_tyText.l0 k (⟨#[]⟩ : ByteArray) 0 a0_0 a0_1 l0_2) = some r := h
 clear h
 have H' := Aside0.mk H
 clear H
 go_enter Tryz.func10, Tryz.ntmps10
 go_wp2_with (first | ((with_reducible refine gate_dst (N := 1) rfl ?_); refine boxE (N := 1) (cs := #[.int .i64 a0_0, .int .i64 a0_1, .slice A0_2 l0_2.length c0_2]) (t := 29) ?_; intro gb101 hg w2 hbox hb; have n0_ := Aside0.mk (below_step (bel HB) hb); have n1_ := Aside0.mk (hbox); have n2_ := Aside0.mk (gsz hg (bel HB)); have n3_ := Aside0.mk (gsz hg (bel HB)); clear HB; have HB := n0_; have BK101 := n1_; have GW101 := n2_; have GE101 := n3_; clear n0_ n1_ n2_ n3_; clear hb hbox hg))
 go_loopg [3, 4] k (fun kq v3 v4 w' => ∃ (x3_1 : ByteArray) (x4_1 : Int), v3 = .string x3_1 ∧ v4 = .int .i64 x4_1 ∧ Aside0 (spec_tyText.l0 kq x3_1 x4_1 a0_0 a0_1 l0_2 = some r) ∧ Aside0 (kq ≤ k) ∧ Aside0 (w'.heap[gb101]? = some (.cells #[.int .i64 a0_0, .int .i64 a0_1, (.slice A0_2 l0_2.length c0_2)] 29 (0, 0))) ∧ Aside0 (Below w.heap.size w w'))
 case atStart => exact ⟨((⟨#[]⟩ : ByteArray)), (0), (by first | rfl | (simp; done) | (simp [*]; done)), (by first | rfl | (simp; done) | (simp [*]; done)), H', ⟨Nat.le_refl _⟩, ⟨blc⟩, ⟨bel HB⟩⟩
 case round =>
  clear H'
  try clear c1
  try clear p2
  obtain ⟨x3_1, x4_1, rfl, rfl, HA, HK1, BK101, HB⟩ := hrel
  cases gk with
  | zero => exact absurd HA.out (by simp [spec_tyText.l0])
  | succ k1 =>
   have H := HA.out
   clear HA
   simp only [spec_tyText.l0] at H
   by_cases c3 : x4_1 < a0_1
   ·rw [if_pos c3] at H
    have c3b0 : decide (x4_1 < a0_1) = true := decide_eq_true c3
    clear c3
    by_cases c4 : x4_1 > 0
    ·rw [if_pos c4] at H
     have c4b0 : decide (0 < x4_1) = true := decide_eq_true c4
     clear c4
     by_cases c5 : x3_1.size + 1 ≤ 9223372036854775807
     ·rw [if_pos c5] at H
      have c5b0 := eq_true c5
      have c5b1 : decide (x3_1.size + 1 ≤ 9223372036854775807) = true := decide_eq_true c5
      try have c5b2 : (9223372036854775807 < x3_1.size + 1) = False := eq_false (Nat.not_lt.2 c5)
      obtain ⟨ji6, hji6⟩ : ∃ j_ : Int, (wrap64 (x4_1 * a0_0)) = j_ := ⟨_, rfl⟩
      replace H : (if 0 ≤ (ji6) then (if (ji6) ≤ (wrap64 ((wrap64 (x4_1 + 1)) * a0_0)) then (if (wrap64 ((wrap64 (x4_1 + 1)) * a0_0)) ≤ (l0_2.length : Int) then (if (x3_1 ++ (⟨#[47]⟩ : ByteArray)).size + (strOfNums ((l0_2.take ((wrap64 ((wrap64 (x4_1 + 1)) * a0_0)) : Int).toNat).drop ((ji6) : Int).toNat)).size ≤ 9223372036854775807 then (spec_tyText.l0 k1 ((x3_1 ++ (⟨#[47]⟩ : ByteArray)) ++ (strOfNums ((l0_2.take ((wrap64 ((wrap64 (x4_1 + 1)) * a0_0)) : Int).toNat).drop ((ji6) : Int).toNat))) (wrap64 (x4_1 + 1)) a0_0 a0_1 l0_2) else (none)) else (none)) else (none)) else (none)) = some r := by first | (rw [hji6] at H; exact H) | (simp only [hji6] at H ⊢; exact H)
      have hji6w : (IntKind.i64.wrap (x4_1 * a0_0)) = ji6 := (i64_w _).trans hji6
      by_cases c7 : 0 ≤ (ji6)
      ·rw [if_pos c7] at H
       have c7b0 := eq_true c7
       have c7b1 : decide (0 ≤ (ji6)) = true := decide_eq_true c7
       clear c7
       by_cases c8 : (ji6) ≤ (wrap64 ((wrap64 (x4_1 + 1)) * a0_0))
       ·rw [if_pos c8] at H
        have c8b0 := eq_true c8
        have c8b1 : decide ((ji6) ≤ (wrap64 ((wrap64 (x4_1 + 1)) * a0_0))) = true := decide_eq_true c8
        by_cases c9 : (wrap64 ((wrap64 (x4_1 + 1)) * a0_0)) ≤ (l0_2.length : Int)
        ·rw [if_pos c9] at H
         have c9b0 := eq_true c9
         have c9b1 : decide ((wrap64 ((wrap64 (x4_1 + 1)) * a0_0)) ≤ (l0_2.length : Int)) = true := decide_eq_true c9
         by_cases c10 : (x3_1 ++ (⟨#[47]⟩ : ByteArray)).size + (strOfNums ((l0_2.take ((wrap64 ((wrap64 (x4_1 + 1)) * a0_0)) : Int).toNat).drop ((ji6) : Int).toNat)).size ≤ 9223372036854775807
         ·rw [if_pos c10] at H
          have c10b0 := eq_true c10
          have c10b1 : decide ((x3_1 ++ (⟨#[47]⟩ : ByteArray)).size + (strOfNums ((l0_2.take ((wrap64 ((wrap64 (x4_1 + 1)) * a0_0)) : Int).toNat).drop ((ji6) : Int).toNat)).size ≤ 9223372036854775807) = true := decide_eq_true c10
          try have c10b2 : (9223372036854775807 < (x3_1 ++ (⟨#[47]⟩ : ByteArray)).size + (strOfNums ((l0_2.take ((wrap64 ((wrap64 (x4_1 + 1)) * a0_0)) : Int).toNat).drop ((ji6) : Int).toNat)).size) = False := eq_false (Nat.not_lt.2 c10)
          have H' := Aside0.mk H
          clear H
          have hcz11_0 : wr.cell? ⟨gb101, 0, none⟩ = some (.int .i64 a0_0) := (blk_cell BK101.out 0).trans rfl
          have hcz11_1 : wr.cell? ⟨gb101, 1, none⟩ = some (.int .i64 a0_1) := (blk_cell BK101.out 1).trans rfl
          have hcz11_2 : wr.cell? ⟨gb101, 2, none⟩ = some (.slice A0_2 l0_2.length c0_2) := (blk_cell BK101.out 2).trans rfl
          have hfz11_0 := blk_frozen BK101.out 0
          have hfz11_1 := blk_frozen BK101.out 1
          have hfz11_2 := blk_frozen BK101.out 2
          obtain ⟨i012, hi012, _, hsz12, _⟩ := info_parts info5
          obtain ⟨A12, hcut12, hA12, hC12⟩ := print_mid_of (P := Tryz.prog) (Value.int .u8) 0 27 5 .i64 .i64 Tryz.underlying27 hi012 hsz12 A0_2 c0_2 l0_2 (ji6) (wrap64 ((wrap64 (x4_1 + 1)) * a0_0)) (of_decide_eq_true (by first | (with_reducible assumption) | assumption)) (by first | omega | exact of_decide_eq_true (by first | (with_reducible assumption) | assumption)) (of_decide_eq_true (by first | (with_reducible assumption) | assumption)) HC0_2.out
          have HR102 := Aside0.mk (Kd.C_of_reads (h1 := fun _ => rfl) (hA12 _ (Kd.reads_of_C HR0_2.out)))
          have HC102 := Aside0.mk hC12
          clear hA12 hC12 hi012 hsz12
          have hcv13 := Kd.C_string (P := Tryz.prog) (A := A12) (c := (c0_2 - (ji6).toNat)) Tryz.underlying27 Tryz.underlying5 Tryz.underlying9 (Kd.C_below HR102.out HB.out)
          try (rw [cut_len] at hcv13; rotate_left; exact Int.toNat_le.2 (of_decide_eq_true (by first | (with_reducible assumption) | assumption)))
          go_wp2
          go_roundg k1
          case measure => have := HK1.out; omega
          case rel => exact ⟨((x3_1 ++ (⟨#[47]⟩ : ByteArray)) ++ (strOfNums ((l0_2.take ((wrap64 ((wrap64 (x4_1 + 1)) * a0_0)) : Int).toNat).drop ((ji6) : Int).toNat))), (wrap64 (x4_1 + 1)), (by first | rfl | (simp; done) | (simp only [← hji6] <;> (first | rfl | simp)) | (simp [*]; done)), (by first | rfl | (simp; done) | (simp [*]; done)), H', ⟨by have := HK1.out; omega⟩, ⟨blc⟩, ⟨bel HB⟩⟩
         ·rw [if_neg c10] at H
          exact absurd H (by simp)
        ·rw [if_neg c9] at H
         exact absurd H (by simp)
       ·rw [if_neg c8] at H
        exact absurd H (by simp)
      ·rw [if_neg c7] at H
       exact absurd H (by simp)
     ·rw [if_neg c5] at H
      exact absurd H (by simp)
    ·rw [if_neg c4] at H
     have c4b0 : decide (0 < x4_1) = false := decide_eq_false c4
     clear c4
     obtain ⟨ji14, hji14⟩ : ∃ j_ : Int, (wrap64 (x4_1 * a0_0)) = j_ := ⟨_, rfl⟩
     replace H : (if 0 ≤ (ji14) then (if (ji14) ≤ (wrap64 ((wrap64 (x4_1 + 1)) * a0_0)) then (if (wrap64 ((wrap64 (x4_1 + 1)) * a0_0)) ≤ (l0_2.length : Int) then (if x3_1.size + (strOfNums ((l0_2.take ((wrap64 ((wrap64 (x4_1 + 1)) * a0_0)) : Int).toNat).drop ((ji14) : Int).toNat)).size ≤ 9223372036854775807 then (spec_tyText.l0 k1 (x3_1 ++ (strOfNums ((l0_2.take ((wrap64 ((wrap64 (x4_1 + 1)) * a0_0)) : Int).toNat).drop ((ji14) : Int).toNat))) (wrap64 (x4_1 + 1)) a0_0 a0_1 l0_2) else (none)) else (none)) else (none)) else (none)) = some r := by first | (rw [hji14] at H; exact H) | (simp only [hji14] at H ⊢; exact H)
     have hji14w : (IntKind.i64.wrap (x4_1 * a0_0)) = ji14 := (i64_w _).trans hji14
     by_cases c15 : 0 ≤ (ji14)
     ·rw [if_pos c15] at H
      have c15b0 := eq_true c15
      have c15b1 : decide (0 ≤ (ji14)) = true := decide_eq_true c15
      clear c15
      by_cases c16 : (ji14) ≤ (wrap64 ((wrap64 (x4_1 + 1)) * a0_0))
      ·rw [if_pos c16] at H
       have c16b0 := eq_true c16
       have c16b1 : decide ((ji14) ≤ (wrap64 ((wrap64 (x4_1 + 1)) * a0_0))) = true := decide_eq_true c16
       by_cases c17 : (wrap64 ((wrap64 (x4_1 + 1)) * a0_0)) ≤ (l0_2.length : Int)
       ·rw [if_pos c17] at H
        have c17b0 := eq_true c17
        have c17b1 : decide ((wrap64 ((wrap64 (x4_1 + 1)) * a0_0)) ≤ (l0_2.length : Int)) = true := decide_eq_true c17
        by_cases c18 : x3_1.size + (strOfNums ((l0_2.take ((wrap64 ((wrap64 (x4_1 + 1)) * a0_0)) : Int).toNat).drop ((ji14) : Int).toNat)).size ≤ 9223372036854775807
        ·rw [if_pos c18] at H
         have c18b0 := eq_true c18
         have c18b1 : decide (x3_1.size + (strOfNums ((l0_2.take ((wrap64 ((wrap64 (x4_1 + 1)) * a0_0)) : Int).toNat).drop ((ji14) : Int).toNat)).size ≤ 9223372036854775807) = true := decide_eq_true c18
         try have c18b2 : (9223372036854775807 < x3_1.size + (strOfNums ((l0_2.take ((wrap64 ((wrap64 (x4_1 + 1)) * a0_0)) : Int).toNat).drop ((ji14) : Int).toNat)).size) = False := eq_false (Nat.not_lt.2 c18)
         have H' := Aside0.mk H
         clear H
         have hcz19_0 : wr.cell? ⟨gb101, 0, none⟩ = some (.int .i64 a0_0) := (blk_cell BK101.out 0).trans rfl
         have hcz19_1 : wr.cell? ⟨gb101, 1, none⟩ = some (.int .i64 a0_1) := (blk_cell BK101.out 1).trans rfl
         have hcz19_2 : wr.cell? ⟨gb101, 2, none⟩ = some (.slice A0_2 l0_2.length c0_2) := (blk_cell BK101.out 2).trans rfl
         have hfz19_0 := blk_frozen BK101.out 0
         have hfz19_1 := blk_frozen BK101.out 1
         have hfz19_2 := blk_frozen BK101.out 2
         obtain ⟨i020, hi020, _, hsz20, _⟩ := info_parts info5
         obtain ⟨A20, hcut20, hA20, hC20⟩ := print_mid_of (P := Tryz.prog) (Value.int .u8) 0 27 5 .i64 .i64 Tryz.underlying27 hi020 hsz20 A0_2 c0_2 l0_2 (ji14) (wrap64 ((wrap64 (x4_1 + 1)) * a0_0)) (of_decide_eq_true (by first | (with_reducible assumption) | assumption)) (by first | omega | exact of_decide_eq_true (by first | (with_reducible assumption) | assumption)) (of_decide_eq_true (by first | (with_reducible assumption) | assumption)) HC0_2.out
         have HR103 := Aside0.mk (Kd.C_of_reads (h1 := fun _ => rfl) (hA20 _ (Kd.reads_of_C HR0_2.out)))
         have HC103 := Aside0.mk hC20
         clear hA20 hC20 hi020 hsz20
         have hcv21 := Kd.C_string (P := Tryz.prog) (A := A20) (c := (c0_2 - (ji14).toNat)) Tryz.underlying27 Tryz.underlying5 Tryz.underlying9 (Kd.C_below HR103.out HB.out)
         try (rw [cut_len] at hcv21; rotate_left; exact Int.toNat_le.2 (of_decide_eq_true (by first | (with_reducible assumption) | assumption)))
         go_wp2
         go_roundg k1
         case measure => have := HK1.out; omega
         case rel => exact ⟨(x3_1 ++ (strOfNums ((l0_2.take ((wrap64 ((wrap64 (x4_1 + 1)) * a0_0)) : Int).toNat).drop ((ji14) : Int).toNat))), (wrap64 (x4_1 + 1)), (by first | rfl | (simp; done) | (simp only [← hji14] <;> (first | rfl | simp)) | (simp [*]; done)), (by first | rfl | (simp; done) | (simp [*]; done)), H', ⟨by have := HK1.out; omega⟩, ⟨blc⟩, ⟨bel HB⟩⟩
        ·rw [if_neg c18] at H
         exact absurd H (by simp)
       ·rw [if_neg c17] at H
        exact absurd H (by simp)
      ·rw [if_neg c16] at H
       exact absurd H (by simp)
     ·rw [if_neg c15] at H
      exact absurd H (by simp)
   ·rw [if_neg c3] at H
    have c3b0 : decide (x4_1 < a0_1) = false := decide_eq_false c3
    clear c3
    obtain rfl := Option.some.inj H
    have hcz22_0 : wr.cell? ⟨gb101, 0, none⟩ = some (.int .i64 a0_0) := (blk_cell BK101.out 0).trans rfl
    have hcz22_1 : wr.cell? ⟨gb101, 1, none⟩ = some (.int .i64 a0_1) := (blk_cell BK101.out 1).trans rfl
    have hcz22_2 : wr.cell? ⟨gb101, 2, none⟩ = some (.slice A0_2 l0_2.length c0_2) := (blk_cell BK101.out 2).trans rfl
    have hfz22_0 := blk_frozen BK101.out 0
    have hfz22_1 := blk_frozen BK101.out 1
    have hfz22_2 := blk_frozen BK101.out 2
    go_wp2
    go_ret
    exact ⟨by first | rfl | (simp [errW_none, errW_some] <;> rfl) | (simp [*, errW_none, errW_some] <;> rfl), bel HB⟩
end Go.Proofs.YtcpeldgnabfdmabGreatDoor.Q
end
section
namespace Go.Proofs.YtcpeldgnabfdmabGreatDoor.Q
set_option linter.unusedSectionVars false
open Go.RowKit Go.Proofs.YtcpeldgnabfdmabGreatDoorW.PrintWords Go.Proofs.YtcpeldgnabfdmabGreatDoorW.PrintLast Go.Proofs.YtcpeldgnabfdmabGreatDoorW.PrintMore
theorem le_big {n : Nat} (h : n ≤ 200) : n ≤ 9223372036854775807 := Nat.le_trans h (by decide)
theorem w64n (n : Nat) (h : n ≤ 1000000) : wrap64 (n : Int) = (n : Int) := w64 (by omega) (by omega)
theorem w64s (n : Nat) (h : n ≤ 1000000) : wrap64 ((n : Int) + 1) = ((n + 1 : Nat) : Int) := by rw [w64 (by omega) (by omega)]; omega
def jn : List (List UInt8) → List UInt8
 | [] => []
 | [r] => r
 | r :: s :: rs => r ++ 47 :: jn (s :: rs)
theorem jn_join : ∀ xs : List (List UInt8), Lib.join xs [47] = jn xs
 | [] => rfl
 | [r] => by simp [Lib.join, List.intercalate, jn]
 | r :: s :: rs => by
  have ih := jn_join (s :: rs)
  unfold Lib.join at ih ⊢
  simp only [List.intercalate, List.intersperse, List.flatten_cons, jn] at ih ⊢
  rw [← ih]
  simp
theorem jn_snoc : ∀ (xs : List (List UInt8)) (x : List UInt8), jn (xs ++ [x]) = if xs = [] then x else jn xs ++ 47 :: x
 | [], x => rfl
 | [r], x => by simp [jn]
 | r :: s :: rs, x => by
  have ih := jn_snoc (s :: rs) x
  rw [if_neg (by simp)] at ih ⊢
  show r ++ 47 :: jn ((s :: rs) ++ [x]) = _
  rw [ih]
  simp [jn]
def rowL (l : List Int) (c k : Nat) : List UInt8 := ((l.drop (k * c)).take c).map fun n => UInt8.ofNat n.toNat
def txL (l : List Int) (c n : Nat) : List UInt8 := jn ((List.range n).map (rowL l c))
def tx (l : List Int) (c n : Nat) : ByteArray := ⟨(txL l c n).toArray⟩
theorem tx_list (l : List Int) (c n : Nat) : (tx l c n).data.toList = txL l c n := rfl
theorem txL_succ (l : List Int) (c n : Nat) : txL l c (n + 1) = if n = 0 then rowL l c 0 else txL l c n ++ 47 :: rowL l c n := by
 unfold txL
 rw [List.range_succ, List.map_append, List.map_singleton, jn_snoc]
 by_cases h : n = 0
 ·subst h
  simp
 ·rw [if_neg h, if_neg (by simpa using h)]
theorem rowL_len (l : List Int) (c k : Nat) : (rowL l c k).length ≤ c := by
 unfold rowL
 rw [List.length_map, List.length_take]
 omega
theorem txL_len (l : List Int) (c : Nat) : ∀ n, (txL l c n).length ≤ n * (c + 1)
 | 0 => by simp [txL, jn]
 | n + 1 => by
  have ih := txL_len l c n
  have h1 := rowL_len l c n
  have h2 := rowL_len l c 0
  rw [txL_succ, Nat.succ_mul]
  split
  ·omega
  ·rw [List.length_append, List.length_cons]
   omega
theorem ba_ext {a b : ByteArray} (h : a.data.toList = b.data.toList) : a = b := by
 obtain ⟨⟨a⟩⟩ := a
 obtain ⟨⟨b⟩⟩ := b
 simp at h
 rw [h]
section
variable {w h : Nat} {cs : List Int} (hw1 : 1 ≤ w) (hh1 : 1 ≤ h) (hs : w * h ≤ 36) (hn : cs.length = w * h)
include hw1 hh1 hs hn
theorem ty_text_l0 : ∀ (m t : Nat), t + m = h → Ev (fun k => spec_tyText.l0 k (tx cs w t) t w h cs) (tx cs w h)
 | 0, t, ht => by
  obtain rfl : t = h := by omega
  refine Ev.step (Ev.const (o := some (tx cs w t)) rfl) fun k => ?_
  rw [spec_tyText.l0, if_neg (by omega)]
 | m + 1, t, ht => by
  have ih := ty_text_l0 m (t + 1) (by omega)
  have hth : t < h := by omega
  have h4 : h ≤ w * h := Nat.le_mul_of_pos_left h hw1
  have hle : (t + 1) * w ≤ w * h := by rw [Nat.mul_comm w h]; exact Nat.mul_le_mul_right w hth
  have ht1 : t * w + w = (t + 1) * w := (Nat.succ_mul t w).symm
  have hB : (t + 1) * w ≤ 36 := Nat.le_trans hle hs
  have hA : t * w ≤ 36 := Nat.le_trans (Nat.mul_le_mul_right w (Nat.le_succ t)) hB
  have hcut : strOfNums ((cs.take (((((t + 1) * w : Nat) : Int)).toNat)).drop ((((t * w : Nat) : Int)).toNat)) = strOfNums ((cs.drop (t * w)).take w) := by
   rw [Int.toNat_natCast, Int.toNat_natCast, List.drop_take, show (t + 1) * w - t * w = w from by rw [← ht1]; exact Nat.add_sub_cancel_left _ _]
  have h6 : t * (w + 1) ≤ 72 := by
   have a1 : t * (w + 1) ≤ h * (w + 1) := Nat.mul_le_mul_right _ (by omega)
   have a2 : h * (w + 1) ≤ 72 := by rw [Nat.mul_add, Nat.mul_one, Nat.mul_comm]; omega
   exact Nat.le_trans a1 a2
  have hsz : (tx cs w t).size ≤ 72 := by
   show (txL cs w t).toArray.size ≤ 72
   rw [List.size_toArray]
   exact Nat.le_trans (txL_len cs w t) h6
  have hrs : (strOfNums ((cs.drop (t * w)).take w)).size ≤ 36 := by
   rw [strOfNums_size, List.length_take]
   exact Nat.le_trans (Nat.min_le_left _ _) (Nat.le_trans (Nat.le_mul_of_pos_right w hh1) hs)
  have hs1 : (tx cs w t ++ (⟨#[47]⟩ : ByteArray)).size ≤ 73 := by
   rw [ByteArray.size_append]
   exact Nat.add_le_add hsz (Nat.le_refl 1)
  have e0 : (0 : Int) ≤ ((t * w : Nat) : Int) := Int.natCast_nonneg _
  have e1 : ((t * w : Nat) : Int) ≤ (((t + 1) * w : Nat) : Int) := Int.ofNat_le.2 (Nat.mul_le_mul_right w (Nat.le_succ t))
  have e2 : (((t + 1) * w : Nat) : Int) ≤ (cs.length : Int) := Int.ofNat_le.2 (by rw [hn]; exact hle)
  have b1 : (tx cs w t).size + (strOfNums ((cs.drop (t * w)).take w)).size ≤ 9223372036854775807 := le_big (Nat.le_trans (Nat.add_le_add hsz hrs) (by decide))
  have b2 : (tx cs w t).size + 1 ≤ 9223372036854775807 := le_big (Nat.le_trans (Nat.add_le_add hsz (Nat.le_refl 1)) (by decide))
  have b3 : (tx cs w t ++ (⟨#[47]⟩ : ByteArray)).size + (strOfNums ((cs.drop (t * w)).take w)).size ≤ 9223372036854775807 := le_big (Nat.le_trans (Nat.add_le_add hs1 hrs) (by decide))
  have c1 : (t : Int) < (h : Int) := Int.ofNat_lt.2 hth
  have hwt := w64s t (Nat.le_trans (Nat.le_of_lt hth) (Nat.le_trans h4 (Nat.le_trans hs (by decide))))
  have m0 : wrap64 ((t : Int) * (w : Int)) = ((t * w : Nat) : Int) := by
   rw [← Int.natCast_mul]
   exact w64n _ (Nat.le_trans hA (by decide))
  have m1 : wrap64 (((t + 1 : Nat) : Int) * (w : Int)) = (((t + 1) * w : Nat) : Int) := by
   rw [← Int.natCast_mul]
   exact w64n _ (Nat.le_trans hB (by decide))
  refine Ev.step ih fun k => ?_
  rw [spec_tyText.l0, if_pos c1]
  by_cases h0 : t = 0
  ·have c2 : ¬ (t : Int) > 0 := by
    rw [h0]
    decide
   have hx : (tx cs w t) ++ strOfNums ((cs.drop (t * w)).take w) = tx cs w (t + 1) := by
    apply ba_ext
    rw [tx_list, txL_succ, if_pos h0, ByteArray.data_append, Array.toList_append, tx_list, h0]
    rfl
   rw [if_neg c2, hwt, m0, m1, if_pos e0, if_pos e1, if_pos e2, hcut, if_pos b1, hx]
  ·have c2 : (t : Int) > 0 := Int.natCast_pos.2 (Nat.pos_of_ne_zero h0)
   have hx : (tx cs w t ++ (⟨#[47]⟩ : ByteArray)) ++ strOfNums ((cs.drop (t * w)).take w) = tx cs w (t + 1) := by
    apply ba_ext
    rw [tx_list, txL_succ, if_neg h0, ByteArray.data_append, Array.toList_append, ByteArray.data_append, Array.toList_append, tx_list, List.append_assoc]
    rfl
   rw [if_pos c2, if_pos b2, hwt, m0, m1, if_pos e0, if_pos e1, if_pos e2, hcut, if_pos b3, hx]
theorem tyText_ev : Ev (fun k => spec_tyText.f k w h cs) (tx cs w h) := ty_text_l0 hw1 hh1 hs hn h 0 (by omega)
end
def cellsOK (cs : List Int) : Prop := ∀ c ∈ cs, ∃ b : UInt8, c = (b.toNat : Int) ∧ isCellB b = true
theorem jn_rows : ∀ l : List UInt8, jn (rows 47 l) = l
 | [] => rfl
 | b :: l => by
  have ih := jn_rows l
  unfold rows
  split
  ·rename_i e
   subst e
   cases hr : rows 47 l with
   | nil => exact absurd hr (rows_ne 47 l)
   | cons r rs =>
    rw [hr] at ih
    show [] ++ 47 :: jn (r :: rs) = _
    rw [ih]
    rfl
  ·split
   ·rename_i e
    exact absurd e (rows_ne 47 l)
   ·rename_i r rs e
    rw [e] at ih
    cases rs with
    | nil =>
     show b :: r = _
     rw [show r = l from ih]
    | cons s rs =>
     show (b :: r) ++ 47 :: jn (s :: rs) = _
     rw [List.cons_append]
     congr 1
theorem row_back : ∀ (rs : List (List UInt8)) (c : Nat), (∀ r ∈ rs, r.length = c) → (List.range rs.length).map (rowL (ints rs.flatten) c) = rs
 | [], _, _ => rfl
 | r :: rs, c, h => by
  have hr := h r List.mem_cons_self
  have hb : ∀ l : List UInt8, (ints l).map (fun n => UInt8.ofNat n.toNat) = l := by
   intro l
   unfold ints
   rw [List.map_map]
   exact (List.map_congr_left fun b _ => by simp).trans (List.map_id _)
  rw [List.length_cons, List.range_succ_eq_map, List.map_cons, List.map_map]
  have h0 : rowL (ints (r :: rs).flatten) c 0 = r := by
   unfold rowL
   rw [Nat.zero_mul, List.drop_zero, List.flatten_cons, ints_append, List.take_left' (by rw [ints_length]; exact hr), hb]
  rw [h0]
  congr 1
  refine Eq.trans (List.map_congr_left fun k _ => ?_) (row_back rs c fun x hx => h x (List.mem_cons_of_mem _ hx))
  show rowL (ints (r :: rs).flatten) c (k + 1) = _
  unfold rowL
  rw [List.flatten_cons, ints_append, Nat.succ_mul, Nat.add_comm, ← List.drop_drop, List.drop_left' (by rw [ints_length]; exact hr)]
theorem tray_own {t : ByteArray} {w h : Nat} {cs : List Int} (ht : trayOf t = some ((w : Int), (h : Int), cs)) : cellsOK cs ∧ tx cs w h = t ∧ cs = ints (rows 47 t.data.toList).flatten := by
 unfold trayOf trayRows at ht
 split at ht
 case isFalse => cases ht
 rename_i hk
 have h1 := Option.some.inj ht
 have hw : tw (rows 47 t.data.toList) = w := by have := congrArg (fun z => z.1) h1; simp only at this; omega
 have hh : (rows 47 t.data.toList).length = h := by have := congrArg (fun z => z.2.1) h1; simp only at this; omega
 have hc : ints (rows 47 t.data.toList).flatten = cs := congrArg (fun z => z.2.2) h1
 refine ⟨fun c hm => ?_, ?_, hc.symm⟩
 ·rw [← hc] at hm
  unfold ints at hm
  obtain ⟨b, hb, rfl⟩ := List.mem_map.1 hm
  obtain ⟨row, r1, r2⟩ := List.mem_flatten.1 hb
  exact ⟨b, rfl, List.all_eq_true.1 (hk.2.1 row r1).2 b r2⟩
 ·refine ba_ext ?_
  rw [tx_list]
  unfold txL
  rw [← hc, ← hh, row_back (rows 47 t.data.toList) w fun r hr => by rw [← hw]; exact (hk.2.1 r hr).1, jn_rows]
end Go.Proofs.YtcpeldgnabfdmabGreatDoor.Q
end
section
namespace Go.Proofs.YtcpeldgnabfdmabGreatDoor.Q
open Go.RowKit Go.Proofs.YtcpeldgnabfdmabGreatDoorW.PrintWords Go.Proofs.YtcpeldgnabfdmabGreatDoorW.PrintLast Go.Proofs.YtcpeldgnabfdmabGreatDoorW.PrintMore
set_option linter.unusedSectionVars false
def cnt (cs s : List Int) : List Int := s.map (rd cs)
def stepL (c : List Int) : List Int := if 46 ∈ c then c.erase 46 ++ [46] else c
theorem cnt_set (out s : List Int) (v : Int) (hn : s.Nodup) (hr : ∀ x ∈ s, 0 ≤ x ∧ x < (out.length : Int)) (j : Nat) (hj : j < s.length) : cnt (out.set (s[j]).toNat v) s = (cnt out s).set j v := by
 unfold cnt
 refine List.ext_getElem (by simp) fun i h1 h2 => ?_
 have hi : i < s.length := by simpa using h1
 obtain ⟨a0, a1⟩ := hr _ (List.getElem_mem hj)
 obtain ⟨b0, b1⟩ := hr _ (List.getElem_mem hi)
 rw [List.getElem_map, rd_set out _ _ v a0 a1 b0, List.getElem_set, List.getElem_map]
 by_cases e : j = i
 ·subst e
  rw [if_pos rfl, if_pos rfl]
 ·rw [if_neg e, if_neg fun h => e ((List.getElem_inj hn).1 h).symm]
theorem stepL_free (c : List Int) : stepL (c ++ [46]) = stepL c ++ [46] := by
 unfold stepL
 rw [if_pos (by simp)]
 by_cases h : (46 : Int) ∈ c
 ·rw [if_pos h, List.erase_append_left _ h]
 ·rw [if_neg h, List.erase_append_right _ h] <;> simp
theorem stepL_ball (c : List Int) (v : Int) (hv : v ≠ 46) : stepL (c ++ [v]) = if 46 ∈ c then c.erase 46 ++ [v, 46] else c ++ [v] := by
 unfold stepL
 by_cases h : (46 : Int) ∈ c
 ·rw [if_pos (by simp [h]), if_pos h, List.erase_append_left _ h]
  simp
 ·rw [if_neg (by simp [h, Ne.symm hv]), if_neg h]
theorem set_mid (a : List Int) (x v : Int) (b : List Int) (n : Nat) (h : n = a.length) : (a ++ x :: b).set n v = a ++ v :: b := by
 subst h
 rw [List.set_append_right _ _ (Nat.le_refl _), Nat.sub_self, List.set_cons_zero]
theorem ball_46 {v : Int} (h : isB v = true) : v ≠ 46 := by
 rintro rfl
 rw [isB_46] at h
 cases h
structure Turns (n : Nat) (F : List Int → List Int → List Int) (start tgt : List Int → List Int) (s : List Int) : Prop where
 cnt : ∀ A : List Int, A.length = n → Q.cnt A s = start s → Q.cnt (F s A) s = tgt s
 len : ∀ A : List Int, (F s A).length = A.length
 off : ∀ (A : List Int) (y : Int), A.length = n → 0 ≤ y → y ∉ s → rd (F s A) y = rd A y
theorem turns_all (n : Nat) (F : List Int → List Int → List Int) (start tgt : List Int → List Int) : ∀ (Ls : List (List Int)) (A : List Int), (∀ s ∈ Ls, Turns n F start tgt s) → Ls.flatten.Nodup → (∀ s ∈ Ls, ∀ x ∈ s, 0 ≤ x) → A.length = n → (∀ s ∈ Ls, cnt A s = start s) →
  (Ls.foldl (fun A s => F s A) A).length = n ∧ (∀ s ∈ Ls, cnt (Ls.foldl (fun A s => F s A) A) s = tgt s) ∧ ∀ y, 0 ≤ y → y ∉ Ls.flatten → rd (Ls.foldl (fun A s => F s A) A) y = rd A y
 | [], A, _, _, _, hl, _ => ⟨hl, fun s hs => (by cases hs), fun _ _ _ => rfl⟩
 | s :: Ls, A, hT, hn, hx, hl, hs => by
  rw [List.flatten_cons] at hn
  obtain ⟨n1, n2, n3⟩ := List.nodup_append.1 hn
  have hs0 := hT s List.mem_cons_self
  have keep : ∀ t ∈ Ls, cnt (F s A) t = cnt A t := fun t ht => List.map_congr_left fun y hy => hs0.off A y hl (hx t (List.mem_cons_of_mem _ ht) y hy) fun hys => n3 y hys y (List.mem_flatten.2 ⟨t, ht, hy⟩) rfl
  obtain ⟨i1, i2, i3⟩ := turns_all n F start tgt Ls (F s A) (fun t ht => hT t (List.mem_cons_of_mem _ ht)) n2 (fun t ht => hx t (List.mem_cons_of_mem _ ht)) ((hs0.len A).trans hl) fun t ht => (keep t ht).trans (hs t (List.mem_cons_of_mem _ ht))
  refine ⟨i1, fun t ht => ?_, fun y hy0 hy => ?_⟩
  ·rcases List.mem_cons.1 ht with rfl | ht
   ·have h1 : cnt (Ls.foldl (fun A s => F s A) (F t A)) t = cnt (F t A) t := List.map_congr_left fun y hy => i3 y (hx t List.mem_cons_self y hy) fun hyl => n3 y hy y hyl rfl
    show cnt (Ls.foldl (fun A s => F s A) (F t A)) t = _
    rw [h1]
    exact hs0.cnt A hl (hs t List.mem_cons_self)
   ·exact i2 t ht
  ·rw [List.flatten_cons, List.mem_append] at hy
   show rd (Ls.foldl (fun A s => F s A) (F s A)) y = _
   rw [i3 y hy0 fun h => hy (.inr h), hs0.off A y hl hy0 fun h => hy (.inl h)]
theorem arr_ext {n : Nat} {A B : List Int} (ha : A.length = n) (hb : B.length = n) (Ls : List (List Int)) (h1 : ∀ s ∈ Ls, cnt A s = cnt B s) (h2 : ∀ y : Int, 0 ≤ y → y < (n : Int) → y ∉ Ls.flatten → rd A y = rd B y) : A = B := by
 refine List.ext_getElem (by omega) fun i i1 i2 => ?_
 rw [← rd_nat A i i1, ← rd_nat B i i2]
 by_cases hm : (i : Int) ∈ Ls.flatten
 ·obtain ⟨s, hs, hx⟩ := List.mem_flatten.1 hm
  exact List.map_inj_left.1 (h1 s hs) _ hx
 ·exact h2 i (by omega) (by omega) hm
def plainS (cs s : List Int) : Prop := ∀ x ∈ s, isB (rd cs x) = true ∨ rd cs x = 46
def stepPairs (cs : List Int) : List Int → Int → Bool → List (Int × Int)
 | [], _, _ => []
 | x :: l, p, room => if bI cs x = true then (x, if room = true then p else x) :: stepPairs cs l x (room || decide (rd cs x = 46)) else stepPairs cs l x (room || decide (rd cs x = 46))
theorem rep_succ (n : Nat) : List.replicate (n + 1) (46 : Int) = 46 :: List.replicate n 46 := rfl
theorem step_lay (cs s : List Int) (hn : s.Nodup) : ∀ (l pre : List Int) (p : Int) (room : Bool) (out : List Int), s = pre ++ l → room = decide (46 ∈ cnt cs pre) → (∀ h : pre ≠ [], p = pre.getLast h) → plainS cs s → (∀ x ∈ s, 0 ≤ x ∧ x < (out.length : Int)) →
  cnt out s = stepL (cnt cs pre) ++ List.replicate l.length 46 → cnt (setsL cs (stepPairs cs l p room) out) s = stepL (cnt cs s)
 | [], pre, p, room, out, hs, _, _, _, _, hc => by
  rw [List.append_nil] at hs
  rw [hs] at hc ⊢
  show cnt out pre = _
  simpa using hc
 | x :: l, pre, p, room, out, hs, hroom, hp, hpl, hr, hc => by
  have hlen : pre.length < s.length := by rw [hs, List.length_append, List.length_cons]; omega
  have hsx : s[pre.length] = x := by simp [hs]
  have hs2 : s = (pre ++ [x]) ++ l := by rw [hs]; simp
  have hcp : cnt cs (pre ++ [x]) = cnt cs pre ++ [rd cs x] := by simp [cnt]
  have hxs : x ∈ s := by rw [hs]; simp
  have hroom2 : (room || decide (rd cs x = 46)) = decide (46 ∈ cnt cs (pre ++ [x])) := by
   have key : (46 ∈ cnt cs pre ++ [rd cs x]) ↔ (46 ∈ cnt cs pre ∨ rd cs x = 46) := by
    rw [List.mem_append, List.mem_singleton]
    exact or_congr Iff.rfl ⟨Eq.symm, Eq.symm⟩
   rw [hroom, hcp, decide_eq_decide.2 key, Bool.decide_or]
  have hlast : ∀ h : pre ++ [x] ≠ [], x = (pre ++ [x]).getLast h := fun h => by simp
  unfold stepPairs
  by_cases hb : bI cs x = true
  ·rw [if_pos hb]
   have hv : rd cs x ≠ 46 := ball_46 hb
   show cnt (setsL cs (stepPairs cs l x _) (out.set (if room = true then p else x).toNat (rd cs x))) s = _
   refine step_lay cs s hn l (pre ++ [x]) x _ _ hs2 hroom2 hlast hpl (by rw [List.length_set]; exact hr) ?_
   rw [hcp, stepL_ball _ _ hv]
   rw [hroom]
   by_cases h46 : (46 : Int) ∈ cnt cs pre
   ·rw [if_pos (decide_eq_true h46), if_pos h46]
    have hne : pre ≠ [] := by rintro rfl; simp [cnt] at h46
    have hpp := List.length_pos_iff.2 hne
    have hcl : (cnt cs pre).length = pre.length := by simp [cnt]
    have hel : ((cnt cs pre).erase 46).length = pre.length - 1 := by rw [List.length_erase_of_mem h46, hcl]
    have hpe : p = s[pre.length - 1] := by rw [hp hne, List.getLast_eq_getElem]; simp only [hs]; rw [List.getElem_append_left (by omega)]
    rw [hpe, cnt_set out s _ hn hr (pre.length - 1) (by omega), hc]
    unfold stepL
    rw [if_pos h46, List.append_assoc, List.singleton_append, set_mid _ _ _ _ _ hel.symm, List.length_cons, rep_succ]
    simp
   ·rw [if_neg (by simpa using h46), if_neg h46]
    have hcl : (cnt cs pre).length = pre.length := by simp [cnt]
    rw [← hsx, cnt_set out s _ hn hr pre.length hlen, hc, hsx]
    unfold stepL
    rw [if_neg h46, List.length_cons, rep_succ, set_mid _ _ _ _ _ hcl.symm]
    simp
  ·rw [if_neg hb]
   have hv : rd cs x = 46 := (hpl x hxs).resolve_left hb
   refine step_lay cs s hn l (pre ++ [x]) x _ _ hs2 hroom2 hlast hpl hr ?_
   rw [hcp, hv, stepL_free, hc, List.length_cons, rep_succ]
   simp
def specS (cs : List Int) : List Int → Int → Bool → List Int → List Int
 | [], _, _, out => out
 | x :: l, p, fr, out => if bI cs x = true then (if fr = true then specS cs l x fr ((out.set p.toNat (rd cs x)).set x.toNat 46) else specS cs l x fr out) else specS cs l x true out
theorem specS_lay (cs s : List Int) (hn : s.Nodup) : ∀ (l pre : List Int) (p : Int) (fr : Bool) (out : List Int), s = pre ++ l → fr = decide (46 ∈ cnt cs pre) → (∀ h : pre ≠ [], p = pre.getLast h) → plainS cs s → (∀ x ∈ s, 0 ≤ x ∧ x < (out.length : Int)) →
  cnt out s = stepL (cnt cs pre) ++ cnt cs l → cnt (specS cs l p fr out) s = stepL (cnt cs s)
 | [], pre, p, fr, out, hs, _, _, _, _, hc => by
  rw [List.append_nil] at hs
  rw [hs] at hc ⊢
  simpa [cnt, specS] using hc
 | x :: l, pre, p, fr, out, hs, hroom, hp, hpl, hr, hc => by
  have hlen : pre.length < s.length := by rw [hs, List.length_append, List.length_cons]; omega
  have hsx : s[pre.length] = x := by simp [hs]
  have hs2 : s = (pre ++ [x]) ++ l := by rw [hs]; simp
  have hcp : cnt cs (pre ++ [x]) = cnt cs pre ++ [rd cs x] := by simp [cnt]
  have hcx : cnt cs (x :: l) = rd cs x :: cnt cs l := rfl
  have hxs : x ∈ s := by rw [hs]; simp
  have hlast : ∀ h : pre ++ [x] ≠ [], x = (pre ++ [x]).getLast h := fun h => by simp
  unfold specS
  by_cases hb : bI cs x = true
  ·rw [if_pos hb]
   have hv : rd cs x ≠ 46 := ball_46 hb
   have hroom2 : fr = decide (46 ∈ cnt cs (pre ++ [x])) := by
    rw [hroom, hcp, Bool.eq_iff_iff]
    simp [Ne.symm hv]
   by_cases h46 : (46 : Int) ∈ cnt cs pre
   ·rw [if_pos (by rw [hroom]; exact decide_eq_true h46)]
    refine specS_lay cs s hn l (pre ++ [x]) x _ _ hs2 hroom2 hlast hpl (by rw [List.length_set, List.length_set]; exact hr) ?_
    have hne : pre ≠ [] := by rintro rfl; simp [cnt] at h46
    have hpp := List.length_pos_iff.2 hne
    have hcl : (cnt cs pre).length = pre.length := by simp [cnt]
    have hel : ((cnt cs pre).erase 46).length = pre.length - 1 := by rw [List.length_erase_of_mem h46, hcl]
    have hpe : p = s[pre.length - 1] := by rw [hp hne, List.getLast_eq_getElem]; simp only [hs]; rw [List.getElem_append_left (by omega)]
    have h1 : cnt (out.set (s[pre.length - 1]).toNat (rd cs x)) s = (cnt cs pre).erase 46 ++ rd cs x :: rd cs x :: cnt cs l := by
     rw [cnt_set out s _ hn hr (pre.length - 1) (by omega), hc, hcx]
     unfold stepL
     rw [if_pos h46, List.append_assoc, List.singleton_append, set_mid _ _ _ _ _ hel.symm]
    rw [hpe]
    have h2 := cnt_set (out.set (s[pre.length - 1]).toNat (rd cs x)) s 46 hn (by rw [List.length_set]; exact hr) pre.length hlen
    rw [hsx] at h2
    rw [h2, h1, hcp, stepL_ball _ _ hv, if_pos h46]
    rw [show (cnt cs pre).erase 46 ++ rd cs x :: rd cs x :: cnt cs l = ((cnt cs pre).erase 46 ++ [rd cs x]) ++ rd cs x :: cnt cs l by simp, set_mid _ _ _ _ _ (by rw [List.length_append, hel, List.length_singleton]; omega)]
    simp
   ·rw [if_neg (by rw [hroom]; simpa using h46)]
    refine specS_lay cs s hn l (pre ++ [x]) x _ _ hs2 hroom2 hlast hpl hr ?_
    rw [hc, hcp, stepL_ball _ _ hv, if_neg h46, hcx]
    unfold stepL
    rw [if_neg h46]
    simp
  ·rw [if_neg hb]
   have hv : rd cs x = 46 := (hpl x hxs).resolve_left hb
   have hroom2 : true = decide (46 ∈ cnt cs (pre ++ [x])) := by rw [hcp, hv]; simp
   refine specS_lay cs s hn l (pre ++ [x]) x _ _ hs2 hroom2 hlast hpl hr ?_
   rw [hcp, hv, stepL_free, hc, hcx, hv]
   simp
theorem specS_len (cs : List Int) : ∀ (l : List Int) (p : Int) (fr : Bool) (out : List Int), (specS cs l p fr out).length = out.length
 | [], _, _, _ => rfl
 | x :: l, p, fr, out => by
  unfold specS
  split
  ·split
   ·rw [specS_len cs l, List.length_set, List.length_set]
   ·exact specS_len cs l _ _ _
  ·exact specS_len cs l _ _ _
theorem specS_off (cs : List Int) : ∀ (l : List Int) (p : Int) (fr : Bool) (out : List Int) (y : Int), (∀ x ∈ l, 0 ≤ x ∧ x < (out.length : Int)) → (fr = true → 0 ≤ p ∧ p < (out.length : Int) ∧ y ≠ p) → 0 ≤ y → y ∉ l → rd (specS cs l p fr out) y = rd out y
 | [], _, _, _, _, _, _, _, _ => rfl
 | x :: l, p, fr, out, y, hr, hp, hy, hyl => by
  obtain ⟨x0, x1⟩ := hr x List.mem_cons_self
  have hyx : y ≠ x := fun e => hyl (by rw [e]; exact List.mem_cons_self)
  have hyl2 : y ∉ l := fun h => hyl (List.mem_cons_of_mem _ h)
  have hr2 : ∀ x ∈ l, 0 ≤ x ∧ x < (out.length : Int) := fun z hz => hr z (List.mem_cons_of_mem _ hz)
  unfold specS
  split
  ·split
   ·rename_i hf
    obtain ⟨p0, p1, p2⟩ := hp hf
    rw [specS_off cs l x fr _ y (by rw [List.length_set, List.length_set]; exact hr2) (fun _ => ⟨x0, by rw [List.length_set, List.length_set]; exact x1, hyx⟩) hy hyl2, rd_set _ _ _ _ x0 (by rw [List.length_set]; exact x1) hy, if_neg hyx, rd_set _ _ _ _ p0 p1 hy, if_neg p2]
   ·exact specS_off cs l x fr out y hr2 (fun _ => ⟨x0, x1, hyx⟩) hy hyl2
  ·exact specS_off cs l x true out y hr2 (fun _ => ⟨x0, x1, hyx⟩) hy hyl2
theorem setsL_off (cs : List Int) : ∀ (Q : List (Int × Int)) (out : List Int) (y : Int), (∀ p ∈ Q, 0 ≤ p.2 ∧ p.2 < (out.length : Int) ∧ y ≠ p.2) → 0 ≤ y → rd (setsL cs Q out) y = rd out y
 | [], _, _, _, _ => rfl
 | p :: Q, out, y, h, hy => by
  obtain ⟨p0, p1, p2⟩ := h p List.mem_cons_self
  show rd (setsL cs Q (out.set p.2.toNat (rd cs p.1))) y = _
  rw [setsL_off cs Q _ y (fun q hq => by rw [List.length_set]; exact h q (List.mem_cons_of_mem _ hq)) hy, rd_set _ _ _ _ p0 p1 hy, if_neg p2]
theorem stepPairs_snd (cs : List Int) : ∀ (l : List Int) (p : Int) (room : Bool), ((stepPairs cs l p room).map Prod.snd).Sublist (if room = true then p :: l else l)
 | [], p, room => by
  unfold stepPairs
  exact List.nil_sublist _
 | x :: l, p, room => by
  have ih := stepPairs_snd cs l x (room || decide (rd cs x = 46))
  unfold stepPairs
  by_cases hb : bI cs x = true
  ·have hv : rd cs x ≠ 46 := ball_46 hb
   rw [decide_eq_false hv, Bool.or_false] at ih
   rw [if_pos hb, List.map_cons, decide_eq_false hv, Bool.or_false]
   cases room with
   | true =>
    rw [if_pos rfl] at ih ⊢
    exact ih.cons_cons p
   | false =>
    rw [if_neg (by decide)] at ih ⊢
    exact ih.cons_cons x
  ·rw [if_neg hb]
   cases room with
   | true =>
    rw [if_pos rfl]
    rw [Bool.true_or, if_pos rfl] at ih
    exact ih.cons p
   | false =>
    rw [if_neg (by decide)]
    rw [Bool.false_or] at ih
    split at ih
    ·exact ih
    ·exact ih.cons x
theorem stepPairs_fst (cs : List Int) : ∀ (l : List Int) (p : Int) (room : Bool), (stepPairs cs l p room).map Prod.fst = l.filter (bI cs)
 | [], _, _ => rfl
 | x :: l, p, room => by
  unfold stepPairs
  by_cases hb : bI cs x = true
  ·rw [if_pos hb, List.map_cons, stepPairs_fst, List.filter_cons_of_pos hb]
  ·rw [if_neg hb, stepPairs_fst, List.filter_cons_of_neg hb]
end Go.Proofs.YtcpeldgnabfdmabGreatDoor.Q
end
section
namespace Go.Proofs.YtcpeldgnabfdmabGreatDoor.Q
open Go.RowKit Go.Shelf Go.Proofs.YtcpeldgnabfdmabGreatDoorW.PrintWords Go.Proofs.YtcpeldgnabfdmabGreatDoorW.PrintLast Go.Proofs.YtcpeldgnabfdmabGreatDoorW.PrintMore
set_option linter.unusedSectionVars false
def stepP (cs : List Int) (P : List (List Int)) : List (Int × Int) := P.flatMap fun s => stepPairs cs s 0 false
def stepC (w h : Nat) (cs : List Int) (d : Nat) : List Int := laidCells cs (emptyC cs) (asF (stepP cs (strL w h cs d)).reverse) fun _ => true
theorem setsL_app (cs : List Int) (P Q : List (Int × Int)) (out : List Int) : setsL cs (P ++ Q) out = setsL cs Q (setsL cs P out) := by
 unfold setsL
 rw [List.foldl_append]
theorem setsL_flat (cs : List Int) (f : List Int → List (Int × Int)) : ∀ (P : List (List Int)) (out : List Int), setsL cs (P.flatMap f) out = P.foldl (fun A s => setsL cs (f s) A) out
 | [], _ => rfl
 | s :: P, out => by
  rw [List.flatMap_cons, setsL_app, setsL_flat cs f P]
  rfl
theorem stepP_keys (cs : List Int) : ∀ P : List (List Int), (stepP cs P).map Prod.fst = P.flatten.filter (bI cs)
 | [] => rfl
 | s :: P => by
  unfold stepP
  rw [List.flatMap_cons, List.map_append, List.flatten_cons, List.filter_append, stepPairs_fst]
  congr 1
  exact stepP_keys cs P
theorem stepP_vals (cs : List Int) : ∀ P : List (List Int), ((stepP cs P).map Prod.snd).Sublist P.flatten
 | [] => List.Sublist.refl _
 | s :: P => by
  unfold stepP
  rw [List.flatMap_cons, List.map_append, List.flatten_cons]
  exact (stepPairs_snd cs s 0 false).append (stepP_vals cs P)
section
variable {w h : Nat} {cs : List Int} (hw : w ≤ 7) (hh : h ≤ 7) (hs : w * h ≤ 36) {d : Nat} (hd : d < 4)
include hw hh hs hd
theorem str_flat_mem (y : Int) (y0 : 0 ≤ y) (y1 : y < ((w * h : Nat) : Int)) : y ∈ (strL w h cs d).flatten ↔ rd cs y ≠ 35 := by
 have hpm : y ∈ (strL w h cs d).flatten ↔ y ∈ (cutsL w h cs d).flatten := (List.mergeSort_perm (cutsL w h cs d) leM).flatten.mem_iff
 rw [hpm, cuts_flat, List.mem_filter]
 obtain ⟨n, rfl⟩ := Int.eq_ofNat_of_zero_le y0
 have h1 := (lines_ok hw hh hs hd).2.1 n (by omega)
 constructor
 ·intro h2
  simpa using h2.2
 ·intro h2
  exact ⟨h1, by simpa using h2⟩
theorem str_plain (hn : cs.length = w * h) (hc : cellsOK cs) : ∀ s ∈ strL w h cs d, plainS cs s := fun s hm x hx => by
 obtain ⟨x0, x1⟩ := (str_in hw hh hs hd hn s hm).2 x hx
 have h1 := (str_flat_mem hw hh hs hd (cs := cs) x x0 (by rw [← hn]; exact x1)).1 (List.mem_flatten.2 ⟨s, hm, hx⟩)
 obtain ⟨n, rfl⟩ := Int.eq_ofNat_of_zero_le x0
 have hnl : n < cs.length := by omega
 have h2 := rd_nat cs n hnl
 obtain ⟨b, hb, hb2⟩ := hc _ (List.getElem_mem hnl)
 rw [← h2] at hb
 rw [hb] at h1 ⊢
 have key : ∀ b ∈ cellSet, ((b.toNat : Nat) : Int) ≠ 35 → isB (b.toNat : Int) = true ∨ ((b.toNat : Nat) : Int) = 46 := by decide
 exact key b (List.contains_iff_mem.1 hb2) h1
theorem empty_cnt (hn : cs.length = w * h) (hc : cellsOK cs) : ∀ s ∈ strL w h cs d, cnt (emptyC cs) s = List.replicate s.length 46 := fun s hm => by
 refine List.eq_replicate_iff.2 ⟨by simp [cnt], fun v hv => ?_⟩
 obtain ⟨x, hx, rfl⟩ := List.mem_map.1 hv
 obtain ⟨x0, x1⟩ := (str_in hw hh hs hd hn s hm).2 x hx
 obtain ⟨n, rfl⟩ := Int.eq_ofNat_of_zero_le x0
 rw [emptyC_rd cs n (by omega)]
 rcases str_plain hw hh hs hd hn hc s hm _ hx with h | h
 ·rw [if_pos h]
 ·rw [h, isB_46, if_neg (by decide)]
theorem empty_off (hn : cs.length = w * h) (y : Int) (y0 : 0 ≤ y) (y1 : y < ((w * h : Nat) : Int)) (hy : y ∉ (strL w h cs d).flatten) : rd (emptyC cs) y = rd cs y := by
 have h1 : rd cs y = 35 := Classical.byContradiction fun h => hy ((str_flat_mem hw hh hs hd y y0 y1).2 h)
 obtain ⟨n, rfl⟩ := Int.eq_ofNat_of_zero_le y0
 rw [emptyC_rd cs n (by omega), h1, isB_35, if_neg (by decide)]
theorem str_nodup : ∀ s ∈ strL w h cs d, s.Nodup := fun _ hm => (str_flat hw hh hs hd).sublist (List.sublist_flatten_of_mem hm)
theorem step_fits (hn : cs.length = w * h) : fitsB (stepP cs (strL w h cs d)).reverse cs.length = true := by
 have h1 : (((stepP cs (strL w h cs d)).reverse).map Prod.snd).Nodup := by
  rw [List.map_reverse]
  exact (List.reverse_perm _).nodup_iff.2 ((str_flat hw hh hs hd).sublist (stepP_vals cs _))
 have hall : ∀ x ∈ (strL w h cs d).flatten, 0 ≤ x ∧ x < (cs.length : Int) := fun x hx => by
  obtain ⟨s, h1, h2⟩ := List.mem_flatten.1 hx
  exact (str_in hw hh hs hd hn s h1).2 x h2
 unfold fitsB
 rw [Bool.and_eq_true, List.all_eq_true, List.all_eq_true]
 refine ⟨fun p hp => ?_, fun p hp => List.all_eq_true.2 fun q hq => ?_⟩
 ·have hp := List.mem_reverse.1 hp
  have k1 : p.1 ∈ (stepP cs (strL w h cs d)).map Prod.fst := List.mem_map.2 ⟨p, hp, rfl⟩
  rw [stepP_keys] at k1
  have k2 := hall _ (List.mem_filter.1 k1).1
  have k3 := hall _ ((stepP_vals cs _).subset (List.mem_map.2 ⟨p, hp, rfl⟩))
  simp only [Bool.and_eq_true, decide_eq_true_eq]
  omega
 ·by_cases e : p.2 = q.2
  ·rw [snd_one _ h1 p hp q hq e]
   simp
  ·simp [e]
theorem sets_asF (Q : List (Int × Int)) (hn : cs.length = w * h) (hf : fitsB Q.reverse cs.length = true) (hk : (Q.map Prod.fst).Nodup) : setsL cs Q (emptyC cs) = laidCells cs (emptyC cs) (asF Q.reverse) fun _ => true := by
 have hF := fits_tilt hf
 have hkr : ((Q.reverse).map Prod.fst).Nodup := by rw [List.map_reverse]; exact (List.reverse_perm _).nodup_iff.2 hk
 have h1 := sets_laid cs (emptyC cs) (asF Q.reverse) hF Q (fun _ => false) fun p hp => asF_of _ hkr p (List.mem_reverse.2 hp)
 rw [laid_none cs (emptyC cs) _ (by unfold emptyC; rw [List.length_map])] at h1
 rw [h1]
 refine laid_congr cs (emptyC cs) _ _ _ _ fun x _ => ⟨rfl, fun hx => ?_⟩
 rw [Bool.false_or, decide_eq_true_iff]
 cases e : asF Q.reverse (x : Int) with
 | none => exact absurd e hx
 | some c => exact List.mem_map.2 ⟨_, List.mem_reverse.1 (asF_mem _ _ _ e), rfl⟩
theorem stepC_sets (hn : cs.length = w * h) : (strL w h cs d).foldl (fun A s => setsL cs (stepPairs cs s 0 false) A) (emptyC cs) = stepC w h cs d := by
 rw [← setsL_flat]
 exact sets_asF hw hh hs hd _ hn (step_fits hw hh hs hd hn) (by rw [show ((strL w h cs d).flatMap fun s => stepPairs cs s 0 false).map Prod.fst = _ from stepP_keys cs _]; exact (str_flat hw hh hs hd).filter _)
theorem stepC_len : (stepC w h cs d).length = cs.length := laid_len _ _ _ _
theorem stepC_cnt (hn : cs.length = w * h) (hc : cellsOK cs) : (∀ s ∈ strL w h cs d, cnt (stepC w h cs d) s = stepL (cnt cs s)) ∧ ∀ y : Int, 0 ≤ y → y < ((w * h : Nat) : Int) → y ∉ (strL w h cs d).flatten → rd (stepC w h cs d) y = rd cs y := by
 have hin := str_in hw hh hs hd hn
 have h1 := turns_all (w * h) (fun s A => setsL cs (stepPairs cs s 0 false) A) (fun s => List.replicate s.length 46) (fun s => stepL (cnt cs s)) (strL w h cs d) (emptyC cs) (fun s hm => ?_) (str_flat hw hh hs hd) (fun s hm x hx => ((hin s hm).2 x hx).1) (by unfold emptyC; rw [List.length_map, hn]) (empty_cnt hw hh hs hd hn hc)
 ·rw [stepC_sets hw hh hs hd hn] at h1
  exact ⟨h1.2.1, fun y y0 y1 hy => (h1.2.2 y y0 hy).trans (empty_off hw hh hs hd hn y y0 y1 hy)⟩
 ·have hr : ∀ A : List Int, A.length = w * h → ∀ x ∈ s, 0 ≤ x ∧ x < (A.length : Int) := fun A hA x hx => by rw [hA, ← hn]; exact (hin s hm).2 x hx
  refine ⟨fun A hA hst => ?_, fun A => setsL_len _ _ _, fun A y hA y0 hy => setsL_off cs _ A y (fun p hp => ?_) y0⟩
  ·exact step_lay cs s (str_nodup hw hh hs hd s hm) s [] 0 false A rfl (by simp [cnt]) (fun h => absurd rfl h) (str_plain hw hh hs hd hn hc s hm) (hr A hA) (by rw [hst]; simp [cnt, stepL])
  ·have h2 := (stepPairs_snd cs s 0 false).subset (List.mem_map.2 ⟨p, hp, rfl⟩)
   rw [if_neg (by decide)] at h2
   exact ⟨(hr A hA _ h2).1, (hr A hA _ h2).2, fun e => hy (e ▸ h2)⟩
end
end Go.Proofs.YtcpeldgnabfdmabGreatDoor.Q
end
section
namespace Go.Proofs.YtcpeldgnabfdmabGreatDoor.Q
open Go.RowKit Go.Proofs.YtcpeldgnabfdmabGreatDoorW.PrintWords Go.Proofs.YtcpeldgnabfdmabGreatDoorW.PrintLast Go.Proofs.YtcpeldgnabfdmabGreatDoorW.PrintMore
attribute [local go_sem] max2_int min2_int max_two min_two max_three min_three max_four min_four
set_option linter.unusedVariables false
set_option linter.unusedSimpArgs false
def impl_bit.f (a0 : Bool) : Option (Int) := if a0 = true then (some 1) else (some 0)
set_option maxHeartbeats 8000000 in
set_option maxRecDepth 100000 in
theorem impl_bit.calls (a0 : Bool) (r : Int) (w : World) (h : impl_bit.f a0 = some r) :
  Calls Tryz.prog 29 #[.bool a0] w fun e w' => e = .returned (.int .i64 r) ∧ Drawn0 w w' := by
 have H : (if a0 = true then (some 1) else (some 0)) = some r := h
 clear h
 by_cases c2 : a0 = true
 ·subst c2
  have H1 : (some 1) = some r := by rw [if_pos rfl] at H; exact H
  clear H
  have H := H1
  clear H1
  obtain rfl := Option.some.inj H
  go_enter Tryz.func29, Tryz.ntmps29
  go_wp2
  go_ret
  exact ⟨by first | rfl | (simp; done) | (simp [*]; done), by repeat (first | exact Drawn0.refl _ | apply Drawn0.step)⟩
 ·replace c2 := Bool.eq_false_iff.mpr c2
  subst c2
  have H1 : (some 0) = some r := by rw [if_neg (show ¬ (false = true) by decide)] at H; exact H
  clear H
  have H := H1
  clear H1
  obtain rfl := Option.some.inj H
  go_enter Tryz.func29, Tryz.ntmps29
  go_wp2
  go_ret
  exact ⟨by first | rfl | (simp; done) | (simp [*]; done), by repeat (first | exact Drawn0.refl _ | apply Drawn0.step)⟩
end Go.Proofs.YtcpeldgnabfdmabGreatDoor.Q
end
section
namespace Go.Proofs.YtcpeldgnabfdmabGreatDoor.Q
set_option linter.unusedSectionVars false
open Go.RowKit Go.Proofs.YtcpeldgnabfdmabGreatDoorW.PrintWords Go.Proofs.YtcpeldgnabfdmabGreatDoorW.PrintLast Go.Proofs.YtcpeldgnabfdmabGreatDoorW.PrintMore
def bitI (b : Bool) : Int := if b = true then 1 else 0
theorem bit_eq (b : Bool) : impl_bit.f b = some (bitI b) := by cases b <;> rfl
def spC (cs own : List Int) : List Int → Nat → Bool → List (Int × Int) → Option (List (Int × Int))
 | [], _, _, m => some m
 | x :: l, i, room, m => if 0 ≤ x ∧ x < (cs.length : Int) ∧ x ≤ 1000000 then (impl_isBall.f (rd cs x)).bind fun b => if b = true then (if 0 ≤ wrap64 ((i : Int) - bitI room) ∧ wrap64 ((i : Int) - bitI room) < (own.length : Int) ∧ 0 ≤ rd own (wrap64 ((i : Int) - bitI room)) ∧ rd own (wrap64 ((i : Int) - bitI room)) ≤ 1000000 ∧ m.length < 1000000 then spC cs own l (i + 1) (room || decide (rd cs x = 46)) ((x, rd own (wrap64 ((i : Int) - bitI room))) :: m) else none) else spC cs own l (i + 1) (room || decide (rd cs x = 46)) m else none
def spP (cs : List Int) : List (List Int) → List (Int × Int) → Option (List (Int × Int))
 | [], m => some m
 | p :: P, m => if p.length ≤ 1000 then (spC cs p p 0 false m).bind fun m => spP cs P m else none
def impl_tray_stepped.f (k : Nat) (w h : Int) (cs : List Int) (dir : Int) : Option (Int × Int × List Int) :=
 (impl_tray_stretches.f k w h cs dir).bind fun P => if P.length ≤ 1000 then (spP cs P []).bind fun m => if (0 < cs.length ∧ cs.length ≤ 1000) ∧ fitsB m cs.length = true then some (w, h, laidCells cs (emptyC cs) (asF m) (fun _ => true)) else none else none
set_option maxHeartbeats 16000000 in
set_option maxRecDepth 100000 in
theorem impl_tray_stepped.calls (k : Nat) (a0_0 a0_1 : Int) (A0_2 : Option Addr) (c0_2 : Nat) (l0_2 : List Int) (a1 : Int) (r1 r2 : Int) (r3 : List Int) (w : World) (hr0_2 : Kd.C (Kd.int .u8) w A0_2 l0_2.length l0_2) (hc0_2 : l0_2.length ≤ c0_2) (h : impl_tray_stepped.f k a0_0 a0_1 l0_2 a1 = some (r1, r2, r3)) :
  Calls Tryz.prog 14 #[.agg #[.int .i64 a0_0, .int .i64 a0_1, .slice A0_2 l0_2.length c0_2], .int .u8 a1] w fun e w' => ∃ v2_ : Value, e = .returned (.agg #[.int .i64 r1, .int .i64 r2, v2_]) ∧ Kd.R (Kd.int .u8) 5 w' w.heap.size (fun _ => True) v2_ r3 ∧ Below w.heap.size w w' := by
 unfold impl_tray_stepped.f at h
 obtain ⟨P, hP, h⟩ := Option.bind_eq_some_iff.1 h
 split at h
 case isFalse => cases h
 rename_i hlen
 obtain ⟨m, hm, h⟩ := Option.bind_eq_some_iff.1 h
 split at h
 case isFalse => cases h
 rename_i hcond
 simp only [Option.some.injEq, Prod.mk.injEq] at h
 obtain ⟨rfl, rfl, rfl⟩ := h
 have HR := Aside0.mk hr0_2
 have HC := Aside0.mk hc0_2
 have HP := Aside0.mk hP
 have HSL := Aside0.mk hm
 have HLEN := Aside0.mk hlen
 have HCD := Aside0.mk hcond
 have hu := Tryz.underlying35
 clear hr0_2 hc0_2 hP hm hlen hcond
 go_enter Tryz.func14, Tryz.ntmps14
 go_wp2_with (first
  | ((with_reducible refine gate_dst (N := 2) rfl ?_); refine box_event ?hg (N := 2) ?hd (cs := #[.int .i64 a0_0, .int .i64 a0_1, .slice A0_2 l0_2.length c0_2]) (t := 35) ?hr ?_; (case hd => rfl); (case hg => rfl); (case hr => first | (go_simp; done) | (go_simp; rfl)); intro gt hg w1 hbox hb; (have HB1 := Aside0.mk hb); (have HT1 := Aside0.mk hbox); clear hbox hb hg)
  | ((with_reducible refine gate_dst (N := 4) rfl ?_); refine box_event ?hg (N := 4) ?hd (cs := #[.int .i64 0, .int .i64 0, .slice none 0 0]) (t := 35) ?hr ?_; (case hd => rfl); (case hg => rfl); (case hr => first | (go_simp; done) | (go_simp; rfl)); intro gr hg w2 hbox hb; (have HG2 := Aside0.mk (show w.heap.size ≤ gr by rw [hg]; exact HB1.out.size)); (have hb20 := below_then HB1.out HB1.out.size hb); (have hT20 := (hb.block gt (blk_lt HT1.out)).trans HT1.out); (have HB2 := Aside0.mk (below_alloc hb20 (.map #[] 0))); (have HBM := Aside0.mk hb20.size); (have HT := Aside0.mk (blk_alloc hT20 (.map #[] 0))); (have HRS := Aside0.mk (blk_alloc hbox (.map #[] 0))); (have HM := Aside0.mk (MP.made w2)); (have hmm := run_makeMap (P := Tryz.prog) 51 w2); (have z0 := (blk_cell HT.out 0).trans rfl); (have z1 := (blk_cell HT.out 1).trans rfl); (have z2 := (blk_cell HT.out 2).trans rfl); clear hbox hb hg hb20 hT20 HB1 HT1)
  | (go_at_call 27; refine (impl_tray_stretches.calls k a0_0 a0_1 A0_2 c0_2 l0_2 a1 P _ (Kd.C_below HR.out HB2.out) HC.out HP.out).mono ?_))
 rintro e w3 ⟨v0, rfl, hS, hb3⟩
 have HB3 := Aside0.mk (below_then HB2.out HB2.out.size hb3)
 have HM3 := Aside0.mk (HM.out.below hb3)
 have HT3 := Aside0.mk ((hb3.block gt (blk_lt HT.out)).trans HT.out)
 have HRS3 := Aside0.mk ((hb3.block gr (blk_lt HRS.out)).trans HRS.out)
 have HO3 := Aside0.mk (Kd.S_lower hS HB2.out.size)
 clear z0 z1 z2 hS hb3 HM HT HRS HB2 hmm
 generalize w2.heap.size = bm at HM3 HBM ⊢
 obtain ⟨As, cs, es⟩ := Kd.S_slice HO3.out
 subst es
 go_wp2_with fail
 go_loopg [16] P.length (fun gg v16 wr => ∃ (i : Nat) (m1 : List (Int × Int)), v16 = .int .i64 i ∧ Aside0 (i ≤ P.length ∧ P.length - i ≤ gg ∧ spP l0_2 (P.drop i) m1 = some m) ∧ Aside0 (MP wr bm m1.length (asF m1)) ∧ Aside0 (Kd.S (Kd.slice 3 (Kd.int .i64)) 45 wr w.heap.size (fun _ => True) (.slice As P.length cs) P) ∧ Aside0 (wr.heap[gt]? = some (.cells #[.int .i64 a0_0, .int .i64 a0_1, .slice A0_2 l0_2.length c0_2] 35 (0, 0))) ∧ Aside0 (wr.heap[gr]? = some (.cells #[.int .i64 0, .int .i64 0, .slice none 0 0] 35 (0, 0))) ∧ Aside0 (Below w.heap.size w wr))
 case atStart => exact ⟨0, [], rfl, ⟨Nat.zero_le _, Nat.le_refl _, by rw [List.drop_zero]; exact HSL.out⟩, HM3, HO3, HT3, HRS3, HB3⟩
 case round =>
  clear HM3 HO3 HT3 HRS3 HB3 HSL
  obtain ⟨i, m1, rfl, HA, HM, HO, HT, HRS, HB⟩ := hrel
  by_cases hli : i < P.length
  ·have c2 : decide ((i : Int) < (P.length : Int)) = true := decide_eq_true (by omega)
   have p1 : (0 ≤ (i : Int)) = True := eq_true (by omega)
   have p2 : ((i : Int) < (P.length : Int)) = True := eq_true (by omega)
   have hsp := HA.out.2.2
   rw [drop_at P [] i hli] at hsp
   obtain ⟨hpl, hsp⟩ : (P.getD i []).length ≤ 1000 ∧ ((spC l0_2 (P.getD i []) (P.getD i []) 0 false m1).bind fun m => spP l0_2 (P.drop (i + 1)) m) = some m := by
    unfold spP at hsp
    split at hsp
    ·rename_i hc
     exact ⟨hc, hsp⟩
    ·cases hsp
   obtain ⟨m2, hsc, hsp⟩ := Option.bind_eq_some_iff.1 hsp
   have HSP := Aside0.mk hsp
   obtain ⟨ad5, A5, c5, e5, hx5, hl5, hi5⟩ := at_S (Kd.S_reads' HO.out).2.2 (i : Int) (by omega) (by omega)
   cases e5
   obtain ⟨ce5, hce5, hMe5, hcc5⟩ := Kd.S_get HO.out [] (i : Int) (by omega) (by omega)
   obtain ⟨ve5, rfl, ge5⟩ := hMe5
   have hv5 := hcc5 0 _ rfl
   rw [Nat.add_zero, show ((Kd.slice 3 (Kd.int .i64))).sz = 1 from rfl, Nat.mul_one] at hv5
   replace hv5 := Option.some.inj (hv5.symm.trans hx5)
   rw [hv5] at ge5
   have hrd : rdS P (i : Int) = P.getD i [] := by unfold rdS; rw [Int.toNat_natCast]
   have HL5 := Aside0.mk (show Kd.R (Kd.int .i64) 3 wr w.heap.size (fun _ => True) (.slice A5 (rdS P (i : Int)).length c5) (rdS P (i : Int)) from Kd.R_mono ge5 (fun _ _ => trivial))
   rw [hrd] at HL5 hx5 hl5
   rw [Int.toNat_natCast] at hx5
   clear hv5 hcc5 hce5 hi5 ge5 hrd hsp
   generalize P.getD i [] = pc at hpl hsc HL5 hx5 hl5
   have HPC := Aside0.mk hpl
   have HSC := Aside0.mk hsc
   have HCP := Aside0.mk hl5
   have HGK2 := Aside0.mk (show P.length - i ≤ gk ∧ i < P.length from ⟨HA.out.2.1, hli⟩)
   clear hsc hpl HA hli hl5
   go_wp2_with fail
   go_loopg [8, 22] pc.length (fun gg v8 v22 wr => ∃ (u : Nat) (room : Bool) (m3 : List (Int × Int)), v8 = .bool room ∧ v22 = .int .i64 u ∧ Aside0 (u ≤ pc.length ∧ pc.length - u ≤ gg ∧ spC l0_2 pc (pc.drop u) u room m3 = some m2) ∧ Aside0 (MP wr bm m3.length (asF m3)) ∧ Aside0 (Kd.S (Kd.slice 3 (Kd.int .i64)) 45 wr w.heap.size (fun _ => True) (.slice (some ad5) P.length cs) P) ∧ Aside0 (Kd.R (Kd.int .i64) 3 wr w.heap.size (fun _ => True) (.slice A5 pc.length c5) pc) ∧ Aside0 (wr.heap[gt]? = some (.cells #[.int .i64 a0_0, .int .i64 a0_1, .slice A0_2 l0_2.length c0_2] 35 (0, 0))) ∧ Aside0 (wr.heap[gr]? = some (.cells #[.int .i64 0, .int .i64 0, .slice none 0 0] 35 (0, 0))) ∧ Aside0 (Below w.heap.size w wr))
   case atStart => exact ⟨0, false, m1, rfl, rfl, ⟨Nat.zero_le _, by omega, by rw [List.drop_zero]; exact HSC.out⟩, HM, HO, HL5, HT, HRS, HB⟩
   case round =>
    clear HSC HM HO HL5 HT HRS HB hx5 c2 p1 p2
    obtain ⟨u, room, m3, rfl, rfl, HA3, HMX, HOX, HLX, HTX, HRX, HBX⟩ := hrel
    by_cases hlu : u < pc.length
    ·have c3 : decide ((u : Int) < (pc.length : Int)) = true := decide_eq_true (by omega)
     have p3 : (0 ≤ (u : Int)) = True := eq_true (by omega)
     have p4 : ((u : Int) < (pc.length : Int)) = True := eq_true (by omega)
     have hbq := HA3.out.2.2
     rw [drop_at pc 0 u hlu] at hbq
     obtain ⟨ad3, e3, hx3⟩ := Kd.at_int (Kd.R_reads' HLX.out).2.2 (u : Int) (by omega) (by omega)
     cases e3
     rw [Int.toNat_natCast] at hx3
     rw [show rd pc (u : Int) = pc.getD u 0 from by unfold rd; rw [Int.toNat_natCast]] at hx3
     generalize pc.getD u 0 = x at hx3 hbq
     unfold spC at hbq
     split at hbq
     case isFalse => cases hbq
     rename_i hxr
     obtain ⟨b, hb1, hbq⟩ := Option.bind_eq_some_iff.1 hbq
     have p5 : (0 ≤ x) = True := eq_true hxr.1
     have p6 : (x < (l0_2.length : Int)) = True := eq_true hxr.2.1
     obtain ⟨ad7, e7, hx7⟩ := Kd.at_int (Kd.C_below HR.out HBX.out) x hxr.1 hxr.2.1
     cases e7
     have HXR := Aside0.mk hxr
     have HIB := Aside0.mk hb1
     have HNXT := Aside0.mk hbq
     have HGK3 := Aside0.mk (show pc.length - u ≤ gk ∧ u < pc.length from ⟨HA3.out.2.1, hlu⟩)
     have z0 := (blk_cell HTX.out 0).trans rfl
     have z1 := (blk_cell HTX.out 1).trans rfl
     have z2 := (blk_cell HTX.out 2).trans rfl
     clear hbq hb1 hxr HA3 hlu
     go_wp2_with fail
     refine (impl_isBall.calls (rd l0_2 x) b _ HIB.out).mono ?_
     rintro e w6 ⟨rfl, hd⟩
     have hb9 := hd.below
     have HM6 := Aside0.mk (HMX.out.below hb9)
     have HO6 := Aside0.mk (S_blw HOX.out hb9)
     have HL6 := Aside0.mk (Kd.R_below HLX.out hb9)
     have HT6 := Aside0.mk ((hb9.block gt (blk_lt HTX.out)).trans HTX.out)
     have HR6 := Aside0.mk ((hb9.block gr (blk_lt HRX.out)).trans HRX.out)
     have HB6 := Aside0.mk (below_then HBX.out HBX.out.size hb9)
     clear hd hb9 hx3 hx7 z0 z1 z2 HMX HOX HLX HTX HRX HBX HIB p3 p4 c3
     cases b with
     | true =>
      have hnx := HNXT.out
      rw [if_pos rfl] at hnx
      split at hnx
      case isFalse => cases hnx
      rename_i hcn
      obtain ⟨bv, hbv⟩ : ∃ bv : Int, bitI room = bv := ⟨_, rfl⟩
      have HBV := Aside0.mk (show impl_bit.f room = some bv by rw [← hbv]; exact bit_eq room)
      rw [hbv] at hcn hnx
      have HCN := Aside0.mk hcn
      have HN2 := Aside0.mk hnx
      have p3 : (0 ≤ wrap64 ((u : Int) - bv)) = True := eq_true hcn.1
      have p4 : (wrap64 ((u : Int) - bv) < (pc.length : Int)) = True := eq_true hcn.2.1
      clear hcn hnx HNXT hbv
      cases room with
      | true =>
       go_wp2_with (first
        | (go_at_call 29; refine (impl_bit.calls true bv _ HBV.out).mono ?_; rintro e w7 ⟨rfl, hd7⟩; (have hb7 := hd7.below); (have HM7 := Aside0.mk (HM6.out.below hb7)); (have HO7 := Aside0.mk (S_blw HO6.out hb7)); (have HL7 := Aside0.mk (Kd.R_below HL6.out hb7)); (have HT7 := Aside0.mk ((hb7.block gt (blk_lt HT6.out)).trans HT6.out)); (have HR7 := Aside0.mk ((hb7.block gr (blk_lt HR6.out)).trans HR6.out)); (have HB7 := Aside0.mk (below_then HB6.out HB6.out.size hb7)); (obtain ⟨ad8, e8, hx8⟩ := Kd.at_int (Kd.R_reads' HL7.out).2.2 (wrap64 ((u : Int) - bv)) HCN.out.1 HCN.out.2.1); cases e8; clear hd7 hb7 HM6 HO6 HL6 HT6 HR6 HB6)
        | (at_mapUpdate; refine wpList_put rfl _ rfl _ _ _ 51 rfl Tryz.underlying51 bm m3.length (asF m3) HM7.out HCN.out.2.2.2.2 x (rd pc (wrap64 ((u : Int) - bv))) rfl rfl rfl ⟨HXR.out.1, HXR.out.2.2, HCN.out.2.2.1, HCN.out.2.2.2.1⟩ ?_; intro w8 hm8 hg8; (have HM8 := Aside0.mk hm8); (have HL8 := Aside0.mk (R_turn HL7.out hg8 HM7.out.nc)); (have HO8 := Aside0.mk (S_turn HO7.out hg8 HM7.out.nc)); (have HT8 := Aside0.mk (blk_turn HT7.out hg8 HM7.out.nc)); (have HR8 := Aside0.mk (blk_turn HR7.out hg8 HM7.out.nc)); (have HB8 := Aside0.mk (HB7.out.grown hg8 HB7.out.size (fun k e => by cases e; exact HBM.out))); clear hm8 hg8 HM7 HL7 HO7 HT7 HR7 HB7 hx8; (have z0 := (blk_cell HT8.out 0).trans rfl); (have z1 := (blk_cell HT8.out 1).trans rfl); (have z2 := (blk_cell HT8.out 2).trans rfl); (obtain ⟨ad9, e9, hx9⟩ := Kd.at_int (Kd.C_below HR.out HB8.out) x HXR.out.1 HXR.out.2.1); cases e9))
       go_roundg (pc.length - (u + 1))
       case measure => have := HGK3.out; omega
       case rel => exact ⟨u + 1, true || decide (rd l0_2 x = 46), (x, rd pc (wrap64 ((u : Int) - bv))) :: m3, by first | rfl | simp, by first | rfl | rw [wrap64_nat u (by have := HGK3.out; have := HPC.out; omega)] | simp, ⟨by have := HGK3.out; omega, Nat.le_refl _, HN2.out⟩, HM8, HO8, HL8, HT8, HR8, HB8⟩
      | false =>
       go_wp2_with (first
        | (go_at_call 29; refine (impl_bit.calls false bv _ HBV.out).mono ?_; rintro e w7 ⟨rfl, hd7⟩; (have hb7 := hd7.below); (have HM7 := Aside0.mk (HM6.out.below hb7)); (have HO7 := Aside0.mk (S_blw HO6.out hb7)); (have HL7 := Aside0.mk (Kd.R_below HL6.out hb7)); (have HT7 := Aside0.mk ((hb7.block gt (blk_lt HT6.out)).trans HT6.out)); (have HR7 := Aside0.mk ((hb7.block gr (blk_lt HR6.out)).trans HR6.out)); (have HB7 := Aside0.mk (below_then HB6.out HB6.out.size hb7)); (obtain ⟨ad8, e8, hx8⟩ := Kd.at_int (Kd.R_reads' HL7.out).2.2 (wrap64 ((u : Int) - bv)) HCN.out.1 HCN.out.2.1); cases e8; clear hd7 hb7 HM6 HO6 HL6 HT6 HR6 HB6)
        | (at_mapUpdate; refine wpList_put rfl _ rfl _ _ _ 51 rfl Tryz.underlying51 bm m3.length (asF m3) HM7.out HCN.out.2.2.2.2 x (rd pc (wrap64 ((u : Int) - bv))) rfl rfl rfl ⟨HXR.out.1, HXR.out.2.2, HCN.out.2.2.1, HCN.out.2.2.2.1⟩ ?_; intro w8 hm8 hg8; (have HM8 := Aside0.mk hm8); (have HL8 := Aside0.mk (R_turn HL7.out hg8 HM7.out.nc)); (have HO8 := Aside0.mk (S_turn HO7.out hg8 HM7.out.nc)); (have HT8 := Aside0.mk (blk_turn HT7.out hg8 HM7.out.nc)); (have HR8 := Aside0.mk (blk_turn HR7.out hg8 HM7.out.nc)); (have HB8 := Aside0.mk (HB7.out.grown hg8 HB7.out.size (fun k e => by cases e; exact HBM.out))); clear hm8 hg8 HM7 HL7 HO7 HT7 HR7 HB7 hx8; (have z0 := (blk_cell HT8.out 0).trans rfl); (have z1 := (blk_cell HT8.out 1).trans rfl); (have z2 := (blk_cell HT8.out 2).trans rfl); (obtain ⟨ad9, e9, hx9⟩ := Kd.at_int (Kd.C_below HR.out HB8.out) x HXR.out.1 HXR.out.2.1); cases e9))
       go_roundg (pc.length - (u + 1))
       case measure => have := HGK3.out; omega
       case rel => exact ⟨u + 1, false || decide (rd l0_2 x = 46), (x, rd pc (wrap64 ((u : Int) - bv))) :: m3, by first | rfl | simp, by first | rfl | rw [wrap64_nat u (by have := HGK3.out; have := HPC.out; omega)] | simp, ⟨by have := HGK3.out; omega, Nat.le_refl _, HN2.out⟩, HM8, HO8, HL8, HT8, HR8, HB8⟩
     | false =>
      have hnx := HNXT.out
      rw [if_neg (by decide)] at hnx
      have HN2 := Aside0.mk hnx
      have z0 := (blk_cell HT6.out 0).trans rfl
      have z1 := (blk_cell HT6.out 1).trans rfl
      have z2 := (blk_cell HT6.out 2).trans rfl
      obtain ⟨ad9, e9, hx9⟩ := Kd.at_int (Kd.C_below HR.out HB6.out) x HXR.out.1 HXR.out.2.1
      cases e9
      clear hnx HNXT
      cases room with
      | true =>
       go_wp2
       go_roundg (pc.length - (u + 1))
       case measure => have := HGK3.out; omega
       case rel => exact ⟨u + 1, true || decide (rd l0_2 x = 46), m3, by first | rfl | simp, by first | rfl | rw [wrap64_nat u (by have := HGK3.out; have := HPC.out; omega)] | simp, ⟨by have := HGK3.out; omega, Nat.le_refl _, HN2.out⟩, HM6, HO6, HL6, HT6, HR6, HB6⟩
      | false =>
       go_wp2
       go_roundg (pc.length - (u + 1))
       case measure => have := HGK3.out; omega
       case rel => exact ⟨u + 1, false || decide (rd l0_2 x = 46), m3, by first | rfl | simp, by first | rfl | rw [wrap64_nat u (by have := HGK3.out; have := HPC.out; omega)] | simp, ⟨by have := HGK3.out; omega, Nat.le_refl _, HN2.out⟩, HM6, HO6, HL6, HT6, HR6, HB6⟩
    ·obtain rfl : u = pc.length := by have := HA3.out.1; omega
     have c3 : decide ((pc.length : Int) < (pc.length : Int)) = false := decide_eq_false (by omega)
     have he := HA3.out.2.2
     rw [List.drop_length] at he
     obtain rfl : m3 = m2 := Option.some.inj he
     clear he HA3 hlu
     go_wp2
     go_roundg (P.length - (i + 1))
     case measure => have := HGK2.out; omega
     case rel => exact ⟨i + 1, m3, by first | rfl | rw [wrap64_nat i (by have := HGK2.out; have := HLEN.out; omega)] | simp, ⟨by have := HGK2.out; omega, Nat.le_refl _, HSP.out⟩, HMX, HOX, HTX, HRX, HBX⟩
  ·obtain rfl : i = P.length := by have := HA.out.1; omega
   have c2 : decide ((P.length : Int) < (P.length : Int)) = false := decide_eq_false (by omega)
   have he := HA.out.2.2
   rw [List.drop_length] at he
   obtain rfl : m1 = m := Option.some.inj he
   clear he HA hli HO
   have z0 := (blk_cell HT.out 0).trans rfl
   have z1 := (blk_cell HT.out 1).trans rfl
   have z2 := (blk_cell HT.out 2).trans rfl
   go_wp2_with (first
    | (go_at_call 30; refine (carried_calls a0_0 a0_1 A0_2 c0_2 l0_2 bm m1.length (asF m1) _ (Kd.C_below HR.out HB.out) HC.out HCD.out.1 HM.out (fits_tilt HCD.out.2)).mono ?_; rintro e w9 ⟨v2, rfl, hr, hb9⟩; (have HR9 := Aside0.mk (Kd.R_lower hr HB.out.size)); (have HG9 := Aside0.mk ((hb9.block gr (blk_lt HRS.out)).trans HRS.out)); (have HB9 := Aside0.mk (below_then HB.out HB.out.size hb9)); (obtain ⟨Ar, cr, rfl⟩ := Kd.R_slice HR9.out); (have g0 := blk_frozen HG9.out 0); (have g1 := blk_frozen HG9.out 1); (have g2 := blk_frozen HG9.out 2); (have r0 := (blk_cell HG9.out 0).trans rfl); (have r1 := (blk_cell HG9.out 1).trans rfl); (have r2 := (blk_cell HG9.out 2).trans rfl); clear hr hb9))
   refine bodyPost_ret (results_cell_row rfl _ _ gr 35 #[.int .i64 a0_0, .int .i64 a0_1, .slice Ar (laidCells l0_2 (emptyC l0_2) (asF m1) fun _ => true).length cr] (0, 0) _ rfl (by refine blk_put (cs := #[.int .i64 a0_0, .int .i64 a0_1, .slice none 0 0]) ?_ 2 _ rfl; refine blk_put (cs := #[.int .i64 a0_0, .int .i64 0, .slice none 0 0]) ?_ 1 _ rfl; refine blk_put (cs := #[.int .i64 0, .int .i64 0, .slice none 0 0]) ?_ 0 _ rfl; exact HG9.out) Tryz.underlying35 rfl (by kernel_rfl)) rfl ?_
   exact ⟨_, rfl, Kd.R_mono (Kd.R_far (p := ⟨gr, 2, none⟩) (Kd.R_far (p := ⟨gr, 1, none⟩) (Kd.R_far (p := ⟨gr, 0, none⟩) (Kd.R_types HR9.out HG9.out (by decide)) (fun _ hk => hk.2) (.int .i64 a0_0)) (fun _ hk => hk.2) (.int .i64 a0_1)) (fun _ hk => hk.2) (.slice Ar (laidCells l0_2 (emptyC l0_2) (asF m1) fun _ => true).length cr)) (fun _ _ => trivial), below_set (below_set (below_set HB9.out HG2.out) HG2.out) HG2.out⟩
end Go.Proofs.YtcpeldgnabfdmabGreatDoor.Q
end
section
namespace Go.Proofs.YtcpeldgnabfdmabGreatDoor.Q
set_option linter.unusedSectionVars false
set_option linter.unusedSimpArgs false
open Go.RowKit Go.Proofs.YtcpeldgnabfdmabGreatDoorW.PrintWords Go.Proofs.YtcpeldgnabfdmabGreatDoorW.PrintLast Go.Proofs.YtcpeldgnabfdmabGreatDoorW.PrintMore
def tsC (cs own : List Int) : List Int → Nat → Bool → List Int → Option (List Int)
 | [], _, _, out => some out
 | x :: l, i, fr, out => if 0 ≤ x ∧ x < (cs.length : Int) then (spec_tyBall.f (rd cs x)).bind fun b => if b = true then (if fr = true then (if 0 ≤ wrap64 ((i : Int) - 1) ∧ wrap64 ((i : Int) - 1) < (own.length : Int) ∧ 0 ≤ rd own (wrap64 ((i : Int) - 1)) ∧ rd own (wrap64 ((i : Int) - 1)) < (cs.length : Int) then tsC cs own l (i + 1) fr ((out.set (rd own (wrap64 ((i : Int) - 1))).toNat (rd cs x)).set x.toNat 46) else none) else tsC cs own l (i + 1) fr out) else tsC cs own l (i + 1) true out else none
def tsP (cs : List Int) : List (List Int) → List Int → Option (List Int)
 | [], out => some out
 | p :: P, out => if p.length ≤ 1000 then (tsC cs p p 0 false out).bind fun out => tsP cs P out else none
def spec_tiStep.f (k : Nat) (w h : Int) (cs : List Int) (dir : Int) : Option (Int × Int × List Int) :=
 if 0 < cs.length ∧ cs.length ≤ 1000 then (spec_tiStretches.f k w h cs dir).bind fun P => if P.length ≤ 1000 then (tsP cs P cs).bind fun out => some (w, h, out) else none else none
set_option maxHeartbeats 16000000 in
set_option maxRecDepth 100000 in
theorem spec_tiStep.calls (k : Nat) (a0_0 a0_1 : Int) (A0_2 : Option Addr) (c0_2 : Nat) (l0_2 : List Int) (a1 : Int) (r1 r2 : Int) (r3 : List Int) (w : World) (hr0_2 : Kd.C (Kd.int .u8) w A0_2 l0_2.length l0_2) (hc0_2 : l0_2.length ≤ c0_2) (h : spec_tiStep.f k a0_0 a0_1 l0_2 a1 = some (r1, r2, r3)) :
  Calls Tryz.prog 11 #[.agg #[.int .i64 a0_0, .int .i64 a0_1, .slice A0_2 l0_2.length c0_2], .int .i64 a1] w fun e w' => ∃ v2_ : Value, e = .returned (.agg #[.int .i64 r1, .int .i64 r2, v2_]) ∧ Kd.R (Kd.int .u8) 5 w' w.heap.size (fun _ => True) v2_ r3 ∧ Below w.heap.size w w' := by
 unfold spec_tiStep.f at h
 split at h
 case isFalse => cases h
 rename_i hl
 obtain ⟨P, hP, h⟩ := Option.bind_eq_some_iff.1 h
 split at h
 case isFalse => cases h
 rename_i hlen
 obtain ⟨res, hm, h⟩ := Option.bind_eq_some_iff.1 h
 simp only [Option.some.injEq, Prod.mk.injEq] at h
 obtain ⟨rfl, rfl, rfl⟩ := h
 have hu := Tryz.underlying29
 have HR := Aside0.mk hr0_2
 have HC := Aside0.mk hc0_2
 have HL := Aside0.mk hl
 have HP := Aside0.mk hP
 have HSL := Aside0.mk hm
 have HLEN := Aside0.mk hlen
 have HV := Aside0.mk (copy_val a0_0 a0_1 l0_2 hl.1 hl.2)
 clear hr0_2 hc0_2 hl hP hm hlen
 go_enter Tryz.func11, Tryz.ntmps11
 go_wp2_with (first
  | ((with_reducible refine gate_dst (N := 2) rfl ?_); refine box_event ?hg (N := 2) ?hd (cs := #[.int .i64 a0_0, .int .i64 a0_1, .slice A0_2 l0_2.length c0_2]) (t := 29) ?hr ?_; (case hd => rfl); (case hg => rfl); (case hr => first | (go_simp; done) | (go_simp; rfl)); intro gt hg w1 hbox hb; (have HB1 := Aside0.mk hb); (have HT := Aside0.mk hbox); clear hbox hb hg)
  | ((with_reducible refine gate_dst (N := 4) rfl ?_); refine box_event ?hg (N := 4) ?hd (cs := #[.int .i64 0, .int .i64 0, .slice none 0 0]) (t := 29) ?hr ?_; (case hd => rfl); (case hg => rfl); (case hr => first | (go_simp; done) | (go_simp; rfl)); intro gr hg w2 hbox hb; (have HG2 := Aside0.mk (show w.heap.size ≤ gr by rw [hg]; exact HB1.out.size)); (have HB2 := Aside0.mk (below_then HB1.out HB1.out.size hb)); (have HT2 := Aside0.mk ((hb.block gt (blk_lt HT.out)).trans HT.out)); (have HRS := Aside0.mk hbox); (have z0 := (blk_cell HT2.out 0).trans rfl); (have z1 := (blk_cell HT2.out 1).trans rfl); (have z2 := (blk_cell HT2.out 2).trans rfl); clear hbox hb hg HT HB1))
 refine (spec_tyCopy.calls a0_0 a0_1 _ c0_2 l0_2 a0_0 a0_1 l0_2 _ (Kd.C_below HR.out HB2.out) HC.out HV.out).mono ?_
 rintro e w3 ⟨v2, rfl, ho, hb3⟩
 obtain ⟨gb, c, rfl, hgb, hlb, cl, hcl⟩ := Kd.R_form ho HL.out.1
 have HB3 := Aside0.mk (below_then HB2.out HB2.out.size hb3)
 have HRS3 := Aside0.mk ((hb3.block gr (blk_lt HRS.out)).trans HRS.out)
 have HT3 := Aside0.mk ((hb3.block gt (blk_lt HT2.out)).trans HT2.out)
 have HO3 := Aside0.mk (Kd.R_lower ho HB2.out.size)
 have HGB := Aside0.mk (Nat.le_trans HB2.out.size hgb)
 clear z0 z1 z2 HT2 HRS HB2 ho hb3 hgb hlb hcl
 go_wp2_with (first
  | ((with_reducible refine gate_dst (N := 5) rfl ?_); refine box_event ?hg (N := 5) ?hd (cs := #[.int .i64 0, .int .i64 0, .slice none 0 0]) (t := 29) ?hr ?_; (case hd => rfl); (case hg => rfl); (case hr => first | (go_simp; done) | (go_simp; rfl)); intro go hg w4 hbox hb; (have HGO := Aside0.mk (show w.heap.size ≤ go by rw [hg]; exact HB3.out.size)); (have HNE := Aside0.mk (show gr ≠ go by rw [hg]; exact Nat.ne_of_lt (blk_lt HRS3.out))); (have HNT := Aside0.mk (show gt ≠ go by rw [hg]; exact Nat.ne_of_lt (blk_lt HT3.out))); (have HB4 := Aside0.mk (below_then HB3.out HB3.out.size hb)); (have HT4 := Aside0.mk ((hb.block gt (blk_lt HT3.out)).trans HT3.out)); (have HRS4 := Aside0.mk ((hb.block gr (blk_lt HRS3.out)).trans HRS3.out)); (have HO4 := Aside0.mk (Kd.R_below HO3.out hb)); (have HU := Aside0.mk hbox); (have y0 := (blk_cell HU.out 0).trans rfl); (have y1 := (blk_cell HU.out 1).trans rfl); (have y2 := (blk_cell HU.out 2).trans rfl); (have f0 := blk_frozen HU.out 0); (have f1 := blk_frozen HU.out 1); (have f2 := blk_frozen HU.out 2); clear hbox hb hg HB3 HRS3 HO3 HT3)
  | ((with_reducible refine gate_store (t := 29) (p := 5) rfl ?_); refine store_event (t := 29) (p := 5) (v := ?vo) (w1 := (((w4.setCell ⟨go, 0, none⟩ (.int .i64 a0_0)).setCell ⟨go, 1, none⟩ (.int .i64 a0_1)).setCell ⟨go, 2, none⟩ (.slice (some ⟨gb, 0, none⟩) l0_2.length c))) ?hg ?ho ?hn ?hr ?_; (case ho => rfl); (case hg => rfl); (case hn => rfl); (case hr => first | (go_simp; done) | (go_simp; rfl)); intro w5 hw; (have HE := Aside0.mk (show EMs w w5 gr go gb a0_0 a0_1 l0_2.length c l0_2 from by rw [hw]; exact ⟨below_set (below_set (below_set HB4.out HGO.out) HGO.out) HGO.out, blk_far (blk_far (blk_far HRS4.out HNE.out _) HNE.out _) HNE.out _, (by refine blk_put (cs := #[.int .i64 a0_0, .int .i64 a0_1, .slice none 0 0]) ?_ 2 _ rfl; refine blk_put (cs := #[.int .i64 a0_0, .int .i64 0, .slice none 0 0]) ?_ 1 _ rfl; refine blk_put (cs := #[.int .i64 0, .int .i64 0, .slice none 0 0]) ?_ 0 _ rfl; exact HU.out), Kd.R_mono (Kd.R_far (p := ⟨go, 2, none⟩) (Kd.R_far (p := ⟨go, 1, none⟩) (Kd.R_far (p := ⟨go, 0, none⟩) (Kd.R_types HO4.out HU.out (by decide)) (fun _ hk => hk.2) (.int .i64 a0_0)) (fun _ hk => hk.2) (.int .i64 a0_1)) (fun _ hk => hk.2) (.slice (some ⟨gb, 0, none⟩) l0_2.length c)) (fun _ _ => trivial), HG2.out, HGO.out, HGB.out, HNE.out, rfl⟩)); (have HT5 := Aside0.mk (show w5.heap[gt]? = some (.cells #[.int .i64 a0_0, .int .i64 a0_1, .slice A0_2 l0_2.length c0_2] 29 (0, 0)) from by rw [hw]; exact blk_far (blk_far (blk_far HT4.out HNT.out _) HNT.out _) HNT.out _)); clear hw HU HO4 HRS4 HT4 HB4 y0 y1 y2 f0 f1 f2; (have z0 := (blk_cell HT5.out 0).trans rfl); (have z1 := (blk_cell HT5.out 1).trans rfl); (have z2 := (blk_cell HT5.out 2).trans rfl))
  | (go_at_call 21; refine (spec_tiStretches.calls k a0_0 a0_1 A0_2 c0_2 l0_2 a1 P _ (Kd.C_below HR.out HE.out.below) HC.out HP.out).mono ?_))
 rintro e w6 ⟨v0, rfl, hS, hb6⟩
 have HWM := Aside0.mk (show gb < w5.heap.size ∧ go < w5.heap.size ∧ gr < w5.heap.size ∧ gt < w5.heap.size from by
  obtain ⟨_, _, h3, _⟩ := (Kd.R_bound HE.out.row).1 gb rfl
  exact ⟨h3, blk_lt HE.out.out, blk_lt HE.out.res, blk_lt HT5.out⟩)
 have HE6 := Aside0.mk (HE.out.step hb6)
 have HT6 := Aside0.mk ((hb6.block gt (blk_lt HT5.out)).trans HT5.out)
 generalize w5.heap.size = wm at hS HWM
 have HO6 := Aside0.mk hS
 clear z0 z1 z2 hS hb6 HE HT5
 obtain ⟨As, cs, es⟩ := Kd.N_slice HO6.out
 subst es
 go_wp2_with fail
 go_loopg [17] P.length (fun gg v17 wr => ∃ (i : Nat) (out : List Int), v17 = .int .i64 i ∧ Aside0 (i ≤ P.length ∧ P.length - i ≤ gg ∧ tsP l0_2 (P.drop i) out = some res) ∧ Aside0 (EMs w wr gr go gb a0_0 a0_1 l0_2.length c out) ∧ Aside0 (Kd.N (Kd.slice 3 (Kd.int .i64)) 45 wr wm (fun k_ => wm ≤ k_) (.slice As P.length cs) P) ∧ Aside0 (wr.heap[gt]? = some (.cells #[.int .i64 a0_0, .int .i64 a0_1, .slice A0_2 l0_2.length c0_2] 29 (0, 0))))
 case atStart => exact ⟨0, l0_2, rfl, ⟨Nat.zero_le _, Nat.le_refl _, by rw [List.drop_zero]; exact HSL.out⟩, HE6, HO6, HT6⟩
 case round =>
  clear HE6 HO6 HT6 HSL
  obtain ⟨i, out, rfl, HA, HE, HO, HT⟩ := hrel
  by_cases hli : i < P.length
  ·have c2 : decide ((i : Int) < (P.length : Int)) = true := decide_eq_true (by omega)
   have p1 : (0 ≤ (i : Int)) = True := eq_true (by omega)
   have p2 : ((i : Int) < (P.length : Int)) = True := eq_true (by omega)
   have hsp := HA.out.2.2
   rw [drop_at P [] i hli] at hsp
   obtain ⟨hpl, hsp⟩ : (P.getD i []).length ≤ 1000 ∧ ((tsC l0_2 (P.getD i []) (P.getD i []) 0 false out).bind fun m => tsP l0_2 (P.drop (i + 1)) m) = some res := by
    unfold tsP at hsp
    split at hsp
    ·rename_i hc
     exact ⟨hc, hsp⟩
    ·cases hsp
   obtain ⟨m2, hsc, hsp⟩ := Option.bind_eq_some_iff.1 hsp
   have HSP := Aside0.mk hsp
   obtain ⟨ad5, A5, c5, e5, hx5, hl5, hi5⟩ := at_S (Kd.N_reads' HO.out).2.2 (i : Int) (by omega) (by omega)
   cases e5
   obtain ⟨ce5, hce5, hMe5, hcc5⟩ := Kd.N_get HO.out [] (i : Int) (by omega) (by omega)
   obtain ⟨ua5, uc5, rfl, ul5, ge5⟩ := Kd.FK_slice_open hMe5
   have hv5 := hcc5 0 _ rfl
   rw [Nat.add_zero, show ((Kd.slice 3 (Kd.int .i64))).sz = 1 from rfl, Nat.mul_one] at hv5
   replace hv5 := Option.some.inj (hv5.symm.trans hx5)
   injection hv5 with hva hvn hvc
   rw [hva] at ge5
   rw [hvc] at ul5
   have hrd : rdS P (i : Int) = P.getD i [] := by unfold rdS; rw [Int.toNat_natCast]
   have hge : P.getD (i : Int).toNat [] = P.getD i [] := by rw [Int.toNat_natCast]
   rw [hge] at ge5 ul5
   have HL5 := Aside0.mk (show Kd.V (Kd.int .i64) 3 wr wm (fun k_ => wm ≤ k_) (.slice A5 (P.getD i []).length c5) (P.getD i []) from Kd.V_mono (Kd.V_mk ul5 ge5) (fun _ hk => hk.1))
   rw [hrd] at hx5 hl5
   rw [Int.toNat_natCast] at hx5
   clear hva hvn hvc hcc5 hce5 hi5 ge5 ul5 hrd hsp hge hMe5
   generalize P.getD i [] = pc at hpl hsc HL5 hx5 hl5
   have HPC := Aside0.mk hpl
   have HSC := Aside0.mk hsc
   have HCP := Aside0.mk hl5
   have HGK2 := Aside0.mk (show P.length - i ≤ gk ∧ i < P.length from ⟨HA.out.2.1, hli⟩)
   clear hsc hpl HA hli hl5
   go_wp2_with fail
   go_loopg [8, 23] pc.length (fun gg v8 v23 wr => ∃ (u : Nat) (fr : Bool) (o3 : List Int), v8 = .bool fr ∧ v23 = .int .i64 u ∧ Aside0 (u ≤ pc.length ∧ pc.length - u ≤ gg ∧ tsC l0_2 pc (pc.drop u) u fr o3 = some m2) ∧ Aside0 (EMs w wr gr go gb a0_0 a0_1 l0_2.length c o3) ∧ Aside0 (Kd.N (Kd.slice 3 (Kd.int .i64)) 45 wr wm (fun k_ => wm ≤ k_) (.slice (some ad5) P.length cs) P) ∧ Aside0 (Kd.V (Kd.int .i64) 3 wr wm (fun k_ => wm ≤ k_) (.slice A5 pc.length c5) pc) ∧ Aside0 (wr.heap[gt]? = some (.cells #[.int .i64 a0_0, .int .i64 a0_1, .slice A0_2 l0_2.length c0_2] 29 (0, 0))))
   case atStart => exact ⟨0, false, out, rfl, rfl, ⟨Nat.zero_le _, by omega, by rw [List.drop_zero]; exact HSC.out⟩, HE, HO, HL5, HT⟩
   case round =>
    clear HSC HE HO HL5 HT hx5 c2 p1 p2
    obtain ⟨u, fr, o3, rfl, rfl, HA3, HEX, HOX, HLX, HTX⟩ := hrel
    by_cases hlu : u < pc.length
    ·have c3 : decide ((u : Int) < (pc.length : Int)) = true := decide_eq_true (by omega)
     have p3 : (0 ≤ (u : Int)) = True := eq_true (by omega)
     have p4 : ((u : Int) < (pc.length : Int)) = True := eq_true (by omega)
     have hbq := HA3.out.2.2
     rw [drop_at pc 0 u hlu] at hbq
     obtain ⟨ad3, e3, hx3⟩ := Kd.at_int (Kd.V_reads' HLX.out).2.2 (u : Int) (by omega) (by omega)
     cases e3
     rw [Int.toNat_natCast] at hx3
     rw [show rd pc (u : Int) = pc.getD u 0 from by unfold rd; rw [Int.toNat_natCast]] at hx3
     generalize pc.getD u 0 = x at hx3 hbq
     unfold tsC at hbq
     split at hbq
     case isFalse => cases hbq
     rename_i hxr
     obtain ⟨b, hb1, hbq⟩ := Option.bind_eq_some_iff.1 hbq
     have p5 : (0 ≤ x) = True := eq_true hxr.1
     have p6 : (x < (l0_2.length : Int)) = True := eq_true hxr.2
     obtain ⟨ad7, e7, hx7⟩ := Kd.at_int (Kd.C_below HR.out HEX.out.below) x hxr.1 hxr.2
     cases e7
     have HXR := Aside0.mk hxr
     have HIB := Aside0.mk hb1
     have HNXT := Aside0.mk hbq
     have HGK3 := Aside0.mk (show pc.length - u ≤ gk ∧ u < pc.length from ⟨HA3.out.2.1, hlu⟩)
     have z0 := (blk_cell HTX.out 0).trans rfl
     have z1 := (blk_cell HTX.out 1).trans rfl
     have z2 := (blk_cell HTX.out 2).trans rfl
     clear hbq hb1 hxr HA3 hlu
     cases b with
     | true =>
      cases fr with
      | true =>
       go_wp2_with (first
        | (go_at_call 22; refine (spec_tyBall.calls (rd l0_2 x) true _ HIB.out).mono ?_; rintro e w6 ⟨rfl, ⟨nd, rfl⟩⟩; (have hb9 := (Drawn0.below (w := wr) ⟨nd, rfl⟩)); (have HE6 := Aside0.mk (HEX.out.step hb9)); (have HO6 := Aside0.mk (Kd.N_below HOX.out hb9)); (have HL6 := Aside0.mk (Kd.V_below HLX.out hb9)); (have HT6 := Aside0.mk ((hb9.block gt (blk_lt HTX.out)).trans HTX.out)); clear hb9 hx3 hx7 z0 z1 z2 HEX HOX HLX HTX HIB p3 p4 c3; (have z0 := (blk_cell HT6.out 0).trans rfl); (have z1 := (blk_cell HT6.out 1).trans rfl); (have z2 := (blk_cell HT6.out 2).trans rfl)))
       have hnx := HNXT.out
       simp only [if_true] at hnx
       split at hnx
       case isFalse => cases hnx
       rename_i hcn
       have HCN := Aside0.mk hcn
       have HN2 := Aside0.mk hnx
       have p7 : (0 ≤ wrap64 ((u : Int) - 1)) = True := eq_true hcn.1
       have p8 : (wrap64 ((u : Int) - 1) < (pc.length : Int)) = True := eq_true hcn.2.1
       have p9 : (0 ≤ rd pc (wrap64 ((u : Int) - 1))) = True := eq_true hcn.2.2.1
       have p10 : (rd pc (wrap64 ((u : Int) - 1)) < (l0_2.length : Int)) = True := eq_true hcn.2.2.2
       obtain ⟨ad8, e8, hx8⟩ := Kd.at_int (Kd.V_reads' HL6.out).2.2 (wrap64 ((u : Int) - 1)) hcn.1 hcn.2.1
       cases e8
       obtain ⟨ad9, e9, hx9⟩ := Kd.at_int (Kd.C_below HR.out HE6.out.below) x HXR.out.1 HXR.out.2
       cases e9
       have y0 := (blk_cell HE6.out.out 0).trans rfl
       have y1 := (blk_cell HE6.out.out 1).trans rfl
       have y2 := (blk_cell HE6.out.out 2).trans rfl
       obtain ⟨_, fz⟩ := Kd.R_celln 0 HE6.out.row (rd pc (wrap64 ((u : Int) - 1))) hcn.2.2.1 (by have e := HE6.out.len; omega)
       clear hcn hnx HNXT
       generalize wr.drewN nd = w6 at *
       go_region
       have HE7 := Aside0.mk ((HE6.out.set (rd pc (wrap64 ((u : Int) - 1))) (rd l0_2 x)).step (Below.drew (Below.refl _ _)))
       have HO7 := Aside0.mk (Kd.N_below (Kd.N_far HO6.out (p := ⟨gb, (rd pc (wrap64 ((u : Int) - 1))).toNat, none⟩) (fun k hk => Nat.ne_of_gt (Nat.lt_of_lt_of_le HWM.out.1 hk)) (.int .u8 (rd l0_2 x))) (Below.drew (Below.refl _ _)))
       have HL7 := Aside0.mk (Kd.V_below (Kd.V_far HL6.out (p := ⟨gb, (rd pc (wrap64 ((u : Int) - 1))).toNat, none⟩) (fun k hk => Nat.ne_of_gt (Nat.lt_of_lt_of_le HWM.out.1 hk)) (.int .u8 (rd l0_2 x))) (Below.drew (Below.refl _ _)))
       have HTB : gt ≠ gb := fun e => Kd.R_ne HE6.out.row HT6.out (by decide) (by rw [e]; rfl)
       have HT7 := Aside0.mk (blk_drew (blk_far (p := ⟨gb, (rd pc (wrap64 ((u : Int) - 1))).toNat, none⟩) HT6.out HTB (.int .u8 (rd l0_2 x))))
       clear z0 z1 z2 y0 y1 y2 fz hx8 hx9 HE6 HO6 HL6 HT6
       generalize (w6.setCell ⟨gb, (rd pc (wrap64 ((u : Int) - 1))).toNat, none⟩ (.int .u8 (rd l0_2 x))).drew = w7 at *
       have y0 := (blk_cell HE7.out.out 0).trans rfl
       have y1 := (blk_cell HE7.out.out 1).trans rfl
       have y2 := (blk_cell HE7.out.out 2).trans rfl
       obtain ⟨_, fz⟩ := Kd.R_celln 0 HE7.out.row x HXR.out.1 (by have e := HE7.out.len; have := HXR.out; omega)
       go_wp2
       go_roundg (pc.length - (u + 1))
       case measure => have := HGK3.out; omega
       case rel => exact ⟨u + 1, true, _, rfl, by first | rfl | rw [wrap64_nat u (by have := HGK3.out; have := HPC.out; omega)] | simp, ⟨by have := HGK3.out; omega, Nat.le_refl _, HN2.out⟩, ⟨HE7.out.set x 46⟩, ⟨Kd.N_far HO7.out (fun k hk => Nat.ne_of_gt (Nat.lt_of_lt_of_le HWM.out.1 hk)) _⟩, ⟨Kd.V_far HL7.out (fun k hk => Nat.ne_of_gt (Nat.lt_of_lt_of_le HWM.out.1 hk)) _⟩, ⟨blk_far (p := ⟨gb, x.toNat, none⟩) HT7.out HTB _⟩⟩
      | false =>
       go_wp2_with (first
        | (go_at_call 22; refine (spec_tyBall.calls (rd l0_2 x) true _ HIB.out).mono ?_; rintro e w6 ⟨rfl, ⟨nd, rfl⟩⟩; (have hb9 := (Drawn0.below (w := wr) ⟨nd, rfl⟩)); (have HE6 := Aside0.mk (HEX.out.step hb9)); (have HO6 := Aside0.mk (Kd.N_below HOX.out hb9)); (have HL6 := Aside0.mk (Kd.V_below HLX.out hb9)); (have HT6 := Aside0.mk ((hb9.block gt (blk_lt HTX.out)).trans HTX.out)); clear hb9 hx3 hx7 z0 z1 z2 HEX HOX HLX HTX HIB p3 p4 c3; (have z0 := (blk_cell HT6.out 0).trans rfl); (have z1 := (blk_cell HT6.out 1).trans rfl); (have z2 := (blk_cell HT6.out 2).trans rfl)))
       have hnx := HNXT.out
       simp only [if_true, if_false, Bool.false_eq_true] at hnx
       have HN2 := Aside0.mk hnx
       clear hnx HNXT z0 z1 z2
       try go_wp2
       go_roundg (pc.length - (u + 1))
       case measure => have := HGK3.out; omega
       case rel => exact ⟨u + 1, false, o3, rfl, by first | rfl | rw [wrap64_nat u (by have := HGK3.out; have := HPC.out; omega)] | simp, ⟨by have := HGK3.out; omega, Nat.le_refl _, HN2.out⟩, HE6, HO6, HL6, HT6⟩
     | false =>
      go_wp2_with (first
        | (go_at_call 22; refine (spec_tyBall.calls (rd l0_2 x) false _ HIB.out).mono ?_; rintro e w6 ⟨rfl, ⟨nd, rfl⟩⟩; (have hb9 := (Drawn0.below (w := wr) ⟨nd, rfl⟩)); (have HE6 := Aside0.mk (HEX.out.step hb9)); (have HO6 := Aside0.mk (Kd.N_below HOX.out hb9)); (have HL6 := Aside0.mk (Kd.V_below HLX.out hb9)); (have HT6 := Aside0.mk ((hb9.block gt (blk_lt HTX.out)).trans HTX.out)); clear hb9 hx3 hx7 z0 z1 z2 HEX HOX HLX HTX HIB p3 p4 c3; (have z0 := (blk_cell HT6.out 0).trans rfl); (have z1 := (blk_cell HT6.out 1).trans rfl); (have z2 := (blk_cell HT6.out 2).trans rfl)))
      have hnx := HNXT.out
      simp only [if_true, if_false, Bool.false_eq_true] at hnx
      have HN2 := Aside0.mk hnx
      clear hnx HNXT z0 z1 z2
      try go_wp2
      go_roundg (pc.length - (u + 1))
      case measure => have := HGK3.out; omega
      case rel => exact ⟨u + 1, true, o3, rfl, by first | rfl | rw [wrap64_nat u (by have := HGK3.out; have := HPC.out; omega)] | simp, ⟨by have := HGK3.out; omega, Nat.le_refl _, HN2.out⟩, HE6, HO6, HL6, HT6⟩
    ·obtain rfl : u = pc.length := by have := HA3.out.1; omega
     have c3 : decide ((pc.length : Int) < (pc.length : Int)) = false := decide_eq_false (by omega)
     have he := HA3.out.2.2
     rw [List.drop_length] at he
     obtain rfl : o3 = m2 := Option.some.inj he
     clear he HA3 hlu
     go_wp2
     go_roundg (P.length - (i + 1))
     case measure => have := HGK2.out; omega
     case rel => exact ⟨i + 1, o3, by first | rfl | rw [wrap64_nat i (by have := HGK2.out; have := HLEN.out; omega)] | simp, ⟨by have := HGK2.out; omega, Nat.le_refl _, HSP.out⟩, HEX, HOX, HTX⟩
  ·obtain rfl : i = P.length := by have := HA.out.1; omega
   have c2 : decide ((P.length : Int) < (P.length : Int)) = false := decide_eq_false (by omega)
   have he := HA.out.2.2
   rw [List.drop_length] at he
   obtain rfl : out = res := Option.some.inj he
   clear he HA hli HO HT
   have y0 := (blk_cell HE.out.out 0).trans rfl
   have y1 := (blk_cell HE.out.out 1).trans rfl
   have y2 := (blk_cell HE.out.out 2).trans rfl
   have r0 := (blk_cell HE.out.res 0).trans rfl
   have r1 := (blk_cell HE.out.res 1).trans rfl
   have r2 := (blk_cell HE.out.res 2).trans rfl
   have g0 := blk_frozen HE.out.res 0
   have g1 := blk_frozen HE.out.res 1
   have g2 := blk_frozen HE.out.res 2
   go_wp2_with fail
   have hol : l0_2.length = out.length := HE.out.len.symm
   refine bodyPost_ret (results_cell_row rfl _ _ gr 29 #[.int .i64 a0_0, .int .i64 a0_1, .slice (some ⟨gb, 0, none⟩) l0_2.length c] (0, 0) _ rfl (by refine blk_put (cs := #[.int .i64 a0_0, .int .i64 a0_1, .slice none 0 0]) ?_ 2 _ rfl; refine blk_put (cs := #[.int .i64 a0_0, .int .i64 0, .slice none 0 0]) ?_ 1 _ rfl; refine blk_put (cs := #[.int .i64 0, .int .i64 0, .slice none 0 0]) ?_ 0 _ rfl; exact HE.out.res) Tryz.underlying29 rfl (by kernel_rfl)) rfl ?_
   exact ⟨_, rfl, Kd.R_mono (Kd.R_far (p := ⟨gr, 2, none⟩) (Kd.R_far (p := ⟨gr, 1, none⟩) (Kd.R_far (p := ⟨gr, 0, none⟩) (Kd.R_types HE.out.row HE.out.res (by decide)) (fun _ hk => hk.2) (.int .i64 a0_0)) (fun _ hk => hk.2) (.int .i64 a0_1)) (fun _ hk => hk.2) (.slice (some ⟨gb, 0, none⟩) l0_2.length c)) (fun _ _ => trivial), below_set (below_set (below_set HE.out.below HE.out.gr0) HE.out.gr0) HE.out.gr0⟩
end Go.Proofs.YtcpeldgnabfdmabGreatDoor.Q
end
section
namespace Go.Proofs.YtcpeldgnabfdmabGreatDoor.Q
open Go.RowKit Go.Shelf Go.Proofs.YtcpeldgnabfdmabGreatDoorW.PrintWords Go.Proofs.YtcpeldgnabfdmabGreatDoorW.PrintLast Go.Proofs.YtcpeldgnabfdmabGreatDoorW.PrintMore
set_option linter.unusedSectionVars false
theorem wrm (n : Nat) (h : n ≤ 100000) (h1 : 0 < n) : wrap64 ((n : Int) - 1) = ((n - 1 : Nat) : Int) := by unfold wrap64; omega
theorem ahead_rd (s pre l : List Int) (x p : Int) (hs : s = pre ++ x :: l) (hp : ∀ h : pre ≠ [], p = pre.getLast h) (hl : s.length ≤ 1000) (room : Bool) (hr : room = true → pre ≠ []) :
  wrap64 ((pre.length : Int) - bitI room) = ((pre.length - (if room = true then 1 else 0) : Nat) : Int) ∧ pre.length - (if room = true then 1 else 0) < s.length ∧ rd s (wrap64 ((pre.length : Int) - bitI room)) = if room = true then p else x := by
 have hlen : pre.length < s.length := by rw [hs, List.length_append, List.length_cons]; omega
 cases room with
 | true =>
  have hne := hr rfl
  have hpp := List.length_pos_iff.2 hne
  have h1 : wrap64 ((pre.length : Int) - bitI true) = ((pre.length - 1 : Nat) : Int) := wrm _ (by omega) hpp
  refine ⟨h1, by simp; omega, ?_⟩
  rw [h1, rd_nat s _ (by omega), if_pos rfl, hp hne, List.getLast_eq_getElem]
  simp only [hs]
  rw [List.getElem_append_left (by omega)]
 | false =>
  have h1 : wrap64 ((pre.length : Int) - bitI false) = ((pre.length : Nat) : Int) := by
   show wrap64 ((pre.length : Int) - 0) = _
   rw [Int.sub_zero]
   exact w64 (by omega) (by omega)
  refine ⟨h1, by simpa using hlen, ?_⟩
  rw [h1, rd_nat s _ hlen, if_neg (by decide)]
  simp [hs]
theorem spC_eq (cs s : List Int) (hc : cs.length ≤ 1000) (hx : ∀ x ∈ s, 0 ≤ x ∧ x < (cs.length : Int)) (hsl : s.length ≤ 1000) : ∀ (l pre : List Int) (p : Int) (room : Bool) (m : List (Int × Int)), s = pre ++ l → (∀ h : pre ≠ [], p = pre.getLast h) → (room = true → pre ≠ []) → m.length + l.length ≤ 1000 → spC cs s l pre.length room m = some ((stepPairs cs l p room).reverse ++ m)
 | [], _, _, _, _, _, _, _, _ => by
  unfold spC stepPairs
  rfl
 | x :: l, pre, p, room, m, hs, hp, hr, hm => by
  have hs2 : s = (pre ++ [x]) ++ l := by rw [hs]; simp
  have hlast : ∀ h : pre ++ [x] ≠ [], x = (pre ++ [x]).getLast h := fun h => by simp
  have hl2 : (pre ++ [x]).length = pre.length + 1 := by simp
  obtain ⟨x0, x1⟩ := hx x (by rw [hs]; simp)
  obtain ⟨a1, a2, a3⟩ := ahead_rd s pre l x p hs hp hsl room hr
  simp only [List.length_cons] at hm
  unfold spC stepPairs
  rw [if_pos ⟨x0, x1, by omega⟩, isBall_eq, Option.bind_some]
  by_cases hb : bI cs x = true
  ·have hin : rd s (wrap64 ((pre.length : Int) - bitI room)) ∈ s := by rw [a1, rd_nat s _ a2]; exact List.getElem_mem _
   obtain ⟨r0, r1⟩ := hx _ hin
   rw [if_pos (show isB (rd cs x) = true from hb), if_pos hb, if_pos ⟨by rw [a1]; omega, by rw [a1]; omega, r0, by omega, by omega⟩, ← hl2, spC_eq cs s hc hx hsl l (pre ++ [x]) x _ _ hs2 hlast (fun _ => by simp) (by simp only [List.length_cons]; omega), a3, List.reverse_cons, List.append_assoc, List.singleton_append]
  ·rw [if_neg (show ¬ isB (rd cs x) = true from hb), if_neg hb, ← hl2]
   exact spC_eq cs s hc hx hsl l (pre ++ [x]) x _ _ hs2 hlast (fun _ => by simp) (by omega)
theorem stepPairs_len (cs : List Int) (l : List Int) (p : Int) (room : Bool) : (stepPairs cs l p room).length ≤ l.length := by
 have h := congrArg List.length (stepPairs_fst cs l p room)
 rw [List.length_map] at h
 rw [h]
 exact List.length_filter_le _ _
theorem spP_eq (cs : List Int) (hc : cs.length ≤ 1000) : ∀ (P : List (List Int)) (m : List (Int × Int)), (∀ s ∈ P, ∀ x ∈ s, 0 ≤ x ∧ x < (cs.length : Int)) → m.length + P.flatten.length ≤ 1000 → spP cs P m = some ((stepP cs P).reverse ++ m)
 | [], m, _, _ => rfl
 | s :: P, m, hx, hl => by
  rw [List.flatten_cons, List.length_append] at hl
  have h3 := stepPairs_len cs s 0 false
  unfold spP
  rw [if_pos (by omega), show spC cs s s 0 false m = _ from spC_eq cs s hc (hx s List.mem_cons_self) (by omega) s [] 0 false m rfl (fun h => absurd rfl h) (fun h => by cases h) (by omega), Option.bind_some]
  show spP cs P ((stepPairs cs s 0 false).reverse ++ m) = _
  rw [spP_eq cs hc P _ (fun t ht => hx t (List.mem_cons_of_mem _ ht)) (by rw [List.length_append, List.length_reverse]; omega)]
  unfold stepP
  rw [List.flatMap_cons, List.reverse_append, List.append_assoc]
theorem tsC_eq (cs s : List Int) (hx : ∀ x ∈ s, 0 ≤ x ∧ x < (cs.length : Int)) (hsl : s.length ≤ 1000) : ∀ (l pre : List Int) (p : Int) (fr : Bool) (out : List Int), s = pre ++ l → (∀ h : pre ≠ [], p = pre.getLast h) → (fr = true → pre ≠ []) → tsC cs s l pre.length fr out = some (specS cs l p fr out)
 | [], _, _, _, _, _, _, _ => by
  unfold tsC specS
  rfl
 | x :: l, pre, p, fr, out, hs, hp, hr => by
  have hs2 : s = (pre ++ [x]) ++ l := by rw [hs]; simp
  have hlast : ∀ h : pre ++ [x] ≠ [], x = (pre ++ [x]).getLast h := fun h => by simp
  have hl2 : (pre ++ [x]).length = pre.length + 1 := by simp
  obtain ⟨x0, x1⟩ := hx x (by rw [hs]; simp)
  unfold tsC specS
  rw [if_pos ⟨x0, x1⟩, tyBall_eq, Option.bind_some]
  by_cases hb : bI cs x = true
  ·rw [if_pos (show isB (rd cs x) = true from hb), if_pos hb]
   by_cases hf : fr = true
   ·obtain ⟨a1, a2, a3⟩ := ahead_rd s pre l x p hs hp hsl fr hr
    subst hf
    have e1 : wrap64 ((pre.length : Int) - bitI true) = wrap64 ((pre.length : Int) - 1) := rfl
    rw [e1] at a1 a3
    rw [if_pos rfl] at a1 a2 a3
    have hin : rd s (wrap64 ((pre.length : Int) - 1)) ∈ s := by rw [a1, rd_nat s _ a2]; exact List.getElem_mem _
    obtain ⟨r0, r1⟩ := hx _ hin
    rw [if_pos rfl, if_pos rfl, if_pos ⟨by rw [a1]; omega, by rw [a1]; omega, r0, r1⟩, ← hl2, a3]
    exact tsC_eq cs s hx hsl l (pre ++ [x]) x _ _ hs2 hlast (fun _ => by simp)
   ·rw [if_neg hf, if_neg hf, ← hl2]
    exact tsC_eq cs s hx hsl l (pre ++ [x]) x _ _ hs2 hlast (fun _ => by simp)
  ·rw [if_neg (show ¬ isB (rd cs x) = true from hb), if_neg hb, ← hl2]
   exact tsC_eq cs s hx hsl l (pre ++ [x]) x _ _ hs2 hlast (fun _ => by simp)
theorem tsP_eq (cs : List Int) : ∀ (P : List (List Int)) (out : List Int), (∀ s ∈ P, s.length ≤ 1000 ∧ ∀ x ∈ s, 0 ≤ x ∧ x < (cs.length : Int)) → tsP cs P out = some (P.foldl (fun A s => specS cs s 0 false A) out)
 | [], _, _ => rfl
 | s :: P, out, hx => by
  obtain ⟨h1, h2⟩ := hx s List.mem_cons_self
  unfold tsP
  rw [if_pos h1, show tsC cs s s 0 false out = _ from tsC_eq cs s h2 h1 s [] 0 false out rfl (fun h => absurd rfl h) (fun h => by cases h), Option.bind_some, tsP_eq cs P _ fun t ht => hx t (List.mem_cons_of_mem _ ht)]
  rfl
section
variable {w h : Nat} {cs : List Int} (hw : w ≤ 7) (hh : h ≤ 7) (hs : w * h ≤ 36) {d : Nat} (hd : d < 4)
include hw hh hs hd
theorem stepped_ev (hw0 : 0 < w) (hh0 : 0 < h) (hn : cs.length = w * h) : Ev (fun k => impl_tray_stepped.f k w h cs (dirC d)) ((w : Int), (h : Int), stepC w h cs d) := by
 have hz : 0 < w * h := Nat.mul_pos hw0 hh0
 have h1 := cuts_many hw hh hs hd (cs := cs)
 have h2 : (strL w h cs d).length = (cutsL w h cs d).length := by unfold strL; exact List.length_mergeSort _
 have h3 := str_total hw hh hs hd hn
 refine Ev.bind (f := fun _ P => if P.length ≤ 1000 then (spP cs P []).bind fun m => if (0 < cs.length ∧ cs.length ≤ 1000) ∧ fitsB m cs.length = true then some ((w : Int), (h : Int), laidCells cs (emptyC cs) (asF m) (fun _ => true)) else none else none) (stretches_ev hw hh hs hd hw0 hh0 hn) (Ev.const ?_)
 rw [if_pos (by omega), spP_eq cs (by omega) _ [] (fun s hm => (str_in hw hh hs hd hn s hm).2) (by simp only [List.length_nil]; omega), List.append_nil, Option.bind_some, if_pos ⟨⟨by omega, by omega⟩, step_fits hw hh hs hd hn⟩]
 rfl
theorem tiStep_ev (hw0 : 0 < w) (hh0 : 0 < h) (hn : cs.length = w * h) (hc : cellsOK cs) : Ev (fun k => spec_tiStep.f k w h cs d) ((w : Int), (h : Int), stepC w h cs d) := by
 have hz : 0 < w * h := Nat.mul_pos hw0 hh0
 have h1 := cuts_many hw hh hs hd (cs := cs)
 have h2 : (strL w h cs d).length = (cutsL w h cs d).length := by unfold strL; exact List.length_mergeSort _
 have hin := str_in hw hh hs hd hn
 have hT := turns_all (w * h) (fun s A => specS cs s 0 false A) (fun s => cnt cs s) (fun s => stepL (cnt cs s)) (strL w h cs d) cs (fun s hm => by
  have hr : ∀ A : List Int, A.length = w * h → ∀ x ∈ s, 0 ≤ x ∧ x < (A.length : Int) := fun A hA x hx => by rw [hA, ← hn]; exact (hin s hm).2 x hx
  exact ⟨fun A hA hst => specS_lay cs s (str_nodup hw hh hs hd s hm) s [] 0 false A rfl (by simp [cnt]) (fun h => absurd rfl h) (str_plain hw hh hs hd hn hc s hm) (hr A hA) (by rw [hst]; simp [cnt, stepL]), fun A => specS_len _ _ _ _ _, fun A y hA y0 hy => specS_off cs s 0 false A y (hr A hA) (fun e => by cases e) y0 hy⟩)
  (str_flat hw hh hs hd) (fun s hm x hx => ((hin s hm).2 x hx).1) hn fun _ _ => rfl
 obtain ⟨c1, c2⟩ := stepC_cnt hw hh hs hd hn hc
 have he : (strL w h cs d).foldl (fun A s => specS cs s 0 false A) cs = stepC w h cs d := arr_ext hT.1 ((stepC_len hw hh hs hd).trans hn) (strL w h cs d) (fun s hm => by rw [hT.2.1 s hm, c1 s hm]) fun y y0 y1 hy => by rw [hT.2.2 y y0 hy, c2 y y0 y1 hy]
 refine Ev.congr (Ev.bind (f := fun _ (P : List (List Int)) => if P.length ≤ 1000 then (tsP cs P cs).bind fun out => some ((w : Int), (h : Int), out) else none) (tiStretches_ev hw hh hs hd hn) (Ev.const ?_)) fun k => if_pos ⟨by omega, by omega⟩
 rw [if_pos (by omega), tsP_eq cs _ _ hin, he, Option.bind_some]
end
end Go.Proofs.YtcpeldgnabfdmabGreatDoor.Q
end
section
namespace Go.Proofs.YtcpeldgnabfdmabGreatDoor.Q
open Go.RowKit Go.Shelf Go.Proofs.YtcpeldgnabfdmabGreatDoorW.PrintWords Go.Proofs.YtcpeldgnabfdmabGreatDoorW.PrintLast Go.Proofs.YtcpeldgnabfdmabGreatDoorW.PrintMore
attribute [local go_sem] Oper.semAt_some
def Kp2 (s3 s4 : Nat) (W W' : World) : Prop := W'.heap[s3]? = W.heap[s3]? ∧ W'.heap[s4]? = W.heap[s4]?
theorem Kp2.trans {s3 s4 : Nat} {A B C : World} (h : Kp2 s3 s4 A B) (k : Kp2 s3 s4 B C) : Kp2 s3 s4 A C := ⟨k.1.trans h.1, k.2.trans h.2⟩
theorem Kp2.refl {s3 s4 : Nat} {A : World} : Kp2 s3 s4 A A := ⟨rfl, rfl⟩
theorem range_snoc (k : Nat) : List.range (k + 1) = List.range k ++ [k] := List.range_succ
set_option maxRecDepth 100000 in
set_option maxHeartbeats 4000000 in
theorem chunk1_in (F : Fence) (n : Nat) (hf : F.fn 52) (hro : F.round = none) (hn : 1 ≤ n) (l Bs Bn b off len cap c m : Nat) (hc1 : 1 ≤ c) (hlen : len = m * c) (hsm : len ≤ 1000) (hcap : len ≤ cap) (J Jx : List Nat → World → Prop)
  (hJd : ∀ s W, J s W → J s W.drew)
  (hY : ∀ pre x W, J pre W → x < m → pre.length < m → YieldAt F (n - 1) Tryz.prog l #[.slice (some ⟨b, off + x * c, none⟩) c c] W fun e W' =>
   (e = .returned (.bool true) ∧ J (pre ++ [x]) W' ∧ Kp2 Bs Bn W W') ∨ (e = .returned (.bool false) ∧ Jx (pre ++ [x]) W'))
  (W : World) (hBs : W.heap[Bs]? = some (.cells #[.slice (some ⟨b, off, none⟩) len cap] 27 (0, 0))) (hBn : W.heap[Bn]? = some (.cells #[.int .i64 c] 3 (0, 0))) (h0 : J [] W) :
  CallsIn F n Tryz.prog 52 #[.func (.yield l) #[] #[], .pointer (some ⟨Bs, 0, none⟩), .pointer (some ⟨Bn, 0, none⟩)] W fun e W' => (∃ v, e = .returned v) ∧
   ((∃ ys, ys = List.range m ∧ J ys W') ∨ (∃ pre, (∃ k, k ≤ m ∧ pre = List.range k) ∧ Jx pre W')) := by
 refine callsIn_of_wp Tryz.func52 rfl hf ?_ hro
 simp only [Tryz.ntmps52, List.size_toArray, List.length_cons, List.length_nil, Nat.reduceAdd, Nat.reduceSub, Array.replicate_succ, Array.replicate_zero, List.push_toArray, List.append_toArray, List.nil_append, List.cons_append]
 gi_wp2
 have HL := Aside0.mk hlen
 clear hlen
 gi_loopw [4] (fun i wr => ∃ k q : Nat, Aside0 (k ≤ m ∧ q = k * c) ∧ i = .int .i64 (q : Int) ∧ J (List.range k) wr ∧ Kp2 Bs Bn W wr)
  (fun i _ => len - (intOf i).toNat)
 case atStart => exact ⟨0, 0, ⟨Nat.zero_le _, by simp⟩, by simp, h0, Kp2.refl⟩
 case round =>
  obtain ⟨k, q, HK, rfl, hJs, hnx⟩ := hrel
  have hs := hnx.1.trans hBs
  have hnn := hnx.2.trans hBn
  have cs : wr.cell? ⟨Bs, 0, none⟩ = some (.slice (some ⟨b, off, none⟩) len cap) := (blk_cell hs 0).trans rfl
  have cn : wr.cell? ⟨Bn, 0, none⟩ = some (.int .i64 c) := (blk_cell hnn 0).trans rfl
  by_cases hlt : k < m
  ·have hkc : q + c ≤ len := by rw [HL.out, HK.out.2, ← Nat.succ_mul]; exact Nat.mul_le_mul_right c hlt
   have c1 : decide ((q : Int) < (len : Int)) = true := decide_eq_true (by omega)
   have hmx : Tryz.prog.follows .mixedOrders = true := by kernel_rfl
   obtain ⟨fn, tmps, assign, body, hy, hR⟩ := hY _ k wr.drew (hJd _ _ hJs) hlt (by rw [List.length_range]; exact hlt)
   rw [← HK.out.2] at hy
   have hm1 : min (c : Int) ((len - q : Nat) : Int) = (c : Int) := by omega
   have hm2 : ((q : Int) + (c : Int)).toNat - q = c := by omega
   have hm3 : cap ≠ q := by omega
   have HKC := Aside0.mk hkc
   have HR := Aside0.mk hR
   clear hs hnn hJs hkc hR hY
   gi_wp2
   gi_region
   all_goals gi_wp2
   all_goals (try go_bits)
   all_goals
    refine HR.out.mono ?_
    rintro e W3 (⟨rfl, hJ3, hk3⟩ | ⟨rfl, hJx3⟩)
    ·have hnx3 : Kp2 Bs Bn W W3 := hnx.trans hk3
     have cn3 : W3.cell? ⟨Bn, 0, none⟩ = some (.int .i64 c) := (blk_cell (hnx3.2.trans hBn) 0).trans rfl
     gi_wp2
     go_roundw
     case rel => exact ⟨k + 1, q + c, ⟨by omega, by rw [HK.out.2, Nat.succ_mul]⟩, by simp, by rw [range_snoc]; exact hJ3, hnx3⟩
     case measure =>
      have := HKC.out
      simp [intOf]
      omega
    ·gi_wp2
     refine bodyPost_ret (results_none rfl _ _ _) rfl ?_
     exact ⟨⟨_, rfl⟩, .inr ⟨_, ⟨k + 1, by omega, (range_snoc k).symm⟩, hJx3⟩⟩
  ·have hkm : k = m := by have := HK.out.1; omega
   subst hkm
   have hql : q = len := by rw [HL.out, HK.out.2]
   subst hql
   have c1 : decide ((q : Int) < (q : Int)) = false := decide_eq_false (by omega)
   gi_wp2
   go_end0
   exact ⟨⟨_, rfl⟩, .inl ⟨_, rfl, hJs⟩⟩
end Go.Proofs.YtcpeldgnabfdmabGreatDoor.Q
end
section
namespace Go.Proofs.YtcpeldgnabfdmabGreatDoor.Q
open Go.RowKit Go.Shelf Go.Proofs.YtcpeldgnabfdmabGreatDoorW.PrintWords Go.Proofs.YtcpeldgnabfdmabGreatDoorW.PrintLast Go.Proofs.YtcpeldgnabfdmabGreatDoorW.PrintMore
attribute [local go_sem] Oper.semAt_some
set_option maxRecDepth 100000 in
set_option maxHeartbeats 4000000 in
theorem chunk_in (F : Fence) (n : Nat) (hf : F.fn 31) (hro : F.round = none) (A : Option Addr) (len cap : Nat) (c : Int) (hc : 1 ≤ c) (w : World) :
  CallsIn F n Tryz.prog 31 #[.slice A len cap, .int .i64 c] w fun e w' => e = .returned (.func (.func 52) #[] #[.pointer (some ⟨w.heap.size, 0, none⟩), .pointer (some ⟨w.heap.size + 1, 0, none⟩)]) ∧
   w' = (w.alloc (.cells #[.slice A len cap] 27)).alloc (.cells #[.int .i64 c] 3) := by
 refine callsIn_of_wp Tryz.func31 rfl hf ?_ hro
 simp only [Tryz.ntmps31, List.size_toArray, List.length_cons, List.length_nil, Nat.reduceAdd, Nat.reduceSub, Array.replicate_succ, Array.replicate_zero, List.push_toArray, List.append_toArray, List.nil_append, List.cons_append]
 have c1 : decide (c < 1) = false := decide_eq_false (by omega)
 gi_wp2
 go_ret
 exact ⟨rfl, rfl⟩
theorem chunk_stops (F : Fence) (n : Nat) (hf : F.fn 52) (hro : F.round = none) (hn : 1 ≤ n) (Bs Bn b off len cap c m : Nat) (hc1 : 1 ≤ c) (hlen : len = m * c) (hsm : len ≤ 1000) (hcap : len ≤ cap) (w : World)
  (hBs : w.heap[Bs]? = some (.cells #[.slice (some ⟨b, off, none⟩) len cap] 27 (0, 0))) (hBn : w.heap[Bn]? = some (.cells #[.int .i64 c] 3 (0, 0))) :
  SeqStopsK F n Tryz.prog 52 #[.pointer (some ⟨Bs, 0, none⟩), .pointer (some ⟨Bn, 0, none⟩)] (fun x : Fin m => #[Value.slice (some ⟨b, off + x.val * c, none⟩) c c]) (Kp2 Bs Bn) (fun ys => ys.map Fin.val = List.range m) (fun _ => True) m w := fun l J Jx W hW hJ _ hY h0 => by
 refine (chunk1_in F n hf hro hn l Bs Bn b off len cap c m hc1 hlen hsm hcap (fun pre W => ∃ ys : List (Fin m), ys.map Fin.val = pre ∧ J ys W) (fun pre W => ∃ ys : List (Fin m), Jx ys W) ?_ ?_ W ((hW.block Bs (blk_lt hBs)).trans hBs) ((hW.block Bn (blk_lt hBn)).trans hBn) ⟨[], rfl, h0⟩).mono ?_
 ·rintro s W1 ⟨ys, e, hs⟩
  exact ⟨ys, e, hJ ys W1 W1.drew none hs ⟨rfl, rfl, rfl, Nat.le_refl _, fun _ _ _ => rfl⟩ (fun r e => by cases e)⟩
 ·rintro pre x W1 ⟨ys, rfl, hs⟩ hx hl
  obtain ⟨fn, tmps, assign, body, hy, hR⟩ := hY ys ⟨x, hx⟩ W1 hs (by rw [List.length_map] at hl; exact hl)
  refine ⟨fn, tmps, assign, body, hy, hR.mono ?_⟩
  rintro e W' (⟨rfl, h1, h2⟩ | ⟨rfl, h1⟩)
  ·exact .inl ⟨rfl, ⟨_, by rw [List.map_append]; rfl, h1⟩, h2⟩
  ·exact .inr ⟨rfl, _, h1⟩
 ·rintro e W' ⟨he, ⟨ys, rfl, zs, e2, hj⟩ | ⟨pre, _, zs, hj⟩⟩
  ·exact ⟨he, .inl ⟨zs, e2, hj⟩⟩
  ·exact ⟨he, .inr ⟨zs, trivial, hj⟩⟩
def rowS (l : List Int) (c k : Nat) : ByteArray := strOfNums ((l.drop (k * c)).take c)
def impl_tray_text.f (w h : Int) (l : List Int) : Option ByteArray :=
 if 1 ≤ w ∧ 1 ≤ l.length ∧ l.length ≤ 1000 ∧ l.length = l.length / w.toNat * w.toNat then strings_Join.f ((List.range (l.length / w.toNat)).map (rowS l w.toNat)) ⟨#[47]⟩ else none
theorem row_len (l : List Int) (c k m : Nat) (hl : l.length = m * c) (hk : k < m) : ((l.drop (k * c)).take c).length = c := by
 rw [List.length_take, List.length_drop, hl]
 have : k * c + c ≤ m * c := by rw [← Nat.succ_mul]; exact Nat.mul_le_mul_right c hk
 omega
theorem row_at (l : List Int) (c k i : Nat) (hi : i < c) : ((l.drop (k * c)).take c).getD i 0 = l.getD (k * c + i) 0 := by
 rw [List.getD_eq_getElem?_getD, List.getElem?_take, if_pos hi, List.getElem?_drop, List.getD_eq_getElem?_getD]
theorem five {w X : World} {A B C D E : Obj} (h : X = ((((w.alloc A).alloc B).alloc C).alloc D).alloc E) : X.heap.size = w.heap.size + 5 ∧ Below w.heap.size w X ∧ X.heap[w.heap.size]? = some A ∧ X.heap[w.heap.size + 1]? = some B ∧ X.heap[w.heap.size + 1 + 1]? = some C ∧ X.heap[w.heap.size + 1 + 1 + 1]? = some D ∧ X.heap[w.heap.size + 1 + 1 + 1 + 1]? = some E := by
 subst h
 have g1 : ∀ (W : World) (o : Obj) (i : Nat) (x : Obj), W.heap[i]? = some x → (W.alloc o).heap[i]? = some x := fun W o i x hx => (Below.heap_alloc W o i (blk_lt hx)).trans hx
 have n1 := World.alloc_heap_new w A
 have n2 := World.alloc_heap_new (w.alloc A) B
 have n3 := World.alloc_heap_new ((w.alloc A).alloc B) C
 have n4 := World.alloc_heap_new (((w.alloc A).alloc B).alloc C) D
 have n5 := World.alloc_heap_new ((((w.alloc A).alloc B).alloc C).alloc D) E
 simp only [World.size_alloc] at n2 n3 n4 n5
 exact ⟨by simp only [World.size_alloc], ((((((Below.refl _ w).alloc (Nat.le_refl _) _).alloc (by simp only [World.size_alloc]; omega) _).alloc (by simp only [World.size_alloc]; omega) _).alloc (by simp only [World.size_alloc]; omega) _).alloc (by simp only [World.size_alloc]; omega) _), g1 _ _ _ _ (g1 _ _ _ _ (g1 _ _ _ _ (g1 _ _ _ _ n1))), g1 _ _ _ _ (g1 _ _ _ _ (g1 _ _ _ _ n2)), g1 _ _ _ _ (g1 _ _ _ _ n3), g1 _ _ _ _ n4, n5⟩
set_option maxRecDepth 100000 in
set_option maxHeartbeats 8000000 in
theorem text_in (n : Nat) (hn : 3 ≤ n) (a0_0 a0_1 : Int) (b off cap : Nat) (l : List Int) (c m : Nat) (r : ByteArray) (w : World) (hb : b < w.heap.size) (hcell : ∀ j, j < l.length → w.cell? ⟨b, off + j, none⟩ = some (.int .u8 (l.getD j 0))) (hcap : l.length ≤ cap) (hc1 : 1 ≤ c) (h00 : a0_0 = c) (hl : l.length = m * c) (hsm : l.length ≤ 1000)
  (hj : strings_Join.f ((List.range m).map (rowS l c)) ⟨#[47]⟩ = some r) :
  CallsIn Fence.wide n Tryz.prog 15 #[.agg #[.int .i64 a0_0, .int .i64 a0_1, .slice (some ⟨b, off, none⟩) l.length cap]] w fun e w' => e = .returned (.string r) ∧ Below w.heap.size w w' := by
 have hro : Fence.wide.round = none := rfl
 have h1 : 1 ≤ n := by omega
 refine callsIn_of_wp_marks Tryz.func15 rfl trivial ?_ hro
 simp only [Tryz.ntmps15, List.size_toArray, List.length_cons, List.length_nil, Nat.reduceAdd, Nat.reduceSub, Array.replicate_succ, Array.replicate_zero, List.push_toArray, List.append_toArray, List.nil_append, List.cons_append]
 have hu := Tryz.underlying35
 subst h00
 have HL := Aside0.mk hl
 have HCL := Aside0.mk hcell
 have HJ := Aside0.mk hj
 clear hl hcell hj
 gi_wp2_with (refine ⟨trivial, ?_⟩; gi_at_call 31; refine (chunk_in Fence.wide (n - 1) trivial hro _ _ _ _ (by omega) _).mono ?_; rintro e w' ⟨he, hw⟩; simp only [World.size_alloc] at he; subst he; (have HW := Aside0.mk hw); clear hw)
 obtain ⟨hsz, hB0, bA, bB, bC, bD, bE⟩ := five HW.out
 clear HW
 have hI : OwnFrom w'.heap.size (fun (pre : List (Fin m)) W => (∃ v, Boxed W (w.heap.size + 1 + 1) 48 v ∧ W.ownsRow w.heap.size 9 1 v pre.length (pre.map fun k => Value.string (rowS l c k.val)) ∧ True) ∧ (Boxed W (w.heap.size + 1 + 1 + 1) 27 (.slice (some ⟨b, off, none⟩) l.length cap) ∧ Boxed W (w.heap.size + 1 + 1 + 1 + 1) 3 (.int .i64 c)) ∧ Below w.heap.size w W) :=
  OwnFrom.and (Own.from (holdsRow_own w.heap.size (w.heap.size + 1 + 1) 48 9 1 (fun pre : List (Fin m) => pre.length) (fun pre => pre.map fun k => Value.string (rowS l c k.val)) (fun _ _ => True)) _)
   (OwnFrom.and (OwnFrom.and (Own.from (boxed_own (w.heap.size + 1 + 1 + 1) 27 (fun _ : List (Fin m) => Value.slice (some ⟨b, off, none⟩) l.length cap)) _) (Own.from (boxed_own (w.heap.size + 1 + 1 + 1 + 1) 3 (fun _ : List (Fin m) => Value.int .i64 c)) _)) (ownFrom_below (Nat.le_refl _) (by omega)))
 have row0 : w'.ownsRow w.heap.size 9 1 (.slice (some ⟨w.heap.size + 1, 0, none⟩) 0 0) 0 [] := ⟨rfl, .inr ⟨w.heap.size + 1, 0, #[], rfl, by omega, bB, Nat.le_refl _, Nat.zero_le _, rfl, rfl⟩⟩
 refine wpIn_rangeFunc_ownG hro h1 (gf := 52) (lb := #[.pointer (some ⟨w.heap.size + 1 + 1 + 1, 0, none⟩), .pointer (some ⟨w.heap.size + 1 + 1 + 1 + 1, 0, none⟩)]) rfl trivial (enters_of Tryz.func52 (by kernel_rfl) rfl)
  (chunk_stops Fence.wide (n - 1) trivial hro (by omega) _ _ b off l.length cap c m hc1 HL.out hsm hcap w' bD bE) Kp2.trans (fun W i o o' hi _ _ _ => ⟨World.putObj_heap_other (fun e => by omega), World.putObj_heap_other (fun e => by omega)⟩) (Below.refl _ _) (fun _ => rfl)
  _ (fun _ _ _ => False) hI (fun _ _ _ _ _ hs _ _ => hs) ⟨⟨_, bC, row0, trivial⟩, ⟨bD, bE⟩, hB0⟩
  (fun x => { tmps := #[.agg #[.int .i64 c, .int .i64 a0_1, .slice (some ⟨b, off, none⟩) l.length cap], .pointer (some ⟨w.heap.size, 0, none⟩), .string ⟨#[]⟩, .pointer (some ⟨w.heap.size + 1 + 1, 0, none⟩), .slice (some ⟨b, off + x.val * c, none⟩) c c, .slice (some ⟨w.heap.size + 1, 0, none⟩) 0 0, .pointer (some ⟨w.heap.size, 2, none⟩), .slice (some ⟨b, off, none⟩) l.length cap, .pointer (some ⟨w.heap.size, 0, none⟩), .int .i64 c, .func (.func 52) #[] #[.pointer (some ⟨w.heap.size + 1 + 1 + 1, 0, none⟩), .pointer (some ⟨w.heap.size + 1 + 1 + 1 + 1, 0, none⟩)], .slice (some ⟨b, off + x.val * c, none⟩) c c, undef, undef, undef, undef, undef, undef, undef], defers := [] }) ?assign ?body ?done ?stop
 case assign =>
  intro i x W K hK
  gi_wp2
  exact hK
 case body =>
  rintro i pre x W ⟨⟨v, hv, hrow, _⟩, ⟨hD, hE⟩, hB⟩ hlt
  have hc := hv.cell
  have hrl := row_len l c x.val m HL.out x.isLt
  have hcv := run_convert_bytes_arg (P := Tryz.prog) W 27 5 Tryz.underlying27 Tryz.underlying5 b (off + x.val * c) c c ((l.drop (x.val * c)).take c) hrl (fun j hj => by
   rw [row_at l c x.val j hj, Nat.add_assoc]
   exact (hB.cell (p := ⟨b, off + (x.val * c + j), none⟩) hb).trans (HCL.out (x.val * c + j) (by
    rw [HL.out]
    have : x.val * c + c ≤ m * c := by rw [← Nat.succ_mul]; exact Nat.mul_le_mul_right c x.isLt
    omega))) 9 Tryz.underlying9
  rw [show strOfNums ((l.drop (x.val * c)).take c) = rowS l c x.val from rfl] at hcv
  obtain ⟨i0, hi, hz0, hz1, hz2⟩ := info_parts info9
  have hpl : pre.length + 1 ≤ 1000 := by
   have : m ≤ m * c := Nat.le_mul_of_pos_right m hc1
   have := HL.out
   omega
  have HD := Aside0.mk hD
  have HE := Aside0.mk hE
  clear hD hE hrl
  gi_wp2_with (gi_at_builtin; refine wpListIn_append_own _ rfl _ _ 48 rfl w.heap.size 9 i0 (.string ⟨#[]⟩) 1 16 Tryz.underlying48 hi hz0 hz1 hz2 rfl (by decide) _ _ _ rfl (hrow.alloc _) ⟨W.heap.size, 0, none⟩ 1 1 [.string (rowS l c x.val)] rfl rfl (cell_one_new _ _ _) (by simp [Value.oneCell']) (by simp [maxLen]; omega) (by omega) (by have := hB.size; simp; omega) ?_; intro v' w1 hown' hgrow _; obtain ⟨g', cap', rfl⟩ := ownsRow_succ hown'; obtain ⟨hv1, hv2, hr2, hk2, hb2⟩ := hv.appended (by decide) hrow hB.size (by omega) hown' hgrow; have hc1 := hv1.cell; have hf1 := hv1.frozen)
  have hD2 := ((HD.out.alloc (.cells #[.string (rowS l c x.val)] 9)).kept hgrow (HD.out.not_row (by decide) hrow)).other (B' := w.heap.size + 1 + 1) (by omega) (.slice (some ⟨g', 0, none⟩) (pre.length + 1) cap')
  have hE2 := ((HE.out.alloc (.cells #[.string (rowS l c x.val)] 9)).kept hgrow (HE.out.not_row (by decide) hrow)).other (B' := w.heap.size + 1 + 1) (by omega) (.slice (some ⟨g', 0, none⟩) (pre.length + 1) cap')
  exact ⟨hk2.from _, ⟨hD2.trans HD.out.symm, hE2.trans HE.out.symm⟩, ⟨_, hv2, by simpa using hr2, trivial⟩, ⟨hD2, hE2⟩, hB.trans hb2⟩
 case done =>
  rintro D ys W hD hS ⟨⟨v, hv, hrow, _⟩, _, hB⟩ hK
  have hc := hv.cell
  have hrows : (ys.map fun k => Value.string (rowS l c k.val)) = ((List.range m).map (rowS l c)).map Value.string := by
   rw [← hS, List.map_map, List.map_map]
   rfl
  have hyl : ys.length = ((List.range m).map (rowS l c)).length := by
   have := congrArg List.length hS
   simpa using this
  rw [hrows, hyl] at hrow
  have hjn := HJ.out
  generalize (List.range m).map (rowS l c) = L at hrow hjn
  have HJ2 := Aside0.mk hjn
  clear HJ hjn
  have hR : Kd.R Kd.string 9 W w.heap.size (fun _ => True) v L := Kd.R_of_own (enc := Value.string) hrow (fun _ _ => trivial)
  obtain ⟨A, cp, rfl, hlc, hC⟩ := Kd.R_reads hR
  have HK := Aside0.mk hK
  have HB := Aside0.mk hB
  have HCC := Aside0.mk hC
  have HLC := Aside0.mk hlc
  clear hrows hyl hrow hR hK hB hC hlc hv hS
  gi_wp2_with (refine ⟨trivial, ?_⟩; gi_at_call 26; refine (callsIn_wide.2 (strings_Join.calls A cp L ⟨#[47]⟩ r _ HCC.out HLC.out HJ2.out)).mono ?_; rintro e W2 ⟨rfl, hb2⟩)
  have hK2 := (hb2.block D (blk_lt HK.out)).trans HK.out
  refine ⟨by simp, .inl ⟨_, _, rfl, run_takeDeferred hK2, ?_⟩⟩
  exact ⟨_, results_tmp rfl _ _ _, rfl, (below_then HB.out HB.out.size hb2).trans (belowK_b (w := w) (Nat.le_refl _) W2 D _ _ (by omega) hK2 rfl rfl)⟩
 case stop =>
  rintro D c' pre W _ _ h _
  exact h.elim
theorem impl_tray_text.calls (a0_0 a0_1 : Int) (A0_2 : Option Addr) (c0_2 : Nat) (l0_2 : List Int) (r : ByteArray) (w : World) (hr0_2 : Kd.C (Kd.int .u8) w A0_2 l0_2.length l0_2) (hc0_2 : l0_2.length ≤ c0_2) (h : impl_tray_text.f a0_0 a0_1 l0_2 = some r) :
  Calls Tryz.prog 15 #[.agg #[.int .i64 a0_0, .int .i64 a0_1, .slice A0_2 l0_2.length c0_2]] w fun e w' => e = .returned (.string r) ∧ Below w.heap.size w w' := by
 unfold impl_tray_text.f at h
 split at h
 case isFalse => cases h
 rename_i hc
 obtain ⟨h1, h2, h3, h4⟩ := hc
 obtain ⟨b, off, rfl, hb, hcell⟩ := bytes_at hr0_2 h2
 exact callsIn_wide.1 (text_in 3 (Nat.le_refl _) a0_0 a0_1 b off c0_2 l0_2 a0_0.toNat (l0_2.length / a0_0.toNat) r w hb hcell hc0_2 (by omega) (by omega) h4 h3 h)
end Go.Proofs.YtcpeldgnabfdmabGreatDoor.Q
end
section
namespace Go.Proofs.YtcpeldgnabfdmabGreatDoor.Q
set_option linter.unusedSectionVars false
open Go.RowKit Go.Proofs.YtcpeldgnabfdmabGreatDoorW.PrintWords Go.Proofs.YtcpeldgnabfdmabGreatDoorW.PrintLast Go.Proofs.YtcpeldgnabfdmabGreatDoorW.PrintMore
theorem text_val (w h : Nat) (l : List Int) (hw : 1 ≤ w) (hh : 1 ≤ h) (hs : w * h ≤ 36) (hn : l.length = w * h) : impl_tray_text.f w h l = some (tx l w h) := by
 have hd : l.length / w = h := by rw [hn, Nat.mul_div_cancel_left h (by omega)]
 unfold impl_tray_text.f
 have h1 : 1 ≤ w * h := Nat.mul_pos hw hh
 rw [Int.toNat_natCast, hd, if_pos ⟨by omega, by omega, by omega, by rw [hn, Nat.mul_comm]⟩]
 have h2 : ((List.range h).map (rowS l w)).map (·.data.toList) = (List.range h).map (rowL l w) := by
  rw [List.map_map]
  rfl
 have h4 : h ≤ w * h := Nat.le_mul_of_pos_left h hw
 have h5 := txL_len l w h
 have h6 : h * (w + 1) ≤ 72 := by rw [Nat.mul_add, Nat.mul_one, Nat.mul_comm]; omega
 have h7 : Lib.join (((List.range h).map (rowS l w)).map (·.data.toList)) (⟨#[47]⟩ : ByteArray).data.toList = txL l w h := by
  rw [h2]
  exact jn_join _
 unfold strings_Join.f
 rw [h7, List.length_map, List.length_range, if_pos ⟨by omega, by omega⟩]
 rfl
end Go.Proofs.YtcpeldgnabfdmabGreatDoor.Q
end
section
namespace Go.Proofs.YtcpeldgnabfdmabGreatDoor.Q
open Go.RowKit Go.Proofs.YtcpeldgnabfdmabGreatDoorW.PrintWords Go.Proofs.YtcpeldgnabfdmabGreatDoorW.PrintLast Go.Proofs.YtcpeldgnabfdmabGreatDoorW.PrintMore
attribute [local go_sem] max2_int min2_int max_two min_two max_three min_three max_four min_four
set_option linter.unusedVariables false
set_option linter.unusedSimpArgs false
def spec_tiRead.f (k : Nat) (a0 : ByteArray) (a1 : ByteArray) : Option (Int × Int × List Int × Int × Bool) := (spec_tyRead.f k a0).bind fun bt102 => ((spec_tiDir.f k a1).bind fun t109 => (if bt102.2.2.2 = true then (some (bt102.1, bt102.2.1, bt102.2.2.1, t109, decide (t109 ≥ 0))) else (some (bt102.1, bt102.2.1, bt102.2.2.1, t109, false))))
set_option maxHeartbeats 8000000 in
set_option maxRecDepth 100000 in
theorem spec_tiRead.calls (k : Nat) (a0 : ByteArray) (a1 : ByteArray) (r1 : Int) (r2 : Int) (r3 : List Int) (r4 : Int) (r5 : Bool) (w : World) (h : spec_tiRead.f k a0 a1 = some (r1, r2, r3, r4, r5)) :
  Calls Tryz.prog 9 #[.string a0, .string a1] w fun e w' => ∃ v2_ : Value, e = .returned (.tuple #[.agg #[.int .i64 r1, .int .i64 r2, v2_], .int .i64 r4, .bool r5]) ∧ Kd.R (Kd.int .u8) 5 w' w.heap.size (fun _ => True) v2_ r3 ∧ Below w.heap.size w w' := by
 have hu29 := Tryz.underlying29
 have HB := Aside0.mk (Below.refl w.heap.size w)
 have H : ((spec_tyRead.f k a0).bind fun bt102 => ((spec_tiDir.f k a1).bind fun t109 => (if bt102.2.2.2 = true then (some (bt102.1, bt102.2.1, bt102.2.2.1, t109, decide (t109 ≥ 0))) else (some (bt102.1, bt102.2.1, bt102.2.2.1, t109, false))))) = some (r1, r2, r3, r4, r5) := h
 clear h
 replace H := Option.bind_eq_some_iff.mp H
 obtain ⟨⟨t102, t103, t104, t107⟩, A30, H⟩ := H
 replace H : ((spec_tiDir.f k a1).bind fun t109 => (if t107 = true then (some (t102, t103, t104, t109, decide (t109 ≥ 0))) else (some (t102, t103, t104, t109, false)))) = some (r1, r2, r3, r4, r5) := H
 have A3 := Aside0.mk A30
 clear A30
 replace H := Option.bind_eq_some_iff.mp H
 obtain ⟨t109, A40, H⟩ := H
 replace H : (if t107 = true then (some (t102, t103, t104, t109, decide (t109 ≥ 0))) else (some (t102, t103, t104, t109, false))) = some (r1, r2, r3, r4, r5) := H
 have A4 := Aside0.mk A40
 clear A40
 by_cases c5 : t107 = true
 ·subst c5
  have H1 : (some (t102, t103, t104, t109, decide (t109 ≥ 0))) = some (r1, r2, r3, r4, r5) := by rw [if_pos rfl] at H; exact H
  clear H
  have H := H1
  clear H1
  simp only [Option.some.injEq, Prod.mk.injEq] at H
  obtain ⟨rfl, rfl, rfl, rfl, rfl⟩ := H
  go_enter Tryz.func9, Tryz.ntmps9
  go_wp2_with (first | ((with_reducible refine gate_dst (N := 4) rfl ?_); refine boxE (N := 4) (cs := #[.int .i64 0, .int .i64 0, .slice none 0 0]) (t := 29) ?_; intro gb101 hg w6 hbox hb; have n0_ := Aside0.mk (below_step (bel HB) hb); have n1_ := Aside0.mk (hbox); have n2_ := Aside0.mk (gsz hg (bel HB)); have n3_ := Aside0.mk (gsz hg (bel HB)); clear HB; have HB := n0_; have BK101 := n1_; have GW101 := n2_; have GE101 := n3_; clear n0_ n1_ n2_ n3_; clear hb hbox hg) | ((with_reducible refine gate_callee (f := 18) rfl ?_); refine gcall (some 12) Tryz.func18 #[.string a0] rfl ?_; (with_reducible refine (spec_tyRead.calls k a0 t102 t103 t104 true _ A3.out).mono ?_); rintro e w7 ⟨v105, rfl, ho0, hb⟩; refine ⟨_, rfl, ?_⟩; have n0_ := Aside0.mk (Kd.R_lower ho0 (below_size (bel HB))); have n1_ := Aside0.mk (blk_below (g := gb101) (o := .cells #[.int .i64 0, .int .i64 0, .slice none 0 0] 29 (0, 0)) blc hb); have n2_ := Aside0.mk (below_step (bel HB) hb); clear BK101; clear HB; have HO106 := n0_; have BK101 := n1_; have HB := n2_; clear n0_ n1_ n2_; (try clear hb); (try clear hb2); (try clear hk); (try clear hi); (try clear ho0)) | ((with_reducible refine gate_dst (N := 7) rfl ?_); refine boxE (N := 7) (cs := #[.int .i64 0, .int .i64 0, .slice none 0 0]) (t := 29) ?_; intro gb108 hg w8 hbox hb; have n0_ := Aside0.mk (Kd.R_below (rch HO106) hb); have n1_ := Aside0.mk (blk_below (g := gb101) (o := .cells #[.int .i64 0, .int .i64 0, .slice none 0 0] 29 (0, 0)) blc hb); have n2_ := Aside0.mk (below_step (bel HB) hb); have n3_ := Aside0.mk (hbox); have n4_ := Aside0.mk (gsz hg (bel HB)); have n5_ := Aside0.mk (gsz hg (bel HB)); have n6_ := Aside0.mk ((by rw [hg]; exact Nat.ne_of_lt (blk_lt (g := gb101) (o := .cells #[.int .i64 0, .int .i64 0, .slice none 0 0] 29 (0, 0)) blc) : gb101 ≠ gb108)); have n7_ := Aside0.mk ((by rw [hg]; exact Nat.ne_of_gt (blk_lt (g := gb101) (o := .cells #[.int .i64 0, .int .i64 0, .slice none 0 0] 29 (0, 0)) blc) : gb108 ≠ gb101)); clear HO106; clear BK101; clear HB; have HO106 := n0_; have BK101 := n1_; have HB := n2_; have BK108 := n3_; have GW108 := n4_; have GE108 := n5_; have NB101_108 := n6_; have NB108_101 := n7_; clear n0_ n1_ n2_ n3_ n4_ n5_ n6_ n7_; clear hb hbox hg; have hnb9 := NB108_101.out; have hnc9 := NB101_108.out; have hcz10_0 : w8.cell? ⟨gb108, 0, none⟩ = some (.int .i64 0) := (blk_cell BK108.out 0).trans rfl; have hcz10_1 : w8.cell? ⟨gb108, 1, none⟩ = some (.int .i64 0) := (blk_cell BK108.out 1).trans rfl; have hcz10_2 : w8.cell? ⟨gb108, 2, none⟩ = some (.slice none 0 0) := (blk_cell BK108.out 2).trans rfl; have hfz10_0 := blk_frozen BK108.out 0; have hfz10_1 := blk_frozen BK108.out 1; have hfz10_2 := blk_frozen BK108.out 2; obtain ⟨Ao11, co11, eo11⟩ := Kd.R_slice HO106.out; subst eo11) | ((with_reducible refine gate_callee (f := 19) rfl ?_); refine gcall (some 16) Tryz.func19 #[.string a1] rfl ?_; (with_reducible refine (spec_tiDir.calls k a1 t109 _ A4.out).mono ?_); rintro e w' ⟨rfl, ⟨nd, rfl⟩⟩; refine ⟨_, rfl, ?_⟩; have hcz12_0 : w8.cell? ⟨gb101, 0, none⟩ = some (.int .i64 0) := (blk_cell BK101.out 0).trans rfl; have hcz12_1 : w8.cell? ⟨gb101, 1, none⟩ = some (.int .i64 0) := (blk_cell BK101.out 1).trans rfl; have hcz12_2 : w8.cell? ⟨gb101, 2, none⟩ = some (.slice none 0 0) := (blk_cell BK101.out 2).trans rfl; have hfz12_0 := blk_frozen BK101.out 0; have hfz12_1 := blk_frozen BK101.out 1; have hfz12_2 := blk_frozen BK101.out 2))
  refine bodyPost_ret (results_ctt rfl _ _ gb101 29 #[.int .i64 t102, .int .i64 t103, .slice Ao11 t104.length co11] (0, 0) _ rfl (by (with_reducible repeat (first | refine blk_drewN ?_ _ | refine blk_drew ?_ | refine blk_alloc ?_ _)); refine blk_put (cs := #[.int .i64 t102, .int .i64 t103, .slice none 0 0]) ?_ 2 _ rfl; (with_reducible repeat (first | refine blk_drewN ?_ _ | refine blk_drew ?_ | refine blk_alloc ?_ _)); refine blk_put (cs := #[.int .i64 t102, .int .i64 0, .slice none 0 0]) ?_ 1 _ rfl; (with_reducible repeat (first | refine blk_drewN ?_ _ | refine blk_drew ?_ | refine blk_alloc ?_ _)); refine blk_put (cs := #[.int .i64 0, .int .i64 0, .slice none 0 0]) ?_ 0 _ rfl; (with_reducible repeat (first | refine blk_drewN ?_ _ | refine blk_drew ?_ | refine blk_alloc ?_ _)); refine blk_far ?_ NB101_108.out _; (with_reducible repeat (first | refine blk_drewN ?_ _ | refine blk_drew ?_ | refine blk_alloc ?_ _)); refine blk_far ?_ NB101_108.out _; (with_reducible repeat (first | refine blk_drewN ?_ _ | refine blk_drew ?_ | refine blk_alloc ?_ _)); refine blk_far ?_ NB101_108.out _; exact blc) Tryz.underlying29 rfl (by kernel_rfl)) rfl ?_
  exact ⟨_, by first | rfl | (simp [errW_none, errW_some] <;> rfl) | (simp [*, errW_none, errW_some] <;> rfl), by (with_reducible repeat (first | apply Kd.R_alloc | apply Kd.R_drewN | apply Kd.R_drew)); exact Kd.R_mono (Kd.R_far (p := ⟨gb101, 2, none⟩) (Kd.R_far (p := ⟨gb101, 1, none⟩) (Kd.R_far (p := ⟨gb101, 0, none⟩) (Kd.R_far (p := ⟨gb108, 2, none⟩) (Kd.R_far (p := ⟨gb108, 1, none⟩) (Kd.R_far (p := ⟨gb108, 0, none⟩) (Kd.R_types (Kd.R_types HO106.out BK108.out (by decide)) BK101.out (by decide)) (fun _ hk => hk.1.2) (.int .i64 t102)) (fun _ hk => hk.1.2) (.int .i64 t103)) (fun _ hk => hk.1.2) (.slice Ao11 t104.length co11)) (fun _ hk => hk.2) (.int .i64 t102)) (fun _ hk => hk.2) (.int .i64 t103)) (fun _ hk => hk.2) (.slice Ao11 t104.length co11)) (fun _ hk => trivial), bel HB⟩
 ·replace c5 := Bool.eq_false_iff.mpr c5
  subst c5
  have H1 : (some (t102, t103, t104, t109, false)) = some (r1, r2, r3, r4, r5) := by rw [if_neg (show ¬ (false = true) by decide)] at H; exact H
  clear H
  have H := H1
  clear H1
  simp only [Option.some.injEq, Prod.mk.injEq] at H
  obtain ⟨rfl, rfl, rfl, rfl, rfl⟩ := H
  go_enter Tryz.func9, Tryz.ntmps9
  go_wp2_with (first | ((with_reducible refine gate_dst (N := 4) rfl ?_); refine boxE (N := 4) (cs := #[.int .i64 0, .int .i64 0, .slice none 0 0]) (t := 29) ?_; intro gb101 hg w13 hbox hb; have n0_ := Aside0.mk (below_step (bel HB) hb); have n1_ := Aside0.mk (hbox); have n2_ := Aside0.mk (gsz hg (bel HB)); have n3_ := Aside0.mk (gsz hg (bel HB)); clear HB; have HB := n0_; have BK101 := n1_; have GW101 := n2_; have GE101 := n3_; clear n0_ n1_ n2_ n3_; clear hb hbox hg) | ((with_reducible refine gate_callee (f := 18) rfl ?_); refine gcall (some 12) Tryz.func18 #[.string a0] rfl ?_; (with_reducible refine (spec_tyRead.calls k a0 t102 t103 t104 false _ A3.out).mono ?_); rintro e w14 ⟨v105, rfl, ho0, hb⟩; refine ⟨_, rfl, ?_⟩; have n0_ := Aside0.mk (Kd.R_lower ho0 (below_size (bel HB))); have n1_ := Aside0.mk (blk_below (g := gb101) (o := .cells #[.int .i64 0, .int .i64 0, .slice none 0 0] 29 (0, 0)) blc hb); have n2_ := Aside0.mk (below_step (bel HB) hb); clear BK101; clear HB; have HO106 := n0_; have BK101 := n1_; have HB := n2_; clear n0_ n1_ n2_; (try clear hb); (try clear hb2); (try clear hk); (try clear hi); (try clear ho0)) | ((with_reducible refine gate_dst (N := 7) rfl ?_); refine boxE (N := 7) (cs := #[.int .i64 0, .int .i64 0, .slice none 0 0]) (t := 29) ?_; intro gb108 hg w15 hbox hb; have n0_ := Aside0.mk (Kd.R_below (rch HO106) hb); have n1_ := Aside0.mk (blk_below (g := gb101) (o := .cells #[.int .i64 0, .int .i64 0, .slice none 0 0] 29 (0, 0)) blc hb); have n2_ := Aside0.mk (below_step (bel HB) hb); have n3_ := Aside0.mk (hbox); have n4_ := Aside0.mk (gsz hg (bel HB)); have n5_ := Aside0.mk (gsz hg (bel HB)); have n6_ := Aside0.mk ((by rw [hg]; exact Nat.ne_of_lt (blk_lt (g := gb101) (o := .cells #[.int .i64 0, .int .i64 0, .slice none 0 0] 29 (0, 0)) blc) : gb101 ≠ gb108)); have n7_ := Aside0.mk ((by rw [hg]; exact Nat.ne_of_gt (blk_lt (g := gb101) (o := .cells #[.int .i64 0, .int .i64 0, .slice none 0 0] 29 (0, 0)) blc) : gb108 ≠ gb101)); clear HO106; clear BK101; clear HB; have HO106 := n0_; have BK101 := n1_; have HB := n2_; have BK108 := n3_; have GW108 := n4_; have GE108 := n5_; have NB101_108 := n6_; have NB108_101 := n7_; clear n0_ n1_ n2_ n3_ n4_ n5_ n6_ n7_; clear hb hbox hg; have hnb16 := NB108_101.out; have hnc16 := NB101_108.out; have hcz17_0 : w15.cell? ⟨gb108, 0, none⟩ = some (.int .i64 0) := (blk_cell BK108.out 0).trans rfl; have hcz17_1 : w15.cell? ⟨gb108, 1, none⟩ = some (.int .i64 0) := (blk_cell BK108.out 1).trans rfl; have hcz17_2 : w15.cell? ⟨gb108, 2, none⟩ = some (.slice none 0 0) := (blk_cell BK108.out 2).trans rfl; have hfz17_0 := blk_frozen BK108.out 0; have hfz17_1 := blk_frozen BK108.out 1; have hfz17_2 := blk_frozen BK108.out 2; obtain ⟨Ao18, co18, eo18⟩ := Kd.R_slice HO106.out; subst eo18) | ((with_reducible refine gate_callee (f := 19) rfl ?_); refine gcall (some 16) Tryz.func19 #[.string a1] rfl ?_; (with_reducible refine (spec_tiDir.calls k a1 t109 _ A4.out).mono ?_); rintro e w' ⟨rfl, ⟨nd, rfl⟩⟩; refine ⟨_, rfl, ?_⟩; have hcz19_0 : w15.cell? ⟨gb101, 0, none⟩ = some (.int .i64 0) := (blk_cell BK101.out 0).trans rfl; have hcz19_1 : w15.cell? ⟨gb101, 1, none⟩ = some (.int .i64 0) := (blk_cell BK101.out 1).trans rfl; have hcz19_2 : w15.cell? ⟨gb101, 2, none⟩ = some (.slice none 0 0) := (blk_cell BK101.out 2).trans rfl; have hfz19_0 := blk_frozen BK101.out 0; have hfz19_1 := blk_frozen BK101.out 1; have hfz19_2 := blk_frozen BK101.out 2))
  refine bodyPost_ret (results_ctt rfl _ _ gb101 29 #[.int .i64 t102, .int .i64 t103, .slice Ao18 t104.length co18] (0, 0) _ rfl (by (with_reducible repeat (first | refine blk_drewN ?_ _ | refine blk_drew ?_ | refine blk_alloc ?_ _)); refine blk_put (cs := #[.int .i64 t102, .int .i64 t103, .slice none 0 0]) ?_ 2 _ rfl; (with_reducible repeat (first | refine blk_drewN ?_ _ | refine blk_drew ?_ | refine blk_alloc ?_ _)); refine blk_put (cs := #[.int .i64 t102, .int .i64 0, .slice none 0 0]) ?_ 1 _ rfl; (with_reducible repeat (first | refine blk_drewN ?_ _ | refine blk_drew ?_ | refine blk_alloc ?_ _)); refine blk_put (cs := #[.int .i64 0, .int .i64 0, .slice none 0 0]) ?_ 0 _ rfl; (with_reducible repeat (first | refine blk_drewN ?_ _ | refine blk_drew ?_ | refine blk_alloc ?_ _)); refine blk_far ?_ NB101_108.out _; (with_reducible repeat (first | refine blk_drewN ?_ _ | refine blk_drew ?_ | refine blk_alloc ?_ _)); refine blk_far ?_ NB101_108.out _; (with_reducible repeat (first | refine blk_drewN ?_ _ | refine blk_drew ?_ | refine blk_alloc ?_ _)); refine blk_far ?_ NB101_108.out _; exact blc) Tryz.underlying29 rfl (by kernel_rfl)) rfl ?_
  exact ⟨_, by first | rfl | (simp [errW_none, errW_some] <;> rfl) | (simp [*, errW_none, errW_some] <;> rfl), by (with_reducible repeat (first | apply Kd.R_alloc | apply Kd.R_drewN | apply Kd.R_drew)); exact Kd.R_mono (Kd.R_far (p := ⟨gb101, 2, none⟩) (Kd.R_far (p := ⟨gb101, 1, none⟩) (Kd.R_far (p := ⟨gb101, 0, none⟩) (Kd.R_far (p := ⟨gb108, 2, none⟩) (Kd.R_far (p := ⟨gb108, 1, none⟩) (Kd.R_far (p := ⟨gb108, 0, none⟩) (Kd.R_types (Kd.R_types HO106.out BK108.out (by decide)) BK101.out (by decide)) (fun _ hk => hk.1.2) (.int .i64 t102)) (fun _ hk => hk.1.2) (.int .i64 t103)) (fun _ hk => hk.1.2) (.slice Ao18 t104.length co18)) (fun _ hk => hk.2) (.int .i64 t102)) (fun _ hk => hk.2) (.int .i64 t103)) (fun _ hk => hk.2) (.slice Ao18 t104.length co18)) (fun _ hk => trivial), bel HB⟩
def impl_isTilted.f (k : Nat) (a0 : ByteArray) (a1 : ByteArray) : Option (Bool) := (impl_IsTray.f k a0).bind fun t101 => (if t101 = true then ((impl_isDir.f a1).bind fun t102 => (some t102)) else (some false))
set_option maxHeartbeats 8000000 in
set_option maxRecDepth 100000 in
theorem impl_isTilted.calls (k : Nat) (a0 : ByteArray) (a1 : ByteArray) (r : Bool) (w : World) (hG : GoodW w) (h : impl_isTilted.f k a0 a1 = some r) :
  Calls Tryz.prog 12 #[.string a0, .string a1] w fun e w' => e = .returned (.bool r) ∧ Below w.heap.size w w' := by
 have HG := Aside0.mk hG
 clear hG
 have HB := Aside0.mk (Below.refl w.heap.size w)
 have H : ((impl_IsTray.f k a0).bind fun t101 => (if t101 = true then ((impl_isDir.f a1).bind fun t102 => (some t102)) else (some false))) = some r := h
 clear h
 replace H := Option.bind_eq_some_iff.mp H
 obtain ⟨t101, A30, H⟩ := H
 replace H : (if t101 = true then ((impl_isDir.f a1).bind fun t102 => (some t102)) else (some false)) = some r := H
 have A3 := Aside0.mk A30
 clear A30
 by_cases c4 : t101 = true
 ·subst c4
  have H1 : ((impl_isDir.f a1).bind fun t102 => (some t102)) = some r := by rw [if_pos rfl] at H; exact H
  clear H
  have H := H1
  clear H1
  replace H := Option.bind_eq_some_iff.mp H
  obtain ⟨t102, A50, H⟩ := H
  replace H : (some t102) = some r := H
  have A5 := Aside0.mk A50
  clear A50
  obtain rfl := Option.some.inj H
  go_enter Tryz.func12, Tryz.ntmps12
  go_wp2_with (first | ((with_reducible refine gate_callee (f := 23) rfl ?_); refine gcall (some 6) Tryz.func23 #[.string a0] rfl ?_; (with_reducible refine (impl_IsTray.calls k a0 true _ ?side1 A3.out).mono ?_); (case side1 => (refine GoodW.below HG.out ?_); exact bel HB); rintro e w6 ⟨rfl, hb⟩; refine ⟨_, rfl, ?_⟩; have n0_ := Aside0.mk (below_step (bel HB) hb); clear HB; have HB := n0_; clear n0_; (try clear hb); (try clear hb2); (try clear hk); (try clear hi)) | (go_at_call 24; (with_reducible refine (impl_isDir.calls a1 t102 _ A5.out).mono ?_); rintro e w' ⟨rfl, ⟨nd, rfl⟩⟩))
  go_ret
  exact ⟨by first | rfl | (simp [errW_none, errW_some] <;> rfl) | (simp [*, errW_none, errW_some] <;> rfl), bel HB⟩
 ·replace c4 := Bool.eq_false_iff.mpr c4
  subst c4
  have H1 : (some false) = some r := by rw [if_neg (show ¬ (false = true) by decide)] at H; exact H
  clear H
  have H := H1
  clear H1
  obtain rfl := Option.some.inj H
  go_enter Tryz.func12, Tryz.ntmps12
  go_wp2_with (first | ((with_reducible refine gate_callee (f := 23) rfl ?_); refine gcall (some 6) Tryz.func23 #[.string a0] rfl ?_; (with_reducible refine (impl_IsTray.calls k a0 false _ ?side1 A3.out).mono ?_); (case side1 => (refine GoodW.below HG.out ?_); exact bel HB); rintro e w7 ⟨rfl, hb⟩; refine ⟨_, rfl, ?_⟩; have n0_ := Aside0.mk (below_step (bel HB) hb); clear HB; have HB := n0_; clear n0_; (try clear hb); (try clear hb2); (try clear hk); (try clear hi)))
  go_ret
  exact ⟨by first | rfl | (simp [errW_none, errW_some] <;> rfl) | (simp [*, errW_none, errW_some] <;> rfl), bel HB⟩
end Go.Proofs.YtcpeldgnabfdmabGreatDoor.Q
end
section
namespace Go.Proofs.YtcpeldgnabfdmabGreatDoor.Q
set_option linter.unusedSectionVars false
open Go.RowKit Go.Proofs.YtcpeldgnabfdmabGreatDoorW.PrintWords Go.Proofs.YtcpeldgnabfdmabGreatDoorW.PrintLast Go.Proofs.YtcpeldgnabfdmabGreatDoorW.PrintMore
theorem isTilted_ev (t s : ByteArray) (ht : t.size ≤ 1048576) : Ev (fun k => impl_isTilted.f k t s) ((trayOf t).isSome && decide (0 ≤ dirI s)) := by
 refine Ev.bind (f := fun _ (t101 : Bool) => (if t101 = true then ((impl_isDir.f s).bind fun t102 => (some t102)) else (some false))) (isTray_ev t ht) (Ev.const ?_)
 by_cases h : (trayOf t).isSome = true
 ·rw [if_pos h, h, isDir_eq]
  rfl
 ·rw [if_neg h, Bool.eq_false_iff.2 h]
  rfl
theorem tiRead_ev (t s : ByteArray) : Ev (fun k => spec_tiRead.f k t s) (match trayOf t with | none => (0, 0, [], dirI s, false) | some (w, h, cs) => (w, h, cs, dirI s, decide (0 ≤ dirI s))) := by
 refine Ev.bind (f := fun k (bt102 : Int × Int × List Int × Bool) => ((spec_tiDir.f k s).bind fun t109 => (if bt102.2.2.2 = true then (some (bt102.1, bt102.2.1, bt102.2.2.1, t109, decide (t109 ≥ 0))) else (some (bt102.1, bt102.2.1, bt102.2.2.1, t109, false))))) (tyRead_ev t) ?_
 refine Ev.bind (tiDir_ev s) (Ev.const ?_)
 rcases trayOf t with _ | ⟨w, h, cs⟩
 ·rfl
 ·rfl
theorem dirI_nat {s : ByteArray} (h : 0 ≤ dirI s) : ∃ d : Nat, d < 4 ∧ dirI s = d ∧ s = ⟨#[dirB d]⟩ := by
 rcases dirI_cases s with ⟨e, _⟩ | ⟨d, hd4, e, e2⟩
 ·omega
 ·exact ⟨d, hd4, e, one_byte_of e2⟩
theorem bt_dir : ∀ d : Fin 4, (0 : Int) < ((⟨#[dirB d.val]⟩ : ByteArray).size : Int) ∧ bt (⟨#[dirB d.val]⟩ : ByteArray) 0 = dirC d.val := by decide
end Go.Proofs.YtcpeldgnabfdmabGreatDoor.Q
end
section
namespace Go.Proofs.YtcpeldgnabfdmabGreatDoor.Q
open Go.RowKit Go.Proofs.YtcpeldgnabfdmabGreatDoorW.PrintWords Go.Proofs.YtcpeldgnabfdmabGreatDoorW.PrintLast Go.Proofs.YtcpeldgnabfdmabGreatDoorW.PrintMore
attribute [local go_sem] max2_int min2_int max_two min_two max_three min_three max_four min_four
set_option linter.unusedVariables false
set_option linter.unusedSimpArgs false
def spec_StepTray.f (k : Nat) (a0 : ByteArray) (a1 : ByteArray) : Option (ByteArray × Bool) := (spec_tiRead.f k a0 a1).bind fun bt101 => (if bt101.2.2.2.2 = true then ((spec_tiStep.f k bt101.1 bt101.2.1 bt101.2.2.1 bt101.2.2.2.1).bind fun bt109 => ((spec_tyText.f k bt109.1 bt109.2.1 bt109.2.2).bind fun t114 => (some (t114, true)))) else (some ((⟨#[]⟩ : ByteArray), false)))
set_option maxHeartbeats 8000000 in
set_option maxRecDepth 100000 in
theorem spec_StepTray.calls (k : Nat) (a0 : ByteArray) (a1 : ByteArray) (r1 : ByteArray) (r2 : Bool) (w : World) (h : spec_StepTray.f k a0 a1 = some (r1, r2)) :
  Calls Tryz.prog 5 #[.string a0, .string a1] w fun e w' => e = .returned (.tuple #[.string r1, .bool r2]) ∧ Below w.heap.size w w' := by
 have hu29 := Tryz.underlying29
 have HB := Aside0.mk (Below.refl w.heap.size w)
 have H : ((spec_tiRead.f k a0 a1).bind fun bt101 => (if bt101.2.2.2.2 = true then ((spec_tiStep.f k bt101.1 bt101.2.1 bt101.2.2.1 bt101.2.2.2.1).bind fun bt109 => ((spec_tyText.f k bt109.1 bt109.2.1 bt109.2.2).bind fun t114 => (some (t114, true)))) else (some ((⟨#[]⟩ : ByteArray), false)))) = some (r1, r2) := h
 clear h
 replace H := Option.bind_eq_some_iff.mp H
 obtain ⟨⟨t101, t102, t103, t106, t107⟩, A30, H⟩ := H
 replace H : (if t107 = true then ((spec_tiStep.f k t101 t102 t103 t106).bind fun bt109 => ((spec_tyText.f k bt109.1 bt109.2.1 bt109.2.2).bind fun t114 => (some (t114, true)))) else (some ((⟨#[]⟩ : ByteArray), false))) = some (r1, r2) := H
 have A3 := Aside0.mk A30
 clear A30
 by_cases c4 : t107 = true
 ·subst c4
  have H1 : ((spec_tiStep.f k t101 t102 t103 t106).bind fun bt109 => ((spec_tyText.f k bt109.1 bt109.2.1 bt109.2.2).bind fun t114 => (some (t114, true)))) = some (r1, r2) := by rw [if_pos rfl] at H; exact H
  clear H
  have H := H1
  clear H1
  replace H := Option.bind_eq_some_iff.mp H
  obtain ⟨⟨t109, t110, t111⟩, A50, H⟩ := H
  replace H : ((spec_tyText.f k t109 t110 t111).bind fun t114 => (some (t114, true))) = some (r1, r2) := H
  have A5 := Aside0.mk A50
  clear A50
  replace H := Option.bind_eq_some_iff.mp H
  obtain ⟨t114, A60, H⟩ := H
  replace H : (some (t114, true)) = some (r1, r2) := H
  have A6 := Aside0.mk A60
  clear A60
  simp only [Option.some.injEq, Prod.mk.injEq] at H
  obtain ⟨rfl, rfl⟩ := H
  go_enter Tryz.func5, Tryz.ntmps5
  go_wp2_with (first | ((with_reducible refine gate_callee (f := 9) rfl ?_); refine gcall (some 12) Tryz.func9 #[.string a0, .string a1] rfl ?_; (with_reducible refine (spec_tiRead.calls k a0 a1 t101 t102 t103 t106 true _ A3.out).mono ?_); rintro e w7 ⟨v104, rfl, ho0, hb⟩; refine ⟨_, rfl, ?_⟩; have n0_ := Aside0.mk (Kd.R_lower ho0 (below_size (bel HB))); have n1_ := Aside0.mk (below_step (bel HB) hb); clear HB; have HO105 := n0_; have HB := n1_; clear n0_ n1_; (try clear hb); (try clear hb2); (try clear hk); (try clear hi); (try clear ho0)) | ((with_reducible refine gate_dst (N := 6) rfl ?_); refine boxE (N := 6) (cs := #[.int .i64 0, .int .i64 0, .slice none 0 0]) (t := 29) ?_; intro gb108 hg w8 hbox hb; have n0_ := Aside0.mk (Kd.R_below (rch HO105) hb); have n1_ := Aside0.mk (below_step (bel HB) hb); have n2_ := Aside0.mk (hbox); have n3_ := Aside0.mk (gsz hg (bel HB)); have n4_ := Aside0.mk (gsz hg (bel HB)); clear HO105; clear HB; have HO105 := n0_; have HB := n1_; have BK108 := n2_; have GW108 := n3_; have GE108 := n4_; clear n0_ n1_ n2_ n3_ n4_; clear hb hbox hg; have hcz9_0 : w8.cell? ⟨gb108, 0, none⟩ = some (.int .i64 0) := (blk_cell BK108.out 0).trans rfl; have hcz9_1 : w8.cell? ⟨gb108, 1, none⟩ = some (.int .i64 0) := (blk_cell BK108.out 1).trans rfl; have hcz9_2 : w8.cell? ⟨gb108, 2, none⟩ = some (.slice none 0 0) := (blk_cell BK108.out 2).trans rfl; have hfz9_0 := blk_frozen BK108.out 0; have hfz9_1 := blk_frozen BK108.out 1; have hfz9_2 := blk_frozen BK108.out 2; obtain ⟨Ao10, co10, eo10⟩ := Kd.R_slice HO105.out; subst eo10) | ((with_reducible refine gate_callee (f := 11) rfl ?_); refine gcall (some 20) Tryz.func11 #[.agg #[.int .i64 t101, .int .i64 t102, .slice Ao10 t103.length co10], .int .i64 t106] rfl ?_; (with_reducible refine (spec_tiStep.calls k t101 t102 _ _ t103 t106 t109 t110 t111 _ ?side1 ?side2 A5.out).mono ?_); (case side1 => refine (Kd.R_reads' (e := 5) (base := w.heap.size) (ok := fun k_ => True) (n := t103.length) (c := co10) ?_).2.2; exact (by (with_reducible repeat (first | apply Kd.R_alloc | apply Kd.R_drewN | apply Kd.R_drew)); exact (Kd.R_mono (Kd.R_far (p := ⟨gb108, 2, none⟩) (Kd.R_far (p := ⟨gb108, 1, none⟩) (Kd.R_far (p := ⟨gb108, 0, none⟩) (Kd.R_types HO105.out BK108.out (by decide)) (fun _ hk => hk.2) (.int .i64 t101)) (fun _ hk => hk.2) (.int .i64 t102)) (fun _ hk => hk.2) (.slice Ao10 t103.length co10)) (fun _ h_ => h_.1)))); (case side2 => exact (Kd.R_reads' HO105.out).2.1); rintro e w11 ⟨v112, rfl, ho0, hb⟩; refine ⟨_, rfl, ?_⟩; have n0_ := Aside0.mk (Kd.R_elder' (by (with_reducible repeat (first | apply Kd.R_alloc | apply Kd.R_drewN | apply Kd.R_drew)); exact (Kd.R_mono (Kd.R_far (p := ⟨gb108, 2, none⟩) (Kd.R_far (p := ⟨gb108, 1, none⟩) (Kd.R_far (p := ⟨gb108, 0, none⟩) (Kd.R_types HO105.out BK108.out (by decide)) (fun _ hk => hk.2) (.int .i64 t101)) (fun _ hk => hk.2) (.int .i64 t102)) (fun _ hk => hk.2) (.slice Ao10 t103.length co10)) (fun _ h_ => h_.1))) (Kd.R_base ho0) hb); have n1_ := Aside0.mk (Kd.R_lower (Kd.R_new' ho0 (Kd.R_lt (by (with_reducible repeat (first | apply Kd.R_alloc | apply Kd.R_drewN | apply Kd.R_drew)); exact (Kd.R_mono (Kd.R_far (p := ⟨gb108, 2, none⟩) (Kd.R_far (p := ⟨gb108, 1, none⟩) (Kd.R_far (p := ⟨gb108, 0, none⟩) (Kd.R_types HO105.out BK108.out (by decide)) (fun _ hk => hk.2) (.int .i64 t101)) (fun _ hk => hk.2) (.int .i64 t102)) (fun _ hk => hk.2) (.slice Ao10 t103.length co10)) (fun _ h_ => h_.1))))) (below_size (bel HB))); have n2_ := Aside0.mk (blk_below (g := gb108) (o := .cells #[.int .i64 t101, .int .i64 t102, .slice Ao10 t103.length co10] 29 (0, 0)) (by (with_reducible repeat (first | refine blk_drewN ?_ _ | refine blk_drew ?_ | refine blk_alloc ?_ _)); refine blk_put (cs := #[.int .i64 t101, .int .i64 t102, .slice none 0 0]) ?_ 2 _ rfl; (with_reducible repeat (first | refine blk_drewN ?_ _ | refine blk_drew ?_ | refine blk_alloc ?_ _)); refine blk_put (cs := #[.int .i64 t101, .int .i64 0, .slice none 0 0]) ?_ 1 _ rfl; (with_reducible repeat (first | refine blk_drewN ?_ _ | refine blk_drew ?_ | refine blk_alloc ?_ _)); refine blk_put (cs := #[.int .i64 0, .int .i64 0, .slice none 0 0]) ?_ 0 _ rfl; exact blc) hb); have n3_ := Aside0.mk (below_step (bel HB) hb); clear HO105; clear BK108; clear HB; have HO105 := n0_; have HO113 := n1_; have BK108 := n2_; have HB := n3_; clear n0_ n1_ n2_ n3_; (try clear hb); (try clear hb2); (try clear hk); (try clear hi); (try clear ho0); obtain ⟨Ao12, co12, eo12⟩ := Kd.R_slice HO113.out; subst eo12) | ((with_reducible refine gate_callee (f := 10) rfl ?_); refine gcall (some 21) Tryz.func10 #[.agg #[.int .i64 t109, .int .i64 t110, .slice Ao12 t111.length co12]] rfl ?_; (with_reducible refine (spec_tyText.calls k t109 t110 _ _ t111 t114 _ ?side1 ?side2 A6.out).mono ?_); (case side1 => repeat (first | exact (Kd.R_reads' HO113.out).2.2 | (with_reducible refine Kd.C_alloc ?_ _) | (with_reducible refine Kd.C_drewN ?_ _) | (with_reducible refine Kd.C_drew ?_))); (case side2 => exact (Kd.R_reads' HO113.out).2.1); rintro e w13 ⟨rfl, hb⟩; refine ⟨_, rfl, ?_⟩; have n0_ := Aside0.mk (Kd.R_below (rch HO105) hb); have n1_ := Aside0.mk (Kd.R_below (rch HO113) hb); have n2_ := Aside0.mk (blk_below (g := gb108) (o := .cells #[.int .i64 t101, .int .i64 t102, .slice Ao10 t103.length co10] 29 (0, 0)) blc hb); have n3_ := Aside0.mk (below_step (bel HB) hb); clear HO105; clear HO113; clear BK108; clear HB; have HO105 := n0_; have HO113 := n1_; have BK108 := n2_; have HB := n3_; clear n0_ n1_ n2_ n3_; (try clear hb); (try clear hb2); (try clear hk); (try clear hi)))
  go_ret2
  exact ⟨by first | rfl | (simp [errW_none, errW_some] <;> rfl) | (simp [*, errW_none, errW_some] <;> rfl), bel HB⟩
 ·replace c4 := Bool.eq_false_iff.mpr c4
  subst c4
  have H1 : (some ((⟨#[]⟩ : ByteArray), false)) = some (r1, r2) := by rw [if_neg (show ¬ (false = true) by decide)] at H; exact H
  clear H
  have H := H1
  clear H1
  simp only [Option.some.injEq, Prod.mk.injEq] at H
  obtain ⟨rfl, rfl⟩ := H
  go_enter Tryz.func5, Tryz.ntmps5
  go_wp2_with (first | ((with_reducible refine gate_callee (f := 9) rfl ?_); refine gcall (some 12) Tryz.func9 #[.string a0, .string a1] rfl ?_; (with_reducible refine (spec_tiRead.calls k a0 a1 t101 t102 t103 t106 false _ A3.out).mono ?_); rintro e w14 ⟨v104, rfl, ho0, hb⟩; refine ⟨_, rfl, ?_⟩; have n0_ := Aside0.mk (Kd.R_lower ho0 (below_size (bel HB))); have n1_ := Aside0.mk (below_step (bel HB) hb); clear HB; have HO105 := n0_; have HB := n1_; clear n0_ n1_; (try clear hb); (try clear hb2); (try clear hk); (try clear hi); (try clear ho0)) | ((with_reducible refine gate_dst (N := 6) rfl ?_); refine boxE (N := 6) (cs := #[.int .i64 0, .int .i64 0, .slice none 0 0]) (t := 29) ?_; intro gb108 hg w15 hbox hb; have n0_ := Aside0.mk (Kd.R_below (rch HO105) hb); have n1_ := Aside0.mk (below_step (bel HB) hb); have n2_ := Aside0.mk (hbox); have n3_ := Aside0.mk (gsz hg (bel HB)); have n4_ := Aside0.mk (gsz hg (bel HB)); clear HO105; clear HB; have HO105 := n0_; have HB := n1_; have BK108 := n2_; have GW108 := n3_; have GE108 := n4_; clear n0_ n1_ n2_ n3_ n4_; clear hb hbox hg; have hcz16_0 : w15.cell? ⟨gb108, 0, none⟩ = some (.int .i64 0) := (blk_cell BK108.out 0).trans rfl; have hcz16_1 : w15.cell? ⟨gb108, 1, none⟩ = some (.int .i64 0) := (blk_cell BK108.out 1).trans rfl; have hcz16_2 : w15.cell? ⟨gb108, 2, none⟩ = some (.slice none 0 0) := (blk_cell BK108.out 2).trans rfl; have hfz16_0 := blk_frozen BK108.out 0; have hfz16_1 := blk_frozen BK108.out 1; have hfz16_2 := blk_frozen BK108.out 2; obtain ⟨Ao17, co17, eo17⟩ := Kd.R_slice HO105.out; subst eo17))
  go_ret2
  exact ⟨by first | rfl | (simp [errW_none, errW_some] <;> rfl) | (simp [*, errW_none, errW_some] <;> rfl), bel HB⟩
def impl_StepTray.f (k : Nat) (a0 : ByteArray) (a1 : ByteArray) : Option (ByteArray × Bool) := (impl_isTilted.f k a0 a1).bind fun t101 => (if t101 = true then ((impl_read.f a0).bind fun bt102 => (if 0 < (a1.size : Int) then ((impl_tray_stepped.f k bt102.1 bt102.2.1 bt102.2.2 (bt a1 0)).bind fun bt107 => ((impl_tray_text.f bt107.1 bt107.2.1 bt107.2.2).bind fun t112 => (some (t112, true)))) else (none))) else (some ((⟨#[]⟩ : ByteArray), false)))
def impl_StepTray.T3 : Bool × List (List Nat × List Nat) := (true, [([], []), ([0], [0]), ([], []), ([2], [2]), ([1, 3, 1], [1, 3]), ([4, 4], [4]), ([5, 5, 0, 1, 2, 3, 4, 5], [5]), ([6, 0, 1, 2, 3, 4, 5, 6], [])])
def impl_StepTray.B3 : List Nat := [0, 1, 0, 4, 15, 31, 63, 127]
theorem impl_StepTray.tab3 : rtab .any (opsOf Tryz.f6 3) = impl_StepTray.T3 := by kernel_rfl
theorem impl_StepTray.bits3 : waitsOk impl_StepTray.T3.2 impl_StepTray.B3 = true := by kernel_rfl
set_option maxHeartbeats 8000000 in
set_option maxRecDepth 100000 in
theorem impl_StepTray.calls (k : Nat) (a0 : ByteArray) (a1 : ByteArray) (r1 : ByteArray) (r2 : Bool) (w : World) (hG : GoodW w) (h : impl_StepTray.f k a0 a1 = some (r1, r2)) :
  Calls Tryz.prog 6 #[.string a0, .string a1] w fun e w' => e = .returned (.tuple #[.string r1, .bool r2]) ∧ Below w.heap.size w w' := by
 have HG := Aside0.mk hG
 clear hG
 have HB := Aside0.mk (Below.refl w.heap.size w)
 have H : ((impl_isTilted.f k a0 a1).bind fun t101 => (if t101 = true then ((impl_read.f a0).bind fun bt102 => (if 0 < (a1.size : Int) then ((impl_tray_stepped.f k bt102.1 bt102.2.1 bt102.2.2 (bt a1 0)).bind fun bt107 => ((impl_tray_text.f bt107.1 bt107.2.1 bt107.2.2).bind fun t112 => (some (t112, true)))) else (none))) else (some ((⟨#[]⟩ : ByteArray), false)))) = some (r1, r2) := h
 clear h
 replace H := Option.bind_eq_some_iff.mp H
 obtain ⟨t101, A30, H⟩ := H
 replace H : (if t101 = true then ((impl_read.f a0).bind fun bt102 => (if 0 < (a1.size : Int) then ((impl_tray_stepped.f k bt102.1 bt102.2.1 bt102.2.2 (bt a1 0)).bind fun bt107 => ((impl_tray_text.f bt107.1 bt107.2.1 bt107.2.2).bind fun t112 => (some (t112, true)))) else (none))) else (some ((⟨#[]⟩ : ByteArray), false))) = some (r1, r2) := H
 have A3 := Aside0.mk A30
 clear A30
 by_cases c4 : t101 = true
 ·subst c4
  have H1 : ((impl_read.f a0).bind fun bt102 => (if 0 < (a1.size : Int) then ((impl_tray_stepped.f k bt102.1 bt102.2.1 bt102.2.2 (bt a1 0)).bind fun bt107 => ((impl_tray_text.f bt107.1 bt107.2.1 bt107.2.2).bind fun t112 => (some (t112, true)))) else (none))) = some (r1, r2) := by rw [if_pos rfl] at H; exact H
  clear H
  have H := H1
  clear H1
  replace H := Option.bind_eq_some_iff.mp H
  obtain ⟨⟨t102, t103, t104⟩, A50, H⟩ := H
  replace H : (if 0 < (a1.size : Int) then ((impl_tray_stepped.f k t102 t103 t104 (bt a1 0)).bind fun bt107 => ((impl_tray_text.f bt107.1 bt107.2.1 bt107.2.2).bind fun t112 => (some (t112, true)))) else (none)) = some (r1, r2) := H
  have A5 := Aside0.mk A50
  clear A50
  by_cases c6 : 0 < (a1.size : Int)
  ·rw [if_pos c6] at H
   have c6b0 : decide (0 < (a1.size : Int)) = true := decide_eq_true c6
   have c6b1 : decide (0 < a1.size) = true := decide_eq_true (by omega)
   clear c6
   replace H := Option.bind_eq_some_iff.mp H
   obtain ⟨⟨t107, t108, t109⟩, A80, H⟩ := H
   replace H : ((impl_tray_text.f t107 t108 t109).bind fun t112 => (some (t112, true))) = some (r1, r2) := H
   have A8 := Aside0.mk A80
   clear A80
   replace H := Option.bind_eq_some_iff.mp H
   obtain ⟨t112, A90, H⟩ := H
   replace H : (some (t112, true)) = some (r1, r2) := H
   have A9 := Aside0.mk A90
   clear A90
   simp only [Option.some.injEq, Prod.mk.injEq] at H
   obtain ⟨rfl, rfl⟩ := H
   go_enter Tryz.func6, Tryz.ntmps6
   try go_wp2_with (first | ((with_reducible refine gate_callee (f := 12) rfl ?_); refine gcall (some 8) Tryz.func12 #[.string a0, .string a1] rfl ?_; (with_reducible refine (impl_isTilted.calls k a0 a1 true _ ?side1 A3.out).mono ?_); (case side1 => (refine GoodW.below HG.out ?_); exact bel HB); rintro e w10 ⟨rfl, hb⟩; refine ⟨_, rfl, ?_⟩; have n0_ := Aside0.mk (below_step (bel HB) hb); clear HB; have HB := n0_; clear n0_; (try clear hb); (try clear hb2); (try clear hk); (try clear hi)))
   have n0_ := Aside0.mk (below_drew1 HB.out)
   clear HB
   have HB := n0_
   clear n0_
   have p7 : 0 ≤ (0 : Int) := (by omega)
   have q7 : 0 < a1.size := (by have : (0 : Int) < (a1.size : Int) := of_decide_eq_true (by first | (with_reducible assumption) | assumption); omega)
   have hx7 : ∀ h : 0 < a1.size, ((a1[0]'h).toNat : Int) = bt a1 0 := bt_at a1 0
   clear p7
   have qi7 : (0 < (a1.size : Int)) = True := eq_true (of_decide_eq_true (by first | (with_reducible assumption) | assumption))
   replace q7 := eq_true q7
   refine start_ (n := 8) (S := fun w' => True) (ds := []) #[false, false, false, false, false, false, false, false] (by kernel_rfl) rfl rfl trivial (fun hHeld => ?_); refine with_tabW impl_StepTray.tab3 impl_StepTray.bits3 (fun HT_ HW_ => ?_)
   generalize w10.drew = w11 at HB hHeld ⊢
   refine pure_ (i := 0) (N := some 10) (v := ?_) (a' := ?_) #[true, false, false, false, false, false, false, false] rfl rfl (any_of HT_.out (by kernel_rfl)) (fun _ _ _ h => h) (Or.inl ⟨by rfl, ?_⟩) ?_ ?_
   rotate_left
   ·intro w'
    go_simp
    with_reducible rfl
   rotate_left
   ·simp only [Act.put, List.setIfInBounds_toArray, List.set_cons_zero, List.set_cons_succ, i64_w, i32_w]
    rfl
   refine pure_ (i := 2) (N := some 12) (v := ?_) (a' := ?_) #[true, false, true, false, false, false, false, false] rfl rfl (any_of HT_.out (by kernel_rfl)) (fun _ _ _ h => h) (Or.inl ⟨by rfl, ?_⟩) ?_ ?_
   rotate_left
   ·intro w'
    go_simp
    with_reducible rfl
   rotate_left
   ·simp only [Act.put, List.setIfInBounds_toArray, List.set_cons_zero, List.set_cons_succ, i64_w, i32_w]
    rfl
   refine take_ (i := 3) (N := some 13) (v := ?_) (a' := ?_) #[true, false, true, true, false, false, false, false] rfl rfl (take_ofW HT_.out HW_.out (by kernel_rfl)) (fun _ _ _ h => h) (Or.inl ⟨by rfl, ?_⟩) hHeld ?_ ?_
   rotate_left
   ·intro w' _
    go_simp
    with_reducible rfl
   rotate_left
   ·simp only [Act.put, List.setIfInBounds_toArray, List.set_cons_zero, List.set_cons_succ, i64_w, i32_w]
    rfl
   refine one_ (i := 1) (N := some 11) #[true, true, true, true, false, false, false, false] rfl rfl (one_of HT_.out (by kernel_rfl)) (by decide) (fun K hK => ?_)
   refine goes_ Tryz.func13 (by kernel_rfl) rfl #[.string a0] (by rfl) rfl rfl (by (try simp only [List.map_toArray, List.map_cons, List.map_nil]); first | done | rfl | (simp only [List.length_drop, List.length_take]; rfl)) ?_
   with_reducible refine (impl_read.calls a0 t102 t103 t104 _ ?side1 A5.out).mono ?_
   (case side1 => (refine GoodW.below HG.out ?_); exact bel HB)
   rintro e w12 ⟨v105, rfl, ho0, hb⟩
   refine ⟨_, rfl, ?_⟩
   have n0_ := Aside0.mk (Kd.V_lower (Kd.V_mono (ok' := fun k_ => True) ho0 (fun k_ hk_ => trivial)) (below_size (bel HB)))
   have n1_ := Aside0.mk (below_step (bel HB) hb)
   clear HB
   have HO106 := n0_
   have HB := n1_
   clear n0_ n1_
   (try clear hb)
   (try clear hb2)
   (try clear hk)
   (try clear hi)
   (try clear ho0)
   obtain ⟨Ao13, co13, eo13⟩ := Kd.V_slice HO106.out
   (first | subst eo13 | (injection eo13 with f1_ f2_ f3_; have f4_ := f1_.symm; have f5_ := f3_.symm; clear f1_ f2_ f3_; subst f4_; subst f5_))
   refine hK.out _ _ trivial (fun hHeld => ?_)
   clear hK K
   refine norm_ (a' := ?_) ?_ ?_
   rotate_left
   ·show Act.put _ (some 11) _ = _
    simp only [Act.put, List.setIfInBounds_toArray, List.set_cons_zero, List.set_cons_succ, i64_w, i32_w]
    rfl
   refine one_ (i := 4) (N := some 14) #[true, true, true, true, true, false, false, false] rfl rfl (one_of HT_.out (by kernel_rfl)) (by decide) (fun K hK => ?_)
   refine goes_ Tryz.func14 (by kernel_rfl) rfl #[.agg #[.int .i64 t102, .int .i64 t103, .slice Ao13 t104.length co13], .int .u8 (bt a1 0)] (by rfl) rfl rfl (by (try simp only [List.map_toArray, List.map_cons, List.map_nil]); first | done | rfl | (simp only [List.length_drop, List.length_take]; rfl)) ?_
   with_reducible refine (impl_tray_stepped.calls k t102 t103 _ _ t104 (bt a1 0) t107 t108 t109 _ ?side1 ?side2 A8.out).mono ?_
   (case side1 => repeat (first | exact (Kd.V_reads' HO106.out).2.2 | (with_reducible refine Kd.C_alloc ?_ _) | (with_reducible refine Kd.C_drewN ?_ _) | (with_reducible refine Kd.C_drew ?_)))
   (case side2 => exact (Kd.V_reads' HO106.out).2.1)
   rintro e w14 ⟨v110, rfl, ho0, hb⟩
   refine ⟨_, rfl, ?_⟩
   have n0_ := Aside0.mk (Kd.V_elder' (by (with_reducible repeat (first | apply Kd.V_alloc | apply Kd.V_drewN | apply Kd.V_drew)); (first | exact HO106.out | exact R_any HO106.out)) (Kd.R_base ho0) hb)
   have n1_ := Aside0.mk (Kd.R_lower ho0 (below_size (bel HB)))
   have n2_ := Aside0.mk (below_step (bel HB) hb)
   clear HO106
   clear HB
   have HO106 := n0_
   have HO111 := n1_
   have HB := n2_
   clear n0_ n1_ n2_
   (try clear hb)
   (try clear hb2)
   (try clear hk)
   (try clear hi)
   (try clear ho0)
   obtain ⟨Ao15, co15, eo15⟩ := Kd.R_slice HO111.out
   (first | subst eo15 | (injection eo15 with f1_ f2_ f3_; have f4_ := f1_.symm; have f5_ := f3_.symm; clear f1_ f2_ f3_; subst f4_; subst f5_))
   refine hK.out _ _ trivial (fun hHeld => ?_)
   clear hK K
   refine norm_ (a' := ?_) ?_ ?_
   rotate_left
   ·show Act.put _ (some 14) _ = _
    simp only [Act.put, List.setIfInBounds_toArray, List.set_cons_zero, List.set_cons_succ, i64_w, i32_w]
    rfl
   refine one_ (i := 5) (N := some 15) #[true, true, true, true, true, true, false, false] rfl rfl (one_of HT_.out (by kernel_rfl)) (by decide) (fun K hK => ?_)
   refine goes_ Tryz.func15 (by kernel_rfl) rfl #[.agg #[.int .i64 t107, .int .i64 t108, .slice Ao15 t109.length co15]] (by rfl) rfl rfl (by (try simp only [List.map_toArray, List.map_cons, List.map_nil]); first | done | rfl | (simp only [List.length_drop, List.length_take]; rfl)) ?_
   with_reducible refine (impl_tray_text.calls t107 t108 _ _ t109 t112 _ ?side1 ?side2 A9.out).mono ?_
   (case side1 => repeat (first | exact (Kd.R_reads' HO111.out).2.2 | (with_reducible refine Kd.C_alloc ?_ _) | (with_reducible refine Kd.C_drewN ?_ _) | (with_reducible refine Kd.C_drew ?_)))
   (case side2 => exact (Kd.R_reads' HO111.out).2.1)
   rintro e w16 ⟨rfl, hb⟩
   refine ⟨_, rfl, ?_⟩
   have n0_ := Aside0.mk (Kd.V_below (by (with_reducible repeat (first | apply Kd.V_alloc | apply Kd.V_drewN | apply Kd.V_drew)); (first | exact HO106.out | exact R_any HO106.out)) hb)
   have n1_ := Aside0.mk (Kd.R_below (rch HO111) hb)
   have n2_ := Aside0.mk (below_step (bel HB) hb)
   clear HO106
   clear HO111
   clear HB
   have HO106 := n0_
   have HO111 := n1_
   have HB := n2_
   clear n0_ n1_ n2_
   (try clear hb)
   (try clear hb2)
   (try clear hk)
   (try clear hi)
   refine hK.out _ _ trivial (fun hHeld => ?_)
   clear hK K
   refine norm_ (a' := ?_) ?_ ?_
   rotate_left
   ·show Act.put _ (some 15) _ = _
    simp only [Act.put, List.setIfInBounds_toArray, List.set_cons_zero, List.set_cons_succ, i64_w, i32_w]
    rfl
   refine pure_ (i := 6) (N := some 4) (v := ?_) (a' := ?_) #[true, true, true, true, true, true, true, false] rfl rfl (any_of HT_.out (by kernel_rfl)) (fun _ _ _ h => h) (Or.inl ⟨by rfl, ?_⟩) ?_ ?_
   rotate_left
   ·intro w'
    go_simp
    with_reducible rfl
   rotate_left
   ·simp only [Act.put, List.setIfInBounds_toArray, List.set_cons_zero, List.set_cons_succ, i64_w, i32_w]
    rfl
   refine pure_ (i := 7) (N := some 5) (v := ?_) (a' := ?_) #[true, true, true, true, true, true, true, true] rfl rfl (any_of HT_.out (by kernel_rfl)) (fun _ _ _ h => h) (Or.inl ⟨by rfl, ?_⟩) ?_ ?_
   rotate_left
   ·intro w'
    go_simp
    with_reducible rfl
   rotate_left
   ·simp only [Act.put, List.setIfInBounds_toArray, List.set_cons_zero, List.set_cons_succ, i64_w, i32_w]
    rfl
   refine done_ (done_of HT_.out (by kernel_rfl)) ?_
   try go_wp2
   go_ret2
   exact ⟨by first | rfl | (simp [errW_none, errW_some] <;> rfl) | (simp [*, errW_none, errW_some] <;> rfl), bel HB⟩
  ·rw [if_neg c6] at H
   exact absurd H (by simp)
 ·replace c4 := Bool.eq_false_iff.mpr c4
  subst c4
  have H1 : (some ((⟨#[]⟩ : ByteArray), false)) = some (r1, r2) := by rw [if_neg (show ¬ (false = true) by decide)] at H; exact H
  clear H
  have H := H1
  clear H1
  simp only [Option.some.injEq, Prod.mk.injEq] at H
  obtain ⟨rfl, rfl⟩ := H
  go_enter Tryz.func6, Tryz.ntmps6
  go_wp2_with (first | ((with_reducible refine gate_callee (f := 12) rfl ?_); refine gcall (some 8) Tryz.func12 #[.string a0, .string a1] rfl ?_; (with_reducible refine (impl_isTilted.calls k a0 a1 false _ ?side1 A3.out).mono ?_); (case side1 => (refine GoodW.below HG.out ?_); exact bel HB); rintro e w17 ⟨rfl, hb⟩; refine ⟨_, rfl, ?_⟩; have n0_ := Aside0.mk (below_step (bel HB) hb); clear HB; have HB := n0_; clear n0_; (try clear hb); (try clear hb2); (try clear hk); (try clear hi)))
  go_ret2
  exact ⟨by first | rfl | (simp [errW_none, errW_some] <;> rfl) | (simp [*, errW_none, errW_some] <;> rfl), bel HB⟩
def laws_FnExactStepTray.f (k : Nat) (a0 : ByteArray) (a1 : ByteArray) : Option (Bool) := if (a0.size : Int) > 1048576 then (some true) else (if (a1.size : Int) > 1048576 then (some true) else ((spec_StepTray.f k a0 a1).bind fun bt101 => ((impl_StepTray.f k a0 a1).bind fun bt103 => (if bt103.1.toList = bt101.1.toList then (if (bt103.2 != bt101.2) = true then (some false) else (some true)) else (some false)))))
set_option maxHeartbeats 8000000 in
set_option maxRecDepth 100000 in
theorem laws_FnExactStepTray.calls (k : Nat) (a0 : ByteArray) (a1 : ByteArray) (r : Bool) (w : World) (hG : GoodW w) (h : laws_FnExactStepTray.f k a0 a1 = some r) :
  Calls Tryz.prog 3 #[.string a0, .string a1] w fun e w' => e = .returned (.bool r) ∧ Below w.heap.size w w' := by
 have HG := Aside0.mk hG
 clear hG
 have HB := Aside0.mk (Below.refl w.heap.size w)
 have H : (if (a0.size : Int) > 1048576 then (some true) else (if (a1.size : Int) > 1048576 then (some true) else ((spec_StepTray.f k a0 a1).bind fun bt101 => ((impl_StepTray.f k a0 a1).bind fun bt103 => (if bt103.1.toList = bt101.1.toList then (if (bt103.2 != bt101.2) = true then (some false) else (some true)) else (some false)))))) = some r := h
 clear h
 by_cases c3 : (a0.size : Int) > 1048576
 ·rw [if_pos c3] at H
  have c3b0 : decide (1048576 < (a0.size : Int)) = true := decide_eq_true c3
  have c3b1 : decide (1048576 < a0.size) = true := decide_eq_true (by omega)
  clear c3
  obtain rfl := Option.some.inj H
  go_enter Tryz.func3, Tryz.ntmps3
  go_wp2
  go_ret
  exact ⟨by first | rfl | (simp [errW_none, errW_some] <;> rfl) | (simp [*, errW_none, errW_some] <;> rfl), bel HB⟩
 ·rw [if_neg c3] at H
  have c3b0 : decide (1048576 < (a0.size : Int)) = false := decide_eq_false c3
  have c3b1 : decide (1048576 < a0.size) = false := decide_eq_false (by omega)
  clear c3
  by_cases c4 : (a1.size : Int) > 1048576
  ·rw [if_pos c4] at H
   have c4b0 : decide (1048576 < (a1.size : Int)) = true := decide_eq_true c4
   have c4b1 : decide (1048576 < a1.size) = true := decide_eq_true (by omega)
   clear c4
   obtain rfl := Option.some.inj H
   go_enter Tryz.func3, Tryz.ntmps3
   go_wp2
   go_ret
   exact ⟨by first | rfl | (simp [errW_none, errW_some] <;> rfl) | (simp [*, errW_none, errW_some] <;> rfl), bel HB⟩
  ·rw [if_neg c4] at H
   have c4b0 : decide (1048576 < (a1.size : Int)) = false := decide_eq_false c4
   have c4b1 : decide (1048576 < a1.size) = false := decide_eq_false (by omega)
   clear c4
   replace H := Option.bind_eq_some_iff.mp H
   obtain ⟨⟨t101, t102⟩, A50, H⟩ := H
   replace H : ((impl_StepTray.f k a0 a1).bind fun bt103 => (if bt103.1.toList = t101.toList then (if (bt103.2 != t102) = true then (some false) else (some true)) else (some false))) = some r := H
   have A5 := Aside0.mk A50
   clear A50
   replace H := Option.bind_eq_some_iff.mp H
   obtain ⟨⟨t103, t104⟩, A60, H⟩ := H
   replace H : (if t103.toList = t101.toList then (if (t104 != t102) = true then (some false) else (some true)) else (some false)) = some r := H
   have A6 := Aside0.mk A60
   clear A60
   by_cases c7 : t103.toList = t101.toList
   ·rw [if_pos c7] at H
    have c7b0 : (t103.toList == t101.toList) = true := beq_iff_eq.mpr c7
    have c7b1 : (t103.toList != t101.toList) = false := bne_eq_false_iff_eq.mpr c7
    clear c7
    by_cases c8 : (t104 != t102) = true
    ·rw [if_pos c8] at H
     have c8b0 : (t104 != t102) = true := c8
     (try (have c8b1 : decide (t104 = t102) = false := by simpa using c8))
     (try (have c8b2 : (t104 == t102) = false := by simpa using c8))
     (try (have c8b3 : ¬ (t104 = t102) := by simpa using c8))
     clear c8
     obtain rfl := Option.some.inj H
     go_enter Tryz.func3, Tryz.ntmps3
     go_wp2_with (first | ((with_reducible refine gate_callee (f := 5) rfl ?_); refine gcall (some 18) Tryz.func5 #[.string a0, .string a1] rfl ?_; (with_reducible refine (spec_StepTray.calls k a0 a1 t101 t102 _ A5.out).mono ?_); rintro e w9 ⟨rfl, hb⟩; refine ⟨_, rfl, ?_⟩; have n0_ := Aside0.mk (below_step (bel HB) hb); clear HB; have HB := n0_; clear n0_; (try clear hb); (try clear hb2); (try clear hk); (try clear hi)) | ((with_reducible refine gate_callee (f := 6) rfl ?_); refine gcall (some 24) Tryz.func6 #[.string a0, .string a1] rfl ?_; (with_reducible refine (impl_StepTray.calls k a0 a1 t103 t104 _ ?side1 A6.out).mono ?_); (case side1 => (refine GoodW.below HG.out ?_); exact bel HB); rintro e w10 ⟨rfl, hb⟩; refine ⟨_, rfl, ?_⟩; have n0_ := Aside0.mk (below_step (bel HB) hb); clear HB; have HB := n0_; clear n0_; (try clear hb); (try clear hb2); (try clear hk); (try clear hi)))
     go_ret
     exact ⟨by first | rfl | (simp [errW_none, errW_some] <;> rfl) | (simp [*, errW_none, errW_some] <;> rfl), bel HB⟩
    ·rw [if_neg c8] at H
     have c8b0 : (t104 != t102) = false := by simpa using c8
     (try (have c8b1 : decide (t104 = t102) = true := by simpa using c8))
     (try (have c8b2 : (t104 == t102) = true := by simpa using c8))
     clear c8
     obtain rfl := Option.some.inj H
     go_enter Tryz.func3, Tryz.ntmps3
     go_wp2_with (first | ((with_reducible refine gate_callee (f := 5) rfl ?_); refine gcall (some 18) Tryz.func5 #[.string a0, .string a1] rfl ?_; (with_reducible refine (spec_StepTray.calls k a0 a1 t101 t102 _ A5.out).mono ?_); rintro e w11 ⟨rfl, hb⟩; refine ⟨_, rfl, ?_⟩; have n0_ := Aside0.mk (below_step (bel HB) hb); clear HB; have HB := n0_; clear n0_; (try clear hb); (try clear hb2); (try clear hk); (try clear hi)) | ((with_reducible refine gate_callee (f := 6) rfl ?_); refine gcall (some 24) Tryz.func6 #[.string a0, .string a1] rfl ?_; (with_reducible refine (impl_StepTray.calls k a0 a1 t103 t104 _ ?side1 A6.out).mono ?_); (case side1 => (refine GoodW.below HG.out ?_); exact bel HB); rintro e w12 ⟨rfl, hb⟩; refine ⟨_, rfl, ?_⟩; have n0_ := Aside0.mk (below_step (bel HB) hb); clear HB; have HB := n0_; clear n0_; (try clear hb); (try clear hb2); (try clear hk); (try clear hi)))
     go_ret
     exact ⟨by first | rfl | (simp [errW_none, errW_some] <;> rfl) | (simp [*, errW_none, errW_some] <;> rfl), bel HB⟩
   ·rw [if_neg c7] at H
    have c7b0 : (t103.toList == t101.toList) = false := beq_eq_false_iff_ne.mpr c7
    have c7b1 : (t103.toList != t101.toList) = true := bne_iff_ne.mpr c7
    obtain rfl := Option.some.inj H
    go_enter Tryz.func3, Tryz.ntmps3
    go_wp2_with (first | ((with_reducible refine gate_callee (f := 5) rfl ?_); refine gcall (some 18) Tryz.func5 #[.string a0, .string a1] rfl ?_; (with_reducible refine (spec_StepTray.calls k a0 a1 t101 t102 _ A5.out).mono ?_); rintro e w13 ⟨rfl, hb⟩; refine ⟨_, rfl, ?_⟩; have n0_ := Aside0.mk (below_step (bel HB) hb); clear HB; have HB := n0_; clear n0_; (try clear hb); (try clear hb2); (try clear hk); (try clear hi)) | ((with_reducible refine gate_callee (f := 6) rfl ?_); refine gcall (some 24) Tryz.func6 #[.string a0, .string a1] rfl ?_; (with_reducible refine (impl_StepTray.calls k a0 a1 t103 t104 _ ?side1 A6.out).mono ?_); (case side1 => (refine GoodW.below HG.out ?_); exact bel HB); rintro e w14 ⟨rfl, hb⟩; refine ⟨_, rfl, ?_⟩; have n0_ := Aside0.mk (below_step (bel HB) hb); clear HB; have HB := n0_; clear n0_; (try clear hb); (try clear hb2); (try clear hk); (try clear hi)))
    go_ret
    exact ⟨by first | rfl | (simp [errW_none, errW_some] <;> rfl) | (simp [*, errW_none, errW_some] <;> rfl), bel HB⟩
end Go.Proofs.YtcpeldgnabfdmabGreatDoor.Q
end
