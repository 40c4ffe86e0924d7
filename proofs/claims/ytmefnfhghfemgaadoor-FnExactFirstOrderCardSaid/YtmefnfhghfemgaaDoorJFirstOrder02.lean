/- Texts of this claim, joined. -/
import Derived.Test.YtmefnfhghfemgaaDoorJFirstOrder01
import Derived.Deep.LoopGhost
import Derived.Deep.Draws
import Derived.RangeFuncBox
import Derived.Laws.CopyOwn
import Derived.Deep.RegionLaw
import Derived.Laws.MakeOwn
set_option linter.unusedVariables false
set_option linter.unusedSimpArgs false
set_option linter.unusedSectionVars false
section
namespace Go.Proofs.YtmefnfhghfemgaaDoor.Q
open Go.RowKit Go.Proofs.YtmefnfhghfemgaaDoorW.PrintWords Go.Proofs.YtmefnfhghfemgaaDoorW.PrintLast Go.Proofs.YtmefnfhghfemgaaDoorW.PrintMore
theorem dw_nil {α : Type} (p : α → Bool) : ∀ l : List α, l.dropWhile p = [] ↔ ∀ b ∈ l, p b = true
 | [] => by simp
 | b :: l => by
  rw [List.dropWhile_cons]
  by_cases h : p b = true
  ·rw [if_pos h, dw_nil p l]
   simp [h]
  ·rw [if_neg h]
   simp [h]
theorem dw_all {α : Type} (p : α → Bool) : ∀ l : List α, (∀ b ∈ l.dropWhile p, p b = true) → ∀ b ∈ l, p b = true
 | [], _ => by simp
 | b :: l, h => by
  rw [List.dropWhile_cons] at h
  by_cases hb : p b = true
  ·rw [if_pos hb] at h
   have ih := dw_all p l h
   simpa [hb] using ih
  ·rw [if_neg hb] at h
   exact h
theorem trimS_nil (l cs : List UInt8) : Lib.trimS l cs = [] ↔ ∀ b ∈ l, cs.contains b = true := by
 unfold Lib.trimS Lib.trimLeftS Lib.trimRightS
 rw [dw_nil]
 constructor
 ·intro h
  have h2 := dw_all (cs.contains ·) l.reverse (fun b hb => h b (by simpa using hb))
  exact fun b hb => h2 b (by simpa using hb)
 ·intro h b hb
  rw [List.mem_reverse] at hb
  exact h b (by simpa using (List.dropWhile_sublist _).subset hb)
theorem trim_tell (s cut : ByteArray) (hs : s.size ≤ 1048576) (hc : cut.size < 100) (ha : asciiB cut.data.toList = true) :
  ∃ t, strings_Trim.f s cut = some t ∧ (t.toList = [] ↔ ∀ b ∈ s.data.toList, cut.data.toList.contains b = true) := by
 refine ⟨_, if_pos ⟨by omega, by omega, ha⟩, ?_⟩
 rw [← trimS_nil]
 generalize Lib.trimS s.data.toList cut.data.toList = l
 have e : (⟨l.toArray⟩ : ByteArray).toList = l := ByteArray.toList_mk l
 rw [e]
theorem encode_name : ∀ n : Fin 6, Utf8.encode (97 + (n.val : Int)) = ⟨#[UInt8.ofNat (97 + n.val)]⟩ := by decide +kernel
theorem count_name (s : ByteArray) (n : Nat) (h1 : 97 ≤ n) (h2 : n ≤ 102) : (runeS.f (n : Int)).bind (fun t => strings_Count.f s t) = some ((s.data.toList.count (UInt8.ofNat n) : Nat) : Int) := by
 have h := encode_name ⟨n - 97, by omega⟩
 simp only [show (97 + ((n - 97 : Nat) : Int)) = (n : Int) by omega, show 97 + (n - 97) = n by omega] at h
 unfold runeS.f
 rw [Option.bind_some, h]
 rfl
theorem it_l1 (s : ByteArray) : ∀ (m n : Nat), 97 ≤ n → n + m = 103 → ∀ R : Bool, (R = true ↔ ∀ c : Nat, n ≤ c → c ≤ 102 → s.data.toList.count (UInt8.ofNat c) ≤ 1) → Ev (fun k => impl_IsTray.l1 k s n) R
 | 0, n, h1, h2, R, hR => by
  obtain rfl : R = true := hR.2 fun c h3 h4 => by omega
  refine Ev.step (Ev.const (o := some true) rfl) fun k => ?_
  rw [impl_IsTray.l1, if_neg (by omega)]
 | m + 1, n, h1, h2, R, hR => by
  have hc := count_name s n h1 (by omega)
  obtain ⟨t, e1, e2⟩ := Option.bind_eq_some_iff.1 hc
  have hw : wrap32 ((n : Int) + 1) = ((n + 1 : Nat) : Int) := by unfold wrap32; omega
  by_cases hn : s.data.toList.count (UInt8.ofNat n) ≤ 1
  ·have ih := it_l1 s m (n + 1) (by omega) (by omega) R (hR.trans ⟨fun h c h3 h4 => h c (by omega) h4, fun h c h3 h4 => by
    by_cases h5 : n = c
    ·rw [← h5]; exact hn
    ·exact h c (by omega) h4⟩)
   refine Ev.step ih fun k => ?_
   rw [impl_IsTray.l1, if_pos (by omega), e1, Option.bind_some, e2, Option.bind_some, if_neg (by omega), hw]
  ·obtain rfl : R = false := Bool.eq_false_iff.2 fun h => hn (hR.1 h n (Nat.le_refl _) (by omega))
   refine Ev.step (Ev.const (o := some false) rfl) fun k => ?_
   rw [impl_IsTray.l1, if_pos (by omega), e1, Option.bind_some, e2, Option.bind_some, if_pos (by omega)]
theorem named_count (s : ByteArray) : namedOK (ints (rows 47 s.data.toList).flatten) ↔ ∀ c : Nat, 97 ≤ c → c ≤ 102 → s.data.toList.count (UInt8.ofNat c) ≤ 1 := by
 have h : ∀ c : Nat, 97 ≤ c → c ≤ 102 → (ints (rows 47 s.data.toList).flatten).count (c : Int) = s.data.toList.count (UInt8.ofNat c) := by
  intro c h1 h2
  have e : ((UInt8.ofNat c).toNat : Int) = c := by
   rw [UInt8.toNat_ofNat']
   omega
  rw [← e, ints_count, rows_count 47 (UInt8.ofNat c)]
  intro e2
  have := congrArg UInt8.toNat e2
  rw [UInt8.toNat_ofNat'] at this
  have h47 : (47 : UInt8).toNat = 47 := rfl
  omega
 constructor
 ·intro h1 c h2 h3
  rw [← h c h2 h3]
  exact h1 c (by omega) (by omega)
 ·intro h1 c h2 h3
  have h4 := h c.toNat (by omega) (by omega)
  rw [show ((c.toNat : Nat) : Int) = c by omega] at h4
  rw [h4]
  exact h1 _ (by omega) (by omega)
theorem within_eq (a lo hi : Int) : impl_within.f a lo hi = some (decide (lo ≤ a ∧ a ≤ hi)) := by
 unfold impl_within.f
 by_cases h : lo ≤ a
 ·rw [if_pos h]
  simp [h]
 ·rw [if_neg h]
  simp [h]
theorem isSize_eq (w h : Nat) (hw : w ≤ 1048576) (hh : h ≤ 1048577) : impl_isSize.f w h = some (decide (1 ≤ w ∧ w ≤ 7 ∧ 1 ≤ h ∧ h ≤ 7 ∧ w * h ≤ 36)) := by
 unfold impl_isSize.f
 rw [within_eq, Option.bind_some]
 by_cases h1 : 1 ≤ w ∧ w ≤ 7
 ·rw [decide_eq_true (by omega), if_pos rfl, within_eq, Option.bind_some]
  by_cases h2 : 1 ≤ h ∧ h ≤ 7
  ·rw [decide_eq_true (by omega), if_pos rfl]
   have h3 : w * h ≤ 7 * 7 := Nat.mul_le_mul h1.2 h2.2
   have e : wrap64 ((w : Int) * h) = ((w * h : Nat) : Int) := by
    rw [← Int.natCast_mul]
    exact w64 (by omega) (by omega)
   rw [e]
   congr 1
   exact decide_eq_decide.2 ⟨fun h => ⟨h1.1, h1.2, h2.1, h2.2, by omega⟩, fun h => by omega⟩
  ·rw [decide_eq_false (by omega), if_neg (by decide), decide_eq_false (by omega)]
 ·rw [decide_eq_false (by omega), if_neg (by decide), decide_eq_false (by omega)]
theorem rowsL_len (s : ByteArray) : (rowsL s).length = (rows 47 s.data.toList).length := by rw [← rowsL_map, List.length_map]
theorem rowsL_drop (s : ByteArray) (i : Nat) (h : i < (rowsL s).length) : (rows 47 s.data.toList).drop i = (rdOf ByteArray.empty (rowsL s) (i : Int)).data.toList :: (rows 47 s.data.toList).drop (i + 1) := by
 rw [← rowsL_map]
 have h2 : i < ((rowsL s).map (·.data.toList)).length := by rw [List.length_map]; exact h
 rw [List.drop_eq_getElem_cons h2]
 congr 1
 unfold rdOf
 rw [List.getElem_map, Int.toNat_natCast, List.getD_eq_getElem?_getD, List.getElem?_eq_getElem h]
 rfl
theorem rowsL_tw (s : ByteArray) (h : 0 < (rowsL s).length) : (rdOf ByteArray.empty (rowsL s) 0).size = tw (rows 47 s.data.toList) := by
 have e := rowsL_drop s 0 h
 rw [List.drop_zero] at e
 unfold tw
 rw [e, List.headD_cons, data_length]
 rfl
theorem rows_le (c : UInt8) (l r : List UInt8) (h : r ∈ rows c l) : r.length ≤ l.length := by
 have h1 := rows_flat c l
 have h2 : r.length ≤ (rows c l).flatten.length := (List.sublist_flatten_of_mem h).length_le
 omega
def cutAll : ByteArray := ⟨#[35, 46, 111, 97, 98, 99, 100, 101, 102]⟩
theorem it_l0 (s : ByteArray) (hs : s.size ≤ 1048576) (w : Nat) (hw : (rdOf ByteArray.empty (rowsL s) 0).size = w) (K : Bool) (hK : Ev (fun k => impl_IsTray.l1 k s 97) K) :
  ∀ (m i : Nat), i + m = (rowsL s).length → Ev (fun k => impl_IsTray.l0 k s (rowsL s) (rowsL s) (rowsL s).length i) (if evenRows w ((rows 47 s.data.toList).drop i) then K else false)
 | 0, i, hi => by
  have e : (rows 47 s.data.toList).drop i = [] := List.drop_eq_nil_of_le (by rw [← rowsL_len]; omega)
  rw [e, if_pos (show evenRows w [] from fun r hr => by simp at hr)]
  refine Ev.step hK fun k => ?_
  rw [impl_IsTray.l0, if_neg (by omega)]
 | m + 1, i, hi => by
  have ih := it_l0 s hs w hw K hK m (i + 1) (by omega)
  have hlt : i < (rowsL s).length := by omega
  have hlen : (rowsL s).length ≤ 1048577 := by
   have h1 := rows_size 47 s.data.toList
   have h2 := data_length s
   rw [rowsL_len]
   omega
  have hd := rowsL_drop s i hlt
  have hrow : (rdOf ByteArray.empty (rowsL s) (i : Int)).data.toList ∈ rows 47 s.data.toList := (List.drop_sublist i _).subset (by rw [hd]; exact List.mem_cons_self)
  have hsz : (rdOf ByteArray.empty (rowsL s) (i : Int)).size ≤ 1048576 := by
   have h1 := rows_le 47 _ _ hrow
   rw [data_length, data_length] at h1
   omega
  have hwr : wrap64 ((i : Int) + 1) = ((i + 1 : Nat) : Int) := by rw [w64 (by omega) (by omega)]; omega
  rw [hd]
  generalize hrw : rdOf ByteArray.empty (rowsL s) (i : Int) = row at hsz hd ⊢
  obtain ⟨t, et, ht⟩ := trim_tell row cutAll hsz (by decide) (by decide)
  have hcell : (∀ b ∈ row.data.toList, cutAll.data.toList.contains b = true) ↔ row.data.toList.all isCellB = true := by
   rw [List.all_eq_true]
   rfl
  rw [ite_iff ((evenRows_cons w row.data.toList ((rows 47 s.data.toList).drop (i + 1))).trans (show _ ↔ (row.size = w ∧ t.toList = []) ∧ evenRows w ((rows 47 s.data.toList).drop (i + 1)) by rw [← hcell, ← ht, data_length]))]
  by_cases h1 : row.size = w
  ·by_cases h2 : t.toList = []
   ·rw [ite_iff (show ((row.size = w ∧ t.toList = []) ∧ evenRows w ((rows 47 s.data.toList).drop (i + 1))) ↔ evenRows w ((rows 47 s.data.toList).drop (i + 1)) from ⟨fun h => h.2, fun h => ⟨⟨h1, h2⟩, h⟩⟩)]
    refine Ev.step ih fun k => ?_
    rw [impl_IsTray.l0, if_pos (by omega), if_pos (by omega), if_pos (by omega), if_pos (by omega), hrw, hw, if_pos (by omega)]
    show (strings_Trim.f row cutAll).bind _ = _
    rw [et, Option.bind_some, if_pos h2, hwr]
   ·rw [if_neg fun h => h2 h.1.2]
    refine Ev.step (Ev.const (o := some false) rfl) fun k => ?_
    rw [impl_IsTray.l0, if_pos (by omega), if_pos (by omega), if_pos (by omega), if_pos (by omega), hrw, hw, if_pos (by omega)]
    show (strings_Trim.f row cutAll).bind _ = _
    rw [et, Option.bind_some, if_neg h2]
  ·rw [if_neg fun h => h1 h.1.1]
   refine Ev.step (Ev.const (o := some false) rfl) fun k => ?_
   rw [impl_IsTray.l0, if_pos (by omega), if_pos (by omega), if_pos (by omega), if_pos (by omega), hrw, hw, if_neg (by omega)]
theorem isTray_ev (s : ByteArray) (hs : s.size ≤ 1048576) : Ev (fun k => impl_IsTray.f k s) (trayOf s).isSome := by
 have h1 := rows_size 47 s.data.toList
 have h2 := data_length s
 have h3 := rowsL_len s
 have hne : 0 < (rowsL s).length := by
  rw [h3]
  exact List.length_pos_iff.2 (rows_ne 47 _)
 have hw := rowsL_tw s hne
 have hwle : tw (rows 47 s.data.toList) ≤ 1048576 := by
  have e := rowsL_drop s 0 hne
  rw [List.drop_zero] at e
  have := rows_le 47 s.data.toList _ (by rw [e]; exact List.mem_cons_self)
  rw [data_length, data_length] at this
  have h4 : (rdOf ByteArray.empty (rowsL s) ((0 : Nat) : Int)).size = (rdOf ByteArray.empty (rowsL s) 0).size := rfl
  omega
 have hsp : strings_Split.f s ⟨#[47]⟩ = some (rowsL s) := if_pos ⟨by omega, by decide⟩
 have hss := isSize_eq (tw (rows 47 s.data.toList)) (rowsL s).length hwle (by omega)
 have hf : ∀ k, impl_IsTray.f k s = if decide (1 ≤ tw (rows 47 s.data.toList) ∧ tw (rows 47 s.data.toList) ≤ 7 ∧ 1 ≤ (rowsL s).length ∧ (rowsL s).length ≤ 7 ∧ tw (rows 47 s.data.toList) * (rowsL s).length ≤ 36) = true then impl_IsTray.l0 k s (rowsL s) (rowsL s) (rowsL s).length 0 else some false := by
  intro k
  unfold impl_IsTray.f
  rw [hsp, Option.bind_some, if_pos (by omega), hw, hss, Option.bind_some]
 refine Ev.congr ?_ hf
 unfold trayOf trayRows
 by_cases hc : 1 ≤ tw (rows 47 s.data.toList) ∧ tw (rows 47 s.data.toList) ≤ 7 ∧ 1 ≤ (rowsL s).length ∧ (rowsL s).length ≤ 7 ∧ tw (rows 47 s.data.toList) * (rowsL s).length ≤ 36
 ·rw [decide_eq_true hc]
  refine Ev.congr ?_ (fun k => if_pos rfl)
  have h5 := it_l0 s hs _ hw (decide (namedOK (ints (rows 47 s.data.toList).flatten))) (it_l1 s 6 97 (by omega) (by omega) _ (by rw [decide_eq_true_iff]; exact named_count s)) (rowsL s).length 0 (by omega)
  rw [List.drop_zero] at h5
  have e : (if okRows (rows 47 s.data.toList) then some ((tw (rows 47 s.data.toList) : Int), ((rows 47 s.data.toList).length : Int), ints (rows 47 s.data.toList).flatten) else none).isSome =
    if evenRows (tw (rows 47 s.data.toList)) (rows 47 s.data.toList) then decide (namedOK (ints (rows 47 s.data.toList).flatten)) else false := by
   by_cases h6 : evenRows (tw (rows 47 s.data.toList)) (rows 47 s.data.toList)
   ·by_cases h7 : namedOK (ints (rows 47 s.data.toList).flatten)
    ·rw [if_pos h6, if_pos (show okRows _ from ⟨by rw [h3] at hc; omega, h6, h7⟩), decide_eq_true h7]
     rfl
    ·rw [if_pos h6, if_neg fun h => h7 h.2.2, decide_eq_false h7]
     rfl
   ·rw [if_neg h6, if_neg fun h => h6 h.2.1]
    rfl
  rw [e]
  exact h5
 ·rw [if_neg fun h => hc (by have h4 := h.1; rw [h3]; omega), decide_eq_false hc]
  exact Ev.congr (Ev.const (o := some false) rfl) (fun k => if_neg (by decide))
theorem joined_ints (s : ByteArray) : bytesOf (joinedB s) = ints (rows 47 s.data.toList).flatten := by
 unfold bytesOf ints
 rw [joinedB_list]
theorem trayOf_row (s : ByteArray) : trayOf s = none ∨ (s.size ≤ 42 ∧ impl_read.f s = trayOf s) := by
 rcases h : trayOf s with _ | t
 ·exact Or.inl rfl
 ·have hs := trayOf_small s (by rw [h]; exact fun e => nomatch e)
  refine Or.inr ⟨hs, ?_⟩
  rw [← h]
  have hne : 0 < (rowsL s).length := by
   rw [rowsL_len]
   exact List.length_pos_iff.2 (rows_ne 47 _)
  have hw := rowsL_tw s hne
  unfold trayOf trayRows at h ⊢
  split at h
  ·rename_i hk
   rw [if_pos hk]
   unfold impl_read.f
   rw [if_pos (by omega), joined_ints, rowsL_len, ← hw]
   rfl
  ·cases h
theorem trayOf_some {s : ByteArray} {t : Int × Int × List Int} (ht : trayOf s = some t) : ∃ w h : Nat, t = ((w : Int), (h : Int), ints (rows 47 s.data.toList).flatten) ∧ 1 ≤ w ∧ w ≤ 7 ∧ 1 ≤ h ∧ h ≤ 7 ∧ w * h ≤ 36 ∧ (ints (rows 47 s.data.toList).flatten).length = w * h := by
 unfold trayOf trayRows at ht
 split at ht
 ·rename_i hk
  have h1 := evenRows_flat _ _ hk.2.1
  have h2 := List.length_pos_iff.2 (rows_ne 47 s.data.toList)
  have h3 := hk.1
  refine ⟨_, _, (Option.some.inj ht).symm, h3.1, h3.2.1, by omega, h3.2.2.1, h3.2.2.2, ?_⟩
  rw [ints_length, h1]
 ·cases ht
theorem tray_parts {s : ByteArray} {t : Int × Int × List Int} (ht : trayOf s = some t) : ∃ (w h : Nat) (cs : List Int), t = ((w : Int), (h : Int), cs) ∧ 1 ≤ w ∧ w ≤ 7 ∧ 1 ≤ h ∧ h ≤ 7 ∧ w * h ≤ 36 ∧ cs.length = w * h := by
 obtain ⟨w, h, e, h1, h2, h3, h4, h5, h6⟩ := trayOf_some ht
 exact ⟨w, h, _, e, h1, h2, h3, h4, h5, h6⟩
theorem tray_read {s : ByteArray} {t : Int × Int × List Int} (ht : trayOf s = some t) : impl_read.f s = some t := by
 rw [← ht]
 exact ((trayOf_row s).resolve_left (by rw [ht]; exact fun e => nomatch e)).2
end Go.Proofs.YtmefnfhghfemgaaDoor.Q
end
section
namespace Go.Proofs.YtmefnfhghfemgaaDoor.Q
open Go.RowKit Go.Proofs.YtmefnfhghfemgaaDoorW.PrintWords Go.Proofs.YtmefnfhghfemgaaDoorW.PrintLast Go.Proofs.YtmefnfhghfemgaaDoorW.PrintMore
theorem wrap64_small (n : Nat) (h : n < 1000000) : wrap64 ((n : Int) + 1) = ((n + 1 : Nat) : Int) := by unfold wrap64; omega
end Go.Proofs.YtmefnfhghfemgaaDoor.Q
end
section
namespace Go.Proofs.YtmefnfhghfemgaaDoor.Q
open Go.RowKit Go.Proofs.YtmefnfhghfemgaaDoorW.PrintWords Go.Proofs.YtmefnfhghfemgaaDoorW.PrintLast Go.Proofs.YtmefnfhghfemgaaDoorW.PrintMore
def PredI (g : Nat) (lb : Array Value) (p : Int → Bool) (zs : List Int) (w : World) : Prop :=
 ∀ W, Below w.heap.size w W → ∀ x ∈ zs, Calls Tryd.prog g (#[.int .i64 x] ++ lb) W fun e W' => e = .returned (.bool (p x)) ∧ Below W.heap.size W W'
set_option maxHeartbeats 4000000 in
set_option maxRecDepth 100000 in
theorem idxI (g : Nat) (lb : Array Value) (eg : ∀ args w, (callFunc g args).run Tryd.prog w = .ok (.enter g args) w) (p : Int → Bool) (A0 : Option Addr) (c0 : Nat) (zs : List Int) (w : World) (hr0 : Kd.C (Kd.int .i64) w A0 zs.length zs) (hn : zs.length ≤ 1000000) (hp : PredI g lb p zs w) :
  Calls Tryd.prog 112 #[.slice A0 zs.length c0, .func (.func g) #[] lb] w fun e w' => ∃ i : Int, e = .returned (.int .i64 i) ∧ (decide (0 ≤ i) = zs.any p) ∧ Below w.heap.size w w' := by
 have HR := Aside0.mk hr0
 have HP := Aside0.mk hp
 clear hr0 hp
 go_enter Tryd.func112, Tryd.ntmps112
 go_wp2
 go_loopg [5, 8] zs.length (fun gg _ s8 wr => ∃ kk : Nat, s8 = .int .i64 kk ∧ Aside0 (kk ≤ zs.length ∧ zs.length - kk ≤ gg ∧ ∀ j : Nat, j < kk → p (rd zs j) = false) ∧ Aside0 (Below w.heap.size w wr))
 case atStart => exact ⟨0, rfl, ⟨Nat.zero_le _, by omega, fun j hj => absurd hj (Nat.not_lt_zero _)⟩, ⟨Below.refl _ _⟩⟩
 case round =>
  obtain ⟨kk, rfl, HA, HB⟩ := hrel
  obtain ⟨hkk, hgg, hno⟩ := HA.out
  by_cases hlt : kk < zs.length
  ·have c1 : decide ((kk : Int) < (zs.length : Int)) = true := decide_eq_true (by omega)
   have p1 : (0 ≤ (kk : Int)) = True := eq_true (by omega)
   have p2 : ((kk : Int) < (zs.length : Int)) = True := eq_true (by omega)
   obtain ⟨ad, e1, hx⟩ := Kd.at_int (Kd.C_below HR.out HB.out) (kk : Int) (by omega) (by omega)
   cases e1
   rw [Int.toNat_natCast] at hx
   have hm : rd zs kk ∈ zs := by
    unfold rd
    rw [Int.toNat_natCast, List.getD_eq_getElem?_getD, List.getElem?_eq_getElem hlt]
    exact List.getElem_mem hlt
   have hcall : ∀ W, Below wr.heap.size wr W → Calls Tryd.prog g (#[.int .i64 (rd zs kk)] ++ lb) W fun e W' => e = .returned (.bool (p (rd zs kk))) ∧ Below W.heap.size W W' := fun W hW =>
    HP.out W (below_then HB.out HB.out.size hW) (rd zs kk) hm
   generalize hv : rd zs kk = y at hx hcall hm
   have HV := Aside0.mk (show rd zs kk = y ∧ y ∈ zs from ⟨hv, hm⟩)
   clear hv hm hno hgg hkk
   cases hq : p y with
   | true =>
    rw [hq] at hcall
    go_wp2_with fail
    refine (hcall _ (Below.refl _ _)).mono ?_
    rintro e w' ⟨rfl, hb⟩
    clear hcall
    go_wp2
    go_ret
    refine ⟨_, rfl, ?_, below_then HB.out HB.out.size hb⟩
    rw [decide_eq_true (by omega)]
    exact (List.any_eq_true.2 ⟨y, HV.out.2, hq⟩).symm
   | false =>
    rw [hq] at hcall
    go_wp2_with fail
    refine (hcall _ (Below.refl _ _)).mono ?_
    rintro e w' ⟨rfl, hb⟩
    clear hcall
    go_wp2
    go_roundg (zs.length - (kk + 1))
    case measure => have := HA.out.2.1; omega
    case rel =>
     refine ⟨kk + 1, by first | rfl | rw [wrap64_small kk (by omega)] | simp, ⟨by omega, by omega, fun j hj => ?_⟩, ⟨below_then HB.out HB.out.size hb⟩⟩
     by_cases e : j = kk
     ·rw [e, HV.out.1]
      exact hq
     ·exact HA.out.2.2 j (by omega)
  ·obtain rfl : kk = zs.length := by omega
   have c1 : decide ((zs.length : Int) < (zs.length : Int)) = false := decide_eq_false (by omega)
   go_wp2
   go_ret
   refine ⟨_, rfl, ?_, HB.out⟩
   rw [decide_eq_false (by omega)]
   refine (Bool.eq_false_iff.2 fun h => ?_).symm
   obtain ⟨x, hx, hpx⟩ := List.any_eq_true.1 h
   obtain ⟨j, hj, rfl⟩ := List.getElem_of_mem hx
   have h2 := hno j hj
   unfold rd at h2
   rw [Int.toNat_natCast, List.getD_eq_getElem?_getD, List.getElem?_eq_getElem hj] at h2
   exact absurd hpx (by simpa using h2)
set_option maxHeartbeats 4000000 in
set_option maxRecDepth 100000 in
theorem contI (g : Nat) (lb : Array Value) (eg : ∀ args w, (callFunc g args).run Tryd.prog w = .ok (.enter g args) w) (p : Int → Bool) (A0 : Option Addr) (c0 : Nat) (zs : List Int) (w : World) (hr0 : Kd.C (Kd.int .i64) w A0 zs.length zs) (hn : zs.length ≤ 1000000) (hp : PredI g lb p zs w) :
  Calls Tryd.prog 76 #[.slice A0 zs.length c0, .func (.func g) #[] lb] w fun e w' => e = .returned (.bool (zs.any p)) ∧ Below w.heap.size w w' := by
 have hI := idxI g lb eg p A0 c0 zs w hr0 hn hp
 clear eg hp hr0
 go_enter Tryd.func76, Tryd.ntmps76
 go_wp2_with fail
 refine hI.mono ?_
 rintro e w' ⟨i, rfl, hi, hb⟩
 clear hI
 go_wp2
 go_ret
 exact ⟨by rw [← hi]; rfl, hb⟩
end Go.Proofs.YtmefnfhghfemgaaDoor.Q
end
section
namespace Go.Proofs.YtmefnfhghfemgaaDoor.Q
set_option linter.unusedSectionVars false
open Go.RowKit Go.Proofs.YtmefnfhghfemgaaDoorW.PrintWords Go.Proofs.YtmefnfhghfemgaaDoorW.PrintLast Go.Proofs.YtmefnfhghfemgaaDoorW.PrintMore
def inCells (cs : List Int) (a : Int) : Prop := 0 ≤ a ∧ a < (cs.length : Int)
instance (cs : List Int) (a : Int) : Decidable (inCells cs a) := inferInstanceAs (Decidable (_ ∧ _))
end Go.Proofs.YtmefnfhghfemgaaDoor.Q
end
section
namespace Go.Proofs.YtmefnfhghfemgaaDoor.Q
set_option linter.unusedSectionVars false
open Go.RowKit Go.Proofs.YtmefnfhghfemgaaDoorW.PrintWords Go.Proofs.YtmefnfhghfemgaaDoorW.PrintLast Go.Proofs.YtmefnfhghfemgaaDoorW.PrintMore
def isB (a : Int) : Bool := decide (a = 111 ∨ (97 ≤ a ∧ a ≤ 102))
theorem tyBall_eq (a : Int) : spec_tyBall.f a = some (isB a) := by
 unfold spec_tyBall.f isB
 by_cases h1 : a = 111
 ·rw [if_pos h1, decide_eq_true (Or.inl h1)]
 ·rw [if_neg h1]
  by_cases h2 : a ≥ 97
  ·rw [if_pos h2]
   congr 1
   exact decide_eq_decide.2 (by omega)
  ·rw [if_neg h2, decide_eq_false (by omega)]
def bI (cs : List Int) (i : Int) : Bool := isB (rd cs i)
theorem rd_set (L : List Int) (a j v : Int) (ha : 0 ≤ a) (hl : a < L.length) (hj : 0 ≤ j) : rd (L.set a.toNat v) j = if j = a then v else rd L j := by
 unfold rd
 rw [List.getD_eq_getElem?_getD, List.getElem?_set, List.getD_eq_getElem?_getD]
 by_cases h : j = a
 ·subst h
  rw [if_pos rfl, if_pos rfl, if_pos (by omega)]
  rfl
 ·rw [if_neg h, if_neg (by omega)]
theorem rd_nat (L : List Int) (t : Nat) (h : t < L.length) : rd L (t : Int) = L[t] := by
 unfold rd
 rw [Int.toNat_natCast, List.getD_eq_getElem?_getD, List.getElem?_eq_getElem h]
 rfl
theorem nodup_len : ∀ (n : Nat) (q : List Int), q.Nodup → (∀ j ∈ q, 0 ≤ j ∧ j < n) → q.length ≤ n
 | 0, q, _, h => by
  rcases q with _ | ⟨a, q⟩
  ·simp
  ·have := h a List.mem_cons_self
   omega
 | n + 1, q, hq, h => by
  by_cases hm : (n : Int) ∈ q
  ·have h1 := nodup_len n (q.erase n) (hq.erase _) (fun j hj => by
    have h2 := (hq.mem_erase_iff).1 hj
    have h3 := h j h2.2
    omega)
   rw [List.length_erase_of_mem hm] at h1
   omega
  ·have h1 := nodup_len n q hq (fun j hj => by
    have h3 := h j hj
    have : j ≠ n := fun e => hm (e ▸ hj)
    omega)
   omega
def emptyC (cs : List Int) : List Int := cs.map fun c => if isB c = true then 46 else c
end Go.Proofs.YtmefnfhghfemgaaDoor.Q
end
section
namespace Go.Proofs.YtmefnfhghfemgaaDoor.Q
set_option linter.unusedSectionVars false
open Go.RowKit Go.Proofs.YtmefnfhghfemgaaDoorW.PrintWords Go.Proofs.YtmefnfhghfemgaaDoorW.PrintLast Go.Proofs.YtmefnfhghfemgaaDoorW.PrintMore
theorem isBall_eq (a : Int) : impl_isBall.f a = some (isB a) := by
 unfold impl_isBall.f impl_isName.f isB
 by_cases h1 : a = 111
 ·rw [if_pos h1, decide_eq_true (Or.inl h1)]
 ·rw [if_neg h1]
  by_cases h2 : a ≥ 97
  ·rw [if_pos h2, Option.bind_some]
   congr 1
   exact decide_eq_decide.2 (by omega)
  ·rw [if_neg h2, Option.bind_some, decide_eq_false (by omega)]
end Go.Proofs.YtmefnfhghfemgaaDoor.Q
end
section
namespace Go.Proofs.YtmefnfhghfemgaaDoor.Q
open Go.RowKit Go.Proofs.YtmefnfhghfemgaaDoorW.PrintWords Go.Proofs.YtmefnfhghfemgaaDoorW.PrintLast Go.Proofs.YtmefnfhghfemgaaDoorW.PrintMore
attribute [local go_sem] max2_int min2_int max_two min_two max_three min_three max_four min_four
set_option linter.unusedVariables false
set_option linter.unusedSimpArgs false
mutual
def spec_tyNear.j0 : Nat → Int → Int → Int → List Int → Int → Int → List Int → Option (List Int)
 | 0, _, _, _, _, _, _, _ => none
 | k + 1, x1, x5, x6, x7, x102000, x102001, x102002 => if x5 < (wrap64 (x102000 - 1)) then (if x7.length < 17592186044416 then (spec_tyNear.j1 k x1 x5 x6 (x7 ++ [wrap64 (x1 + 1)]) x102000 x102001 x102002) else (none)) else (spec_tyNear.j1 k x1 x5 x6 x7 x102000 x102001 x102002)
def spec_tyNear.j1 : Nat → Int → Int → Int → List Int → Int → Int → List Int → Option (List Int)
 | 0, _, _, _, _, _, _, _ => none
 | k + 1, x1, x5, x6, x7, x102000, x102001, x102002 => if x6 < (wrap64 (x102001 - 1)) then (if x7.length < 17592186044416 then ((some (x7 ++ [wrap64 (x1 + x102000)] : List Int)).bind fun y108 => (if x5 > 0 then (if y108.length < 17592186044416 then (some (y108 ++ [wrap64 (x1 - 1)])) else (none)) else (some y108))) else (none)) else (if x5 > 0 then (if x7.length < 17592186044416 then (some (x7 ++ [wrap64 (x1 - 1)])) else (none)) else (some x7))
end
def spec_tyNear.f (k : Nat) (a0_0 : Int) (a0_1 : Int) (l0_2 : List Int) (a1 : Int) : Option (List Int) := if a0_0 = 0 then (none) else (if (wrap64 (Int.tdiv a1 a0_0)) > 0 then (if ([] : List Int).length < 17592186044416 then (spec_tyNear.j0 k a1 (Int.tmod a1 a0_0) (wrap64 (Int.tdiv a1 a0_0)) (([] : List Int) ++ [wrap64 (a1 - a0_0)]) a0_0 a0_1 l0_2) else (none)) else (spec_tyNear.j0 k a1 (Int.tmod a1 a0_0) (wrap64 (Int.tdiv a1 a0_0)) ([] : List Int) a0_0 a0_1 l0_2))
theorem spec_tyNear.mono_l : ∀ k, (∀ y0 y1 y2 y3 y4 y5 y6, LeO (spec_tyNear.j0 k y0 y1 y2 y3 y4 y5 y6) (spec_tyNear.j0 (k + 1) y0 y1 y2 y3 y4 y5 y6)) ∧ (∀ y0 y1 y2 y3 y4 y5 y6, LeO (spec_tyNear.j1 k y0 y1 y2 y3 y4 y5 y6) (spec_tyNear.j1 (k + 1) y0 y1 y2 y3 y4 y5 y6))
 | 0 => ⟨fun _ _ _ _ _ _ _ r h => by simp [spec_tyNear.j0] at h, fun _ _ _ _ _ _ _ r h => by simp [spec_tyNear.j1] at h⟩
 | k + 1 => by
  obtain ⟨ih0, ih1⟩ := spec_tyNear.mono_l k
  refine ⟨?_, ?_⟩
  ·intro y0 y1 y2 y3 y4 y5 y6
   unfold spec_tyNear.j0
   repeat' first
   | (with_reducible apply ih0)
   | (with_reducible apply ih1)
   | (with_reducible exact LeO.refl _)
   | (with_reducible exact LeO.none _)
   | (with_reducible refine LeO.ite ?_ ?_)
   | (with_reducible refine LeO.bind ?_ (fun _ => ?_))
   | apply ih0
   | apply ih1
   | exact LeO.none _
   | refine LeO.ite ?_ ?_
   | refine LeO.bind ?_ (fun _ => ?_)
  ·intro y0 y1 y2 y3 y4 y5 y6
   unfold spec_tyNear.j1
   repeat' first
   | (with_reducible apply ih0)
   | (with_reducible apply ih1)
   | (with_reducible exact LeO.refl _)
   | (with_reducible exact LeO.none _)
   | (with_reducible refine LeO.ite ?_ ?_)
   | (with_reducible refine LeO.bind ?_ (fun _ => ?_))
   | apply ih0
   | apply ih1
   | exact LeO.none _
   | refine LeO.ite ?_ ?_
   | refine LeO.bind ?_ (fun _ => ?_)
theorem spec_tyNear.mono : ∀ a0 a1 a2 a3 k, LeO (spec_tyNear.f k a0 a1 a2 a3) (spec_tyNear.f (k + 1) a0 a1 a2 a3) := by
 intro a0 a1 a2 a3 k
 obtain ⟨ih0, ih1⟩ := spec_tyNear.mono_l k
 unfold spec_tyNear.f
 repeat' first
   | (with_reducible apply ih0)
   | (with_reducible apply ih1)
   | (with_reducible exact LeO.refl _)
   | (with_reducible exact LeO.none _)
   | (with_reducible refine LeO.ite ?_ ?_)
   | (with_reducible refine LeO.bind ?_ (fun _ => ?_))
   | apply ih0
   | apply ih1
   | exact LeO.none _
   | refine LeO.ite ?_ ?_
   | refine LeO.bind ?_ (fun _ => ?_)
set_option maxHeartbeats 8000000 in
set_option maxRecDepth 100000 in
theorem spec_tyNear.calls (k : Nat) (a0_0 : Int) (a0_1 : Int) (A0_2 : Option Addr) (c0_2 : Nat) (l0_2 : List Int) (a1 : Int) (r : List Int) (w : World) (hr0_2 : Kd.C (Kd.int .u8) w A0_2 l0_2.length l0_2) (hc0_2 : l0_2.length ≤ c0_2) (h : spec_tyNear.f k a0_0 a0_1 l0_2 a1 = some r) :
  Calls Tryd.prog 84 #[.agg #[.int .i64 a0_0, .int .i64 a0_1, .slice A0_2 l0_2.length c0_2], .int .i64 a1] w fun e w' => ∃ v0_ : Value, e = .returned (v0_) ∧ Kd.R (Kd.int .i64) 3 w' w.heap.size (fun _ => True) v0_ r ∧ Below w.heap.size w w' := by
 have hu40 := Tryd.underlying40
 have HR0_2 := Aside0.mk hr0_2
 have HC0_2 := Aside0.mk hc0_2
 clear hr0_2 hc0_2
 have HB := Aside0.mk (Below.refl w.heap.size w)
 have H : (if a0_0 = 0 then (none) else (if (wrap64 (Int.tdiv a1 a0_0)) > 0 then (if ([] : List Int).length < 17592186044416 then (spec_tyNear.j0 k a1 (Int.tmod a1 a0_0) (wrap64 (Int.tdiv a1 a0_0)) (([] : List Int) ++ [wrap64 (a1 - a0_0)]) a0_0 a0_1 l0_2) else (none)) else (spec_tyNear.j0 k a1 (Int.tmod a1 a0_0) (wrap64 (Int.tdiv a1 a0_0)) ([] : List Int) a0_0 a0_1 l0_2))) = some r := h
 clear h
 by_cases c3 : a0_0 = 0
 ·rw [if_pos c3] at H
  exact absurd H (by simp)
 ·rw [if_neg c3] at H
  have c3b0 : (a0_0 == 0) = false := beq_eq_false_iff_ne.mpr c3
  have c3b1 : (a0_0 != 0) = true := bne_iff_ne.mpr c3
  have HC4 := Aside0.mk H
  clear H
  go_enter Tryd.func84, Tryd.ntmps84
  go_upto_if 17 with (first | ((with_reducible refine gate_dst (N := 2) rfl ?_); refine boxE (N := 2) (cs := #[.int .i64 a0_0, .int .i64 a0_1, .slice A0_2 l0_2.length c0_2]) (t := 40) ?_; intro gb101 hg w5 hbox hb; have n0_ := Aside0.mk (below_step (bel HB) hb); have n1_ := Aside0.mk (hbox); have n2_ := Aside0.mk (gsz hg (bel HB)); have n3_ := Aside0.mk (gsz hg (bel HB)); clear HB; have HB := n0_; have BK101 := n1_; have GW101 := n2_; have GE101 := n3_; clear n0_ n1_ n2_ n3_; clear hb hbox hg; have hcz6_0 : w5.cell? ⟨gb101, 0, none⟩ = some (.int .i64 a0_0) := (blk_cell BK101.out 0).trans rfl; have hcz6_1 : w5.cell? ⟨gb101, 1, none⟩ = some (.int .i64 a0_1) := (blk_cell BK101.out 1).trans rfl; have hcz6_2 : w5.cell? ⟨gb101, 2, none⟩ = some (.slice A0_2 l0_2.length c0_2) := (blk_cell BK101.out 2).trans rfl; have hfz6_0 := blk_frozen BK101.out 0; have hfz6_1 := blk_frozen BK101.out 1; have hfz6_2 := blk_frozen BK101.out 2))
  repeat (go_quiet (first | ((with_reducible refine gate_dst (N := 2) rfl ?_); refine boxE (N := 2) (cs := #[.int .i64 a0_0, .int .i64 a0_1, .slice A0_2 l0_2.length c0_2]) (t := 40) ?_; intro gb101 hg w5 hbox hb; have n0_ := Aside0.mk (below_step (bel HB) hb); have n1_ := Aside0.mk (hbox); have n2_ := Aside0.mk (gsz hg (bel HB)); have n3_ := Aside0.mk (gsz hg (bel HB)); clear HB; have HB := n0_; have BK101 := n1_; have GW101 := n2_; have GE101 := n3_; clear n0_ n1_ n2_ n3_; clear hb hbox hg; have hcz6_0 : w5.cell? ⟨gb101, 0, none⟩ = some (.int .i64 a0_0) := (blk_cell BK101.out 0).trans rfl; have hcz6_1 : w5.cell? ⟨gb101, 1, none⟩ = some (.int .i64 a0_1) := (blk_cell BK101.out 1).trans rfl; have hcz6_2 : w5.cell? ⟨gb101, 2, none⟩ = some (.slice A0_2 l0_2.length c0_2) := (blk_cell BK101.out 2).trans rfl; have hfz6_0 := blk_frozen BK101.out 0; have hfz6_1 := blk_frozen BK101.out 1; have hfz6_2 := blk_frozen BK101.out 2)); go_upto_if 17 with (first | ((with_reducible refine gate_dst (N := 2) rfl ?_); refine boxE (N := 2) (cs := #[.int .i64 a0_0, .int .i64 a0_1, .slice A0_2 l0_2.length c0_2]) (t := 40) ?_; intro gb101 hg w5 hbox hb; have n0_ := Aside0.mk (below_step (bel HB) hb); have n1_ := Aside0.mk (hbox); have n2_ := Aside0.mk (gsz hg (bel HB)); have n3_ := Aside0.mk (gsz hg (bel HB)); clear HB; have HB := n0_; have BK101 := n1_; have GW101 := n2_; have GE101 := n3_; clear n0_ n1_ n2_ n3_; clear hb hbox hg; have hcz6_0 : w5.cell? ⟨gb101, 0, none⟩ = some (.int .i64 a0_0) := (blk_cell BK101.out 0).trans rfl; have hcz6_1 : w5.cell? ⟨gb101, 1, none⟩ = some (.int .i64 a0_1) := (blk_cell BK101.out 1).trans rfl; have hcz6_2 : w5.cell? ⟨gb101, 2, none⟩ = some (.slice A0_2 l0_2.length c0_2) := (blk_cell BK101.out 2).trans rfl; have hfz6_0 := blk_frozen BK101.out 0; have hfz6_1 := blk_frozen BK101.out 1; have hfz6_2 := blk_frozen BK101.out 2)))
  (try simp only [Act.put, List.setIfInBounds_toArray, List.set_cons_zero, List.set_cons_succ])
  go_cut [7] (fun v7 wc => ∃ (kq : Nat) (x7_3 : List Int), Aside0 (spec_tyNear.j0 kq a1 (Int.tmod a1 a0_0) (wrap64 (Int.tdiv a1 a0_0)) x7_3 a0_0 a0_1 l0_2 = some r) ∧ Aside0 (kq ≤ k) ∧ Aside0 (Kd.R (Kd.int .i64) 3 wc w.heap.size (fun _ => True) v7 x7_3) ∧ Aside0 (wc.heap[gb101]? = some (.cells #[.int .i64 a0_0, .int .i64 a0_1, (.slice A0_2 l0_2.length c0_2)] 40 (0, 0))) ∧ Aside0 (Below w.heap.size w wc))
  case first =>
   have H := HC4.out
   clear HC4
   by_cases c7 : (wrap64 (Int.tdiv a1 a0_0)) > 0
   ·rw [if_pos c7] at H
    have c7b0 : decide (0 < (wrap64 (Int.tdiv a1 a0_0))) = true := decide_eq_true c7
    clear c7
    (first | rw [c7b0] | (simp only [i64_w, i32_w]; rw [c7b0]) | skip)
    by_cases c8 : ([] : List Int).length < 17592186044416
    ·rw [if_pos c8] at H
     have LMc8 := Aside0.mk c8
     clear c8
     obtain ⟨y102, hy102⟩ : ∃ y_ : List Int, y_ = (([] : List Int) ++ [wrap64 (a1 - a0_0)]) := ⟨_, rfl⟩
     replace H : (spec_tyNear.j0 k a1 (Int.tmod a1 a0_0) (wrap64 (Int.tdiv a1 a0_0)) y102 a0_0 a0_1 l0_2) = some r := rH hy102 H
     have Ny102 := Aside0.mk hy102
     clear hy102
     have H' := Aside0.mk H
     clear H
     have hcz9_0 : w5.cell? ⟨gb101, 0, none⟩ = some (.int .i64 a0_0) := (blk_cell BK101.out 0).trans rfl
     have hcz9_1 : w5.cell? ⟨gb101, 1, none⟩ = some (.int .i64 a0_1) := (blk_cell BK101.out 1).trans rfl
     have hcz9_2 : w5.cell? ⟨gb101, 2, none⟩ = some (.slice A0_2 l0_2.length c0_2) := (blk_cell BK101.out 2).trans rfl
     have hfz9_0 := blk_frozen BK101.out 0
     have hfz9_1 := blk_frozen BK101.out 1
     have hfz9_2 := blk_frozen BK101.out 2
     go_wp2_with (first | ((with_reducible refine gate_builtin (b := .append) (xs := #[.tmp 18, .tmp 23]) rfl ?_); at_builtin; refine Kd.R_append (Kd.int .i64) (w0 := w) w.heap.size rfl (.tmp 18) (.tmp 23) 31 3 (.int .i64 0) 8 rfl Tryd.underlying31 info3 rfl (by decide) (by omega) (.slice none 0 0) ([] : List Int) (wrap64 (a1 - a0_0)) [.int .i64 (wrap64 (a1 - a0_0))] (fun _ => True) (fun _ => False) rfl rfl ?aP (fun _ hk => hk.elim) ?aF ?aO ?aB ?aS ?aL ?_; (case aP => exact rfl); (case aB => exact (bel HB)); (case aF => exact (fun _ _ => trivial)); (case aO => exact ((Kd.R_nil _ _ _ _ (fun _ => True)))); (case aS => exact (below_size (bel HB))); (case aL => have := LMc8.out; omega); intro v103 w10 ho hb hg hat; rw [← Ny102.out] at ho; have n0_ := Aside0.mk (blk_grown (g := gb101) (o := .cells #[.int .i64 a0_0, .int .i64 a0_1, .slice A0_2 l0_2.length c0_2] 40 (0, 0)) blc hg (by simp [Value.ownBlock])); have n1_ := Aside0.mk (hb); have n2_ := Aside0.mk (ho); clear BK101; clear HB; have BK101 := n0_; have HB := n1_; have HO104 := n2_; clear n0_ n1_ n2_; clear ho hb hg hat))
     repeat (go_quiet (first | ((with_reducible refine gate_builtin (b := .append) (xs := #[.tmp 18, .tmp 23]) rfl ?_); at_builtin; refine Kd.R_append (Kd.int .i64) (w0 := w) w.heap.size rfl (.tmp 18) (.tmp 23) 31 3 (.int .i64 0) 8 rfl Tryd.underlying31 info3 rfl (by decide) (by omega) (.slice none 0 0) ([] : List Int) (wrap64 (a1 - a0_0)) [.int .i64 (wrap64 (a1 - a0_0))] (fun _ => True) (fun _ => False) rfl rfl ?aP (fun _ hk => hk.elim) ?aF ?aO ?aB ?aS ?aL ?_; (case aP => exact rfl); (case aB => exact (bel HB)); (case aF => exact (fun _ _ => trivial)); (case aO => exact ((Kd.R_nil _ _ _ _ (fun _ => True)))); (case aS => exact (below_size (bel HB))); (case aL => have := LMc8.out; omega); intro v103 w10 ho hb hg hat; rw [← Ny102.out] at ho; have n0_ := Aside0.mk (blk_grown (g := gb101) (o := .cells #[.int .i64 a0_0, .int .i64 a0_1, .slice A0_2 l0_2.length c0_2] 40 (0, 0)) blc hg (by simp [Value.ownBlock])); have n1_ := Aside0.mk (hb); have n2_ := Aside0.mk (ho); clear BK101; clear HB; have BK101 := n0_; have HB := n1_; have HO104 := n2_; clear n0_ n1_ n2_; clear ho hb hg hat)); try go_wp2_with (first | ((with_reducible refine gate_builtin (b := .append) (xs := #[.tmp 18, .tmp 23]) rfl ?_); at_builtin; refine Kd.R_append (Kd.int .i64) (w0 := w) w.heap.size rfl (.tmp 18) (.tmp 23) 31 3 (.int .i64 0) 8 rfl Tryd.underlying31 info3 rfl (by decide) (by omega) (.slice none 0 0) ([] : List Int) (wrap64 (a1 - a0_0)) [.int .i64 (wrap64 (a1 - a0_0))] (fun _ => True) (fun _ => False) rfl rfl ?aP (fun _ hk => hk.elim) ?aF ?aO ?aB ?aS ?aL ?_; (case aP => exact rfl); (case aB => exact (bel HB)); (case aF => exact (fun _ _ => trivial)); (case aO => exact ((Kd.R_nil _ _ _ _ (fun _ => True)))); (case aS => exact (below_size (bel HB))); (case aL => have := LMc8.out; omega); intro v103 w10 ho hb hg hat; rw [← Ny102.out] at ho; have n0_ := Aside0.mk (blk_grown (g := gb101) (o := .cells #[.int .i64 a0_0, .int .i64 a0_1, .slice A0_2 l0_2.length c0_2] 40 (0, 0)) blc hg (by simp [Value.ownBlock])); have n1_ := Aside0.mk (hb); have n2_ := Aside0.mk (ho); clear BK101; clear HB; have BK101 := n0_; have HB := n1_; have HO104 := n2_; clear n0_ n1_ n2_; clear ho hb hg hat)))
     go_meet
     case rel => exact ⟨_, (y102), H', ⟨by first | omega | exact Nat.le_refl _⟩, ⟨rch HO104⟩, ⟨blc⟩, ⟨bel HB⟩⟩
    ·rw [if_neg c8] at H
     exact absurd H (by simp)
   ·rw [if_neg c7] at H
    have c7b0 : decide (0 < (wrap64 (Int.tdiv a1 a0_0))) = false := decide_eq_false c7
    clear c7
    (first | rw [c7b0] | (simp only [i64_w, i32_w]; rw [c7b0]) | skip)
    have H' := Aside0.mk H
    clear H
    go_wp2
    repeat (go_quiet (fail); try go_wp2)
    go_meet
    case rel => exact ⟨_, (([] : List Int)), H', ⟨by first | omega | exact Nat.le_refl _⟩, ⟨by first | exact Kd.R_nil _ _ _ _ _ | exact Kd.N_nil _ _ _ _ _ | exact Kd.V_nil _ _ _ _ _ | exact Kd.Q_nil _ _ _ _ _ | exact Kd.S_nil _ _ _ _ _⟩, ⟨blc⟩, ⟨bel HB⟩⟩
  case rest =>
   clear HC4
   try clear p2
   try clear c3
   try clear c3b0
   try clear c3b0y
   try clear c3b1
   try clear p6
   try clear c7
   try clear c7b0
   try clear c7b0y
   try clear c8
   try clear hcz6_0
   try clear hcz6_1
   try clear hcz6_2
   try clear hcz9_0
   try clear hcz9_1
   try clear hcz9_2
   try clear hfz6_0
   try clear hfz6_1
   try clear hfz6_2
   try clear hfz9_0
   try clear hfz9_1
   try clear hfz9_2
   obtain ⟨kq, x7_3, HA, HJ3, HO_7, BK101, HB⟩ := hcut
   cases kq with
   | zero => exact absurd HA.out (by simp [spec_tyNear.j0])
   | succ kj3 =>
    have H := HA.out
    clear HA
    simp only [spec_tyNear.j0] at H
    have HC11 := Aside0.mk H
    clear H
    have hcz12_0 : wc.cell? ⟨gb101, 0, none⟩ = some (.int .i64 a0_0) := (blk_cell BK101.out 0).trans rfl
    have hcz12_1 : wc.cell? ⟨gb101, 1, none⟩ = some (.int .i64 a0_1) := (blk_cell BK101.out 1).trans rfl
    have hcz12_2 : wc.cell? ⟨gb101, 2, none⟩ = some (.slice A0_2 l0_2.length c0_2) := (blk_cell BK101.out 2).trans rfl
    have hfz12_0 := blk_frozen BK101.out 0
    have hfz12_1 := blk_frozen BK101.out 1
    have hfz12_2 := blk_frozen BK101.out 2
    go_upto_if 29 with (fail)
    repeat (go_quiet (fail); go_upto_if 29 with (fail))
    go_cut [7] (fun v7 wc => ∃ (kq : Nat) (x7_10 : List Int), Aside0 (spec_tyNear.j1 kq a1 (Int.tmod a1 a0_0) (wrap64 (Int.tdiv a1 a0_0)) x7_10 a0_0 a0_1 l0_2 = some r) ∧ Aside0 (kq ≤ kj3) ∧ Aside0 (Kd.R (Kd.int .i64) 3 wc w.heap.size (fun _ => True) v7 x7_10) ∧ Aside0 (wc.heap[gb101]? = some (.cells #[.int .i64 a0_0, .int .i64 a0_1, (.slice A0_2 l0_2.length c0_2)] 40 (0, 0))) ∧ Aside0 (Below w.heap.size w wc))
    case first =>
     have H := HC11.out
     clear HC11
     by_cases c13 : (Int.tmod a1 a0_0) < (wrap64 (a0_0 - 1))
     ·rw [if_pos c13] at H
      have c13b0 : decide ((Int.tmod a1 a0_0) < (wrap64 (a0_0 - 1))) = true := decide_eq_true c13
      clear c13
      (first | rw [c13b0] | (simp only [i64_w, i32_w]; rw [c13b0]) | skip)
      by_cases c14 : x7_3.length < 17592186044416
      ·rw [if_pos c14] at H
       have LMc14 := Aside0.mk c14
       clear c14
       obtain ⟨y105, hy105⟩ : ∃ y_ : List Int, y_ = (x7_3 ++ [wrap64 (a1 + 1)]) := ⟨_, rfl⟩
       replace H : (spec_tyNear.j1 kj3 a1 (Int.tmod a1 a0_0) (wrap64 (Int.tdiv a1 a0_0)) y105 a0_0 a0_1 l0_2) = some r := rH hy105 H
       have Ny105 := Aside0.mk hy105
       clear hy105
       have H' := Aside0.mk H
       clear H
       go_wp2_with (first | ((with_reducible refine gate_builtin (b := .append) (xs := #[.tmp 30, .tmp 33]) rfl ?_); at_builtin; refine Kd.R_append (Kd.int .i64) (w0 := w) w.heap.size rfl (.tmp 30) (.tmp 33) 31 3 (.int .i64 0) 8 rfl Tryd.underlying31 info3 rfl (by decide) (by omega) u7 x7_3 (wrap64 (a1 + 1)) [.int .i64 (wrap64 (a1 + 1))] (fun _ => True) (fun _ => False) rfl rfl ?aP (fun _ hk => hk.elim) ?aF ?aO ?aB ?aS ?aL ?_; (case aP => exact rfl); (case aB => exact (bel HB)); (case aF => exact (fun _ _ => trivial)); (case aO => exact (rch HO_7)); (case aS => exact (below_size (bel HB))); (case aL => have := LMc14.out; omega); intro v106 w15 ho hb hg hat; rw [← Ny105.out] at ho; have n0_ := Aside0.mk (blk_grown (g := gb101) (o := .cells #[.int .i64 a0_0, .int .i64 a0_1, .slice A0_2 l0_2.length c0_2] 40 (0, 0)) blc hg (Kd.R_ne HO_7.out BK101.out (by decide))); have n1_ := Aside0.mk (hb); have n2_ := Aside0.mk (ho); clear BK101; clear HB; clear HO_7; have BK101 := n0_; have HB := n1_; have HO107 := n2_; clear n0_ n1_ n2_; clear ho hb hg hat))
       repeat (go_quiet (first | ((with_reducible refine gate_builtin (b := .append) (xs := #[.tmp 30, .tmp 33]) rfl ?_); at_builtin; refine Kd.R_append (Kd.int .i64) (w0 := w) w.heap.size rfl (.tmp 30) (.tmp 33) 31 3 (.int .i64 0) 8 rfl Tryd.underlying31 info3 rfl (by decide) (by omega) u7 x7_3 (wrap64 (a1 + 1)) [.int .i64 (wrap64 (a1 + 1))] (fun _ => True) (fun _ => False) rfl rfl ?aP (fun _ hk => hk.elim) ?aF ?aO ?aB ?aS ?aL ?_; (case aP => exact rfl); (case aB => exact (bel HB)); (case aF => exact (fun _ _ => trivial)); (case aO => exact (rch HO_7)); (case aS => exact (below_size (bel HB))); (case aL => have := LMc14.out; omega); intro v106 w15 ho hb hg hat; rw [← Ny105.out] at ho; have n0_ := Aside0.mk (blk_grown (g := gb101) (o := .cells #[.int .i64 a0_0, .int .i64 a0_1, .slice A0_2 l0_2.length c0_2] 40 (0, 0)) blc hg (Kd.R_ne HO_7.out BK101.out (by decide))); have n1_ := Aside0.mk (hb); have n2_ := Aside0.mk (ho); clear BK101; clear HB; clear HO_7; have BK101 := n0_; have HB := n1_; have HO107 := n2_; clear n0_ n1_ n2_; clear ho hb hg hat)); try go_wp2_with (first | ((with_reducible refine gate_builtin (b := .append) (xs := #[.tmp 30, .tmp 33]) rfl ?_); at_builtin; refine Kd.R_append (Kd.int .i64) (w0 := w) w.heap.size rfl (.tmp 30) (.tmp 33) 31 3 (.int .i64 0) 8 rfl Tryd.underlying31 info3 rfl (by decide) (by omega) u7 x7_3 (wrap64 (a1 + 1)) [.int .i64 (wrap64 (a1 + 1))] (fun _ => True) (fun _ => False) rfl rfl ?aP (fun _ hk => hk.elim) ?aF ?aO ?aB ?aS ?aL ?_; (case aP => exact rfl); (case aB => exact (bel HB)); (case aF => exact (fun _ _ => trivial)); (case aO => exact (rch HO_7)); (case aS => exact (below_size (bel HB))); (case aL => have := LMc14.out; omega); intro v106 w15 ho hb hg hat; rw [← Ny105.out] at ho; have n0_ := Aside0.mk (blk_grown (g := gb101) (o := .cells #[.int .i64 a0_0, .int .i64 a0_1, .slice A0_2 l0_2.length c0_2] 40 (0, 0)) blc hg (Kd.R_ne HO_7.out BK101.out (by decide))); have n1_ := Aside0.mk (hb); have n2_ := Aside0.mk (ho); clear BK101; clear HB; clear HO_7; have BK101 := n0_; have HB := n1_; have HO107 := n2_; clear n0_ n1_ n2_; clear ho hb hg hat)))
       go_meet
       case rel => exact ⟨_, (y105), H', ⟨by have := HJ3.out; first | omega | exact Nat.le_refl _⟩, ⟨rch HO107⟩, ⟨blc⟩, ⟨bel HB⟩⟩
      ·rw [if_neg c14] at H
       exact absurd H (by simp)
     ·rw [if_neg c13] at H
      have c13b0 : decide ((Int.tmod a1 a0_0) < (wrap64 (a0_0 - 1))) = false := decide_eq_false c13
      clear c13
      (first | rw [c13b0] | (simp only [i64_w, i32_w]; rw [c13b0]) | skip)
      have H' := Aside0.mk H
      clear H
      go_wp2
      repeat (go_quiet (fail); try go_wp2)
      go_meet
      case rel => exact ⟨_, (x7_3), H', ⟨by have := HJ3.out; first | omega | exact Nat.le_refl _⟩, ⟨rch HO_7⟩, ⟨blc⟩, ⟨bel HB⟩⟩
    case rest =>
     clear HC11
     try clear c1
     try clear p2
     try clear c3
     try clear c3b0
     try clear c3b0y
     try clear c3b1
     try clear p6
     try clear c7
     try clear c7b0
     try clear c7b0y
     try clear c8
     try clear c13
     try clear c13b0
     try clear c13b0y
     try clear c14
     try clear hcz12_0
     try clear hcz12_1
     try clear hcz12_2
     try clear hcz6_0
     try clear hcz6_1
     try clear hcz6_2
     try clear hcz9_0
     try clear hcz9_1
     try clear hcz9_2
     try clear hfz12_0
     try clear hfz12_1
     try clear hfz12_2
     try clear hfz6_0
     try clear hfz6_1
     try clear hfz6_2
     try clear hfz9_0
     try clear hfz9_1
     try clear hfz9_2
     try clear p2
     try clear p6
     obtain ⟨kq, x7_10, HA, HJ10, HO_7, BK101, HB⟩ := hcut
     cases kq with
     | zero => exact absurd HA.out (by simp [spec_tyNear.j1])
     | succ kj10 =>
      have H := HA.out
      clear HA
      simp only [spec_tyNear.j1] at H
      by_cases c16 : (wrap64 (Int.tdiv a1 a0_0)) < (wrap64 (a0_1 - 1))
      ·rw [if_pos c16] at H
       have c16b0 : decide ((wrap64 (Int.tdiv a1 a0_0)) < (wrap64 (a0_1 - 1))) = true := decide_eq_true c16
       clear c16
       by_cases c17 : x7_10.length < 17592186044416
       ·rw [if_pos c17] at H
        have LMc17 := Aside0.mk c17
        clear c17
        obtain ⟨y108, hy108⟩ : ∃ y_ : List Int, y_ = (x7_10 ++ [wrap64 (a1 + a0_0)]) := ⟨_, rfl⟩
        replace H : (if (Int.tmod a1 a0_0) > 0 then (if y108.length < 17592186044416 then (some (y108 ++ [wrap64 (a1 - 1)])) else (none)) else (some y108)) = some r := rH hy108 H
        have Ny108 := Aside0.mk hy108
        clear hy108
        by_cases c18 : (Int.tmod a1 a0_0) > 0
        ·rw [if_pos c18] at H
         have c18b0 : decide (0 < (Int.tmod a1 a0_0)) = true := decide_eq_true c18
         clear c18
         by_cases c19 : y108.length < 17592186044416
         ·rw [if_pos c19] at H
          have LMc19 := Aside0.mk c19
          clear c19
          obtain ⟨y111, hy111⟩ : ∃ y_ : List Int, y_ = (y108 ++ [wrap64 (a1 - 1)]) := ⟨_, rfl⟩
          replace H : (some y111) = some r := rH hy111 H
          have Ny111 := Aside0.mk hy111
          clear hy111
          obtain rfl := Option.some.inj H
          have hcz20_0 : wc.cell? ⟨gb101, 0, none⟩ = some (.int .i64 a0_0) := (blk_cell BK101.out 0).trans rfl
          have hcz20_1 : wc.cell? ⟨gb101, 1, none⟩ = some (.int .i64 a0_1) := (blk_cell BK101.out 1).trans rfl
          have hcz20_2 : wc.cell? ⟨gb101, 2, none⟩ = some (.slice A0_2 l0_2.length c0_2) := (blk_cell BK101.out 2).trans rfl
          have hfz20_0 := blk_frozen BK101.out 0
          have hfz20_1 := blk_frozen BK101.out 1
          have hfz20_2 := blk_frozen BK101.out 2
          go_wp2_with (first | ((with_reducible refine gate_builtin (b := .append) (xs := #[.tmp 40, .tmp 45]) rfl ?_); at_builtin; refine Kd.R_append (Kd.int .i64) (w0 := w) w.heap.size rfl (.tmp 40) (.tmp 45) 31 3 (.int .i64 0) 8 rfl Tryd.underlying31 info3 rfl (by decide) (by omega) u7 x7_10 (wrap64 (a1 + a0_0)) [.int .i64 (wrap64 (a1 + a0_0))] (fun _ => True) (fun _ => False) rfl rfl ?aP (fun _ hk => hk.elim) ?aF ?aO ?aB ?aS ?aL ?_; (case aP => exact rfl); (case aB => exact (bel HB)); (case aF => exact (fun _ _ => trivial)); (case aO => exact (rch HO_7)); (case aS => exact (below_size (bel HB))); (case aL => have := LMc17.out; omega); intro v109 w21 ho hb hg hat; rw [← Ny108.out] at ho; have n0_ := Aside0.mk (blk_grown (g := gb101) (o := .cells #[.int .i64 a0_0, .int .i64 a0_1, .slice A0_2 l0_2.length c0_2] 40 (0, 0)) blc hg (Kd.R_ne HO_7.out BK101.out (by decide))); have n1_ := Aside0.mk (hb); have n2_ := Aside0.mk (ho); clear BK101; clear HB; clear HO_7; have BK101 := n0_; have HB := n1_; have HO110 := n2_; clear n0_ n1_ n2_; clear ho hb hg hat) | ((with_reducible refine gate_builtin (b := .append) (xs := #[.tmp 49, .tmp 52]) rfl ?_); at_builtin; refine Kd.R_append (Kd.int .i64) (w0 := w) w.heap.size rfl (.tmp 49) (.tmp 52) 31 3 (.int .i64 0) 8 rfl Tryd.underlying31 info3 rfl (by decide) (by omega) v109 y108 (wrap64 (a1 - 1)) [.int .i64 (wrap64 (a1 - 1))] (fun _ => True) (fun _ => False) rfl rfl ?aP (fun _ hk => hk.elim) ?aF ?aO ?aB ?aS ?aL ?_; (case aP => exact rfl); (case aB => exact (bel HB)); (case aF => exact (fun _ _ => trivial)); (case aO => exact (rch HO110)); (case aS => exact (below_size (bel HB))); (case aL => have := LMc19.out; omega); intro v112 w22 ho hb hg hat; rw [← Ny111.out] at ho; have n0_ := Aside0.mk (blk_grown (g := gb101) (o := .cells #[.int .i64 a0_0, .int .i64 a0_1, .slice A0_2 l0_2.length c0_2] 40 (0, 0)) blc hg (Kd.R_ne HO110.out BK101.out (by decide))); have n1_ := Aside0.mk (hb); have n2_ := Aside0.mk (ho); clear BK101; clear HB; clear HO110; have BK101 := n0_; have HB := n1_; have HO113 := n2_; clear n0_ n1_ n2_; clear ho hb hg hat))
          repeat (go_quiet (first | ((with_reducible refine gate_builtin (b := .append) (xs := #[.tmp 40, .tmp 45]) rfl ?_); at_builtin; refine Kd.R_append (Kd.int .i64) (w0 := w) w.heap.size rfl (.tmp 40) (.tmp 45) 31 3 (.int .i64 0) 8 rfl Tryd.underlying31 info3 rfl (by decide) (by omega) u7 x7_10 (wrap64 (a1 + a0_0)) [.int .i64 (wrap64 (a1 + a0_0))] (fun _ => True) (fun _ => False) rfl rfl ?aP (fun _ hk => hk.elim) ?aF ?aO ?aB ?aS ?aL ?_; (case aP => exact rfl); (case aB => exact (bel HB)); (case aF => exact (fun _ _ => trivial)); (case aO => exact (rch HO_7)); (case aS => exact (below_size (bel HB))); (case aL => have := LMc17.out; omega); intro v109 w21 ho hb hg hat; rw [← Ny108.out] at ho; have n0_ := Aside0.mk (blk_grown (g := gb101) (o := .cells #[.int .i64 a0_0, .int .i64 a0_1, .slice A0_2 l0_2.length c0_2] 40 (0, 0)) blc hg (Kd.R_ne HO_7.out BK101.out (by decide))); have n1_ := Aside0.mk (hb); have n2_ := Aside0.mk (ho); clear BK101; clear HB; clear HO_7; have BK101 := n0_; have HB := n1_; have HO110 := n2_; clear n0_ n1_ n2_; clear ho hb hg hat) | ((with_reducible refine gate_builtin (b := .append) (xs := #[.tmp 49, .tmp 52]) rfl ?_); at_builtin; refine Kd.R_append (Kd.int .i64) (w0 := w) w.heap.size rfl (.tmp 49) (.tmp 52) 31 3 (.int .i64 0) 8 rfl Tryd.underlying31 info3 rfl (by decide) (by omega) v109 y108 (wrap64 (a1 - 1)) [.int .i64 (wrap64 (a1 - 1))] (fun _ => True) (fun _ => False) rfl rfl ?aP (fun _ hk => hk.elim) ?aF ?aO ?aB ?aS ?aL ?_; (case aP => exact rfl); (case aB => exact (bel HB)); (case aF => exact (fun _ _ => trivial)); (case aO => exact (rch HO110)); (case aS => exact (below_size (bel HB))); (case aL => have := LMc19.out; omega); intro v112 w22 ho hb hg hat; rw [← Ny111.out] at ho; have n0_ := Aside0.mk (blk_grown (g := gb101) (o := .cells #[.int .i64 a0_0, .int .i64 a0_1, .slice A0_2 l0_2.length c0_2] 40 (0, 0)) blc hg (Kd.R_ne HO110.out BK101.out (by decide))); have n1_ := Aside0.mk (hb); have n2_ := Aside0.mk (ho); clear BK101; clear HB; clear HO110; have BK101 := n0_; have HB := n1_; have HO113 := n2_; clear n0_ n1_ n2_; clear ho hb hg hat)); try go_wp2_with (first | ((with_reducible refine gate_builtin (b := .append) (xs := #[.tmp 40, .tmp 45]) rfl ?_); at_builtin; refine Kd.R_append (Kd.int .i64) (w0 := w) w.heap.size rfl (.tmp 40) (.tmp 45) 31 3 (.int .i64 0) 8 rfl Tryd.underlying31 info3 rfl (by decide) (by omega) u7 x7_10 (wrap64 (a1 + a0_0)) [.int .i64 (wrap64 (a1 + a0_0))] (fun _ => True) (fun _ => False) rfl rfl ?aP (fun _ hk => hk.elim) ?aF ?aO ?aB ?aS ?aL ?_; (case aP => exact rfl); (case aB => exact (bel HB)); (case aF => exact (fun _ _ => trivial)); (case aO => exact (rch HO_7)); (case aS => exact (below_size (bel HB))); (case aL => have := LMc17.out; omega); intro v109 w21 ho hb hg hat; rw [← Ny108.out] at ho; have n0_ := Aside0.mk (blk_grown (g := gb101) (o := .cells #[.int .i64 a0_0, .int .i64 a0_1, .slice A0_2 l0_2.length c0_2] 40 (0, 0)) blc hg (Kd.R_ne HO_7.out BK101.out (by decide))); have n1_ := Aside0.mk (hb); have n2_ := Aside0.mk (ho); clear BK101; clear HB; clear HO_7; have BK101 := n0_; have HB := n1_; have HO110 := n2_; clear n0_ n1_ n2_; clear ho hb hg hat) | ((with_reducible refine gate_builtin (b := .append) (xs := #[.tmp 49, .tmp 52]) rfl ?_); at_builtin; refine Kd.R_append (Kd.int .i64) (w0 := w) w.heap.size rfl (.tmp 49) (.tmp 52) 31 3 (.int .i64 0) 8 rfl Tryd.underlying31 info3 rfl (by decide) (by omega) v109 y108 (wrap64 (a1 - 1)) [.int .i64 (wrap64 (a1 - 1))] (fun _ => True) (fun _ => False) rfl rfl ?aP (fun _ hk => hk.elim) ?aF ?aO ?aB ?aS ?aL ?_; (case aP => exact rfl); (case aB => exact (bel HB)); (case aF => exact (fun _ _ => trivial)); (case aO => exact (rch HO110)); (case aS => exact (below_size (bel HB))); (case aL => have := LMc19.out; omega); intro v112 w22 ho hb hg hat; rw [← Ny111.out] at ho; have n0_ := Aside0.mk (blk_grown (g := gb101) (o := .cells #[.int .i64 a0_0, .int .i64 a0_1, .slice A0_2 l0_2.length c0_2] 40 (0, 0)) blc hg (Kd.R_ne HO110.out BK101.out (by decide))); have n1_ := Aside0.mk (hb); have n2_ := Aside0.mk (ho); clear BK101; clear HB; clear HO110; have BK101 := n0_; have HB := n1_; have HO113 := n2_; clear n0_ n1_ n2_; clear ho hb hg hat)))
          go_ret
          exact ⟨_, by first | rfl | (simp [errW_none, errW_some] <;> rfl) | (simp [*, errW_none, errW_some] <;> rfl), rch HO113, bel HB⟩
         ·rw [if_neg c19] at H
          exact absurd H (by simp)
        ·rw [if_neg c18] at H
         have c18b0 : decide (0 < (Int.tmod a1 a0_0)) = false := decide_eq_false c18
         clear c18
         obtain rfl := Option.some.inj H
         have hcz23_0 : wc.cell? ⟨gb101, 0, none⟩ = some (.int .i64 a0_0) := (blk_cell BK101.out 0).trans rfl
         have hcz23_1 : wc.cell? ⟨gb101, 1, none⟩ = some (.int .i64 a0_1) := (blk_cell BK101.out 1).trans rfl
         have hcz23_2 : wc.cell? ⟨gb101, 2, none⟩ = some (.slice A0_2 l0_2.length c0_2) := (blk_cell BK101.out 2).trans rfl
         have hfz23_0 := blk_frozen BK101.out 0
         have hfz23_1 := blk_frozen BK101.out 1
         have hfz23_2 := blk_frozen BK101.out 2
         go_wp2_with (first | ((with_reducible refine gate_builtin (b := .append) (xs := #[.tmp 40, .tmp 45]) rfl ?_); at_builtin; refine Kd.R_append (Kd.int .i64) (w0 := w) w.heap.size rfl (.tmp 40) (.tmp 45) 31 3 (.int .i64 0) 8 rfl Tryd.underlying31 info3 rfl (by decide) (by omega) u7 x7_10 (wrap64 (a1 + a0_0)) [.int .i64 (wrap64 (a1 + a0_0))] (fun _ => True) (fun _ => False) rfl rfl ?aP (fun _ hk => hk.elim) ?aF ?aO ?aB ?aS ?aL ?_; (case aP => exact rfl); (case aB => exact (bel HB)); (case aF => exact (fun _ _ => trivial)); (case aO => exact (rch HO_7)); (case aS => exact (below_size (bel HB))); (case aL => have := LMc17.out; omega); intro v109 w24 ho hb hg hat; rw [← Ny108.out] at ho; have n0_ := Aside0.mk (blk_grown (g := gb101) (o := .cells #[.int .i64 a0_0, .int .i64 a0_1, .slice A0_2 l0_2.length c0_2] 40 (0, 0)) blc hg (Kd.R_ne HO_7.out BK101.out (by decide))); have n1_ := Aside0.mk (hb); have n2_ := Aside0.mk (ho); clear BK101; clear HB; clear HO_7; have BK101 := n0_; have HB := n1_; have HO110 := n2_; clear n0_ n1_ n2_; clear ho hb hg hat))
         repeat (go_quiet (first | ((with_reducible refine gate_builtin (b := .append) (xs := #[.tmp 40, .tmp 45]) rfl ?_); at_builtin; refine Kd.R_append (Kd.int .i64) (w0 := w) w.heap.size rfl (.tmp 40) (.tmp 45) 31 3 (.int .i64 0) 8 rfl Tryd.underlying31 info3 rfl (by decide) (by omega) u7 x7_10 (wrap64 (a1 + a0_0)) [.int .i64 (wrap64 (a1 + a0_0))] (fun _ => True) (fun _ => False) rfl rfl ?aP (fun _ hk => hk.elim) ?aF ?aO ?aB ?aS ?aL ?_; (case aP => exact rfl); (case aB => exact (bel HB)); (case aF => exact (fun _ _ => trivial)); (case aO => exact (rch HO_7)); (case aS => exact (below_size (bel HB))); (case aL => have := LMc17.out; omega); intro v109 w24 ho hb hg hat; rw [← Ny108.out] at ho; have n0_ := Aside0.mk (blk_grown (g := gb101) (o := .cells #[.int .i64 a0_0, .int .i64 a0_1, .slice A0_2 l0_2.length c0_2] 40 (0, 0)) blc hg (Kd.R_ne HO_7.out BK101.out (by decide))); have n1_ := Aside0.mk (hb); have n2_ := Aside0.mk (ho); clear BK101; clear HB; clear HO_7; have BK101 := n0_; have HB := n1_; have HO110 := n2_; clear n0_ n1_ n2_; clear ho hb hg hat)); try go_wp2_with (first | ((with_reducible refine gate_builtin (b := .append) (xs := #[.tmp 40, .tmp 45]) rfl ?_); at_builtin; refine Kd.R_append (Kd.int .i64) (w0 := w) w.heap.size rfl (.tmp 40) (.tmp 45) 31 3 (.int .i64 0) 8 rfl Tryd.underlying31 info3 rfl (by decide) (by omega) u7 x7_10 (wrap64 (a1 + a0_0)) [.int .i64 (wrap64 (a1 + a0_0))] (fun _ => True) (fun _ => False) rfl rfl ?aP (fun _ hk => hk.elim) ?aF ?aO ?aB ?aS ?aL ?_; (case aP => exact rfl); (case aB => exact (bel HB)); (case aF => exact (fun _ _ => trivial)); (case aO => exact (rch HO_7)); (case aS => exact (below_size (bel HB))); (case aL => have := LMc17.out; omega); intro v109 w24 ho hb hg hat; rw [← Ny108.out] at ho; have n0_ := Aside0.mk (blk_grown (g := gb101) (o := .cells #[.int .i64 a0_0, .int .i64 a0_1, .slice A0_2 l0_2.length c0_2] 40 (0, 0)) blc hg (Kd.R_ne HO_7.out BK101.out (by decide))); have n1_ := Aside0.mk (hb); have n2_ := Aside0.mk (ho); clear BK101; clear HB; clear HO_7; have BK101 := n0_; have HB := n1_; have HO110 := n2_; clear n0_ n1_ n2_; clear ho hb hg hat)))
         go_ret
         exact ⟨_, by first | rfl | (simp [errW_none, errW_some] <;> rfl) | (simp [*, errW_none, errW_some] <;> rfl), rch HO110, bel HB⟩
       ·rw [if_neg c17] at H
        exact absurd H (by simp)
      ·rw [if_neg c16] at H
       have c16b0 : decide ((wrap64 (Int.tdiv a1 a0_0)) < (wrap64 (a0_1 - 1))) = false := decide_eq_false c16
       clear c16
       by_cases c25 : (Int.tmod a1 a0_0) > 0
       ·rw [if_pos c25] at H
        have c25b0 : decide (0 < (Int.tmod a1 a0_0)) = true := decide_eq_true c25
        clear c25
        by_cases c26 : x7_10.length < 17592186044416
        ·rw [if_pos c26] at H
         have LMc26 := Aside0.mk c26
         clear c26
         obtain ⟨y114, hy114⟩ : ∃ y_ : List Int, y_ = (x7_10 ++ [wrap64 (a1 - 1)]) := ⟨_, rfl⟩
         replace H : (some y114) = some r := rH hy114 H
         have Ny114 := Aside0.mk hy114
         clear hy114
         obtain rfl := Option.some.inj H
         have hcz27_0 : wc.cell? ⟨gb101, 0, none⟩ = some (.int .i64 a0_0) := (blk_cell BK101.out 0).trans rfl
         have hcz27_1 : wc.cell? ⟨gb101, 1, none⟩ = some (.int .i64 a0_1) := (blk_cell BK101.out 1).trans rfl
         have hcz27_2 : wc.cell? ⟨gb101, 2, none⟩ = some (.slice A0_2 l0_2.length c0_2) := (blk_cell BK101.out 2).trans rfl
         have hfz27_0 := blk_frozen BK101.out 0
         have hfz27_1 := blk_frozen BK101.out 1
         have hfz27_2 := blk_frozen BK101.out 2
         go_wp2_with (first | ((with_reducible refine gate_builtin (b := .append) (xs := #[.tmp 49, .tmp 52]) rfl ?_); at_builtin; refine Kd.R_append (Kd.int .i64) (w0 := w) w.heap.size rfl (.tmp 49) (.tmp 52) 31 3 (.int .i64 0) 8 rfl Tryd.underlying31 info3 rfl (by decide) (by omega) u7 x7_10 (wrap64 (a1 - 1)) [.int .i64 (wrap64 (a1 - 1))] (fun _ => True) (fun _ => False) rfl rfl ?aP (fun _ hk => hk.elim) ?aF ?aO ?aB ?aS ?aL ?_; (case aP => exact rfl); (case aB => exact (bel HB)); (case aF => exact (fun _ _ => trivial)); (case aO => exact (rch HO_7)); (case aS => exact (below_size (bel HB))); (case aL => have := LMc26.out; omega); intro v115 w28 ho hb hg hat; rw [← Ny114.out] at ho; have n0_ := Aside0.mk (blk_grown (g := gb101) (o := .cells #[.int .i64 a0_0, .int .i64 a0_1, .slice A0_2 l0_2.length c0_2] 40 (0, 0)) blc hg (Kd.R_ne HO_7.out BK101.out (by decide))); have n1_ := Aside0.mk (hb); have n2_ := Aside0.mk (ho); clear BK101; clear HB; clear HO_7; have BK101 := n0_; have HB := n1_; have HO116 := n2_; clear n0_ n1_ n2_; clear ho hb hg hat))
         repeat (go_quiet (first | ((with_reducible refine gate_builtin (b := .append) (xs := #[.tmp 49, .tmp 52]) rfl ?_); at_builtin; refine Kd.R_append (Kd.int .i64) (w0 := w) w.heap.size rfl (.tmp 49) (.tmp 52) 31 3 (.int .i64 0) 8 rfl Tryd.underlying31 info3 rfl (by decide) (by omega) u7 x7_10 (wrap64 (a1 - 1)) [.int .i64 (wrap64 (a1 - 1))] (fun _ => True) (fun _ => False) rfl rfl ?aP (fun _ hk => hk.elim) ?aF ?aO ?aB ?aS ?aL ?_; (case aP => exact rfl); (case aB => exact (bel HB)); (case aF => exact (fun _ _ => trivial)); (case aO => exact (rch HO_7)); (case aS => exact (below_size (bel HB))); (case aL => have := LMc26.out; omega); intro v115 w28 ho hb hg hat; rw [← Ny114.out] at ho; have n0_ := Aside0.mk (blk_grown (g := gb101) (o := .cells #[.int .i64 a0_0, .int .i64 a0_1, .slice A0_2 l0_2.length c0_2] 40 (0, 0)) blc hg (Kd.R_ne HO_7.out BK101.out (by decide))); have n1_ := Aside0.mk (hb); have n2_ := Aside0.mk (ho); clear BK101; clear HB; clear HO_7; have BK101 := n0_; have HB := n1_; have HO116 := n2_; clear n0_ n1_ n2_; clear ho hb hg hat)); try go_wp2_with (first | ((with_reducible refine gate_builtin (b := .append) (xs := #[.tmp 49, .tmp 52]) rfl ?_); at_builtin; refine Kd.R_append (Kd.int .i64) (w0 := w) w.heap.size rfl (.tmp 49) (.tmp 52) 31 3 (.int .i64 0) 8 rfl Tryd.underlying31 info3 rfl (by decide) (by omega) u7 x7_10 (wrap64 (a1 - 1)) [.int .i64 (wrap64 (a1 - 1))] (fun _ => True) (fun _ => False) rfl rfl ?aP (fun _ hk => hk.elim) ?aF ?aO ?aB ?aS ?aL ?_; (case aP => exact rfl); (case aB => exact (bel HB)); (case aF => exact (fun _ _ => trivial)); (case aO => exact (rch HO_7)); (case aS => exact (below_size (bel HB))); (case aL => have := LMc26.out; omega); intro v115 w28 ho hb hg hat; rw [← Ny114.out] at ho; have n0_ := Aside0.mk (blk_grown (g := gb101) (o := .cells #[.int .i64 a0_0, .int .i64 a0_1, .slice A0_2 l0_2.length c0_2] 40 (0, 0)) blc hg (Kd.R_ne HO_7.out BK101.out (by decide))); have n1_ := Aside0.mk (hb); have n2_ := Aside0.mk (ho); clear BK101; clear HB; clear HO_7; have BK101 := n0_; have HB := n1_; have HO116 := n2_; clear n0_ n1_ n2_; clear ho hb hg hat)))
         go_ret
         exact ⟨_, by first | rfl | (simp [errW_none, errW_some] <;> rfl) | (simp [*, errW_none, errW_some] <;> rfl), rch HO116, bel HB⟩
        ·rw [if_neg c26] at H
         exact absurd H (by simp)
       ·rw [if_neg c25] at H
        have c25b0 : decide (0 < (Int.tmod a1 a0_0)) = false := decide_eq_false c25
        clear c25
        obtain rfl := Option.some.inj H
        have hcz29_0 : wc.cell? ⟨gb101, 0, none⟩ = some (.int .i64 a0_0) := (blk_cell BK101.out 0).trans rfl
        have hcz29_1 : wc.cell? ⟨gb101, 1, none⟩ = some (.int .i64 a0_1) := (blk_cell BK101.out 1).trans rfl
        have hcz29_2 : wc.cell? ⟨gb101, 2, none⟩ = some (.slice A0_2 l0_2.length c0_2) := (blk_cell BK101.out 2).trans rfl
        have hfz29_0 := blk_frozen BK101.out 0
        have hfz29_1 := blk_frozen BK101.out 1
        have hfz29_2 := blk_frozen BK101.out 2
        go_wp2
        repeat (go_quiet (fail); try go_wp2)
        go_ret
        exact ⟨_, by first | rfl | (simp [errW_none, errW_some] <;> rfl) | (simp [*, errW_none, errW_some] <;> rfl), rch HO_7, bel HB⟩
end Go.Proofs.YtmefnfhghfemgaaDoor.Q
end
section
namespace Go.Proofs.YtmefnfhghfemgaaDoor.Q
open Go.RowKit Go.Proofs.YtmefnfhghfemgaaDoorW.PrintWords Go.Proofs.YtmefnfhghfemgaaDoorW.PrintLast Go.Proofs.YtmefnfhghfemgaaDoorW.PrintMore
attribute [local go_sem] max2_int min2_int max_two min_two max_three min_three max_four min_four
set_option linter.unusedVariables false
set_option linter.unusedSimpArgs false
def bits_Mul64.f (a0 : Int) (a1 : Int) : Option (Int × Int) := some (IntKind.u64.wrap ((IntKind.u64.wrap ((IntKind.u64.wrap ((a0 / 4294967296) * (a1 / 4294967296))) + ((IntKind.u64.wrap ((IntKind.u64.wrap ((a0 / 4294967296) * (Go.bits .and .u64 a1 4294967295))) + ((IntKind.u64.wrap ((Go.bits .and .u64 a0 4294967295) * (Go.bits .and .u64 a1 4294967295))) / 4294967296))) / 4294967296))) + ((IntKind.u64.wrap ((Go.bits .and .u64 (IntKind.u64.wrap ((IntKind.u64.wrap ((a0 / 4294967296) * (Go.bits .and .u64 a1 4294967295))) + ((IntKind.u64.wrap ((Go.bits .and .u64 a0 4294967295) * (Go.bits .and .u64 a1 4294967295))) / 4294967296))) 4294967295) + (IntKind.u64.wrap ((Go.bits .and .u64 a0 4294967295) * (a1 / 4294967296))))) / 4294967296)), IntKind.u64.wrap (a0 * a1))
set_option maxHeartbeats 8000000 in
set_option maxRecDepth 100000 in
theorem bits_Mul64.calls (a0 : Int) (a1 : Int) (r1 : Int) (r2 : Int) (w : World) (h : bits_Mul64.f a0 a1 = some (r1, r2)) :
  Calls Tryd.prog 125 #[.int .u64 a0, .int .u64 a1] w fun e w' => e = .returned (.tuple #[.int .u64 r1, .int .u64 r2]) ∧ Drawn0 w w' := by
 have H : (some (IntKind.u64.wrap ((IntKind.u64.wrap ((IntKind.u64.wrap ((a0 / 4294967296) * (a1 / 4294967296))) + ((IntKind.u64.wrap ((IntKind.u64.wrap ((a0 / 4294967296) * (Go.bits .and .u64 a1 4294967295))) + ((IntKind.u64.wrap ((Go.bits .and .u64 a0 4294967295) * (Go.bits .and .u64 a1 4294967295))) / 4294967296))) / 4294967296))) + ((IntKind.u64.wrap ((Go.bits .and .u64 (IntKind.u64.wrap ((IntKind.u64.wrap ((a0 / 4294967296) * (Go.bits .and .u64 a1 4294967295))) + ((IntKind.u64.wrap ((Go.bits .and .u64 a0 4294967295) * (Go.bits .and .u64 a1 4294967295))) / 4294967296))) 4294967295) + (IntKind.u64.wrap ((Go.bits .and .u64 a0 4294967295) * (a1 / 4294967296))))) / 4294967296)), IntKind.u64.wrap (a0 * a1))) = some (r1, r2) := h
 clear h
 simp only [Option.some.injEq, Prod.mk.injEq] at H
 obtain ⟨rfl, rfl⟩ := H
 go_enter Tryd.func125, Tryd.ntmps125
 go_wp2
 go_ret2
 exact ⟨by first | rfl | (simp; done) | (simp [*]; done), by repeat (first | exact Drawn0.refl _ | apply Drawn0.step)⟩
def bits_Mul.f (a0 : Int) (a1 : Int) : Option (Int × Int) := (bits_Mul64.f a0 a1).bind fun bt101 => (some (bt101.1, bt101.2))
set_option maxHeartbeats 8000000 in
set_option maxRecDepth 100000 in
theorem bits_Mul.calls (a0 : Int) (a1 : Int) (r1 : Int) (r2 : Int) (w : World) (h : bits_Mul.f a0 a1 = some (r1, r2)) :
  Calls Tryd.prog 93 #[.int .u64 a0, .int .u64 a1] w fun e w' => e = .returned (.tuple #[.int .u64 r1, .int .u64 r2]) ∧ Drawn0 w w' := by
 have H : ((bits_Mul64.f a0 a1).bind fun bt101 => (some (bt101.1, bt101.2))) = some (r1, r2) := h
 clear h
 replace H := Option.bind_eq_some_iff.mp H
 obtain ⟨⟨t101, t102⟩, A30, H⟩ := H
 replace H : (some (t101, t102)) = some (r1, r2) := H
 have A3 := Aside0.mk A30
 clear A30
 simp only [Option.some.injEq, Prod.mk.injEq] at H
 obtain ⟨rfl, rfl⟩ := H
 go_enter Tryd.func93, Tryd.ntmps93
 go_wp2_with (first | ((with_reducible refine gate_callee (f := 125) rfl ?_); refine gcall (some 25) Tryd.func125 #[.int .u64 a0, .int .u64 a1] rfl ?_; (with_reducible refine (bits_Mul64.calls a0 a1 t101 t102 _ A3.out).mono ?_); rintro e w' ⟨rfl, ⟨nd, rfl⟩⟩; refine ⟨_, rfl, ?_⟩))
 go_ret2
 exact ⟨by first | rfl | (simp; done) | (simp [*]; done), by repeat (first | exact Drawn0.refl _ | apply Drawn0.step)⟩
end Go.Proofs.YtmefnfhghfemgaaDoor.Q
end
section
namespace Go.Proofs.YtmefnfhghfemgaaDoor.Q
open Go.RowKit Go.Proofs.YtmefnfhghfemgaaDoorW.PrintWords Go.Proofs.YtmefnfhghfemgaaDoorW.PrintLast Go.Proofs.YtmefnfhghfemgaaDoorW.PrintMore
theorem mul_small : ∀ n : Nat, n ≤ 64 → bits_Mul.f 1 (n : Int) = some (0, (n : Int)) := by
 intro n hn
 have h : ∀ m : Fin 65, bits_Mul.f 1 (m.val : Int) = some (0, (m.val : Int)) := by decide
 exact h ⟨n, by omega⟩
def slices_Repeat_int.f (l0 : List Int) (a1 : Int) : Option (List Int) := if l0.length = 1 ∧ 1 ≤ a1 ∧ a1 ≤ 64 then some (List.replicate a1.toNat (l0.getD 0 0)) else none
def fillC (n N : Nat) (x : Int) : List Value := List.replicate n (.int .i64 x) ++ List.replicate (N - n) (.int .i64 0)
theorem fillC_len {n N : Nat} (x : Int) (h : n ≤ N) : (fillC n N x).length = N := by simp [fillC]; omega
theorem fillC_zero (N : Nat) (x : Int) : List.replicate N (.int .i64 0) = fillC 0 N x := by simp [fillC]
theorem fillC_full (N : Nat) (x : Int) : fillC N N x = List.replicate N (.int .i64 x) := by simp [fillC]
theorem fillC_splice {n N : Nat} (x : Int) (k : Nat) (h : n + k ≤ N) : splice (fillC n N x) n (List.replicate k (.int .i64 x)) = fillC (n + k) N x := by
 unfold splice fillC
 rw [List.take_left' (by simp), List.length_replicate, List.drop_append, List.drop_eq_nil_of_le (by simp), List.nil_append, List.length_replicate, List.drop_replicate, ← List.append_assoc, List.replicate_append_replicate]
 congr 2
 omega
theorem fillC_at {n N j : Nat} (x : Int) (h : j < n) : (fillC n N x)[j]? = some (.int .i64 x) := by
 unfold fillC
 rw [List.getElem?_append_left (by simpa using h), List.getElem?_replicate, if_pos h]
theorem wpList_makeInt {P : Program} {w w0 : World} {ops : Array Oper} {rest : List Oper} {o : Oper} {a : Act} {Q : Exit → Act → World → Prop} {B : Nat} (hgd : o.guard = none) (t : TypeId) (x y : Operand)
  (ho : o.op = .makeSlice t x y) (e : TypeId) (n : Nat) (hx : a.eval x = .int .i64 n) (hy : a.eval y = .int .i64 n) (ht : P.underlying t = some (.slice e)) (hinfo : (P.info? e).map (fun i => (i.zero, i.size, i.bytes)) = some (some (.int .i64 0), 1, 8))
  (hn : n ≤ 64) (HB : Below B w0 w) (hB : B ≤ w.heap.size)
  (h : ∀ g w', Aside0 (w'.heap[g]? = some (.cells (fillC 0 n 0).toArray e (0, 0))) → B ≤ g → Aside0 (Below B w0 w') → wpList P ops Q rest (a.put o.dst (.slice (some ⟨g, 0, none⟩) n n)) w') : wpList P ops Q (o :: rest) a w := by
 obtain ⟨i, hi, h2⟩ := Option.map_eq_some_iff.1 hinfo
 simp only [Prod.mk.injEq] at h2
 refine wpList_plain hgd fun K hK => ?_
 have hrun := run_makeSlice (P := P) w t e i (.int .i64 0) ht hi h2.1 .i64 .i64 n n (by omega) (by omega) (by rw [h2.2.1]; simp; omega) (by rw [h2.2.2]; omega) (by omega)
 unfold Oper.wp
 simp only [Int.toNat_natCast] at hrun
 simp [execOp, ho, hx, hy, hrun, Result.andThen]
 refine hK _ _ (h _ _ ⟨?_⟩ hB ⟨below_then HB hB (below_alloc (Below.refl _ _) _)⟩)
 rw [heap_alloc_new, ← fillC_zero, h2.2.1]
 congr 2
 simp [madeCells]
 apply Array.ext
 ·simp
 ·intro j h1 h2
  simp [Value.cells, Nat.mod_one]
theorem one_cell {w : World} {ad : Addr} {x : Int} (h : w.cell? ad = some (.int .i64 x)) : ∀ (j : Nat) (v : Value), ([.int .i64 x] : List Value)[j]? = some v → w.cell? (ad.add j) = some v := by
 intro j v hv
 match j, hv with
 | 0, hv => simp at hv; subst hv; simpa [Addr.add] using h
theorem one_cell1 (x : Int) : ∀ v ∈ ([.int .i64 x] : List Value), v.oneCell' = true := by simp [Value.oneCell']
theorem cell_old {w w1 : World} {ad : Addr} {v : Value} (h : w.cell? ad = some v) (hb : Below w.heap.size w w1) : w1.cell? ad = some v := (hb.cell (World.block_lt_of_cell? w _ h)).trans h
theorem first_fill {w : World} {g n : Nat} {x : Int} (h : w.heap[g]? = some (.cells (splice (fillC 0 n 0) 0 [.int .i64 x]).toArray 3 (0, 0))) (hn : 1 ≤ n) : w.heap[g]? = some (.cells (fillC 1 n x).toArray 3 (0, 0)) := by
 have e := fillC_splice (n := 0) (N := n) x 1 (by omega)
 have e0 : fillC 0 n 0 = fillC 0 n x := by simp [fillC]
 rw [e0] at h
 simp only [List.replicate_succ, List.replicate_zero, Nat.zero_add] at e
 rw [e] at h
 exact h
theorem fill_cells {w : World} {g n k m : Nat} {x : Int} (h : w.heap[g]? = some (.cells (fillC m n x).toArray 3 (0, 0))) (hk : k ≤ m) : ∀ (j : Nat) (v : Value), (List.replicate k (Value.int .i64 x))[j]? = some v → w.drew.cell? ((⟨g, 0, none⟩ : Addr).add j) = some v := by
 intro j v hv
 rw [List.getElem?_replicate] at hv
 split at hv
 case isFalse => cases hv
 rename_i hj
 injection hv with hv
 subst hv
 have h2 := (below_drew (Below.refl w.heap.size w)).block g (blk_lt h)
 have h3 := blk_cell (h2.trans h) j
 have e : ((⟨g, 0, none⟩ : Addr).add j) = ⟨g, j, none⟩ := by simp [Addr.add]; exact fun h => h.symm
 rw [e, h3, List.getElem?_toArray, fillC_at x (by omega)]
theorem fill_one (k : Nat) (x : Int) : ∀ v ∈ List.replicate k (Value.int .i64 x), v.oneCell' = true := by
 intro v hv
 rw [List.eq_of_mem_replicate hv]
 rfl
theorem next_fill {w : World} {g n m k : Nat} {x : Int} (h : w.heap[g]? = some (.cells (splice (fillC m n x) m (List.replicate k (.int .i64 x))).toArray 3 (0, 0))) (hn : m + k ≤ n) : w.heap[g]? = some (.cells (fillC (m + k) n x).toArray 3 (0, 0)) := by
 rw [fillC_splice x k hn] at h
 exact h
theorem sum_small (m k n : Nat) (hn : n ≤ 64) (h : m + k ≤ n) : Value.int .i64 (IntKind.i64.wrap ((m : Int) + (k : Int))) = .int .i64 ((m + k : Nat) : Int) := by
 have e : IntKind.i64.wrap ((m : Int) + (k : Int)) = ((m + k : Nat) : Int) := by rw [IntKind.wrap_i64]; omega
 rw [e]
theorem R_fill {w : World} {g n base : Nat} {x : Int} (h : w.heap[g]? = some (.cells (fillC n n x).toArray 3 (0, 0))) (hb : base ≤ g) (hn : n ≤ 64) : Kd.R (Kd.int .i64) 3 w base (fun _ => True) (.slice (some ⟨g, 0, none⟩) n n) (List.replicate n x) := by
 rw [fillC_full] at h
 refine ⟨fun _ _ => trivial, List.replicate n (.int .i64 x), ⟨by simp [Kd.int, Kd.scalar], Or.inr ⟨g, n, (List.replicate n (.int .i64 x)).toArray, by simp, hb, h, by simp, by simp [maxLen]; omega, by simp [Kd.int, Kd.scalar], by simp [Kd.int, Kd.scalar]⟩⟩, by simp [Kd.int, Kd.scalar], fun j p hp => ?_⟩
 rw [List.getElem?_replicate] at hp
 split at hp
 case isFalse => cases hp
 injection hp with hp
 subst hp
 show ((List.replicate n (Value.int .i64 x)).drop (j * 1)).take 1 = [Value.int .i64 x]
 rw [List.drop_replicate, List.take_replicate]
 rw [show min 1 (n - j * 1) = 1 by omega]
 rfl
theorem sz3 : (Tryd.prog.info? 3).map (·.size) = some 1 := by kernel_rfl
set_option maxHeartbeats 4000000 in
set_option maxRecDepth 100000 in
theorem slices_Repeat_int.calls (A0 : Option Addr) (c0 : Nat) (l0 : List Int) (a1 : Int) (r : List Int) (w : World) (hr0 : Kd.C (Kd.int .i64) w A0 l0.length l0) (hc0 : l0.length ≤ c0) (h : slices_Repeat_int.f l0 a1 = some r) :
  Calls Tryd.prog 150 #[.slice A0 l0.length c0, .int .i64 a1] w fun e w' => ∃ v0_ : Value, e = .returned (v0_) ∧ Kd.R (Kd.int .i64) 3 w' w.heap.size (fun _ => True) v0_ r ∧ Below w.heap.size w w' := by
 unfold slices_Repeat_int.f at h
 split at h
 case isFalse => cases h
 rename_i hc
 obtain rfl := Option.some.inj h
 obtain ⟨hl, h1, h64⟩ := hc
 obtain ⟨x, rfl⟩ : ∃ x, l0 = [x] := List.length_eq_one_iff.1 hl
 obtain ⟨n, rfl⟩ : ∃ n : Nat, a1 = n := ⟨a1.toNat, by omega⟩
 obtain ⟨ad, rfl, hcell⟩ := Kd.at_int hr0 0 (by omega) (by simp)
 have hcx : w.cell? ad = some (.int .i64 x) := by simpa [Addr.add, rd] using hcell
 have t1 : decide ((n : Int) < 0) = false := decide_eq_false (by omega)
 have A1 := Aside0.mk (mul_small n (by omega))
 have n1 : 1 ≤ n := by omega
 have n64 : n ≤ 64 := by omega
 have t2 : decide ((n : Int) > 9223372036854775807) = false := decide_eq_false (by omega)
 clear hl h1 h64 h hr0 hcell
 simp only [List.length_singleton] at hc0 ⊢
 have HC := Aside0.mk hcx
 clear hcx
 go_enter Tryd.func150, Tryd.ntmps150
 go_wp2_with (first
  | (go_at_call 93; (refine (bits_Mul.calls 1 n 0 n _ A1.out).mono ?_); rintro e w' ⟨rfl, ⟨nd, rfl⟩⟩)
  | ((with_reducible refine gate_dst (N := 30) rfl ?_); apply wpList_makeInt (w0 := w) (B := w.heap.size) (n := n); (case hgd => rfl); (case ho => rfl); (case hx => rfl); (case hy => rfl); (case ht => exact Tryd.underlying31); (case hinfo => exact info3); (case hn => exact n64); (case HB => exact pw_below_drewN (Below.refl _ _) _); (case hB => exact (pw_below_drewN (Below.refl w.heap.size w) _).size); intro g w1 HG1 hBg HB1)
  | ((with_reducible refine gate_dst (N := 33) rfl ?_); apply wpList_copy_splice (w0 := w) (B := w.heap.size) (g := g) (off := 0) (cur := fillC 0 n 0) (cs := [.int .i64 x]) (t := 3) (elem := 3); (case hgd => rfl); (case ho => rfl); (case hu => exact Tryd.underlying31); (case hsz => exact sz3); (case hd => rfl); (case hs => rfl); (case hg => exact HG1.out); (case hn => exact (Nat.min_eq_left n1).symm); (case hpos => exact fun _ => ⟨rfl, ad, rfl, one_cell (cell_old HC.out HB1.out)⟩); (case hfit => simp only [fillC_len 0 (Nat.zero_le n)]; exact n1); (case h1 => exact one_cell1 x); (case hb => exact HB1.out); (case hBg => exact hBg); intro w2 HG2 HB2))
 have HG3 := Aside0.mk (first_fill HG2.out n1)
 have HB3 := Aside0.mk HB2
 clear HG2 HB2
 go_wp2
 go_loopg [8] n (fun kq v8 w' => ∃ m : Nat, v8 = .int .i64 m ∧ Aside0 (1 ≤ m ∧ m ≤ n ∧ n ≤ m + kq) ∧ Aside0 (w'.heap[g]? = some (.cells (fillC m n x).toArray 3 (0, 0))) ∧ Aside0 (Below w.heap.size w w'))
 case atStart => exact ⟨1, rfl, ⟨Nat.le_refl _, n1, by omega⟩, HG3, HB3⟩
 case round =>
  clear HG3 HB3 HG1 HB1
  obtain ⟨m, rfl, HM, HG, HB⟩ := hrel
  obtain ⟨m1, m2, m3⟩ := HM.out
  by_cases hmn : m < n
  ·cases gk with
   | zero => exact absurd m3 (by omega)
   | succ k1 =>
    have c1 : decide ((m : Int) < (n : Int)) = true := decide_eq_true (by omega)
    have p1 : (0 ≤ (m : Int)) = True := eq_true (by omega)
    have p2 : ((m : Int) ≤ (n : Int)) = True := eq_true (by omega)
    have p3 : (n = m) = False := eq_false (by omega)
    obtain ⟨k, hk⟩ : ∃ k, Aside0 (k = min (n - m) m) := ⟨_, ⟨rfl⟩⟩
    have hk1 := Aside0.mk (show k ≤ n - m ∧ k ≤ m ∧ 1 ≤ k by have := hk.out; omega)
    have hkl := Aside0.mk (show (List.replicate k (Value.int .i64 x)).length = Nat.min m (n - m) by rw [List.length_replicate, hk.out, Nat.min_comm])
    have hkf := Aside0.mk (show m + (List.replicate k (Value.int .i64 x)).length ≤ (fillC m n x).length by rw [List.length_replicate, fillC_len x m2]; have := hk1.out; omega)
    clear HM
    go_wp2
    go_region_law (first | (apply step_copy_splice (w0 := w) (B := w.heap.size) (g := g) (off := m) (cur := fillC m n x) (cs := List.replicate k (.int .i64 x)) (t := 3) (elem := 3); (case hgd => rfl); (case ho => rfl); (case hu => exact Tryd.underlying31); (case hsz => exact sz3); (case hd => rfl); (case hs => rfl); (case hg => exact HG.out); (case hn => exact hkl.out); (case hpos => exact fun _ => ⟨rfl, _, rfl, fill_cells HG.out hk1.out.2.1⟩); (case hfit => exact hkf.out); (case h1 => exact fill_one k x); (case hb => exact below_drew HB.out); (case hBg => exact hBg); intro w3 HG4 HB4))
    have HG5 := Aside0.mk (next_fill HG4.out (show m + k ≤ n by have := hk1.out; omega))
    have HB5 := Aside0.mk HB4
    clear HG4 HB4
    go_wp2
    go_roundg k1
    case measure => omega
    case rel => exact ⟨m + k, sum_small m k n n64 (by have := hk1.out; omega), ⟨by omega, by have := hk1.out; omega, by have := hk1.out; omega⟩, HG5, HB5⟩
  ·obtain rfl : m = n := by omega
   have c1 : decide ((m : Int) < (m : Int)) = false := decide_eq_false (by omega)
   go_wp2
   go_ret
   exact ⟨_, rfl, by simpa using R_fill HG.out hBg n64, HB.out⟩
end Go.Proofs.YtmefnfhghfemgaaDoor.Q
end
