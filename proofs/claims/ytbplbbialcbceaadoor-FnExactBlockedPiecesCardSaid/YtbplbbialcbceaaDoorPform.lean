/- A form's text: both sides take the same texts and list the same cells. -/
import Derived.Test.YtbplbbialcbceaaDoorPread
import Derived.Test.YtbplbbialcbceaaDoorPpieces
import Derived.Test.YtbplbbialcbceaaDoorPparts
import Derived.Test.YtbplbbialcbceaaDoorQe
namespace Go.Proofs.YtbplbbialcbceaaDoor.Q
open Go.RowKit Go.Proofs.YtbplbbialcbceaaDoorW.PrintWords Go.Proofs.YtbplbbialcbceaaDoorW.PrintLast Go.Proofs.YtbplbbialcbceaaDoorW.PrintMore
set_option linter.unusedSectionVars false
/-! ### the cells with a ball -/
def ballsTo (cs : List Int) (t : Nat) : List Int := ((List.range t).filter (fun j : Nat => bI cs (j : Int))).map (fun j : Nat => (j : Int))
def ballsOf (cs : List Int) : List Int := ballsTo cs cs.length
theorem ballsTo_succ (cs : List Int) (t : Nat) : ballsTo cs (t + 1) = ballsTo cs t ++ if bI cs (t : Int) = true then [(t : Int)] else [] := by
  unfold ballsTo
  rw [List.range_succ, List.filter_append, List.map_append]
  congr 1
  by_cases hm : bI cs (t : Int) = true
  · rw [if_pos hm]; simp [hm]
  · rw [if_neg hm]; simp [hm]
theorem ballsTo_len (cs : List Int) (t : Nat) : (ballsTo cs t).length ≤ t := by
  unfold ballsTo
  rw [List.length_map]
  have := List.length_filter_le (fun j : Nat => bI cs (j : Int)) (List.range t)
  rw [List.length_range] at this
  exact this
theorem tyBalls_l0 (cs : List Int) (hc : cs.length ≤ 36) : ∀ (m t : Nat), t + m = cs.length → Ev (fun k => spec_tyBalls.l0 k (ballsTo cs t) cs cs.length t) (ballsOf cs)
  | 0, t, ht => by
    obtain rfl : t = cs.length := by omega
    refine Ev.step (Ev.const (o := some (ballsOf cs)) rfl) fun k => ?_
    rw [spec_tyBalls.l0, if_neg (by omega)]
    rfl
  | m + 1, t, ht => by
    have ih := tyBalls_l0 cs hc m (t + 1) (by omega)
    have hwt : wrap64 ((t : Int) + 1) = ((t + 1 : Nat) : Int) := by rw [w64 (by omega) (by omega)]; omega
    have c1 : (t : Int) < (cs.length : Int) := by omega
    have c0 : (0 : Int) ≤ (t : Int) := by omega
    have c6 : (ballsTo cs t).length < 17592186044416 := Nat.lt_of_le_of_lt (Nat.le_trans (ballsTo_len cs t) (show t ≤ 36 by omega)) (by decide)
    rw [ballsTo_succ] at ih
    refine Ev.step ih fun k => ?_
    rw [spec_tyBalls.l0, if_pos c1, if_pos c0, if_pos c1, tyBall_eq, Option.bind_some, hwt]
    show (if bI cs t = true then _ else _) = _
    by_cases h1 : bI cs t = true
    · rw [if_pos h1, if_pos c6, if_pos h1]
    · rw [if_neg h1, if_neg h1, List.append_nil]
theorem tyBalls_ev (cs : List Int) (hc : cs.length ≤ 36) (w h : Int) : Ev (fun k => spec_tyBalls.f k w h cs) (ballsOf cs) := tyBalls_l0 cs hc cs.length 0 (by omega)
theorem indices_l0 (cs : List Int) (hc : cs.length ≤ 36) : ∀ (m t : Nat), t + m = cs.length → Ev (fun k => impl_tray_indices_isBall.l0 k (ballsTo cs t) cs cs.length t) (ballsOf cs)
  | 0, t, ht => by
    obtain rfl : t = cs.length := by omega
    refine Ev.step (Ev.const (o := some (ballsOf cs)) rfl) fun k => ?_
    rw [impl_tray_indices_isBall.l0, if_neg (by omega)]
    rfl
  | m + 1, t, ht => by
    have ih := indices_l0 cs hc m (t + 1) (by omega)
    have hwt : wrap64 ((t : Int) + 1) = ((t + 1 : Nat) : Int) := by rw [w64 (by omega) (by omega)]; omega
    have c1 : (t : Int) < (cs.length : Int) := by omega
    have c0 : (0 : Int) ≤ (t : Int) := by omega
    have c6 : (ballsTo cs t).length < 17592186044416 := Nat.lt_of_le_of_lt (Nat.le_trans (ballsTo_len cs t) (show t ≤ 36 by omega)) (by decide)
    rw [ballsTo_succ] at ih
    refine Ev.step ih fun k => ?_
    rw [impl_tray_indices_isBall.l0, if_pos c1, if_pos c0, if_pos c1, isBall_eq, Option.bind_some, hwt]
    show (if bI cs t = true then _ else _) = _
    by_cases h1 : bI cs t = true
    · rw [if_pos h1, if_pos c6, if_pos h1]
    · rw [if_neg h1, if_neg h1, List.append_nil]
theorem indices_ev (cs : List Int) (hc : cs.length ≤ 36) (w h : Int) : Ev (fun k => impl_tray_indices_isBall.f k w h cs ()) (ballsOf cs) := indices_l0 cs hc cs.length 0 (by omega)
/-! ### what a text of a tray holds -/
theorem trayOf_some {s : ByteArray} {t : Int × Int × List Int} (ht : trayOf s = some t) : ∃ w h : Nat, t = ((w : Int), (h : Int), ints (rows 47 s.data.toList).flatten) ∧ 1 ≤ w ∧ w ≤ 7 ∧ 1 ≤ h ∧ h ≤ 7 ∧ w * h ≤ 36 ∧ (ints (rows 47 s.data.toList).flatten).length = w * h := by
  unfold trayOf trayRows at ht
  split at ht
  · rename_i hk
    have h1 := evenRows_flat _ _ hk.2.1
    have h2 := List.length_pos_iff.2 (rows_ne 47 s.data.toList)
    have h3 := hk.1
    refine ⟨_, _, (Option.some.inj ht).symm, h3.1, h3.2.1, by omega, h3.2.2.1, h3.2.2.2, ?_⟩
    rw [ints_length, h1]
  · cases ht
theorem rows_mem (c b : UInt8) : ∀ l, b ∈ (rows c l).flatten ↔ b ∈ l ∧ b ≠ c
  | [] => by simp [rows]
  | a :: l => by
    have ih := rows_mem c b l
    unfold rows
    split
    · rename_i e
      subst e
      rw [List.flatten_cons, List.nil_append, ih, List.mem_cons]
      constructor
      · rintro ⟨h1, h2⟩; exact ⟨Or.inr h1, h2⟩
      · rintro ⟨h1, h2⟩; exact ⟨h1.resolve_left h2, h2⟩
    · rename_i hne
      split
      · rename_i e; exact absurd e (rows_ne c l)
      · rename_i r rs e
        rw [e, List.flatten_cons] at ih
        rw [List.flatten_cons, List.cons_append, List.mem_cons, ih, List.mem_cons]
        constructor
        · rintro (h1 | ⟨h1, h2⟩)
          · exact ⟨Or.inl h1, by rw [h1]; exact hne⟩
          · exact ⟨Or.inr h1, h2⟩
        · rintro ⟨h1 | h1, h2⟩
          · exact Or.inl h1
          · exact Or.inr ⟨h1, h2⟩
def open2 (cs : List Int) : Prop := ∀ c ∈ cs, c = 46 ∨ c = 111
instance (cs : List Int) : Decidable (open2 cs) := inferInstanceAs (Decidable (∀ c ∈ cs, _))
def cutForm : ByteArray := ⟨#[46, 111, 47]⟩
theorem open2_trim (s : ByteArray) : (∀ b ∈ s.data.toList, cutForm.data.toList.contains b = true) ↔ open2 (ints (rows 47 s.data.toList).flatten) := by
  have hc : ∀ b : UInt8, cutForm.data.toList.contains b = true ↔ (b = 46 ∨ b = 111 ∨ b = 47) := by
    intro b
    show [46, 111, 47].contains b = true ↔ _
    simp
  have hi : ∀ b : UInt8, ((b.toNat : Int) = 46 ∨ (b.toNat : Int) = 111) ↔ (b = 46 ∨ b = 111) := by
    intro b
    have e1 : ((b.toNat : Int) = 46) ↔ b = 46 := ⟨fun h => UInt8.toNat_inj.1 (show b.toNat = 46 by omega), fun h => by rw [h]; rfl⟩
    have e2 : ((b.toNat : Int) = 111) ↔ b = 111 := ⟨fun h => UInt8.toNat_inj.1 (show b.toNat = 111 by omega), fun h => by rw [h]; rfl⟩
    rw [e1, e2]
  unfold open2 ints
  constructor
  · intro h c hcm
    obtain ⟨b, hb, rfl⟩ := List.mem_map.1 hcm
    have h1 := (rows_mem 47 b _).1 hb
    refine (hi b).2 ?_
    rcases (hc b).1 (h b h1.1) with h2 | h2 | h2
    · exact Or.inl h2
    · exact Or.inr h2
    · exact absurd h2 h1.2
  · intro h b hb
    refine (hc b).2 ?_
    by_cases h1 : b = 47
    · exact Or.inr (Or.inr h1)
    · have h2 := (hi b).1 (h _ (List.mem_map.2 ⟨b, (rows_mem 47 b _).2 ⟨hb, h1⟩, rfl⟩))
      exact h2.elim Or.inl fun h3 => Or.inr (Or.inl h3)
/-! ### a form -/
noncomputable def formOK (w h : Nat) (cs : List Int) : Prop := open2 cs ∧ (1 ≤ (ballsOf cs).length ∧ (ballsOf cs).length ≤ 10) ∧ (mins w h cs (w * h)).length = 1
open Classical in
noncomputable def formOf (s : ByteArray) : Option (Int × Int × List Int) := (trayOf s).bind fun t => if formOK t.1.toNat t.2.1.toNat t.2.2 then some t else none
theorem l1In_eq (a lo hi : Int) : spec_l1In.f a lo hi = some (decide (lo ≤ a ∧ a ≤ hi)) := by
  unfold spec_l1In.f
  by_cases h : a ≥ lo
  · rw [if_pos h]
    congr 1
    exact decide_eq_decide.2 (by omega)
  · rw [if_neg h, decide_eq_false (by omega)]
open Classical in
theorem balls_pos (cs : List Int) (w h : Nat) (hn : cs.length = w * h) (hm : 0 < (mins w h cs (w * h)).length) : 1 ≤ (ballsOf cs).length := by
  obtain ⟨m, hmm⟩ := List.exists_mem_of_length_pos hm
  have h1 := List.mem_filter.1 hmm
  have h2 := (of_decide_eq_true h1.2).1
  have h3 : (m : Int) ∈ ballsOf cs := List.mem_map.2 ⟨m, List.mem_filter.2 ⟨List.mem_range.2 (by rw [hn]; exact List.mem_range.1 h1.1), h2⟩, rfl⟩
  exact List.length_pos_of_mem h3
section
open Classical
variable {w h : Nat} {cs : List Int} (hw : w ≤ 7) (hh : h ≤ 7) (hs : w * h ≤ 36) (hn : cs.length = w * h)
include hw hh hs hn
theorem buIs_ev : Ev (fun k => spec_buIs.f k w h cs) (decide ((1 ≤ (ballsOf cs).length ∧ (ballsOf cs).length ≤ 10) ∧ (mins w h cs (w * h)).length = 1)) := by
  obtain ⟨L, _, hL⟩ := pieces_ev hw hh hs hn
  refine Ev.bind (f := fun k t102 => (spec_skPieces.f k w h cs).bind fun bt105 => ((spec_l1In.f (t102.length : Int) 1 10).bind fun t109 => (if t109 = true then (some (bt105.2 == 1)) else (some false)))) (tyBalls_ev cs (by omega) w h) ?_
  refine Ev.bind (f := fun k bt105 => ((spec_l1In.f ((ballsOf cs).length : Int) 1 10).bind fun t109 => (if t109 = true then (some (bt105.2 == 1)) else (some false)))) hL (Ev.const ?_)
  rw [l1In_eq, Option.bind_some]
  by_cases h1 : 1 ≤ (ballsOf cs).length ∧ (ballsOf cs).length ≤ 10
  · rw [decide_eq_true (show (1 : Int) ≤ _ ∧ _ by omega), if_pos rfl]
    congr 1
    by_cases h2 : (mins w h cs (w * h)).length = 1
    · rw [decide_eq_true ⟨h1, h2⟩, h2]
      rfl
    · rw [decide_eq_false fun h3 => h2 h3.2]
      simp
      omega
  · rw [decide_eq_false (show ¬ ((1 : Int) ≤ _ ∧ _) by omega), if_neg (by decide), decide_eq_false fun h3 => h1 h3.1]
theorem bu_l0 : ∀ (m t : Nat), t + m = cs.length → (∀ c ∈ cs.take t, c = 46 ∨ c = 111) → Ev (fun k => spec_buRead.l0 k cs cs.length t w h cs) ((w : Int), (h : Int), cs, decide (formOK w h cs))
  | 0, t, ht, ho => by
    rw [List.take_of_length_le (by omega)] at ho
    refine Ev.step (Ev.bind (f := fun _ t110 => some ((w : Int), (h : Int), cs, t110)) (buIs_ev hw hh hs hn) (Ev.const ?_)) fun k => ?_
    · congr 4
      exact decide_eq_decide.2 ⟨fun h1 => ⟨ho, h1⟩, fun h1 => h1.2⟩
    · rw [spec_buRead.l0, if_neg (by omega)]
  | m + 1, t, ht, ho => by
    have hwt : wrap64 ((t : Int) + 1) = ((t + 1 : Nat) : Int) := by rw [w64 (by omega) (by omega)]; omega
    have hlt : t < cs.length := by omega
    have c1 : (t : Int) < (cs.length : Int) := by omega
    have c0 : (0 : Int) ≤ (t : Int) := by omega
    have hrd := rd_nat cs t hlt
    have htk : cs.take (t + 1) = cs.take t ++ [cs[t]] := List.take_succ_eq_append_getElem hlt
    have hmem : cs[t] ∈ cs := List.getElem_mem hlt
    generalize cs[t] = v at hrd htk hmem
    by_cases hv : v = 46 ∨ v = 111
    · have ih := bu_l0 m (t + 1) (by omega) (fun c hc => by
        rw [htk] at hc
        rcases List.mem_append.1 hc with h1 | h1
        · exact ho c h1
        · rw [List.mem_singleton.1 h1]; exact hv)
      refine Ev.step ih fun k => ?_
      rw [spec_buRead.l0, if_pos c1, if_pos c0, if_pos c1, hrd, hwt]
      by_cases h1 : v = 46
      · rw [if_pos h1]
      · rw [if_neg h1, if_pos (hv.resolve_left h1)]
    · rw [decide_eq_false fun h1 => hv (h1.1 v hmem)]
      refine Ev.step (Ev.const (o := some ((w : Int), (h : Int), cs, false)) rfl) fun k => ?_
      rw [spec_buRead.l0, if_pos c1, if_pos c0, if_pos c1, hrd, if_neg fun h1 => hv (Or.inl h1), if_neg fun h1 => hv (Or.inr h1)]
end
open Classical in
theorem buRead_ev (s : ByteArray) : Ev (fun k => spec_buRead.f k s) (match trayOf s with | none => failT | some (w, h, cs) => (w, h, cs, decide (formOK w.toNat h.toNat cs))) := by
  refine Ev.bind (f := fun k bt102 => (if bt102.2.2.2 = true then (spec_buRead.l0 k bt102.2.2.1 (bt102.2.2.1.length : Int) 0 bt102.1 bt102.2.1 bt102.2.2.1) else (some (bt102.1, bt102.2.1, bt102.2.2.1, false)))) (tyRead_ev s) ?_
  rcases ht : trayOf s with _ | t
  · exact Ev.const rfl
  · obtain ⟨w, h, rfl, h1, h2, h3, h4, h5, h6⟩ := trayOf_some ht
    have h7 := bu_l0 h2 h4 h5 h6 _ 0 (Nat.zero_add _) (fun c hc => by simp at hc)
    exact Ev.congr h7 fun k => if_pos rfl
open Classical in
theorem isForm_ev (s : ByteArray) (hs : s.size ≤ 1048576) : Ev (fun k => impl_IsForm.f k s) (formOf s).isSome := by
  refine Ev.bind (f := fun k t101 => (if t101 = true then ((strings_Trim.f s (⟨#[46, 111, 47]⟩ : ByteArray)).bind fun t102 => (impl_IsForm.j0 k s (t102.toList != ([] : List UInt8)))) else (impl_IsForm.j0 k s true))) (isTray_ev s hs) ?_
  have hfail : Ev (fun k => impl_IsForm.j0 k s true) false := Ev.step (Ev.const (o := some false) rfl) fun k => by rw [impl_IsForm.j0, if_pos rfl]
  unfold formOf
  rcases ht : trayOf s with _ | t
  · exact Ev.congr hfail fun k => if_neg (by decide)
  · obtain ⟨w, h, rfl, h1, h2, h3, h4, h5, h6⟩ := trayOf_some ht
    obtain ⟨t, et, htr⟩ := trim_tell s cutForm hs (by decide) (by decide)
    rw [open2_trim] at htr
    have hread : impl_read.f s = trayOf s := ((trayOf_row s).resolve_left (by rw [ht]; exact fun e => nomatch e)).2
    rw [ht] at hread
    generalize ints (rows 47 s.data.toList).flatten = cs at h6 htr hread
    simp only [Option.bind_some, Int.toNat_natCast]
    refine Ev.congr (g' := fun k => impl_IsForm.j0 k s (t.toList != [])) ?_ fun k => ?_
    · by_cases ho : open2 cs
      · rw [show (t.toList != ([] : List UInt8)) = false by rw [htr.2 ho]; rfl]
        refine Ev.step (Ev.bind (f := fun k t109 => (if ((t109 : List (List Int)).length : Int) = 1 then ((impl_tray_indices_isBall.f k w h cs ()).bind fun t112 => (some (decide ((t112.length : Int) ≤ 10)))) else (some false))) (parts_ev h2 h4 h5 h6) ?_) fun k => ?_
        · have hpl : (parts w h cs (w * h)).length = (mins w h cs (w * h)).length := by unfold parts; rw [List.length_map]
          by_cases hm : (mins w h cs (w * h)).length = 1
          · have hb1 := balls_pos cs w h h6 (by omega)
            have e : (if formOK w h cs then some ((w : Int), (h : Int), cs) else none).isSome = decide ((ballsOf cs).length ≤ 10) := by
              by_cases h9 : (ballsOf cs).length ≤ 10
              · rw [if_pos ⟨ho, ⟨hb1, h9⟩, hm⟩, decide_eq_true h9]
                rfl
              · rw [if_neg fun h10 => h9 h10.2.1.2, decide_eq_false h9]
                rfl
            rw [e]
            refine Ev.congr (Ev.bind (f := fun _ t112 => some (decide ((t112.length : Int) ≤ 10))) (indices_ev cs (by omega) w h) (Ev.const ?_)) fun k => if_pos (by omega)
            congr 1
            exact decide_eq_decide.2 (by omega)
          · rw [if_neg fun h8 => hm h8.2.2]
            exact Ev.congr (Ev.const (o := some false) rfl) fun k => if_neg (by omega)
        · rw [impl_IsForm.j0, if_neg (by decide), hread, Option.bind_some]
      · rw [show (t.toList != ([] : List UInt8)) = true from bne_iff_ne.2 fun h8 => ho (htr.1 h8), if_neg fun h8 => ho h8.1]
        exact hfail
    · show (if true = true then _ else _) = _
      rw [if_pos rfl]
      show (strings_Trim.f s cutForm).bind _ = _
      rw [et, Option.bind_some]
/-! ### the law -/
noncomputable def cellsR (s : ByteArray) : List Int × Bool := match formOf s with
  | none => ([], false)
  | some t => (ballsOf t.2.2, true)
theorem formOf_some {s : ByteArray} {t : Int × Int × List Int} (ht : formOf s = some t) : trayOf s = some t ∧ formOK t.1.toNat t.2.1.toNat t.2.2 := by
  unfold formOf at ht
  obtain ⟨t', h1, h2⟩ := Option.bind_eq_some_iff.1 ht
  split at h2
  · rename_i h3
    obtain rfl := Option.some.inj h2
    exact ⟨h1, h3⟩
  · cases h2
theorem form_len {s : ByteArray} {t : Int × Int × List Int} (ht : trayOf s = some t) : t.2.2.length ≤ 36 := by
  obtain ⟨w, h, rfl, h1, h2, h3, h4, h5, h6⟩ := trayOf_some ht
  show (ints _).length ≤ 36
  omega
theorem eqInts_l0 (l : List Int) (hl : l.length ≤ 1000000) : ∀ (m t : Nat), t + m = l.length → Ev (fun k => laws_eqIntS.l0 k l l t) true
  | 0, t, ht => by
    refine Ev.step (Ev.const (o := some true) rfl) fun k => ?_
    rw [laws_eqIntS.l0, if_neg (by omega)]
  | m + 1, t, ht => by
    have ih := eqInts_l0 l hl m (t + 1) (by omega)
    have hwt : wrap64 ((t : Int) + 1) = ((t + 1 : Nat) : Int) := by rw [w64 (by omega) (by omega)]; omega
    refine Ev.step ih fun k => ?_
    rw [laws_eqIntS.l0, if_pos (by omega), if_pos (by omega), if_pos (by omega), if_pos rfl, hwt]
theorem eqInts_ev (l : List Int) (hl : l.length ≤ 1000000) : Ev (fun k => laws_eqIntS.f k l l) true :=
  Ev.congr (eqInts_l0 l hl l.length 0 (by omega)) fun k => if_pos rfl
/-- The first t places told anew: a, a + 1, ... -/
def marked (l : List Int) (a : Int) (m : List Int) (t : Nat) : Prop := m.length = l.length ∧ ∀ j : Int, 0 ≤ j → j < (t : Int) → rd m j = a + j
theorem mark_l0 (n : Nat) (a : Int) (h0 : 0 ≤ a) (h1 : a ≤ 1000000) (hn : n ≤ 1000000) : ∀ (m t : Nat) (l : List Int), t + m = n → l.length = n → (∀ j : Int, 0 ≤ j → j < (t : Int) → rd l j = a + j) →
    ∃ l', l'.length = n ∧ (∀ j : Int, 0 ≤ j → j < (n : Int) → rd l' j = a + j) ∧ Ev (fun k => laws_markIntS.l0 k l (a + t) t) (a + n, l')
  | 0, t, l, ht, hl, hv => by
    obtain rfl : t = n := by omega
    refine ⟨l, hl, hv, Ev.step (Ev.const (o := some (a + t, l)) rfl) fun k => ?_⟩
    rw [laws_markIntS.l0, if_neg (by omega)]
  | m + 1, t, l, ht, hl, hv => by
    obtain ⟨l', e1, e2, e3⟩ := mark_l0 n a h0 h1 hn m (t + 1) (l.set ((t : Nat) : Int).toNat (a + t)) (by omega) (by rw [List.length_set]; exact hl) (fun j h2 h3 => by
      rw [rd_set l t j (a + t) (by omega) (by omega) h2]
      split
      · rename_i e; rw [e]
      · exact hv j h2 (by omega))
    have hwt : wrap64 ((t : Int) + 1) = ((t + 1 : Nat) : Int) := by rw [w64 (by omega) (by omega)]; omega
    have hwa : wrap64 (a + (t : Int) + 1) = a + ((t + 1 : Nat) : Int) := by rw [w64 (by omega) (by omega)]; omega
    refine ⟨l', e1, e2, Ev.step e3 fun k => ?_⟩
    rw [laws_markIntS.l0, if_pos (by omega), if_pos (by omega), hwt, hwa]
theorem mark_ev (l : List Int) (a : Int) (h0 : 0 ≤ a) (h1 : a ≤ 1000000) (hn : l.length ≤ 1000000) : ∃ l', l'.length = l.length ∧ (∀ j : Int, 0 ≤ j → j < (l.length : Int) → rd l' j = a + j) ∧ Ev (fun k => laws_markIntS.f k l a) (a + l.length, l') := by
  obtain ⟨l', e1, e2, e3⟩ := mark_l0 l.length a h0 h1 hn l.length 0 l (by omega) rfl (fun j h2 h3 => by omega)
  refine ⟨l', e1, e2, Ev.congr e3 fun k => ?_⟩
  unfold laws_markIntS.f
  rw [show a + ((0 : Nat) : Int) = a by omega]
  rfl
theorem held_l0 (n : Nat) (a : Int) (h0 : 0 ≤ a) (h1 : a ≤ 1000000) (hn : n ≤ 1000000) (l : List Int) (hl : l.length = n) (hv : ∀ j : Int, 0 ≤ j → j < (n : Int) → rd l j = a + j) : ∀ (m t : Nat), t + m = n → Ev (fun k => laws_heldIntS.l0 k l (a + t) t) (a + n)
  | 0, t, ht => by
    obtain rfl : t = n := by omega
    refine Ev.step (Ev.const (o := some (a + (t : Int))) rfl) fun k => ?_
    rw [laws_heldIntS.l0, if_neg (by omega)]
  | m + 1, t, ht => by
    have ih := held_l0 n a h0 h1 hn l hl hv m (t + 1) (by omega)
    have hwt : wrap64 ((t : Int) + 1) = ((t + 1 : Nat) : Int) := by rw [w64 (by omega) (by omega)]; omega
    have hwa : wrap64 (a + (t : Int) + 1) = a + ((t + 1 : Nat) : Int) := by rw [w64 (by omega) (by omega)]; omega
    refine Ev.step ih fun k => ?_
    rw [laws_heldIntS.l0, if_pos (by omega), if_pos (by omega), hv t (by omega) (by omega), if_pos rfl, hwt, hwa]
theorem held_ev (l : List Int) (a : Int) (h0 : 0 ≤ a) (h1 : a ≤ 1000000) (hn : l.length ≤ 1000000) (hv : ∀ j : Int, 0 ≤ j → j < (l.length : Int) → rd l j = a + j) : Ev (fun k => laws_heldIntS.f k l a) (a + l.length) := by
  refine Ev.congr (held_l0 l.length a h0 h1 hn l rfl hv l.length 0 (by omega)) fun k => ?_
  unfold laws_heldIntS.f
  rw [show a + ((0 : Nat) : Int) = a by omega]
  rfl
theorem cellsR_len (s : ByteArray) : (cellsR s).1.length ≤ 36 := by
  unfold cellsR
  rcases ht : formOf s with _ | t
  · simp
  · have h1 := form_len (formOf_some ht).1
    have h2 := ballsTo_len t.2.2 t.2.2.length
    show (ballsTo t.2.2 t.2.2.length).length ≤ 36
    omega
end Go.Proofs.YtbplbbialcbceaaDoor.Q
