/- The law FnExactPieceAt, as the program tells it: true at every text and number. -/
import Derived.Test.YtbplbbialcbceaaDoorPform
import Derived.Test.YtbplbbialcbceaaDoorPlists
import Derived.Test.YtbplbbialcbceaaDoorPnum
import Derived.Test.YtbplbbialcbceaaDoorQPieceAt
namespace Go.Proofs.YtbplbbialcbceaaDoor.Q
open Go.RowKit Go.Proofs.YtbplbbialcbceaaDoorW.PrintWords Go.Proofs.YtbplbbialcbceaaDoorW.PrintLast Go.Proofs.YtbplbbialcbceaaDoorW.PrintMore
open Classical
/-- The piece with a ball in a cell. -/
noncomputable def PieceAtR (s : ByteArray) (a : Int) : List Int × Bool := match trayOf s with
  | none => ([], false)
  | some (w, h, cs) => if inCells cs a ∧ bI cs a = true then (comp w.toNat h.toNat cs (w.toNat * h.toNat) a, true) else ([], false)
theorem PieceAtR_len (s : ByteArray) (a : Int) : (PieceAtR s a).1.length ≤ 36 := by
  unfold PieceAtR
  rcases ht : trayOf s with _ | ⟨w, h, cs⟩
  · simp
  · obtain ⟨w', h', e, _, _, _, _, h1, _⟩ := trayOf_some ht
    injection e with e1 e2
    injection e2 with e2 e3
    subst e1 e2
    show (if _ then _ else _ : List Int × Bool).1.length ≤ 36
    split
    · have := comp_len (Int.toNat (w' : Int)) (Int.toNat (h' : Int)) cs (Int.toNat (w' : Int) * Int.toNat (h' : Int)) a
      simp only [Int.toNat_natCast] at this ⊢
      omega
    · simp
theorem skAt_ev (s : ByteArray) (a : Int) : ∃ g : Int × Int × List Int, Ev (fun k => spec_skAt.f k s a) (g.1, g.2.1, g.2.2, PieceAtR s a) := by
  have h1 := tyRead_ev s
  unfold PieceAtR
  rcases ht : trayOf s with _ | ⟨w, h, cs⟩
  · rw [ht] at h1
    refine ⟨(0, 0, []), Ev.bind h1 (Ev.step (g' := fun _ => some (0, 0, [], [], false)) (Ev.const rfl) fun k => ?_)⟩
    rfl
  · rw [ht] at h1
    obtain ⟨w, h, e, hw1, hw, hh1, hh, hs, hn⟩ := trayOf_some ht
    injection e with e1 e2
    injection e2 with e2 e3
    rw [← e3] at hn
    clear e3
    subst e1 e2
    refine ⟨(w, h, cs), ?_⟩
    refine Ev.bind (f := fun k bt102 => (if bt102.2.2.2 = true then ((spec_l1In.f a 0 (wrap64 ((bt102.2.2.1.length : Int) - 1))).bind fun t109 => (spec_skAt.j0 k a (!t109) bt102.1 bt102.2.1 bt102.2.2.1)) else (spec_skAt.j0 k a true bt102.1 bt102.2.1 bt102.2.2.1))) h1 ?_
    have hwl : wrap64 ((cs.length : Int) - 1) = (cs.length : Int) - 1 := w64 (by omega) (by omega)
    have hj : ∀ g r, Ev g r → (∀ k, spec_skAt.j0 (k + 1) a (!decide (inCells cs a)) w h cs = g k) → Ev (fun k => if (tellT (some ((w : Int), (h : Int), cs))).2.2.2 = true then ((spec_l1In.f a 0 (wrap64 (((tellT (some ((w : Int), (h : Int), cs))).2.2.1.length : Int) - 1))).bind fun t109 => (spec_skAt.j0 k a (!t109) (tellT (some ((w : Int), (h : Int), cs))).1 (tellT (some ((w : Int), (h : Int), cs))).2.1 (tellT (some ((w : Int), (h : Int), cs))).2.2.1)) else (spec_skAt.j0 k a true (tellT (some ((w : Int), (h : Int), cs))).1 (tellT (some ((w : Int), (h : Int), cs))).2.1 (tellT (some ((w : Int), (h : Int), cs))).2.2.1)) r := by
      intro g r hg he
      refine Ev.congr (Ev.step (g := fun k => spec_skAt.j0 k a (!decide (inCells cs a)) w h cs) hg he) fun k => ?_
      show (if true = true then (spec_l1In.f a 0 (wrap64 ((cs.length : Int) - 1))).bind _ else _) = _
      rw [if_pos rfl, hwl, l1In_eq, Option.bind_some, inCells_eq]
      rfl
    by_cases hc : inCells cs a
    · obtain ⟨L, ho, hp⟩ := pieces_ev hw hh hs hn
      have ha := hc
      unfold inCells at ha
      have hml := mins_len w h cs (w * h)
      have hsl := skLists_ev L (mins w h cs (w * h)).length (by rw [ho.len]; exact hs) (by omega)
      have c0 : 0 ≤ a := ha.1
      have c1 : a < (L.length : Int) := by rw [ho.len]; omega
      have c2 : a < ((w * h : Nat) : Int) := by omega
      have hball := OI.ball hw hh hs ho c0 c2
      simp only [Int.toNat_natCast]
      by_cases hb : bI cs a = true
      · have hl := hball.2 hb
        have hlt : rd L a < ((mins w h cs (w * h)).length : Int) := by
          obtain ⟨m, m1, m2, _, m4⟩ := ho.lab a c0 c2 hl
          have := mins_lt hw hh hs m2 m1
          omega
        have hx := lists_get L (mins w h cs (w * h)).length (rd L a) hl hlt
        rw [OI.idxs_eq hw hh hs ho c0 c2 hl] at hx
        have hll : ((lists L (mins w h cs (w * h)).length).length : Int) = (mins w h cs (w * h)).length := by
          unfold lists
          rw [List.length_map, List.length_range]
        refine hj (fun k => (spec_skPieces.f k w h cs).bind fun bt110 => (if 0 ≤ a then (if a < (bt110.1.length : Int) then (if (rd bt110.1 a) < 0 then (some ((w : Int), (h : Int), cs, ([] : List Int), false)) else ((spec_skLists.f k bt110.1 bt110.2).bind fun t115 => (if 0 ≤ (rd bt110.1 a) then (if (rd bt110.1 a) < (t115.length : Int) then (some ((w : Int), (h : Int), cs, t115.getD (rd bt110.1 a).toNat [], true)) else (none)) else (none)))) else (none)) else (none))) _ ?_ (fun k => ?_)
        · refine Ev.bind hp ?_
          refine Ev.congr (Ev.bind (f := fun _ (t115 : List (List Int)) => (if 0 ≤ (rd L a) then (if (rd L a) < (t115.length : Int) then (some ((w : Int), (h : Int), cs, t115.getD (rd L a).toNat [], true)) else (none)) else (none))) hsl (Ev.const ?_)) fun k => ?_
          · rw [if_pos hl, if_pos (by rw [hll]; exact hlt), hx, if_pos ⟨hc, hb⟩]
          · show (if 0 ≤ a then (if a < (L.length : Int) then (if rd L a < 0 then _ else _) else _) else _) = _
            rw [if_pos c0, if_pos c1, if_neg (by omega)]
        · rw [spec_skAt.j0, decide_eq_true hc, if_neg (by decide)]
          rfl
      · have hl : rd L a < 0 := Int.not_le.1 fun h2 => hb (hball.1 h2)
        refine hj (fun k => (spec_skPieces.f k w h cs).bind fun bt110 => (if 0 ≤ a then (if a < (bt110.1.length : Int) then (if (rd bt110.1 a) < 0 then (some ((w : Int), (h : Int), cs, ([] : List Int), false)) else ((spec_skLists.f k bt110.1 bt110.2).bind fun t115 => (if 0 ≤ (rd bt110.1 a) then (if (rd bt110.1 a) < (t115.length : Int) then (some ((w : Int), (h : Int), cs, t115.getD (rd bt110.1 a).toNat [], true)) else (none)) else (none)))) else (none)) else (none))) _ ?_ (fun k => ?_)
        · refine Ev.bind hp (Ev.congr (Ev.const (o := some ((w : Int), (h : Int), cs, ([] : List Int), false)) ?_) fun k => ?_)
          · rw [if_neg fun h2 => hb h2.2]
          · rw [if_pos c0, if_pos c1, if_pos hl]
        · rw [spec_skAt.j0, decide_eq_true hc, if_neg (by decide)]
          rfl
    · refine hj (fun _ => some ((w : Int), (h : Int), cs, ([] : List Int), false)) _ (Ev.const ?_) fun k => ?_
      · simp only [if_neg (show ¬ (inCells cs a ∧ bI cs a = true) from fun h2 => hc h2.1)]
      · rw [spec_skAt.j0, decide_eq_false hc]
        rfl
theorem specPieceAt_ev (s : ByteArray) (a : Int) : Ev (fun k => spec_PieceAt.f k s a) (PieceAtR s a) := by
  obtain ⟨g, h1⟩ := skAt_ev s a
  exact Ev.bind (f := fun _ bt101 => some (bt101.2.2.2.1, bt101.2.2.2.2)) h1 (Ev.const rfl)
section
variable {w h : Nat} {cs : List Int} (hw : w ≤ 7) (hh : h ≤ 7) (hs : w * h ≤ 36)
include hw hh hs
theorem pa_walk (a : Int) (h0 : 0 ≤ a) (h1 : a < ((w * h : Nat) : Int)) : ∀ (m i : Nat), i + m = (mins w h cs (w * h)).length → Ev (fun k => impl_PieceAt.l0 k a (parts w h cs (w * h)) ((parts w h cs (w * h)).length : Int) i)
    (if ∃ j ∈ (mins w h cs (w * h)).drop i, Rch w h cs (j : Nat) a then (comp w h cs (w * h) a, true) else ([], false))
  | 0, i, hi => by
    rw [List.drop_eq_nil_of_le (by omega), if_neg (by simp)]
    have hpl : (parts w h cs (w * h)).length = (mins w h cs (w * h)).length := by unfold parts; rw [List.length_map]
    refine Ev.step (Ev.const (o := some (([] : List Int), false)) rfl) fun k => ?_
    rw [impl_PieceAt.l0, if_neg (by omega)]
  | m + 1, i, hi => by
    have ih := pa_walk a h0 h1 m (i + 1) (by omega)
    have hpl : (parts w h cs (w * h)).length = (mins w h cs (w * h)).length := by unfold parts; rw [List.length_map]
    have hml := mins_len w h cs (w * h)
    have hlt : i < (mins w h cs (w * h)).length := by omega
    have hwi : wrap64 ((i : Int) + 1) = ((i + 1 : Nat) : Int) := by rw [w64 (by omega) (by omega)]; omega
    rw [List.drop_eq_getElem_cons hlt]
    have hrd : (parts w h cs (w * h)).getD i [] = comp w h cs (w * h) ((mins w h cs (w * h))[i] : Nat) := by
      unfold parts
      rw [List.getD_eq_getElem?_getD, List.getElem?_map, List.getElem?_eq_getElem hlt]
      rfl
    generalize (mins w h cs (w * h))[i] = q at hrd ⊢
    have hcl := comp_len w h cs (w * h) (q : Int)
    have hct := contains_ev (comp w h cs (w * h) (q : Int)) a (by omega)
    have hmem := mem_comp hw hh hs (cs := cs) (u := (q : Int)) h0 h1
    have hstep : ∀ K, Ev (fun k => if decide (a ∈ comp w h cs (w * h) (q : Int)) = true then some (comp w h cs (w * h) (q : Int), true) else impl_PieceAt.l0 k a (parts w h cs (w * h)) ((parts w h cs (w * h)).length : Int) ((i + 1 : Nat) : Int)) K → Ev (fun k => impl_PieceAt.l0 k a (parts w h cs (w * h)) ((parts w h cs (w * h)).length : Int) i) K := by
      intro K hK
      refine Ev.step (Ev.bind (f := fun k (t114 : Bool) => (if t114 = true then some (comp w h cs (w * h) (q : Int), true) else impl_PieceAt.l0 k a (parts w h cs (w * h)) ((parts w h cs (w * h)).length : Int) ((i + 1 : Nat) : Int))) hct hK) fun k => ?_
      rw [impl_PieceAt.l0, if_pos (by omega), if_pos (by omega), if_pos (by omega), hwi]
      show (slices_Contains_int_int.f k ((parts w h cs (w * h)).getD (Int.toNat (i : Int)) []) a).bind (fun t114 => if t114 = true then some ((parts w h cs (w * h)).getD (Int.toNat (i : Int)) [], true) else _) = _
      rw [Int.toNat_natCast, hrd]
    by_cases hr : Rch w h cs (q : Int) a
    · rw [if_pos ⟨q, List.mem_cons_self, hr⟩, ← comp_same hw hh hs hr]
      refine hstep _ (Ev.congr (Ev.const (o := some (comp w h cs (w * h) (q : Int), true)) rfl) fun k => ?_)
      rw [if_pos (decide_eq_true (hmem.2 hr))]
    · rw [ite_iff (show (∃ j ∈ q :: (mins w h cs (w * h)).drop (i + 1), Rch w h cs (j : Nat) a) ↔ ∃ j ∈ (mins w h cs (w * h)).drop (i + 1), Rch w h cs (j : Nat) a by
        constructor
        · rintro ⟨j, hj, h2⟩
          rcases List.mem_cons.1 hj with e | e
          · subst e
            exact absurd h2 hr
          · exact ⟨j, e, h2⟩
        · rintro ⟨j, hj, h2⟩
          exact ⟨j, List.mem_cons_of_mem _ hj, h2⟩)]
      refine hstep _ (Ev.congr ih fun k => ?_)
      rw [if_neg (by simpa using fun h2 => hr (hmem.1 h2))]
end
theorem implPieceAt_ev (s : ByteArray) (a : Int) (hs : s.size ≤ 1048576) : Ev (fun k => impl_PieceAt.f k s a) (PieceAtR s a) := by
  refine Ev.bind (f := fun k (t104 : Bool) => (if t104 = true then ((impl_read.f s).bind fun bt105 => ((impl_tray_pieces.f k bt105.1 bt105.2.1 bt105.2.2).bind fun t110 => (impl_PieceAt.l0 k a t110 (t110.length : Int) 0))) else (some (([] : List Int), false)))) (isNumber_ev s hs [a] (by simp)) ?_
  unfold PieceAtR
  rcases ht : trayOf s with _ | ⟨w, h, cs⟩
  · refine Ev.congr (Ev.const (o := some (([] : List Int), false)) rfl) fun k => ?_
    show (if false = true then _ else _) = _
    exact if_neg (by decide)
  · have hread : impl_read.f s = trayOf s := ((trayOf_row s).resolve_left (by rw [ht]; exact fun e => nomatch e)).2
    rw [ht] at hread
    obtain ⟨w, h, e, hw1, hw, hh1, hh, hs2, hn⟩ := trayOf_some ht
    injection e with e1 e2
    injection e2 with e2 e3
    rw [← e3] at hn
    clear e3
    subst e1 e2
    show Ev (fun k => if allCells cs [a] = true then _ else _) (if _ then _ else _)
    by_cases hc : inCells cs a
    · have e4 : allCells cs [a] = true := by simp [allCells, hc]
      have ha := hc
      unfold inCells at ha
      have hw0 := pa_walk hw hh hs2 (cs := cs) a ha.1 (by omega) (mins w h cs (w * h)).length 0 (by omega)
      have hbm := ball_min hw hh hs2 hn (u := a) ha.1 (by omega)
      rw [List.drop_zero] at hw0
      simp only [Int.toNat_natCast]
      rw [ite_iff (show (inCells cs a ∧ bI cs a = true) ↔ ∃ j ∈ mins w h cs (w * h), Rch w h cs (j : Nat) a by rw [← hbm]; exact ⟨fun h2 => h2.2, fun h2 => ⟨hc, h2⟩⟩)]
      refine Ev.congr (Ev.bind (f := fun k (t110 : List (List Int)) => impl_PieceAt.l0 k a t110 (t110.length : Int) 0) (parts_ev hw hh hs2 hn) hw0) fun k => ?_
      rw [if_pos e4, hread]
      rfl
    · have e4 : allCells cs [a] = false := by simp [allCells, hc]
      rw [if_neg fun h2 => hc h2.1]
      refine Ev.congr (Ev.const (o := some (([] : List Int), false)) rfl) fun k => ?_
      rw [e4, if_neg (by decide)]
theorem lawPieceAt_ev (s : ByteArray) (a : Int) : Ev (fun k => laws_FnExactPieceAt.f k s a) true := by
  by_cases hs : s.size ≤ 1048576
  case neg =>
    refine Ev.congr (Ev.const (o := some true) rfl) fun k => ?_
    unfold laws_FnExactPieceAt.f
    exact if_pos (by omega)
  have hsp := specPieceAt_ev s a
  have him := implPieceAt_ev s a hs
  have hl := PieceAtR_len s a
  obtain ⟨l, hl1, hl2, hmk⟩ := mark_ev (PieceAtR s a).1 1 (by omega) (by omega) (by omega)
  have hhd := held_ev l 1 (by omega) (by omega) (by omega) (by rw [hl1]; exact hl2)
  have heq := eqInts_ev (PieceAtR s a).1 (by omega)
  have e0 : (1 : Int) + l.length = 1 + (PieceAtR s a).1.length := by rw [hl1]
  rw [e0] at hhd
  have c1 : ¬ (1 : Int) + (PieceAtR s a).1.length < 0 := by omega
  have hj1 : Ev (fun k => laws_FnExactPieceAt.j1 k l (1 + (PieceAtR s a).1.length) false) true := by
    refine Ev.step (Ev.bind (f := fun _ t118 => (if t118 < 0 then (some false) else (if t118 = (1 : Int) + (PieceAtR s a).1.length then (some true) else (some false)))) hhd (Ev.const ?_)) fun k => ?_
    · rw [if_neg c1, if_pos rfl]
    · rw [laws_FnExactPieceAt.j1, if_neg (by decide)]
  have hj0 : Ev (fun k => laws_FnExactPieceAt.j0 k s a (PieceAtR s a).1 (PieceAtR s a).2 (PieceAtR s a).1 false) true := by
    refine Ev.step (Ev.bind (f := fun k bt110 => ((laws_heldIntS.f k bt110.2 1).bind fun t112 => (if t112 < 0 then (some false) else (if t112 = bt110.1 then ((impl_PieceAt.f k s a).bind fun bt113 => ((laws_eqIntS.f k bt113.1 (PieceAtR s a).1).bind fun t117 => (if t117 = true then (laws_FnExactPieceAt.j1 k bt110.2 bt110.1 (bt113.2 != (PieceAtR s a).2)) else (laws_FnExactPieceAt.j1 k bt110.2 bt110.1 true)))) else (some false))))) hmk ?_) fun k => ?_
    · refine Ev.bind (f := fun k t112 => (if t112 < 0 then (some false) else (if t112 = (1 : Int) + (PieceAtR s a).1.length then ((impl_PieceAt.f k s a).bind fun bt113 => ((laws_eqIntS.f k bt113.1 (PieceAtR s a).1).bind fun t117 => (if t117 = true then (laws_FnExactPieceAt.j1 k l (1 + (PieceAtR s a).1.length) (bt113.2 != (PieceAtR s a).2)) else (laws_FnExactPieceAt.j1 k l (1 + (PieceAtR s a).1.length) true)))) else (some false)))) hhd ?_
      refine Ev.congr (Ev.bind (f := fun k bt113 => ((laws_eqIntS.f k bt113.1 (PieceAtR s a).1).bind fun t117 => (if t117 = true then (laws_FnExactPieceAt.j1 k l (1 + (PieceAtR s a).1.length) (bt113.2 != (PieceAtR s a).2)) else (laws_FnExactPieceAt.j1 k l (1 + (PieceAtR s a).1.length) true)))) him ?_) fun k => ?_
      · refine Ev.bind (f := fun k t117 => (if t117 = true then (laws_FnExactPieceAt.j1 k l (1 + (PieceAtR s a).1.length) ((PieceAtR s a).2 != (PieceAtR s a).2)) else (laws_FnExactPieceAt.j1 k l (1 + (PieceAtR s a).1.length) true))) heq ?_
        refine Ev.congr hj1 fun k => ?_
        rw [if_pos rfl, bne_self_eq_false]
      · rw [if_neg c1, if_pos rfl]
    · rw [laws_FnExactPieceAt.j0, if_neg (by decide)]
  refine Ev.congr (Ev.bind (f := fun k (bt101 : List Int × Bool) => ((impl_PieceAt.f k s a).bind fun bt105 => ((laws_eqIntS.f k bt105.1 bt101.1).bind fun t109 => (if t109 = true then (laws_FnExactPieceAt.j0 k s a bt101.1 bt101.2 bt105.1 (bt105.2 != bt101.2)) else (laws_FnExactPieceAt.j0 k s a bt101.1 bt101.2 bt105.1 true))))) hsp ?_) fun k => by unfold laws_FnExactPieceAt.f; rw [if_neg (by omega)]
  refine Ev.bind (f := fun k bt105 => ((laws_eqIntS.f k bt105.1 (PieceAtR s a).1).bind fun t109 => (if t109 = true then (laws_FnExactPieceAt.j0 k s a (PieceAtR s a).1 (PieceAtR s a).2 bt105.1 (bt105.2 != (PieceAtR s a).2)) else (laws_FnExactPieceAt.j0 k s a (PieceAtR s a).1 (PieceAtR s a).2 bt105.1 true)))) him ?_
  refine Ev.bind (f := fun k t109 => (if t109 = true then (laws_FnExactPieceAt.j0 k s a (PieceAtR s a).1 (PieceAtR s a).2 (PieceAtR s a).1 ((PieceAtR s a).2 != (PieceAtR s a).2)) else (laws_FnExactPieceAt.j0 k s a (PieceAtR s a).1 (PieceAtR s a).2 (PieceAtR s a).1 true))) heq ?_
  refine Ev.congr hj0 fun k => ?_
  rw [if_pos rfl, bne_self_eq_false]
end Go.Proofs.YtbplbbialcbceaaDoor.Q
