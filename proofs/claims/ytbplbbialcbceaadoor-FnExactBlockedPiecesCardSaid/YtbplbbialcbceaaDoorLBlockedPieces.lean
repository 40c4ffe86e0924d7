/- The law FnExactBlockedPieces, as the program tells it: true at every two texts. -/
import Derived.Test.YtbplbbialcbceaaDoorPblocked
import Derived.Test.YtbplbbialcbceaaDoorPdir
import Derived.Test.YtbplbbialcbceaaDoorQBlockedPieces
namespace Go.Proofs.YtbplbbialcbceaaDoor.Q
set_option linter.unusedSectionVars false
open Go.RowKit Go.Proofs.YtbplbbialcbceaaDoorW.PrintWords Go.Proofs.YtbplbbialcbceaaDoorW.PrintLast Go.Proofs.YtbplbbialcbceaaDoorW.PrintMore
open Classical
/-- The true places of a list, in order. -/
def trues (l : List Bool) (t : Nat) : List Int := ((List.range t).filter fun j : Nat => rdOf false l (j : Int)).map fun j : Nat => (j : Int)
theorem trues_succ (l : List Bool) (t : Nat) : trues l (t + 1) = if rdOf false l (t : Int) = true then trues l t ++ [(t : Int)] else trues l t := by
  unfold trues
  rw [List.range_succ, List.filter_append, List.map_append]
  by_cases h : rdOf false l (t : Int) = true
  · rw [if_pos h]; simp [h]
  · rw [if_neg h]; simp [h]
theorem trues_len (l : List Bool) (t : Nat) : (trues l t).length ≤ t := by
  unfold trues
  rw [List.length_map]
  have := List.length_filter_le (fun j : Nat => rdOf false l (j : Int)) (List.range t)
  rw [List.length_range] at this
  exact this
theorem sBP_l0 (l : List Bool) (hl : l.length ≤ 36) : ∀ (m t : Nat), t + m = l.length → Ev (fun k => spec_BlockedPieces.l0 k (trues l t) l l.length t) (trues l l.length, true)
  | 0, t, ht => by
    obtain rfl : t = l.length := by omega
    refine Ev.step (Ev.const rfl) fun k => ?_
    rw [spec_BlockedPieces.l0, if_neg (by omega)]
  | m + 1, t, ht => by
    have ih := sBP_l0 l hl m (t + 1) (by omega)
    have htl := trues_len l t
    have c0 : (0 : Int) ≤ (t : Int) := Int.natCast_nonneg t
    have c1 : (t : Int) < (l.length : Int) := by omega
    have c2 : (trues l t).length < 17592186044416 := Nat.lt_of_le_of_lt (Nat.le_trans htl (show t ≤ 36 by omega)) (by decide)
    rw [trues_succ] at ih
    refine Ev.step ih fun k => ?_
    rw [spec_BlockedPieces.l0, if_pos c1, if_pos c0, if_pos c1, w64t t (by omega)]
    by_cases h : rdOf false l (t : Int) = true
    · rw [if_pos h, if_pos h, if_pos c2]
    · rw [if_neg h, if_neg h]
theorem iBP_l0 (l : List Bool) (hl : l.length ≤ 36) : ∀ (m t : Nat), t + m = l.length → Ev (fun k => impl_BlockedPieces.l0 k (trues l t) l l.length t) (trues l l.length, true)
  | 0, t, ht => by
    obtain rfl : t = l.length := by omega
    refine Ev.step (Ev.const rfl) fun k => ?_
    rw [impl_BlockedPieces.l0, if_neg (by omega)]
  | m + 1, t, ht => by
    have ih := iBP_l0 l hl m (t + 1) (by omega)
    have htl := trues_len l t
    have c0 : (0 : Int) ≤ (t : Int) := Int.natCast_nonneg t
    have c1 : (t : Int) < (l.length : Int) := by omega
    have c2 : (trues l t).length < 17592186044416 := Nat.lt_of_le_of_lt (Nat.le_trans htl (show t ≤ 36 by omega)) (by decide)
    rw [trues_succ] at ih
    refine Ev.step ih fun k => ?_
    rw [impl_BlockedPieces.l0, if_pos c1, if_pos c0, if_pos c1, w64t t (by omega)]
    by_cases h : rdOf false l (t : Int) = true
    · rw [if_pos h, if_pos h, if_pos c2]
    · rw [if_neg h, if_neg h]
/-- The blocked pieces of a tray in a direction. -/
noncomputable def blkOf (w h : Nat) (cs : List Int) (d : Nat) : List Bool := (impl_tray_blocked.f w h cs (parts w h cs (w * h)) (dirC d)).getD []
noncomputable def BlockedPiecesR (t s : ByteArray) : List Int × Bool := match trayOf t with
  | none => ([], false)
  | some (w, h, cs) => if 0 ≤ dirI s then (trues (blkOf w.toNat h.toNat cs (dirI s).toNat) (blkOf w.toNat h.toNat cs (dirI s).toNat).length, true) else ([], false)
theorem blkOf_eq {w h : Nat} {cs : List Int} (hw : w ≤ 7) (hh : h ≤ 7) (hs : w * h ≤ 36) (hn : cs.length = w * h) {d : Nat} (hd : d < 4) {L : List Int} (ho : OI w h cs L (w * h)) : impl_tray_blocked.f w h cs (parts w h cs (w * h)) (dirC d) = some (blkOf w h cs d) ∧ blkOf w h cs d = blkL (w * h) (mins w h cs (w * h)).length (lb L) (aA w h cs d) := by
  unfold blkOf
  rw [blocked_eq hw hh hs hn hd ho]
  exact ⟨rfl, rfl⟩
theorem blkOf_len {w h : Nat} {cs : List Int} (hw : w ≤ 7) (hh : h ≤ 7) (hs : w * h ≤ 36) (hn : cs.length = w * h) {d : Nat} (hd : d < 4) : (blkOf w h cs d).length ≤ 36 := by
  obtain ⟨L, ho, _⟩ := pieces_ev hw hh hs hn
  rw [(blkOf_eq hw hh hs hn hd ho).2]
  unfold blkL
  rw [List.length_map, List.length_range]
  exact Nat.le_trans (mins_len w h cs (w * h)) hs
theorem dirI_nat {s : ByteArray} (h : 0 ≤ dirI s) : ∃ d : Nat, d < 4 ∧ dirI s = d ∧ s = ⟨#[dirB d]⟩ := by
  rcases dirI_cases s with ⟨e, _⟩ | ⟨d, hd4, e, e2⟩
  · omega
  · exact ⟨d, hd4, e, one_byte_of e2⟩
theorem BlockedPiecesR_len (t s : ByteArray) : (BlockedPiecesR t s).1.length ≤ 36 := by
  unfold BlockedPiecesR
  rcases ht : trayOf t with _ | ⟨w, h, cs⟩
  · simp
  · obtain ⟨w, h, e, hw1, hw, hh1, hh, hs, hn⟩ := trayOf_some ht
    injection e with e1 e2
    injection e2 with e2 e3
    rw [← e3] at hn
    clear e3
    subst e1 e2
    show (if 0 ≤ dirI s then _ else _ : List Int × Bool).1.length ≤ 36
    by_cases hd : 0 ≤ dirI s
    · rw [if_pos hd]
      obtain ⟨d, hd4, e, _⟩ := dirI_nat hd
      rw [e]
      exact Nat.le_trans (trues_len _ _) (blkOf_len hw hh hs hn hd4)
    · rw [if_neg hd]
      simp
theorem specBlockedPieces_ev (t s : ByteArray) : Ev (fun k => spec_BlockedPieces.f k t s) (BlockedPiecesR t s) := by
  have h1 := tyRead_ev t
  have h2 := tiDir_ev s
  unfold BlockedPiecesR
  rcases ht : trayOf t with _ | ⟨w, h, cs⟩
  · rw [ht] at h1
    refine Ev.bind (f := fun k (bt101 : Int × Int × List Int × Int × Bool) => (if bt101.2.2.2.2 = true then ((spec_skPieces.f k bt101.1 bt101.2.1 bt101.2.2.1).bind fun bt109 => ((spec_skBlocked.f k bt101.1 bt101.2.1 bt101.2.2.1 bt109.1 bt109.2 bt101.2.2.2.1).bind fun t113 => (spec_BlockedPieces.l0 k ([] : List Int) t113 (t113.length : Int) 0))) else (some (([] : List Int), false)))) (a := (0, 0, [], dirI s, false)) (Ev.bind h1 (Ev.bind h2 (Ev.const rfl))) (Ev.const rfl)
  · rw [ht] at h1
    obtain ⟨w, h, e, hw1, hw, hh1, hh, hs, hn⟩ := trayOf_some ht
    injection e with e1 e2
    injection e2 with e2 e3
    rw [← e3] at hn
    clear e3
    subst e1 e2
    show Ev _ (if 0 ≤ dirI s then _ else _)
    refine Ev.bind (f := fun k (bt101 : Int × Int × List Int × Int × Bool) => (if bt101.2.2.2.2 = true then ((spec_skPieces.f k bt101.1 bt101.2.1 bt101.2.2.1).bind fun bt109 => ((spec_skBlocked.f k bt101.1 bt101.2.1 bt101.2.2.1 bt109.1 bt109.2 bt101.2.2.2.1).bind fun t113 => (spec_BlockedPieces.l0 k ([] : List Int) t113 (t113.length : Int) 0))) else (some (([] : List Int), false)))) (a := ((w : Int), (h : Int), cs, dirI s, decide (dirI s ≥ 0))) (Ev.bind h1 (Ev.bind h2 (Ev.const rfl))) ?_
    by_cases hd : 0 ≤ dirI s
    · obtain ⟨d, hd4, e, _⟩ := dirI_nat hd
      rw [if_pos hd, e]
      simp only [Int.toNat_natCast]
      obtain ⟨L, ho, hp⟩ := pieces_ev hw hh hs hn
      have hsk := skBlocked_ev hw hh hs hn hd4 (L := L) (n := (mins w h cs (w * h)).length) (Nat.le_trans (mins_len w h cs (w * h)) hs) ho.len (fun i hi => lab_lt hw hh hs hn ho i hi)
      rw [← (blkOf_eq hw hh hs hn hd4 ho).2] at hsk
      have hl := blkOf_len hw hh hs hn (cs := cs) hd4
      have h3 := Ev.bind (f := fun k t113 => spec_BlockedPieces.l0 k ([] : List Int) t113 (t113.length : Int) 0) hsk (sBP_l0 _ hl _ 0 (Nat.zero_add _))
      have h4 := Ev.bind (f := fun k (bt109 : List Int × Int) => ((spec_skBlocked.f k w h cs bt109.1 bt109.2 d).bind fun t113 => (spec_BlockedPieces.l0 k ([] : List Int) t113 (t113.length : Int) 0))) hp h3
      exact Ev.congr h4 fun k => if_pos (decide_eq_true (show (d : Int) ≥ 0 by omega))
    · rw [if_neg hd]
      exact Ev.congr (Ev.const rfl) fun k => if_neg (by simpa using hd)
theorem bt_dir : ∀ d : Fin 4, (0 : Int) < ((⟨#[dirB d.val]⟩ : ByteArray).size : Int) ∧ bt (⟨#[dirB d.val]⟩ : ByteArray) 0 = dirC d.val := by decide
theorem implBlockedPieces_ev (t s : ByteArray) (ht0 : t.size ≤ 1048576) (_hs0 : s.size ≤ 1048576) : Ev (fun k => impl_BlockedPieces.f k t s) (BlockedPiecesR t s) := by
  refine Ev.bind (f := fun k (t101 : Bool) => (if t101 = true then ((impl_read.f t).bind fun bt102 => ((impl_tray_pieces.f k bt102.1 bt102.2.1 bt102.2.2).bind fun t111 => (if 0 < (s.size : Int) then ((impl_tray_blocked.f bt102.1 bt102.2.1 bt102.2.2 t111 (bt s 0)).bind fun t114 => (impl_BlockedPieces.l0 k (([] : List Int)) t114 (t114.length : Int) 0)) else (none)))) else (some (([] : List Int), false)))) (isTilted_ev t s ht0) ?_
  unfold BlockedPiecesR
  rcases ht : trayOf t with _ | ⟨w, h, cs⟩
  · exact Ev.const rfl
  · have hread : impl_read.f t = some (w, h, cs) := by
      rw [← ht]
      exact ((trayOf_row t).resolve_left (by rw [ht]; exact fun e => nomatch e)).2
    obtain ⟨w, h, e, hw1, hw, hh1, hh, hs, hn⟩ := trayOf_some ht
    injection e with e1 e2
    injection e2 with e2 e3
    rw [← e3] at hn
    clear e3
    subst e1 e2
    show Ev _ (if 0 ≤ dirI s then _ else _)
    by_cases hd : 0 ≤ dirI s
    · obtain ⟨d, hd4, e, rfl⟩ := dirI_nat hd
      rw [if_pos hd, e]
      simp only [Int.toNat_natCast]
      obtain ⟨L, ho, _⟩ := pieces_ev hw hh hs hn
      have hbl := (blkOf_eq hw hh hs hn hd4 ho).1
      have hl := blkOf_len hw hh hs hn (cs := cs) hd4
      obtain ⟨b1, b2⟩ := bt_dir ⟨d, hd4⟩
      simp only at b1 b2
      refine Ev.congr (Ev.bind (f := fun k t111 => (if 0 < ((⟨#[dirB d]⟩ : ByteArray).size : Int) then ((impl_tray_blocked.f w h cs t111 (bt ⟨#[dirB d]⟩ 0)).bind fun t114 => (impl_BlockedPieces.l0 k (([] : List Int)) t114 (t114.length : Int) 0)) else (none))) (parts_ev hw hh hs hn) ?_) fun k => ?_
      · refine Ev.congr (iBP_l0 _ hl _ 0 (Nat.zero_add _)) fun k => ?_
        rw [if_pos b1, b2, hbl]
        rfl
      · rw [if_pos (by rw [Option.isSome_some, Bool.true_and]; exact decide_eq_true (by omega)), hread]
        rfl
    · rw [if_neg hd]
      exact Ev.congr (Ev.const rfl) fun k => if_neg (by rw [decide_eq_false hd]; simp)
theorem lawBlockedPieces_ev (t : ByteArray) (s : ByteArray) : Ev (fun k => laws_FnExactBlockedPieces.f k t s) true := by
  by_cases ht : t.size ≤ 1048576
  case neg =>
    refine Ev.congr (Ev.const (o := some true) rfl) fun k => ?_
    unfold laws_FnExactBlockedPieces.f
    exact if_pos (by omega)
  by_cases hs : s.size ≤ 1048576
  case neg =>
    refine Ev.congr (Ev.const (o := some true) rfl) fun k => ?_
    unfold laws_FnExactBlockedPieces.f
    rw [if_neg (by omega)]
    exact if_pos (by omega)
  have hsp := specBlockedPieces_ev t s
  have him := implBlockedPieces_ev t s ht hs
  have hl := BlockedPiecesR_len t s
  obtain ⟨l, hl1, hl2, hmk⟩ := mark_ev (BlockedPiecesR t s).1 1 (by omega) (by omega) (by omega)
  have hhd := held_ev l 1 (by omega) (by omega) (by omega) (by rw [hl1]; exact hl2)
  have heq := eqInts_ev (BlockedPiecesR t s).1 (by omega)
  have e0 : (1 : Int) + l.length = 1 + (BlockedPiecesR t s).1.length := by rw [hl1]
  rw [e0] at hhd
  have c1 : ¬ (1 : Int) + (BlockedPiecesR t s).1.length < 0 := by omega
  have hj1 : Ev (fun k => laws_FnExactBlockedPieces.j1 k l (1 + (BlockedPiecesR t s).1.length) false) true := by
    refine Ev.step (Ev.bind (f := fun _ t118 => (if t118 < 0 then (some false) else (if t118 = (1 : Int) + (BlockedPiecesR t s).1.length then (some true) else (some false)))) hhd (Ev.const ?_)) fun k => ?_
    · rw [if_neg c1, if_pos rfl]
    · rw [laws_FnExactBlockedPieces.j1, if_neg (by decide)]
  have hj0 : Ev (fun k => laws_FnExactBlockedPieces.j0 k t s (BlockedPiecesR t s).1 (BlockedPiecesR t s).2 (BlockedPiecesR t s).1 false) true := by
    refine Ev.step (Ev.bind (f := fun k bt110 => ((laws_heldIntS.f k bt110.2 1).bind fun t112 => (if t112 < 0 then (some false) else (if t112 = bt110.1 then ((impl_BlockedPieces.f k t s).bind fun bt113 => ((laws_eqIntS.f k bt113.1 (BlockedPiecesR t s).1).bind fun t117 => (if t117 = true then (laws_FnExactBlockedPieces.j1 k bt110.2 bt110.1 (bt113.2 != (BlockedPiecesR t s).2)) else (laws_FnExactBlockedPieces.j1 k bt110.2 bt110.1 true)))) else (some false))))) hmk ?_) fun k => ?_
    · refine Ev.bind (f := fun k t112 => (if t112 < 0 then (some false) else (if t112 = (1 : Int) + (BlockedPiecesR t s).1.length then ((impl_BlockedPieces.f k t s).bind fun bt113 => ((laws_eqIntS.f k bt113.1 (BlockedPiecesR t s).1).bind fun t117 => (if t117 = true then (laws_FnExactBlockedPieces.j1 k l (1 + (BlockedPiecesR t s).1.length) (bt113.2 != (BlockedPiecesR t s).2)) else (laws_FnExactBlockedPieces.j1 k l (1 + (BlockedPiecesR t s).1.length) true)))) else (some false)))) hhd ?_
      refine Ev.congr (Ev.bind (f := fun k bt113 => ((laws_eqIntS.f k bt113.1 (BlockedPiecesR t s).1).bind fun t117 => (if t117 = true then (laws_FnExactBlockedPieces.j1 k l (1 + (BlockedPiecesR t s).1.length) (bt113.2 != (BlockedPiecesR t s).2)) else (laws_FnExactBlockedPieces.j1 k l (1 + (BlockedPiecesR t s).1.length) true)))) him ?_) fun k => ?_
      · refine Ev.bind (f := fun k t117 => (if t117 = true then (laws_FnExactBlockedPieces.j1 k l (1 + (BlockedPiecesR t s).1.length) ((BlockedPiecesR t s).2 != (BlockedPiecesR t s).2)) else (laws_FnExactBlockedPieces.j1 k l (1 + (BlockedPiecesR t s).1.length) true))) heq ?_
        refine Ev.congr hj1 fun k => ?_
        rw [if_pos rfl, bne_self_eq_false]
      · rw [if_neg c1, if_pos rfl]
    · rw [laws_FnExactBlockedPieces.j0, if_neg (by decide)]
  refine Ev.congr (Ev.bind (f := fun k (bt101 : List Int × Bool) => ((impl_BlockedPieces.f k t s).bind fun bt105 => ((laws_eqIntS.f k bt105.1 bt101.1).bind fun t109 => (if t109 = true then (laws_FnExactBlockedPieces.j0 k t s bt101.1 bt101.2 bt105.1 (bt105.2 != bt101.2)) else (laws_FnExactBlockedPieces.j0 k t s bt101.1 bt101.2 bt105.1 true))))) hsp ?_) fun k => by unfold laws_FnExactBlockedPieces.f; rw [if_neg (by omega), if_neg (by omega)]
  refine Ev.bind (f := fun k bt105 => ((laws_eqIntS.f k bt105.1 (BlockedPiecesR t s).1).bind fun t109 => (if t109 = true then (laws_FnExactBlockedPieces.j0 k t s (BlockedPiecesR t s).1 (BlockedPiecesR t s).2 bt105.1 (bt105.2 != (BlockedPiecesR t s).2)) else (laws_FnExactBlockedPieces.j0 k t s (BlockedPiecesR t s).1 (BlockedPiecesR t s).2 bt105.1 true)))) him ?_
  refine Ev.bind (f := fun k t109 => (if t109 = true then (laws_FnExactBlockedPieces.j0 k t s (BlockedPiecesR t s).1 (BlockedPiecesR t s).2 (BlockedPiecesR t s).1 ((BlockedPiecesR t s).2 != (BlockedPiecesR t s).2)) else (laws_FnExactBlockedPieces.j0 k t s (BlockedPiecesR t s).1 (BlockedPiecesR t s).2 (BlockedPiecesR t s).1 true))) heq ?_
  refine Ev.congr hj0 fun k => ?_
  rw [if_pos rfl, bne_self_eq_false]
end Go.Proofs.YtbplbbialcbceaaDoor.Q
