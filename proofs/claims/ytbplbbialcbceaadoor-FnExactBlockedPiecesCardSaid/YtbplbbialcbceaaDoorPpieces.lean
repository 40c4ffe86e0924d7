/- The stated pieces. -/
import Derived.Test.YtbplbbialcbceaaDoorPbfs
namespace Go.Proofs.YtbplbbialcbceaaDoor.Q
open Go.RowKit Go.Proofs.YtbplbbialcbceaaDoorW.PrintWords Go.Proofs.YtbplbbialcbceaaDoorW.PrintLast Go.Proofs.YtbplbbialcbceaaDoorW.PrintMore
set_option linter.unusedSectionVars false
open Classical
section
variable {w h : Nat} {cs : List Int} (hw : w ≤ 7) (hh : h ≤ 7) (hs : w * h ≤ 36)
include hw hh hs
/-- What the labels say once all balls before i are done. -/
structure OI (w h : Nat) (cs L : List Int) (i : Nat) : Prop where
  len : L.length = w * h
  reach : ∀ j : Int, 0 ≤ j → j < ((w * h : Nat) : Int) → (0 ≤ rd L j ↔ ∃ m : Nat, m < i ∧ Rch w h cs m j)
  lab : ∀ j : Int, 0 ≤ j → j < ((w * h : Nat) : Int) → 0 ≤ rd L j → ∃ m : Nat, m < i ∧ isMin w h cs m ∧ Rch w h cs m j ∧ rd L j = (mins w h cs m).length
  low : ∀ j : Int, 0 ≤ j → j < ((w * h : Nat) : Int) → rd L j < 0 → rd L j = -1
theorem OI.same {L : List Int} {i : Nat} (ho : OI w h cs L i) (hm : ¬ isMin w h cs i) : OI w h cs L (i + 1) := by
  refine ⟨ho.len, fun j h0 h1 => (ho.reach j h0 h1).trans ⟨fun ⟨m, h2, h3⟩ => ⟨m, by omega, h3⟩, fun ⟨m, h2, h3⟩ => ?_⟩, fun j h0 h1 h2 => ?_, ho.low⟩
  · by_cases h4 : m = i
    · subst h4
      have h5 := Rch.src hw hh hs h3
      have h6 : ∃ m' : Nat, m' < m ∧ Rch w h cs m' m := by
        apply Classical.byContradiction
        intro h7
        exact hm ⟨h5.2.2, fun j hj hr => h7 ⟨j, hj, hr⟩⟩
      obtain ⟨m', h7, h8⟩ := h6
      exact ⟨m', h7, Rch.trans hw hh hs h8 h3⟩
    · exact ⟨m, by omega, h3⟩
  · obtain ⟨m, h3, h4⟩ := ho.lab j h0 h1 h2
    exact ⟨m, by omega, h4⟩
theorem BI.done {L0 L q : List Int} {i : Nat} (ho : OI w h cs L0 i) (hm : isMin w h cs i) (hb : BI w h cs L0 L q i (mins w h cs i).length)
    (hcl : ∀ u ∈ q, ∀ v ∈ nbs w h u.toNat, bI cs v = true → 0 ≤ rd L v) : OI w h cs L (i + 1) := by
  have hmark : ∀ j : Int, Rch w h cs i j → 0 ≤ rd L j := by
    intro j hj
    induction hj with
    | refl h0 h1 hbb =>
      rw [hb.lab i h0 h1, if_pos hb.src]
      omega
    | step u v hu hv hbv ih =>
      have h1 := Rch.at hw hh hs hu
      have h2 := nbs_at hw hh hs (i := u.toNat) (by omega) hv
      by_cases h3 : u ∈ q
      · exact hcl u h3 v hv hbv
      · rw [hb.lab u h1.1 h1.2.1, if_neg h3] at ih
        obtain ⟨m, h4, h5⟩ := (ho.reach u h1.1 h1.2.1).1 ih
        have h6 := (ho.reach v h2.1 h2.2.1).2 ⟨m, h4, Rch.step _ u v h5 hv hbv⟩
        rw [hb.lab v h2.1 h2.2.1]
        split
        · omega
        · exact h6
  refine ⟨hb.len, fun j h0 h1 => ⟨fun h2 => ?_, fun ⟨m, h2, h3⟩ => ?_⟩, fun j h0 h1 h2 => ?_, fun j h0 h1 h2 => ?_⟩
  · by_cases h3 : j ∈ q
    · exact ⟨i, by omega, hb.mem j h3⟩
    · rw [hb.lab j h0 h1, if_neg h3] at h2
      obtain ⟨m, h4, h5⟩ := (ho.reach j h0 h1).1 h2
      exact ⟨m, by omega, h5⟩
  · by_cases h4 : m = i
    · subst h4
      exact hmark j h3
    · have h5 := (ho.reach j h0 h1).2 ⟨m, by omega, h3⟩
      rw [hb.lab j h0 h1]
      split
      · omega
      · exact h5
  · by_cases h3 : j ∈ q
    · refine ⟨i, by omega, hm, hb.mem j h3, ?_⟩
      rw [hb.lab j h0 h1, if_pos h3]
    · rw [hb.lab j h0 h1, if_neg h3] at h2 ⊢
      obtain ⟨m, h4, h5⟩ := ho.lab j h0 h1 h2
      exact ⟨m, by omega, h5⟩
  · by_cases h3 : j ∈ q
    · rw [hb.lab j h0 h1, if_pos h3] at h2
      omega
    · rw [hb.lab j h0 h1, if_neg h3] at h2 ⊢
      exact ho.low j h0 h1 h2
theorem BI.start {L0 : List Int} {i : Nat} {c : Int} (hlen : L0.length = w * h) (hi : i < w * h) (hb : bI cs i = true) : BI w h cs L0 (L0.set ((i : Nat) : Int).toNat c) [(i : Int)] i c := by
  refine ⟨by rw [List.length_set]; exact hlen, fun j h0 h1 => ?_, fun j hj => ?_, by simp, by simp⟩
  · rw [rd_set L0 i j c (by omega) (by omega) h0]
    exact ite_iff (by simp)
  · rw [List.mem_singleton.1 hj]
    exact Rch.refl _ (by omega) (by omega) hb
theorem sk_l1 (hn : cs.length = w * h) : ∀ (m i : Nat) (L : List Int), i + m = w * h → OI w h cs L i → ∃ L', OI w h cs L' (w * h) ∧ Ev (fun k => spec_skPieces.l1 k L (mins w h cs i).length cs cs.length i w h cs) (L', ((mins w h cs (w * h)).length : Int))
  | 0, i, L, hi, ho => by
    obtain rfl : i = w * h := by omega
    refine ⟨L, ho, Ev.step (Ev.const (o := some (L, ((mins w h cs (w * h)).length : Int))) rfl) fun k => ?_⟩
    rw [spec_skPieces.l1, if_neg (by omega)]
  | m + 1, i, L, hi, ho => by
    have hlt : i < w * h := by omega
    have c1 : (i : Int) < (cs.length : Int) := by omega
    have c0 : (0 : Int) ≤ (i : Int) := by omega
    have c2 : (i : Int) < (L.length : Int) := by rw [ho.len]; omega
    have hwi : wrap64 ((i : Int) + 1) = ((i + 1 : Nat) : Int) := by rw [w64 (by omega) (by omega)]; omega
    have hml := mins_len w h cs i
    have hstep : ∀ b K, Ev (fun k => spec_skPieces.j2 k L (mins w h cs i).length i cs cs.length i b w h cs) K → ((bI cs i = true → b = decide (rd L i ≥ 0)) ∧ (bI cs i = false → b = true)) →
        Ev (fun k => spec_skPieces.l1 k L (mins w h cs i).length cs cs.length i w h cs) K := fun b K hK hb => by
      refine Ev.step hK fun k => ?_
      rw [spec_skPieces.l1, if_pos c1, if_pos c0, if_pos c1, tyBall_eq, Option.bind_some]
      show (if bI cs i = true then _ else _) = _
      by_cases h1 : bI cs i = true
      · rw [if_pos h1, if_pos c2, hb.1 h1]
      · rw [if_neg h1, hb.2 (Bool.eq_false_iff.2 h1)]
    by_cases hm : isMin w h cs i
    · have hrd : rd L i < 0 := by
        apply Int.not_le.1
        intro h2
        obtain ⟨m', h3, h4⟩ := (ho.reach i (by omega) (by omega)).1 h2
        exact hm.2 m' h3 h4
      obtain ⟨L', q', e1, e2, e3⟩ := sk_l2 hw hh hs hn L i (mins w h cs i).length i (by omega) (w * h + 1) 0 _ [(i : Int)] (by omega) (Nat.zero_le _) (BI.start hw hh hs ho.len hlt hm.1) (fun u hu => by simp at hu)
      have ho2 := BI.done hw hh hs ho hm e1 e2
      obtain ⟨L2, f1, f2⟩ := sk_l1 hn m (i + 1) L' (by omega) ho2
      refine ⟨L2, f1, hstep false _ ?_ ⟨fun _ => (decide_eq_false (by omega)).symm, fun h2 => by rw [hm.1] at h2; cases h2⟩⟩
      have hms : ((mins w h cs (i + 1)).length : Int) = wrap64 ((mins w h cs i).length + 1) := by
        rw [w64 (by omega) (by omega), mins_succ, if_pos hm, List.length_append, List.length_singleton]
        omega
      rw [hms, ← hwi] at f2
      refine Ev.step (e3 _ f2) fun k => ?_
      rw [spec_skPieces.j2, if_neg (by decide), if_pos c0, if_pos c2]
      rfl
    · have ho2 := OI.same hw hh hs ho hm
      obtain ⟨L2, f1, f2⟩ := sk_l1 hn m (i + 1) L (by omega) ho2
      have hms : mins w h cs (i + 1) = mins w h cs i := by rw [mins_succ, if_neg hm, List.append_nil]
      rw [hms, ← hwi] at f2
      refine ⟨L2, f1, hstep true _ ?_ ⟨fun h2 => ?_, fun _ => rfl⟩⟩
      · refine Ev.step f2 fun k => ?_
        rw [spec_skPieces.j2, if_pos rfl]
      · refine (decide_eq_true ?_).symm
        apply Classical.byContradiction
        intro h3
        refine hm ⟨h2, fun j hj hr => h3 ?_⟩
        exact (ho.reach i (by omega) (by omega)).2 ⟨j, hj, hr⟩
theorem sk_l0 (hn : cs.length = w * h) (K : List Int × Int) : ∀ (m t : Nat) (L : List Int), t + m = w * h → L.length = w * h → (∀ j : Int, 0 ≤ j → j < t → rd L j = -1) →
    (∀ L' : List Int, L'.length = w * h → (∀ j : Int, 0 ≤ j → j < ((w * h : Nat) : Int) → rd L' j = -1) → L' = List.replicate (w * h) (-1)) → Ev (fun k => spec_skPieces.l1 k (List.replicate (w * h) (-1)) 0 cs cs.length 0 w h cs) K → Ev (fun k => spec_skPieces.l0 k L ((w * h : Nat) : Int) t w h cs) K
  | 0, t, L, ht, hl, hv, hu, hK => by
    refine Ev.step hK fun k => ?_
    rw [spec_skPieces.l0, if_neg (by omega), hu L hl (fun j h0 h1 => hv j h0 (by omega))]
  | m + 1, t, L, ht, hl, hv, hu, hK => by
    have hwt : wrap64 ((t : Int) + 1) = ((t + 1 : Nat) : Int) := by rw [w64 (by omega) (by omega)]; omega
    have ih := sk_l0 hn K m (t + 1) (L.set ((t : Nat) : Int).toNat (-1)) (by omega) (by rw [List.length_set]; exact hl) (fun j h0 h1 => by
      rw [rd_set L t j (-1) (by omega) (by omega) h0]
      split
      · rfl
      · exact hv j h0 (by omega)) hu hK
    refine Ev.step ih fun k => ?_
    rw [spec_skPieces.l0, if_pos (by omega), if_pos (by omega), if_pos (by omega), hwt]
theorem rep_eq (n : Nat) (L : List Int) (hl : L.length = n) (hv : ∀ j : Int, 0 ≤ j → j < (n : Int) → rd L j = -1) : L = List.replicate n (-1) := by
  refine List.ext_getElem (by simpa using hl) fun i h1 h2 => ?_
  have := hv i (by omega) (by omega)
  rw [rd_nat L i h1] at this
  rw [this, List.getElem_replicate]
theorem rd_rep (n : Nat) (x j : Int) (h0 : 0 ≤ j) (h1 : j < (n : Int)) : rd (List.replicate n x) j = x := by
  unfold rd
  rw [List.getD_eq_getElem?_getD, List.getElem?_replicate, if_pos (by omega)]
  rfl
theorem pieces_ev (hn : cs.length = w * h) : ∃ L, OI w h cs L (w * h) ∧ Ev (fun k => spec_skPieces.f k w h cs) (L, ((mins w h cs (w * h)).length : Int)) := by
  have ho : OI w h cs (List.replicate (w * h) (-1)) 0 := by
    refine ⟨by simp, fun j h0 h1 => ⟨fun h2 => ?_, fun ⟨m, h2, _⟩ => by omega⟩, fun j h0 h1 h2 => ?_, fun j h0 h1 _ => rd_rep hw hh hs _ _ j h0 h1⟩
    · rw [rd_rep hw hh hs _ _ j h0 h1] at h2
      omega
    · rw [rd_rep hw hh hs _ _ j h0 h1] at h2
      omega
  obtain ⟨L, h1, h2⟩ := sk_l1 hw hh hs hn (w * h) 0 _ (by omega) ho
  refine ⟨L, h1, ?_⟩
  have h3 := sk_l0 hw hh hs hn _ (w * h) 0 (List.replicate (w * h) 0) (by omega) (by simp) (fun j a b => by omega) (rep_eq hw hh hs _) h2
  refine Ev.congr h3 fun k => ?_
  unfold spec_skPieces.f
  rw [if_pos (by omega), if_pos (by omega), Option.bind_some, hn, List.length_replicate, Int.toNat_natCast]
  rfl
end
end Go.Proofs.YtbplbbialcbceaaDoor.Q
