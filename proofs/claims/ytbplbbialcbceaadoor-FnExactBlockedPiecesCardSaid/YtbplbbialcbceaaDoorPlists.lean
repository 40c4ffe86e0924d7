/- The stated list of pieces, and the piece of one ball: everything that the ball reaches. -/
import Derived.Test.YtbplbbialcbceaaDoorPpieces
import Derived.Test.YtbplbbialcbceaaDoorPparts
import Derived.Test.YtbplbbialcbceaaDoorQf
namespace Go.Proofs.YtbplbbialcbceaaDoor.Q
open Go.RowKit Go.Proofs.YtbplbbialcbceaaDoorW.PrintWords Go.Proofs.YtbplbbialcbceaaDoorW.PrintLast Go.Proofs.YtbplbbialcbceaaDoorW.PrintMore
set_option linter.unusedSectionVars false
def idxs (L : List Int) (c : Int) (t : Nat) : List Int := ((List.range t).filter (fun j : Nat => decide (rd L (j : Int) = c))).map (fun j : Nat => (j : Int))
def lists (L : List Int) (n : Nat) : List (List Int) := (List.range n).map fun k : Nat => idxs L (k : Int) L.length
theorem idxs_succ (L : List Int) (c : Int) (t : Nat) : idxs L c (t + 1) = idxs L c t ++ if rd L (t : Int) = c then [(t : Int)] else [] := by
  unfold idxs
  rw [List.range_succ, List.filter_append, List.map_append]
  congr 1
  by_cases hm : rd L (t : Int) = c
  · rw [if_pos hm]; simp [hm]
  · rw [if_neg hm]; simp [hm]
theorem idxs_len (L : List Int) (c : Int) (t : Nat) : (idxs L c t).length ≤ t := by
  unfold idxs
  rw [List.length_map]
  have := List.length_filter_le (fun j : Nat => decide (rd L (j : Int) = c)) (List.range t)
  rw [List.length_range] at this
  exact this
theorem lists_succ (L : List Int) (n : Nat) : lists L (n + 1) = lists L n ++ [idxs L (n : Int) L.length] := by
  unfold lists
  rw [List.range_succ, List.map_append]
  rfl
theorem lists_get (L : List Int) (n : Nat) (c : Int) (h0 : 0 ≤ c) (h1 : c < (n : Int)) : (lists L n).getD c.toNat [] = idxs L c L.length := by
  unfold lists
  rw [List.getD_eq_getElem?_getD, List.getElem?_map, List.getElem?_range (by omega)]
  show idxs L (c.toNat : Int) L.length = _
  rw [Int.toNat_of_nonneg h0]
theorem skl_l1 (L : List Int) (n : Int) (hL : L.length ≤ 36) (x5 : List (List Int)) (c : Nat) (hx : x5.length ≤ 36) (K : List (List Int)) (hK : Ev (fun k => spec_skLists.l0 k L n (x5 ++ [idxs L (c : Int) L.length]) (wrap64 ((c : Int) + 1))) K) :
    ∀ (m t : Nat), t + m = L.length → Ev (fun k => spec_skLists.l1 k L n x5 (c : Int) (idxs L (c : Int) t) L L.length t) K
  | 0, t, ht => by
    obtain rfl : t = L.length := by omega
    have c5 : x5.length < 5864062014805 := Nat.lt_of_le_of_lt hx (by decide)
    refine Ev.step hK fun k => ?_
    rw [spec_skLists.l1, if_neg (by omega), if_pos c5]
  | m + 1, t, ht => by
    have ih := skl_l1 L n hL x5 c hx K hK m (t + 1) (by omega)
    have hwt : wrap64 ((t : Int) + 1) = ((t + 1 : Nat) : Int) := by rw [w64 (by omega) (by omega)]; omega
    have c0 : (0 : Int) ≤ (t : Int) := by omega
    have c1 : (t : Int) < (L.length : Int) := by omega
    have c6 : (idxs L (c : Int) t).length < 17592186044416 := Nat.lt_of_le_of_lt (Nat.le_trans (idxs_len L c t) (show t ≤ 36 by omega)) (by decide)
    rw [idxs_succ] at ih
    refine Ev.step ih fun k => ?_
    rw [spec_skLists.l1, if_pos c1, if_pos c0, if_pos c1, hwt]
    by_cases h1 : rd L (t : Int) = c
    · rw [if_pos h1, if_pos c6, if_pos h1]
    · rw [if_neg h1, if_neg h1, List.append_nil]
theorem skl_l0 (L : List Int) (n : Nat) (hL : L.length ≤ 36) (hn : n ≤ 36) : ∀ (m c : Nat), c + m = n → Ev (fun k => spec_skLists.l0 k L n (lists L c) c) (lists L n)
  | 0, c, hc => by
    obtain rfl : c = n := by omega
    refine Ev.step (Ev.const (o := some (lists L c)) rfl) fun k => ?_
    rw [spec_skLists.l0, if_neg (by omega)]
  | m + 1, c, hc => by
    have ih := skl_l0 L n hL hn m (c + 1) (by omega)
    have hwc : wrap64 ((c : Int) + 1) = ((c + 1 : Nat) : Int) := by rw [w64 (by omega) (by omega)]; omega
    have hl : (lists L c).length ≤ 36 := by
      unfold lists
      rw [List.length_map, List.length_range]
      omega
    rw [lists_succ, ← hwc] at ih
    have h1 := skl_l1 L n hL (lists L c) c hl _ ih L.length 0 (by omega)
    refine Ev.step h1 fun k => ?_
    rw [spec_skLists.l0, if_pos (by omega)]
    rfl
theorem skLists_ev (L : List Int) (n : Nat) (hL : L.length ≤ 36) (hn : n ≤ 36) : Ev (fun k => spec_skLists.f k L n) (lists L n) := skl_l0 L n hL hn n 0 (by omega)
open Classical
section
variable {w h : Nat} {cs : List Int} (hw : w ≤ 7) (hh : h ≤ 7) (hs : w * h ≤ 36)
include hw hh hs
theorem mins_mono (w h : Nat) (cs : List Int) (i j : Nat) (hij : i ≤ j) : (mins w h cs i).length ≤ (mins w h cs j).length := by
  obtain ⟨d, rfl⟩ : ∃ d, j = i + d := ⟨j - i, by omega⟩
  clear hij
  induction d with
  | zero => exact Nat.le_refl _
  | succ d ih =>
    rw [Nat.add_succ, mins_succ, List.length_append]
    omega
theorem mins_lt {i j : Nat} (hi : isMin w h cs i) (hij : i < j) : (mins w h cs i).length < (mins w h cs j).length := by
  have h1 := mins_mono hw hh hs w h cs (i + 1) j hij
  rw [mins_succ, if_pos hi, List.length_append, List.length_singleton] at h1
  omega
theorem isMin_one {i j : Nat} {u : Int} (hi : isMin w h cs i) (hj : isMin w h cs j) (h1 : Rch w h cs i u) (h2 : Rch w h cs j u) : i = j := by
  have h3 := Rch.trans hw hh hs h1 (Rch.symm hw hh hs h2)
  rcases Nat.lt_trichotomy i j with h4 | h4 | h4
  · exact absurd h3 (hj.2 i h4)
  · exact h4
  · exact absurd (Rch.symm hw hh hs h3) (hi.2 j h4)
/-- Two balls bear one label just where one reaches the other. -/
theorem OI.same_lab {L : List Int} (ho : OI w h cs L (w * h)) {u v : Int} (hu : 0 ≤ u) (hu1 : u < ((w * h : Nat) : Int)) (hl : 0 ≤ rd L u) (hv : 0 ≤ v) (hv1 : v < ((w * h : Nat) : Int)) : rd L v = rd L u ↔ Rch w h cs u v := by
  obtain ⟨m, _, m2, m3, m4⟩ := ho.lab u hu hu1 hl
  constructor
  · intro e
    obtain ⟨m', _, n2, n3, n4⟩ := ho.lab v hv hv1 (by omega)
    have e2 : m = m' := by
      rcases Nat.lt_trichotomy m m' with h4 | h4 | h4
      · have := mins_lt hw hh hs m2 h4; omega
      · exact h4
      · have := mins_lt hw hh hs n2 h4; omega
    subst e2
    exact Rch.trans hw hh hs (Rch.symm hw hh hs m3) n3
  · intro hr
    have h5 := Rch.trans hw hh hs m3 hr
    have h6 := (ho.reach v hv hv1).2 ⟨m, by omega, h5⟩
    obtain ⟨m', _, n2, n3, n4⟩ := ho.lab v hv hv1 h6
    have e2 := isMin_one hw hh hs m2 n2 h5 n3
    subst e2
    omega
theorem OI.ball {L : List Int} (ho : OI w h cs L (w * h)) {u : Int} (hu : 0 ≤ u) (hu1 : u < ((w * h : Nat) : Int)) : 0 ≤ rd L u ↔ bI cs u = true := by
  rw [ho.reach u hu hu1]
  constructor
  · intro ⟨m, _, hr⟩
    exact (Rch.at hw hh hs hr).2.2
  · intro hb
    exact ⟨u.toNat, by omega, by rw [Int.toNat_of_nonneg hu]; exact Rch.refl u hu hu1 hb⟩
theorem OI.idxs_eq {L : List Int} (ho : OI w h cs L (w * h)) {u : Int} (hu : 0 ≤ u) (hu1 : u < ((w * h : Nat) : Int)) (hl : 0 ≤ rd L u) : idxs L (rd L u) L.length = comp w h cs (w * h) u := by
  unfold idxs comp
  rw [ho.len]
  congr 1
  refine List.filter_congr fun j hj => ?_
  rw [decide_eq_decide]
  have := List.mem_range.1 hj
  exact OI.same_lab hw hh hs ho hu hu1 hl (by omega) (by omega)
theorem comp_same {u v : Int} (hr : Rch w h cs u v) (t : Nat) : comp w h cs t u = comp w h cs t v := by
  unfold comp
  congr 1
  refine List.filter_congr fun j _ => ?_
  rw [decide_eq_decide]
  exact ⟨fun h1 => Rch.trans hw hh hs (Rch.symm hw hh hs hr) h1, fun h1 => Rch.trans hw hh hs hr h1⟩
theorem mem_comp {u v : Int} (hv : 0 ≤ v) (hv1 : v < ((w * h : Nat) : Int)) : v ∈ comp w h cs (w * h) u ↔ Rch w h cs u v := by
  unfold comp
  rw [List.mem_map]
  constructor
  · rintro ⟨j, hj, rfl⟩
    exact of_decide_eq_true (List.mem_filter.1 hj).2
  · intro hr
    refine ⟨v.toNat, List.mem_filter.2 ⟨List.mem_range.2 (by omega), decide_eq_true ?_⟩, by omega⟩
    rw [Int.toNat_of_nonneg hv]
    exact hr
/-- A ball is reached from some piece's least ball. -/
theorem ball_min (hn : cs.length = w * h) {u : Int} (hu : 0 ≤ u) (hu1 : u < ((w * h : Nat) : Int)) : bI cs u = true ↔ ∃ m ∈ mins w h cs (w * h), Rch w h cs m u := by
  obtain ⟨L, ho, _⟩ := pieces_ev hw hh hs hn
  constructor
  · intro hb
    obtain ⟨m, h1, h2, h3, _⟩ := ho.lab u hu hu1 ((OI.ball hw hh hs ho hu hu1).2 hb)
    exact ⟨m, List.mem_filter.2 ⟨List.mem_range.2 h1, decide_eq_true h2⟩, h3⟩
  · rintro ⟨m, _, hr⟩
    exact (Rch.at hw hh hs hr).2.2
/-- The labels' lists are the pieces. -/
theorem OI.lists_eq {L : List Int} (ho : OI w h cs L (w * h)) : ∀ n, n ≤ w * h → lists L (mins w h cs n).length = parts w h cs n := by
  intro n hn
  induction n with
  | zero => rfl
  | succ n ih =>
    have ih := ih (by omega)
    unfold parts at ih ⊢
    rw [mins_succ]
    by_cases hm : isMin w h cs n
    · rw [if_pos hm, List.length_append, List.length_singleton, lists_succ, ih, List.map_append]
      have h1 : Rch w h cs n (n : Int) := Rch.refl _ (by omega) (by omega) hm.1
      have h2 := (ho.reach n (by omega) (by omega)).2 ⟨n, by omega, h1⟩
      obtain ⟨m, _, m2, m3, m4⟩ := ho.lab n (by omega) (by omega) h2
      have e := isMin_one hw hh hs m2 hm m3 h1
      subst e
      have h3 := OI.idxs_eq hw hh hs ho (u := m) (by omega) (by omega) h2
      rw [m4] at h3
      rw [h3]
      rfl
    · rw [if_neg hm, List.append_nil]
      exact ih
end
end Go.Proofs.YtbplbbialcbceaaDoor.Q
