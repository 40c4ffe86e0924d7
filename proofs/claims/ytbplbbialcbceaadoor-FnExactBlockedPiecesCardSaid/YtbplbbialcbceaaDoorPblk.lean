/- The least set of pieces that holds every piece at a side or a wall and, with a piece, all pieces behind it; marking cell after cell until nothing changes finds it. -/
import Derived.Test.YtbplbbialcbceaaDoorPlists
namespace Go.Proofs.YtbplbbialcbceaaDoor.Q
open Go.RowKit Go.Proofs.YtbplbbialcbceaaDoorW.PrintWords Go.Proofs.YtbplbbialcbceaaDoorW.PrintLast Go.Proofs.YtbplbbialcbceaaDoorW.PrintMore
set_option linter.unusedSectionVars false
open Classical
/-- Blocked pieces: lab is the piece of a cell, nx the cell ahead (below 0: none). -/
inductive Blk (N : Nat) (lab nx : Nat → Int) : Nat → Prop
  | side (i p : Nat) : i < N → lab i = p → nx i < 0 → Blk N lab nx p
  | push (i j p q : Nat) : i < N → lab i = p → nx i = j → lab j = q → Blk N lab nx q → Blk N lab nx p
section
variable (N n : Nat) (lab nx : Nat → Int)
noncomputable def blkL : List Bool := (List.range n).map fun p => decide (Blk N lab nx p)
/-- Cell i marks its piece. -/
def fire (out : List Bool) (i : Nat) : Bool := decide (0 ≤ lab i) && !rdOf false out (lab i) && (decide (nx i < 0) || (decide (0 ≤ lab (nx i).toNat) && rdOf false out (lab (nx i).toNat)))
def cellS (out : List Bool) (i : Nat) : List Bool := if fire lab nx out i = true then out.set (lab i).toNat true else out
def scan (out : List Bool) (l : List Nat) : List Bool := l.foldl (cellS lab nx) out
variable {N n lab nx}
theorem cellS_len (out : List Bool) (i : Nat) : (cellS lab nx out i).length = out.length := by
  unfold cellS
  split
  · exact List.length_set
  · rfl
theorem scan_len : ∀ (l : List Nat) (out : List Bool), (scan lab nx out l).length = out.length
  | [], _ => rfl
  | i :: l, out => (scan_len l _).trans (cellS_len out i)
theorem rdOf_set (out : List Bool) (p : Nat) (q : Int) (hp : p < out.length) (hq : 0 ≤ q) : rdOf false (out.set p true) q = if q = p then true else rdOf false out q := by
  unfold rdOf
  rw [List.getD_eq_getElem?_getD, List.getElem?_set, List.getD_eq_getElem?_getD]
  by_cases h : q = p
  · rw [if_pos h, if_pos (by omega), if_pos (by omega)]
    rfl
  · rw [if_neg h, if_neg (by omega)]
theorem fire_lab {out : List Bool} {i : Nat} (hf : fire lab nx out i = true) : 0 ≤ lab i ∧ rdOf false out (lab i) = false ∧ (nx i < 0 ∨ (0 ≤ lab (nx i).toNat ∧ rdOf false out (lab (nx i).toNat) = true)) := by
  unfold fire at hf
  simp only [Bool.and_eq_true, Bool.or_eq_true, decide_eq_true_eq, Bool.not_eq_true'] at hf
  exact ⟨hf.1.1, hf.1.2, hf.2⟩
def sound (N : Nat) (lab nx : Nat → Int) (out : List Bool) : Prop := ∀ p : Nat, rdOf false out (p : Int) = true → Blk N lab nx p
theorem cellS_sound {out : List Bool} {i : Nat} (hi : i < N) (hl : lab i < (out.length : Int)) (hs : sound N lab nx out) : sound N lab nx (cellS lab nx out i) := by
  unfold cellS
  split
  · rename_i hf
    obtain ⟨h0, _, h2⟩ := fire_lab hf
    intro p hp
    rw [rdOf_set out _ _ (by omega) (by omega)] at hp
    by_cases h : (p : Int) = ((lab i).toNat : Int)
    · have hlp : lab i = p := by omega
      rcases h2 with h2 | ⟨h3, h4⟩
      · exact Blk.side i p hi hlp h2
      · by_cases h5 : nx i < 0
        · exact Blk.side i p hi hlp h5
        · exact Blk.push i (nx i).toNat p (lab (nx i).toNat).toNat hi hlp (by omega) (by omega) (hs _ (by rw [Int.toNat_of_nonneg h3]; exact h4))
    · rw [if_neg h] at hp
      exact hs p hp
  · exact hs
theorem scan_sound : ∀ (l : List Nat) (out : List Bool), (∀ i ∈ l, i < N ∧ lab i < (out.length : Int)) → sound N lab nx out → sound N lab nx (scan lab nx out l)
  | [], _, _, hs => hs
  | i :: l, out, hl, hs => scan_sound l _ (fun j hj => ⟨(hl j (List.mem_cons_of_mem _ hj)).1, by rw [cellS_len]; exact (hl j (List.mem_cons_of_mem _ hj)).2⟩) (cellS_sound (hl i List.mem_cons_self).1 (hl i List.mem_cons_self).2 hs)
theorem cellS_cnt {out : List Bool} {i : Nat} (hl : lab i < (out.length : Int)) : (cellS lab nx out i).count true = out.count true + if fire lab nx out i = true then 1 else 0 := by
  unfold cellS
  split
  · rename_i hf
    obtain ⟨h0, h1, _⟩ := fire_lab hf
    have hlt : (lab i).toNat < out.length := by omega
    have h2 : out[(lab i).toNat] = false := by
      unfold rdOf at h1
      rwa [List.getD_eq_getElem?_getD, List.getElem?_eq_getElem hlt] at h1
    rw [List.count_set hlt, h2]
    simp
  · rfl
theorem scan_cnt : ∀ (l : List Nat) (out : List Bool), (∀ i ∈ l, lab i < (out.length : Int)) → out.count true ≤ (scan lab nx out l).count true ∧ ((scan lab nx out l).count true = out.count true → scan lab nx out l = out ∧ ∀ i ∈ l, fire lab nx out i = false)
  | [], out, _ => ⟨Nat.le_refl _, fun _ => ⟨rfl, fun i hi => by cases hi⟩⟩
  | i :: l, out, hl => by
    have h1 := cellS_cnt (nx := nx) (hl i List.mem_cons_self)
    obtain ⟨h2, h3⟩ := scan_cnt l (cellS lab nx out i) (fun j hj => by rw [cellS_len]; exact hl j (List.mem_cons_of_mem _ hj))
    show _ ≤ (scan lab nx (cellS lab nx out i) l).count true ∧ ((scan lab nx (cellS lab nx out i) l).count true = _ → scan lab nx (cellS lab nx out i) l = out ∧ _)
    cases hf : fire lab nx out i with
    | true =>
      rw [hf, if_pos rfl] at h1
      exact ⟨by omega, fun h => by omega⟩
    | false =>
      rw [hf, if_neg (by decide)] at h1
      have he : cellS lab nx out i = out := if_neg (by rw [hf]; decide)
      refine ⟨by omega, fun h => ?_⟩
      obtain ⟨h4, h5⟩ := h3 (by omega)
      rw [he] at h4 h5 ⊢
      refine ⟨h4, fun j hj => ?_⟩
      rcases List.mem_cons.1 hj with rfl | hj
      · exact hf
      · exact h5 j hj
theorem blk_of_closed {out : List Bool} (hc : ∀ i : Nat, i < N → 0 ≤ lab i → fire lab nx out i = false) : ∀ p, Blk N lab nx p → rdOf false out (p : Int) = true := by
  intro p hp
  induction hp with
  | side i p hi h1 h2 =>
    have h3 := hc i hi (by omega)
    unfold fire at h3
    rw [h1, decide_eq_true (show (0 : Int) ≤ p by omega), decide_eq_true h2] at h3
    simpa using h3
  | push i j p q hi h1 h2 h4 _ ih =>
    have h3 := hc i hi (by omega)
    unfold fire at h3
    rw [h2, Int.toNat_natCast, h4, h1, ih, decide_eq_true (show (0 : Int) ≤ p by omega), decide_eq_true (show (0 : Int) ≤ q by omega)] at h3
    simpa using h3
theorem closed_eq {out : List Bool} (hn : out.length = n) (hs : sound N lab nx out) (hc : ∀ i : Nat, i < N → 0 ≤ lab i → fire lab nx out i = false) : out = blkL N n lab nx := by
  unfold blkL
  refine List.ext_getElem (by simpa using hn) fun p h1 h2 => ?_
  rw [List.getElem_map, List.getElem_range]
  have h3 : rdOf false out (p : Int) = out[p] := by
    unfold rdOf
    rw [Int.toNat_natCast, List.getD_eq_getElem?_getD, List.getElem?_eq_getElem h1]
    rfl
  have h4 := hs p
  have h5 := blk_of_closed hc p
  rw [h3] at h4 h5
  cases h6 : out[p] with
  | true => exact (decide_eq_true (h4 h6)).symm
  | false => exact (decide_eq_false fun h7 => by rw [h5 h7] at h6; cases h6).symm
def runs (l : List Nat) : Nat → List Bool → List Bool
  | 0, out => out
  | m + 1, out => runs l m (scan lab nx out l)
theorem runs_end (l : List Nat) (hl : ∀ i ∈ l, i < N ∧ lab i < (n : Int)) (hall : ∀ i : Nat, i < N → 0 ≤ lab i → i ∈ l) : ∀ (m : Nat) (out : List Bool), out.length = n → sound N lab nx out → n < out.count true + m → runs (lab := lab) (nx := nx) l m out = blkL N n lab nx
  | 0, out, hn, hs, hm => by
    have := List.count_le_length (a := true) (l := out)
    omega
  | m + 1, out, hn, hs, hm => by
    obtain ⟨h1, h2⟩ := scan_cnt (nx := nx) l out (fun i hi => by rw [hn]; exact (hl i hi).2)
    have hln := scan_len (lab := lab) (nx := nx) l out
    have hsn := scan_sound l out (fun i hi => by rw [hn]; exact hl i hi) hs
    show runs l m (scan lab nx out l) = _
    by_cases he : (scan lab nx out l).count true = out.count true
    · obtain ⟨h3, h4⟩ := h2 he
      have hb := closed_eq hn hs fun i hi h0 => h4 i (hall i hi h0)
      rw [h3]
      have hst : ∀ m, runs (lab := lab) (nx := nx) l m out = out := by
        intro m
        induction m with
        | zero => rfl
        | succ m ih =>
          show runs l m (scan lab nx out l) = _
          rw [h3]
          exact ih
      rw [hst]
      exact hb
    · exact runs_end l hl hall m _ (by omega) hsn (by omega)
end
end Go.Proofs.YtbplbbialcbceaaDoor.Q
