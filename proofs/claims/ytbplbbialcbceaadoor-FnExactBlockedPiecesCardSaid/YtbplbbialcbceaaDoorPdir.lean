/- A direction's text, and the neighbours of a ball: both sides take the same ones. -/
import Derived.Test.YtbplbbialcbceaaDoorPahead
import Derived.Test.YtbplbbialcbceaaDoorQi
namespace Go.Proofs.YtbplbbialcbceaaDoor.Q
set_option linter.unusedSectionVars false
open Go.RowKit Go.Proofs.YtbplbbialcbceaaDoorW.PrintWords Go.Proofs.YtbplbbialcbceaaDoorW.PrintLast Go.Proofs.YtbplbbialcbceaaDoorW.PrintMore
def dirB (d : Nat) : UInt8 := ([117, 114, 100, 108] : List UInt8).getD d 0
theorem toList_data (s : ByteArray) : s.toList = s.data.toList := by
  obtain ⟨⟨l⟩⟩ := s
  exact ByteArray.toList_mk l
theorem has_byte : ∀ (l : List UInt8) (c : UInt8), decide (0 ≤ Lib.indexByte l c) = decide (c ∈ l)
  | [], c => by simp [Lib.indexByte]
  | b :: l, c => by
    have ih := has_byte l c
    have hge := Lib.indexByte_ge l c
    unfold Lib.indexByte
    by_cases hb : b = c
    · subst hb
      simp
    · have h1 : (b == c) = false := by simpa using hb
      have h2 : (c ∈ b :: l) ↔ c ∈ l := by simp [Ne.symm hb]
      rw [h1, decide_eq_decide.2 h2, ← ih]
      rw [decide_eq_decide]
      rw [if_neg Bool.false_ne_true]
      by_cases h3 : Lib.indexByte l c = -1
      · rw [h3]
        decide
      · rw [show (Lib.indexByte l c == -1) = false by simpa using h3, if_neg Bool.false_ne_true]
        omega
def dirFrom (l : List UInt8) : Nat → Nat → Int
  | 0, _ => -1
  | m + 1, t => if l = [dirB t] then t else dirFrom l m (t + 1)
def dirI (s : ByteArray) : Int := dirFrom s.data.toList 4 0
theorem cut_toList : ∀ d : Fin 4, ((⟨#[117, 114, 100, 108]⟩ : ByteArray).extract ((d.val : Int)).toNat (((d.val + 1 : Nat) : Int)).toNat).toList = [dirB d.val] := by
  intro d
  rw [toList_data]
  revert d
  decide
theorem tiDir_l0 (s : ByteArray) : ∀ (m t : Nat), t + m = 4 → Ev (fun k => spec_tiDir.l0 k s t) (dirFrom s.data.toList m t)
  | 0, t, ht => by
    obtain rfl : t = 4 := by omega
    refine Ev.step (Ev.const (o := some (-1)) rfl) fun k => ?_
    rw [spec_tiDir.l0, if_neg (by decide)]
  | m + 1, t, ht => by
    have ih := tiDir_l0 s m (t + 1) (by omega)
    have ht4 : t < 4 := by omega
    have hwt : wrap64 ((t : Int) + 1) = ((t + 1 : Nat) : Int) := by rw [w64 (by omega) (by omega)]; omega
    have hcut := cut_toList ⟨t, ht4⟩
    simp only at hcut
    have hsz : ((⟨#[117, 114, 100, 108]⟩ : ByteArray).size : Int) = 4 := rfl
    unfold dirFrom
    have hgo : ∀ k, spec_tiDir.l0 (k + 1) s t = if s.data.toList = [dirB t] then some (t : Int) else spec_tiDir.l0 k s ((t + 1 : Nat) : Int) := by
      intro k
      rw [spec_tiDir.l0, if_pos (by omega), hwt]
      show (Option.some (⟨#[117, 114, 100, 108]⟩ : ByteArray)).bind _ = _
      rw [Option.bind_some, if_pos (by omega), if_pos (by omega), if_pos (by rw [hsz]; omega), hcut, toList_data]
    by_cases he : s.data.toList = [dirB t]
    · rw [if_pos he]
      exact Ev.step (Ev.const (o := some (t : Int)) rfl) fun k => by rw [hgo, if_pos he]
    · rw [if_neg he]
      exact Ev.step ih fun k => by rw [hgo, if_neg he]
theorem tiDir_ev (s : ByteArray) : Ev (fun k => spec_tiDir.f k s) (dirI s) := tiDir_l0 s 4 0 (by omega)
theorem dirI_cases (s : ByteArray) : (dirI s = -1 ∧ ∀ d : Nat, d < 4 → s.data.toList ≠ [dirB d]) ∨ ∃ d : Nat, d < 4 ∧ dirI s = d ∧ s.data.toList = [dirB d] := by
  unfold dirI dirFrom
  by_cases h0 : s.data.toList = [dirB 0]
  · exact Or.inr ⟨0, by omega, by rw [if_pos h0], h0⟩
  rw [if_neg h0]
  unfold dirFrom
  by_cases h1 : s.data.toList = [dirB (0 + 1)]
  · exact Or.inr ⟨1, by omega, by rw [if_pos h1], h1⟩
  rw [if_neg h1]
  unfold dirFrom
  by_cases h2 : s.data.toList = [dirB (0 + 1 + 1)]
  · exact Or.inr ⟨2, by omega, by rw [if_pos h2], h2⟩
  rw [if_neg h2]
  unfold dirFrom
  by_cases h3 : s.data.toList = [dirB (0 + 1 + 1 + 1)]
  · exact Or.inr ⟨3, by omega, by rw [if_pos h3], h3⟩
  rw [if_neg h3]
  refine Or.inl ⟨rfl, fun d hd => ?_⟩
  obtain h | h | h | h : d = 0 ∨ d = 1 ∨ d = 2 ∨ d = 3 := by omega
  · subst h; exact h0
  · subst h; exact h1
  · subst h; exact h2
  · subst h; exact h3
theorem one_byte_of {s : ByteArray} {b : UInt8} (h : s.data.toList = [b]) : s = ⟨#[b]⟩ := by
  obtain ⟨⟨l⟩⟩ := s
  simp at h
  subst h
  rfl
theorem dirB_mem : ∀ c : UInt8, c ∈ ([117, 114, 100, 108] : List UInt8) → ∃ d : Nat, d < 4 ∧ c = dirB d := by
  intro c hc
  simp only [List.mem_cons, List.not_mem_nil, or_false] at hc
  rcases hc with h | h | h | h
  · exact ⟨0, by omega, h⟩
  · exact ⟨1, by omega, h⟩
  · exact ⟨2, by omega, h⟩
  · exact ⟨3, by omega, h⟩
theorem isDir_eq (s : ByteArray) : impl_isDir.f s = some (decide (0 ≤ dirI s)) := by
  unfold impl_isDir.f
  rcases dirI_cases s with ⟨h1, h2⟩ | ⟨d, hd, h1, h2⟩
  · rw [h1]
    by_cases hs : (s.size : Int) = 1
    · rw [if_pos hs]
      have hs2 : s.size = 1 := by omega
      obtain ⟨c, rfl⟩ := Lib.one_byte s hs2
      unfold strings_Contains.f
      rw [if_pos (show (⟨#[c]⟩ : ByteArray).size = 1 from rfl), has_byte, Option.bind_some]
      congr 1
      show decide (c ∈ ([117, 114, 100, 108] : List UInt8)) = _
      rw [decide_eq_decide]
      constructor
      · intro hc
        obtain ⟨d, hd, rfl⟩ := dirB_mem c hc
        exact absurd rfl (h2 d hd)
      · intro h
        omega
    · rw [if_neg hs]
      rfl
  · obtain rfl := one_byte_of h2
    rw [h1, if_pos (show ((⟨#[dirB d]⟩ : ByteArray).size : Int) = 1 from rfl)]
    unfold strings_Contains.f
    rw [if_pos (show (⟨#[dirB d]⟩ : ByteArray).size = 1 from rfl), has_byte, Option.bind_some]
    congr 1
    rw [decide_eq_decide]
    constructor
    · intro _
      omega
    · intro _
      show dirB d ∈ ([117, 114, 100, 108] : List UInt8)
      obtain h | h | h | h : d = 0 ∨ d = 1 ∨ d = 2 ∨ d = 3 := by omega
      · subst h; decide
      · subst h; decide
      · subst h; decide
      · subst h; decide
theorem isTilted_ev (t s : ByteArray) (ht : t.size ≤ 1048576) : Ev (fun k => impl_isTilted.f k t s) ((trayOf t).isSome && decide (0 ≤ dirI s)) := by
  refine Ev.bind (f := fun _ (t101 : Bool) => (if t101 = true then ((impl_isDir.f s).bind fun t102 => (some t102)) else (some false))) (isTray_ev t ht) (Ev.const ?_)
  by_cases h : (trayOf t).isSome = true
  · rw [if_pos h, h, isDir_eq]
    rfl
  · rw [if_neg h, Bool.eq_false_iff.2 h]
    rfl
theorem tiRead_ev (t s : ByteArray) : Ev (fun k => spec_tiRead.f k t s) (match trayOf t with | none => (0, 0, [], dirI s, false) | some (w, h, cs) => (w, h, cs, dirI s, decide (0 ≤ dirI s))) := by
  refine Ev.bind (f := fun k (bt102 : Int × Int × List Int × Bool) => ((spec_tiDir.f k s).bind fun t109 => (if bt102.2.2.2 = true then (some (bt102.1, bt102.2.1, bt102.2.2.1, t109, decide (t109 ≥ 0))) else (some (bt102.1, bt102.2.1, bt102.2.2.1, t109, false))))) (tyRead_ev t) ?_
  refine Ev.bind (tiDir_ev s) (Ev.const ?_)
  rcases trayOf t with _ | ⟨w, h, cs⟩
  · rfl
  · rfl
end Go.Proofs.YtbplbbialcbceaaDoor.Q
