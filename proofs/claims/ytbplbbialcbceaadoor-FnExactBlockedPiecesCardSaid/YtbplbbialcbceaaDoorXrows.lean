/- Splitting a text at one byte, in plain words: 'rows'. -/
import Derived.Lib.Split
import Derived.Lib.SplitLaws
import Derived.Lib.IndexLaws
namespace Go.Proofs.YtbplbbialcbceaaDoor.Q
def rows (c : UInt8) : List UInt8 → List (List UInt8)
  | [] => [[]]
  | b :: l => if b = c then [] :: rows c l else match rows c l with
    | [] => [[b]]
    | r :: rs => (b :: r) :: rs
theorem rows_ne (c : UInt8) : ∀ l, rows c l ≠ []
  | [] => by simp [rows]
  | b :: l => by
    unfold rows
    split
    · simp
    · split <;> simp
theorem rows_free (c : UInt8) : ∀ l : List UInt8, c ∉ l → rows c l = [l]
  | [], _ => rfl
  | b :: l, h => by
    have h1 : b ≠ c := fun e => h (by simp [e])
    have h2 : c ∉ l := fun e => h (by simp [e])
    unfold rows
    rw [if_neg h1, rows_free c l h2]
theorem rows_at (c : UInt8) (q : List UInt8) : ∀ p : List UInt8, c ∉ p → rows c (p ++ c :: q) = p :: rows c q
  | [], _ => by simp [rows]
  | b :: p, h => by
    have h1 : b ≠ c := fun e => h (by simp [e])
    have h2 : c ∉ p := fun e => h (by simp [e])
    have ih := rows_at c q p h2
    rw [List.cons_append, rows, if_neg h1, ih]
theorem index_free (c : UInt8) : ∀ l : List UInt8, c ∉ l → Lib.index l [c] = -1
  | [], _ => by simp [Lib.index]
  | b :: l, h => by
    have h1 : c ≠ b := fun e => h (by simp [e])
    have h2 : c ∉ l := fun e => h (by simp [e])
    unfold Lib.index
    rw [if_neg (by simp [List.isPrefixOf, h1]), index_free c l h2]
    rfl
theorem index_at (c : UInt8) (q : List UInt8) : ∀ p : List UInt8, c ∉ p → Lib.index (p ++ c :: q) [c] = p.length
  | [], _ => by simp [Lib.index, List.isPrefixOf]
  | b :: p, h => by
    have h1 : c ≠ b := fun e => h (by simp [e])
    have h2 : c ∉ p := fun e => h (by simp [e])
    have ih := index_at c q p h2
    rw [List.cons_append]
    unfold Lib.index
    rw [if_neg (by simp [List.isPrefixOf, h1]), ih, if_neg (by simp)]
    simp
theorem cut_at (c : UInt8) : ∀ l : List UInt8, c ∈ l → ∃ p q, l = p ++ c :: q ∧ c ∉ p
  | [], h => by simp at h
  | b :: l, h => by
    by_cases e : b = c
    · exact ⟨[], l, by simp [e], by simp⟩
    · obtain ⟨p, q, h1, h2⟩ := cut_at c l (by simpa [Ne.symm e] using h)
      exact ⟨b :: p, q, by simp [h1], by simp [Ne.symm e, h2]⟩
theorem splitK_rows (c : UInt8) : ∀ (k : Nat) (l : List UInt8), l.count c = k → Lib.splitK [c] 0 k l = rows c l
  | 0, l, h => by
    have h2 : c ∉ l := List.count_eq_zero.1 h
    rw [rows_free c l h2]
    rfl
  | k + 1, l, h => by
    have h2 : c ∈ l := List.count_pos_iff.1 (by omega)
    obtain ⟨p, q, rfl, hp⟩ := cut_at c l h2
    unfold Lib.splitK
    rw [index_at c q p hp, if_neg (by simp), rows_at c q p hp]
    have hq : q.count c = k := by
      rw [List.count_append, List.count_cons_self, List.count_eq_zero.2 hp] at h
      omega
    simp only [Int.toNat_natCast, Nat.add_zero, List.take_left, List.length_singleton]
    congr 1
    rw [show (p ++ c :: q).drop (p.length + 1) = q by rw [← List.drop_drop, List.drop_left]; rfl]
    exact splitK_rows c k q hq
theorem rows_flat (c : UInt8) : ∀ l, (rows c l).flatten.length ≤ l.length
  | [] => by simp [rows]
  | b :: l => by
    have ih := rows_flat c l
    unfold rows
    split
    · simp at ih ⊢; omega
    · split
      · simp
      · rename_i r rs e
        rw [e] at ih
        simp at ih ⊢
        omega
theorem rows_length (c : UInt8) : ∀ l, (rows c l).length = l.count c + 1
  | [] => by simp [rows]
  | b :: l => by
    have ih := rows_length c l
    unfold rows
    split
    · rename_i e; subst e; simp [ih]
    · rename_i e
      split
      · rename_i e2; exact absurd e2 (rows_ne c l)
      · rename_i r rs e2
        rw [e2] at ih
        rw [List.count_cons_of_ne e]
        simpa using ih
end Go.Proofs.YtbplbbialcbceaaDoor.Q
