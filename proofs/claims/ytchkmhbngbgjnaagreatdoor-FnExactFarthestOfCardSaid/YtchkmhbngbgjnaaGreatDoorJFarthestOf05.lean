/- Texts of this claim, joined. -/
import Derived.Test.YtchkmhbngbgjnaaGreatDoorJFarthestOf04
import Derived.Test.YtchkmhbngbgjnaaGreatDoorJFarthestOf03
import Derived.Test.YtchkmhbngbgjnaaGreatDoorJFarthestOf02
set_option linter.unusedVariables false
set_option linter.unusedSimpArgs false
set_option linter.unusedSectionVars false
section
namespace Go.Proofs.YtchkmhbngbgjnaaGreatDoor.Q
open Go.RowKit Go.Shelf Go.Proofs.YtchkmhbngbgjnaaGreatDoorW.PrintWords Go.Proofs.YtchkmhbngbgjnaaGreatDoorW.PrintLast Go.Proofs.YtchkmhbngbgjnaaGreatDoorW.PrintMore
set_option linter.unusedSectionVars false
theorem fold_min : ∀ (l : List Int) (a : Int), (l.foldl min a = a ∨ l.foldl min a ∈ l) ∧ l.foldl min a ≤ a ∧ ∀ x ∈ l, l.foldl min a ≤ x
 | [], a => ⟨.inl rfl, Int.le_refl _, fun _ hx => by cases hx⟩
 | y :: l, a => by
  obtain ⟨h1, h2, h3⟩ := fold_min l (min a y)
  rw [List.foldl_cons]
  refine ⟨?_, by omega, fun x hx => ?_⟩
  ·rcases h1 with h1 | h1
   ·rw [h1]
    by_cases h : a ≤ y
    ·left
     omega
    ·right
     rw [show min a y = y by omega]
     exact List.mem_cons_self
   ·exact .inr (List.mem_cons_of_mem _ h1)
  ·rcases List.mem_cons.1 hx with rfl | hx
   ·omega
   ·exact h3 x hx
theorem minOf_cons (x : Int) (l : List Int) : Lib.minOf (x :: l) = l.foldl min x := by
 unfold Lib.minOf
 rw [List.headD_cons, List.foldl_cons, show min x x = x by omega]
theorem minOf_mem (s : List Int) (h : s ≠ []) : Lib.minOf s ∈ s := by
 cases s with
 | nil => exact absurd rfl h
 | cons x l =>
  rw [minOf_cons]
  rcases (fold_min l x).1 with h1 | h1
  ·rw [h1]
   exact List.mem_cons_self
  ·exact List.mem_cons_of_mem _ h1
theorem mins_nodup {L : List (List Int)} (hf : L.flatten.Nodup) (hn : ∀ s ∈ L, s ≠ []) : (L.map Lib.minOf).Nodup := by
 refine List.pairwise_map.2 (List.Pairwise.imp_of_mem (fun {a b} ha hb hne e => hne ?_) (nodup_of_flat L hf hn))
 exact flat_inj L hf a b (Lib.minOf a) ha hb (minOf_mem a (hn a ha)) (by rw [e]; exact minOf_mem b (hn b hb))
theorem sortable_of {L : List (List Int)} (hl : L.length ≤ 1000) (hf : L.flatten.Nodup) (hn : ∀ s ∈ L, s ≠ []) (hb : ∀ s ∈ L, s.length ≤ 1000 ∧ ∀ x ∈ s, 0 ≤ x ∧ x ≤ 1000000) : sortable L = true := by
 unfold sortable
 rw [Bool.and_eq_true, Bool.and_eq_true, List.all_eq_true]
 refine ⟨⟨decide_eq_true hl, fun s hs => ?_⟩, decide_eq_true (mins_nodup hf hn)⟩
 have h1 := List.length_pos_iff.2 (hn s hs)
 have h2 := (hb s hs).2 _ (minOf_mem s (hn s hs))
 simp only [Bool.and_eq_true, decide_eq_true_eq]
 exact ⟨⟨⟨h1, (hb s hs).1⟩, h2.1⟩, h2.2⟩
theorem cutA_len (cs : List Int) : ∀ (l own : List Int), (cutA cs l own).length ≤ l.length + 1
 | [], own => by
  unfold cutA
  split <;> simp
 | k :: l, own => by
  unfold cutA
  split
  ·split
   ·have := cutA_len cs l []
    simp only [List.length_cons]
    omega
   ·have := cutA_len cs l []
    simp only [List.length_cons]
    omega
  ·have := cutA_len cs l (own ++ [k])
   simp only [List.length_cons]
   omega
theorem rdS_drop {L : List (List Int)} {u : Nat} {x : List Int} {l : List (List Int)} (h : L.drop u = x :: l) : u < L.length ∧ rdS L (u : Int) = x ∧ L.drop (u + 1) = l := by
 have hu : u < L.length := by
  rcases Nat.lt_or_ge u L.length with h1 | h1
  ·exact h1
  ·rw [List.drop_eq_nil_of_le h1] at h
   cases h
 rw [List.drop_eq_getElem_cons hu] at h
 injection h with h1 h2
 refine ⟨hu, ?_, h2⟩
 unfold rdS
 rw [Int.toNat_natCast, List.getD_eq_getElem?_getD, List.getElem?_eq_getElem hu]
 exact h1
theorem str_l1 (cs : List Int) (w h n i : Int) (P : List (List Int)) (L : List Int) (r : List (List Int)) : ∀ (l : List Int) (u : Nat) (out : List (List Int)) (own : List Int), L.drop u = l → (∀ x ∈ l, 0 ≤ x ∧ x < (cs.length : Int)) → own.length + l.length ≤ 1000 → out.length + l.length ≤ 1000 → u + l.length ≤ 1000 → u ≤ L.length →
  Ev (fun k => impl_tray_stretches.l0 k (out ++ cutA cs l own) P n (wrap64 (i + 1)) w h cs) r → Ev (fun k => impl_tray_stretches.l1 k out own P n i L (L.length : Int) (u : Int) w h cs) r
 | [], u, out, own, hd, _, _, ho, _, hu, hE => by
  have hL : u = L.length := by
   have := congrArg List.length hd
   simp at this
   omega
  subst hL
  refine Ev.step hE fun k => ?_
  simp only [impl_tray_stretches.l1]
  rw [if_neg (by omega)]
  unfold cutA
  by_cases hz : own = []
  ·subst hz
   rw [if_neg (by simp), if_pos rfl, List.append_nil]
  ·have := List.length_pos_iff.2 hz
   rw [if_pos (by omega), if_pos (by simp at ho; omega), if_neg hz]
 | x :: l, u, out, own, hd, hx, hw, ho, hq, hu, hE => by
  obtain ⟨h1, h2, h3⟩ := rd_drop hd
  obtain ⟨x0, x1⟩ := hx x List.mem_cons_self
  have hx' : ∀ y ∈ l, 0 ≤ y ∧ y < (cs.length : Int) := fun y hy => hx y (List.mem_cons_of_mem _ hy)
  simp only [List.length_cons] at hw ho hq
  unfold cutA at hE
  by_cases h35 : rd cs x = 35
  ·rw [if_pos h35] at hE
   by_cases hz : own = []
   ·rw [if_pos hz] at hE
    subst hz
    refine Ev.step (str_l1 cs w h n i P L r l (u + 1) out [] h3 hx' (by simp; omega) (by omega) (by omega) h1 hE) fun k => ?_
    simp only [impl_tray_stretches.l1]
    rw [if_pos (by omega), if_pos (by omega), if_pos (by omega), h2, if_pos x0, if_pos x1, if_pos h35, if_neg (by simp), wr1 u (by omega)]
   ·rw [if_neg hz] at hE
    have := List.length_pos_iff.2 hz
    refine Ev.step (str_l1 cs w h n i P L r l (u + 1) (out ++ [own]) [] h3 hx' (by simp; omega) (by simp; omega) (by omega) h1 (by rw [List.append_assoc]; exact hE)) fun k => ?_
    simp only [impl_tray_stretches.l1]
    rw [if_pos (by omega), if_pos (by omega), if_pos (by omega), h2, if_pos x0, if_pos x1, if_pos h35, if_pos (by omega), if_pos (by omega), wr1 u (by omega)]
  ·rw [if_neg h35] at hE
   refine Ev.step (str_l1 cs w h n i P L r l (u + 1) out (own ++ [x]) h3 hx' (by simp; omega) (by omega) (by omega) h1 hE) fun k => ?_
   simp only [impl_tray_stretches.l1]
   rw [if_pos (by omega), if_pos (by omega), if_pos (by omega), h2, if_pos x0, if_pos x1, if_neg h35, if_pos (by omega), wr1 u (by omega)]
theorem str_l0 (cs : List Int) (w h : Int) (P : List (List Int)) : ∀ (Ls : List (List Int)) (i : Nat) (out : List (List Int)), P.drop i = Ls → (∀ l ∈ Ls, l.length ≤ 7 ∧ ∀ x ∈ l, 0 ≤ x ∧ x < (cs.length : Int)) → out.length + 8 * Ls.length ≤ 900 → i ≤ P.length → i + Ls.length ≤ 100 →
  ∀ r, slices_SortFunc_str.f (out ++ Ls.flatMap fun l => cutA cs l []) = some r → Ev (fun k => impl_tray_stretches.l0 k out P (P.length : Int) (i : Int) w h cs) r
 | [], i, out, hd, _, _, hi, _, r, hE => by
  have hL : i = P.length := by
   have := congrArg List.length hd
   simp at this
   omega
  subst hL
  refine Ev.step (Ev.const hE) fun k => ?_
  simp only [impl_tray_stretches.l0]
  rw [if_neg (by omega), List.flatMap_nil, List.append_nil]
 | l :: Ls, i, out, hd, hb, hl, hi, hq, r, hE => by
  obtain ⟨h1, h2, h3⟩ := rdS_drop hd
  obtain ⟨b1, b2⟩ := hb l List.mem_cons_self
  have hcl := cutA_len cs l []
  simp only [List.length_cons] at hl hq
  rw [List.flatMap_cons, ← List.append_assoc] at hE
  have h5 := str_l0 cs w h P Ls (i + 1) (out ++ cutA cs l []) h3 (fun y hy => hb y (List.mem_cons_of_mem _ hy)) (by simp only [List.length_append]; omega) h1 (by omega) r hE
  rw [← wr1 i (by omega)] at h5
  refine Ev.step (str_l1 cs w h P.length i P l r l 0 out [] rfl b2 (by simp; omega) (by omega) (by omega) (Nat.zero_le _) h5) fun k => ?_
  simp only [impl_tray_stretches.l0]
  rw [if_pos (by omega), if_pos (by omega), if_pos (by omega), h2]
  rfl
def strL (w h : Nat) (cs : List Int) (d : Nat) : List (List Int) := (cutsL w h cs d).mergeSort leM
section
variable {w h : Nat} {cs : List Int} (hw : w ≤ 7) (hh : h ≤ 7) (hs : w * h ≤ 36) {d : Nat} (hd : d < 4)
include hw hh hs hd
theorem lines_many : (linesL w h (dirC d)).length ≤ 7 := by
 unfold linesL manyL
 rw [List.length_map, List.length_range]
 split <;> omega
theorem lines_in (hn : cs.length = w * h) : ∀ l ∈ linesL w h (dirC d), l.length ≤ 7 ∧ ∀ x ∈ l, 0 ≤ x ∧ x < (cs.length : Int) := fun l hl =>
 ⟨line_len hw hh hs hd hl, by rw [hn]; exact mem_chain hw hh hs hd l (-1) ((lines_ok hw hh hs hd).2.2 l hl)⟩
theorem cuts_in (hn : cs.length = w * h) : ∀ s ∈ cutsL w h cs d, s.length ≤ 1000 ∧ ∀ x ∈ s, 0 ≤ x ∧ x < ((w * h : Nat) : Int) := by
 intro s hm
 obtain ⟨l, hl, hsl⟩ := List.mem_flatMap.1 hm
 obtain ⟨h1, h2⟩ := lines_in hw hh hs hd hn l hl
 have hsub : ∀ x ∈ s, x ∈ l := fun x hx => by
  have := List.mem_flatten.2 ⟨s, hsl, hx⟩
  rw [cutA_flat, List.nil_append] at this
  exact (List.mem_filter.1 this).1
 refine ⟨?_, fun x hx => by rw [← hn]; exact h2 x (hsub x hx)⟩
 obtain ⟨_, _, p, q, e, _⟩ := (cutA_split cs l [] (fun _ hx => by cases hx) s).1 hsl
 have := congrArg List.length e
 simp only [List.nil_append, List.length_append] at this
 omega
theorem cuts_many : (cutsL w h cs d).length ≤ 56 := by
 have key : ∀ Ls : List (List Int), (∀ l ∈ Ls, l.length ≤ 7) → (Ls.flatMap fun l => cutA cs l []).length ≤ 8 * Ls.length := by
  intro Ls
  induction Ls with
  | nil => intro _; simp
  | cons l Ls ih =>
   intro hb
   have h1 := hb l List.mem_cons_self
   have h2 := ih fun y hy => hb y (List.mem_cons_of_mem _ hy)
   have h3 := cutA_len cs l []
   rw [List.flatMap_cons, List.length_append, List.length_cons]
   omega
 have h1 := key (linesL w h (dirC d)) fun l hl => line_len hw hh hs hd hl
 have h2 := lines_many hw hh hs hd
 unfold cutsL
 omega
theorem cuts_sortable (hn : cs.length = w * h) : sortable (cutsL w h cs d) = true := by
 refine sortable_of (by have := cuts_many hw hh hs hd (cs := cs); omega) (cuts_nodup hw hh hs hd) (cuts_ne hw hh hs hd) fun s hm => ?_
 obtain ⟨h1, h2⟩ := cuts_in hw hh hs hd hn s hm
 exact ⟨h1, fun x hx => by have := h2 x hx; omega⟩
theorem stretches_ev (hw0 : 0 < w) (hh0 : 0 < h) (hn : cs.length = w * h) : Ev (fun k => impl_tray_stretches.f k w h cs (dirC d)) (strL w h cs d) := by
 unfold impl_tray_stretches.f
 refine Ev.bind (lines_ev hw hh hs hw0 hh0 hd cs) ?_
 have h1 := lines_many hw hh hs hd
 refine str_l0 cs w h (linesL w h (dirC d)) (linesL w h (dirC d)) 0 [] rfl (lines_in hw hh hs hd hn) (by simp; omega) (Nat.zero_le _) (by omega) _ ?_
 rw [List.nil_append]
 exact if_pos (cuts_sortable hw hh hs hd hn)
end
end Go.Proofs.YtchkmhbngbgjnaaGreatDoor.Q
end
section
namespace Go.Proofs.YtchkmhbngbgjnaaGreatDoor.Q
open Go.RowKit Go.Shelf Go.Proofs.YtchkmhbngbgjnaaGreatDoorW.PrintWords Go.Proofs.YtchkmhbngbgjnaaGreatDoorW.PrintLast Go.Proofs.YtchkmhbngbgjnaaGreatDoorW.PrintMore
set_option linter.unusedSectionVars false
theorem least_eq (a b : Int) : spec_l1Least.f a b = some (min a b) := by
 unfold spec_l1Least.f
 by_cases h : a < b
 ·rw [if_pos h, show min a b = a by omega]
 ·rw [if_neg h, show min a b = b by omega]
theorem first_l0 (L : List Int) : ∀ (l : List Int) (u : Nat) (a : Int), L.drop u = l → u ≤ L.length → u + l.length ≤ 1000 → Ev (fun k => spec_tiFirst.l0 k a L (L.length : Int) (u : Int)) (l.foldl min a)
 | [], u, a, hd, hu, _ => by
  have hL : u = L.length := by
   have := congrArg List.length hd
   simp at this
   omega
  subst hL
  refine Ev.step (Ev.const rfl) fun k => ?_
  simp only [spec_tiFirst.l0]
  rw [if_neg (by omega)]
  rfl
 | x :: l, u, a, hd, _, hq => by
  obtain ⟨h1, h2, h3⟩ := rd_drop hd
  simp only [List.length_cons] at hq
  refine Ev.step (first_l0 L l (u + 1) (min a x) h3 h1 (by omega)) fun k => ?_
  simp only [spec_tiFirst.l0]
  rw [if_pos (by omega), if_pos (by omega), if_pos (by omega), h2, least_eq, Option.bind_some, wr1 u (by omega)]
theorem first_ev (s : List Int) (h : s ≠ []) (hl : s.length ≤ 1000) : Ev (fun k => spec_tiFirst.f k s) (Lib.minOf s) := by
 have h1 := List.length_pos_iff.2 h
 cases s with
 | nil => exact absurd rfl h
 | cons x l =>
  refine Ev.congr (first_l0 (x :: l) (x :: l) 0 x rfl (Nat.zero_le _) (by omega)) fun k => ?_
  unfold spec_tiFirst.f
  rw [if_pos (by omega)]
  rfl
def insM (s : List Int) : List (List Int) → List (List Int)
 | [] => [s]
 | t :: L => if Lib.minOf t < Lib.minOf s then t :: insM s L else s :: t :: L
theorem insM_perm (s : List Int) : ∀ L, (insM s L).Perm (s :: L)
 | [] => List.Perm.refl _
 | t :: L => by
  unfold insM
  split
  ·exact ((insM_perm s L).cons t).trans (List.Perm.swap s t L)
  ·exact List.Perm.refl _
theorem insM_sorted (s : List Int) : ∀ L : List (List Int), L.Pairwise (fun a b => Lib.minOf a ≤ Lib.minOf b) → (insM s L).Pairwise (fun a b => Lib.minOf a ≤ Lib.minOf b)
 | [], _ => List.pairwise_singleton _ _
 | t :: L, h => by
  obtain ⟨h1, h2⟩ := List.pairwise_cons.1 h
  unfold insM
  split
  ·rename_i hlt
   refine List.pairwise_cons.2 ⟨fun x hx => ?_, insM_sorted s L h2⟩
   rcases List.mem_cons.1 ((insM_perm s L).subset hx) with rfl | hx
   ·omega
   ·exact h1 x hx
  ·rename_i hge
   refine List.pairwise_cons.2 ⟨fun x hx => ?_, h⟩
   rcases List.mem_cons.1 hx with rfl | hx
   ·omega
   ·have := h1 x hx
    omega
theorem sort_same : ∀ A B : List (List Int), A.Perm B → A.Pairwise (fun a b => Lib.minOf a < Lib.minOf b) → B.Pairwise (fun a b => Lib.minOf a < Lib.minOf b) → A = B
 | [], B, hp, _, _ => hp.nil_eq
 | a :: A, [], hp, _, _ => by have := hp.length_eq; simp at this
 | a :: A, b :: B, hp, ha, hb => by
  obtain ⟨a1, a2⟩ := List.pairwise_cons.1 ha
  obtain ⟨b1, b2⟩ := List.pairwise_cons.1 hb
  have hab : a = b := by
   rcases List.mem_cons.1 (hp.subset List.mem_cons_self) with h | h
   ·exact h
   ·rcases List.mem_cons.1 (hp.symm.subset List.mem_cons_self) with h2 | h2
    ·exact h2.symm
    ·have := b1 a h
     have := a1 b h2
     omega
  subst hab
  rw [sort_same A B ((List.perm_cons a).1 hp) a2 b2]
theorem strict_of {L : List (List Int)} (h : L.Pairwise fun a b => Lib.minOf a ≤ Lib.minOf b) (hn : (L.map Lib.minOf).Nodup) : L.Pairwise fun a b => Lib.minOf a < Lib.minOf b := by
 have h2 : L.Pairwise fun a b => Lib.minOf a ≠ Lib.minOf b := List.pairwise_map.1 hn
 exact (h.and h2).imp fun ⟨h3, h4⟩ => by omega
theorem rdL_app (A B : List (List Int)) (t : List Int) : rd_Lii (A ++ t :: B) (A.length : Int) = t := by
 unfold rd_Lii
 rw [Int.toNat_natCast, List.getD_eq_getElem?_getD, List.getElem?_append_right (Nat.le_refl _), Nat.sub_self]
 rfl
theorem ins_l2 (d : Int) (own : List Int) (ho : own ≠ []) (hol : own.length ≤ 1000) (c : List Int) (n i w h : Int) (cs : List Int) (r : List (List Int)) : ∀ (B A : List (List Int)), (∀ t ∈ B, t ≠ [] ∧ t.length ≤ 1000) → A.length + B.length ≤ 500 →
  Ev (fun k => spec_tiStretches.l0 k d (A ++ insM own B) c n (wrap64 (i + 1)) w h cs) r → Ev (fun k => spec_tiStretches.l2 k d (A ++ B) own (A.length : Int) c n i w h cs) r
 | [], A, _, hl, hE => by
  simp only [List.length_nil] at hl
  refine Ev.step hE fun k => ?_
  simp only [spec_tiStretches.l2, Option.bind_some, List.append_nil, List.nil_append, insM]
  rw [if_neg (by omega), if_pos (by omega), if_pos (by omega), Int.toNat_natCast, List.take_length, List.drop_length, if_pos (by simp; omega), if_pos (by omega), if_pos (by simp; omega), List.append_nil]
 | t :: B, A, hb, hl, hE => by
  simp only [List.length_cons] at hl
  obtain ⟨t1, t2⟩ := hb t List.mem_cons_self
  have hlen : (A.length : Int) < ((A ++ t :: B).length : Int) := by simp; omega
  unfold insM at hE
  obtain ⟨k1, e1⟩ := first_ev t t1 t2
  obtain ⟨k2, e2⟩ := first_ev own ho hol
  by_cases hlt : Lib.minOf t < Lib.minOf own
  ·rw [if_pos hlt] at hE
   have ih := ins_l2 d own ho hol c n i w h cs r B (A ++ [t]) (fun x hx => hb x (List.mem_cons_of_mem _ hx)) (by simp; omega) (by rw [List.append_assoc]; exact hE)
   rw [List.append_assoc, List.singleton_append, List.length_append, List.length_singleton, ← wr1 A.length (by omega)] at ih
   obtain ⟨k3, e3⟩ := ih
   refine ⟨k1 + k2 + k3 + 1, fun k hk => ?_⟩
   obtain ⟨k, rfl⟩ : ∃ k', k = k' + 1 := ⟨k - 1, by omega⟩
   simp only [spec_tiStretches.l2]
   rw [if_pos hlen, if_pos (by omega), rdL_app, show spec_tiFirst.f k t = some (Lib.minOf t) from e1 k (by omega), Option.bind_some, show spec_tiFirst.f k own = some (Lib.minOf own) from e2 k (by omega), Option.bind_some, if_pos hlt]
   exact e3 k (by omega)
  ·rw [if_neg hlt] at hE
   obtain ⟨k3, e3⟩ := hE
   refine ⟨k1 + k2 + k3 + 1, fun k hk => ?_⟩
   obtain ⟨k, rfl⟩ : ∃ k', k = k' + 1 := ⟨k - 1, by omega⟩
   simp only [spec_tiStretches.l2]
   rw [if_pos hlen, if_pos (by omega), rdL_app, show spec_tiFirst.f k t = some (Lib.minOf t) from e1 k (by omega), Option.bind_some, show spec_tiFirst.f k own = some (Lib.minOf own) from e2 k (by omega), Option.bind_some, if_neg hlt]
   simp only [Option.bind_some, List.nil_append, Int.toNat_natCast, List.take_left', List.drop_left', List.take_left, List.drop_left]
   rw [if_pos (by omega), if_pos (by simp; omega), if_pos (by omega), if_pos (by simp; omega), List.append_assoc, List.singleton_append]
   exact e3 k (by omega)
def lf (w h i d : Nat) : Nat := if d = 0 then i / w else if d = 1 then w - 1 - i % w else if d = 2 then h - 1 - i / w else i % w
theorem lf_all : ∀ (w h : Fin 8) (i : Fin 36) (d : Fin 4), i.val < w.val * h.val → lf w.val h.val i.val d.val ≤ 6 ∧ (0 ≤ an w.val h.val i.val d.val → lf w.val h.val (an w.val h.val i.val d.val).toNat d.val < lf w.val h.val i.val d.val) := by decide +kernel
theorem back_all : ∀ d : Fin 4, Int.tmod (wrap64 ((d.val : Int) + 2)) 4 = (((d.val + 2) % 4 : Nat) : Int) := by decide +kernel
theorem strW_len (w h : Nat) (cs : List Int) (e : Nat) : ∀ (m : Nat) (x : Int), (strW w h cs e m x).length ≤ m
 | 0, _ => Nat.le_refl _
 | m + 1, x => by
  unfold strW
  rw [List.length_cons]
  split
  ·simp
  ·have := strW_len w h cs e m (aN w h cs e x.toNat)
   omega
section
variable {w h : Nat} {cs : List Int} (hw : w ≤ 7) (hh : h ≤ 7) (hs : w * h ≤ 36) {d : Nat} (hd : d < 4) (hn : cs.length = w * h)
include hw hh hs hd hn
theorem own_l1 (c : List Int) (n i : Int) (out : List (List Int)) (r : List (List Int)) : ∀ (m : Nat) (x : Int) (own : List Int), 0 ≤ x → x < ((w * h : Nat) : Int) → lf w h x.toNat ((d + 2) % 4) < m → own.length + m ≤ 500 →
  Ev (fun k => spec_tiStretches.l2 k d out (own ++ strW w h cs ((d + 2) % 4) m x) 0 c n i w h cs) r → Ev (fun k => spec_tiStretches.l1 k d out own x c n i w h cs) r
 | 0, x, own, _, _, hl, _, _ => absurd hl (Nat.not_lt_zero _)
 | m + 1, x, own, x0, x1, hl, ho, hE => by
  have he : (d + 2) % 4 < 4 := Nat.mod_lt _ (by omega)
  have hxt : x.toNat < w * h := by omega
  have hA := aN_eq hw hh hs hxt he cs hn
  rw [Int.toNat_of_nonneg x0, ← back_all ⟨d, hd⟩] at hA
  obtain ⟨_, l2⟩ := lf_all ⟨w, by omega⟩ ⟨h, by omega⟩ ⟨x.toNat, by omega⟩ ⟨(d + 2) % 4, he⟩ hxt
  have hlt := aN_lt hw hh hs hxt he cs
  unfold strW at hE
  have h1 : Ev (fun k => spec_tiStretches.l1 k d out (own ++ [x]) (aN w h cs ((d + 2) % 4) x.toNat) c n i w h cs) r := by
   by_cases hz : aN w h cs ((d + 2) % 4) x.toNat < 0
   ·rw [if_pos hz] at hE
    refine Ev.step hE fun k => ?_
    simp only [spec_tiStretches.l1]
    rw [if_neg (by omega)]
   ·rw [if_neg hz] at hE
    have ha : aN w h cs ((d + 2) % 4) x.toNat = an w h x.toNat ((d + 2) % 4) := by
     unfold aN at hz ⊢
     split
     ·rename_i h5
      rw [if_pos h5] at hz
      omega
     ·rename_i h5
      rw [if_neg h5] at hz
      split
      ·rename_i h6
       rw [if_pos h6] at hz
       omega
      ·rfl
    simp only at l2
    have h6 := l2 (by omega)
    refine own_l1 c n i out r m _ (own ++ [x]) (by omega) hlt (by rw [ha]; omega) (by simp; omega) ?_
    rw [List.append_assoc]
    exact hE
  refine Ev.step h1 fun k => ?_
  simp only [spec_tiStretches.l1]
  rw [if_pos (by omega), if_pos (by omega), hA, Option.bind_some]
def sts (w h : Nat) (cs : List Int) (d : Nat) : Nat → Nat → List (List Int) → List (List Int)
 | 0, _, out => out
 | m + 1, j, out => if rd cs (j : Int) = 35 then sts w h cs d m (j + 1) out else if 0 ≤ aN w h cs d j then sts w h cs d m (j + 1) out else sts w h cs d m (j + 1) (insM (strW w h cs ((d + 2) % 4) 36 (j : Int)) out)
theorem sts_l0 : ∀ (m j : Nat) (out : List (List Int)), j + m = w * h → (∀ t ∈ out, t ≠ [] ∧ t.length ≤ 1000) → out.length + m ≤ 400 → Ev (fun k => spec_tiStretches.l0 k d out cs (cs.length : Int) (j : Int) w h cs) (sts w h cs d m j out)
 | 0, j, out, hj, _, _ => by
  refine Ev.step (Ev.const rfl) fun k => ?_
  simp only [spec_tiStretches.l0]
  rw [if_neg (by omega)]
  rfl
 | m + 1, j, out, hj, hb, hl => by
  have hjt : j < w * h := by omega
  have he : (d + 2) % 4 < 4 := Nat.mod_lt _ (by omega)
  have hA := aN_eq hw hh hs hjt hd cs hn
  have hB := aN_eq hw hh hs hjt he cs hn
  rw [← back_all ⟨d, hd⟩] at hB
  simp only at hB
  unfold sts
  by_cases h35 : rd cs (j : Int) = 35
  ·rw [if_pos h35]
   have ih := sts_l0 m (j + 1) out (by omega) hb (by omega)
   rw [← wr1 j (by omega)] at ih
   refine Ev.step (Ev.step (g := fun k => spec_tiStretches.j1 k d out j cs (cs.length : Int) j true w h cs) ih fun k => ?_) fun k => ?_
   ·simp only [spec_tiStretches.j1, if_true]
   ·simp only [spec_tiStretches.l0]
    rw [if_pos (by omega), if_pos (by omega), if_pos (by omega), if_pos h35]
  ·rw [if_neg h35]
   by_cases h0 : 0 ≤ aN w h cs d j
   ·rw [if_pos h0]
    have ih := sts_l0 m (j + 1) out (by omega) hb (by omega)
    rw [← wr1 j (by omega)] at ih
    refine Ev.step (Ev.step (g := fun k => spec_tiStretches.j1 k d out j cs (cs.length : Int) j true w h cs) ih fun k => ?_) fun k => ?_
    ·simp only [spec_tiStretches.j1, if_true]
    ·simp only [spec_tiStretches.l0]
     rw [if_pos (by omega), if_pos (by omega), if_pos (by omega), if_neg h35, hA, Option.bind_some, decide_eq_true (by omega)]
   ·rw [if_neg h0]
    have hne : strW w h cs ((d + 2) % 4) 36 (j : Int) ≠ [] := by
     unfold strW
     simp
    have hsl := strW_len w h cs ((d + 2) % 4) 36 (j : Int)
    have hip := (insM_perm (strW w h cs ((d + 2) % 4) 36 (j : Int)) out)
    have ih := sts_l0 m (j + 1) (insM (strW w h cs ((d + 2) % 4) 36 (j : Int)) out) (by omega) (fun t ht => by
     rcases List.mem_cons.1 (hip.subset ht) with rfl | ht
     ·exact ⟨hne, by omega⟩
     ·exact hb t ht) (by rw [hip.length_eq, List.length_cons]; omega)
    rw [← wr1 j (by omega)] at ih
    have h2 := ins_l2 d _ hne (by omega) cs (cs.length : Int) j w h cs _ out [] hb (by simp; omega) ih
    have h3 : ∀ R, Ev (fun k => spec_tiStretches.l2 k d out (strW w h cs ((d + 2) % 4) 36 (j : Int)) 0 cs (cs.length : Int) j w h cs) R → Ev (fun k => spec_tiStretches.l1 k d out [(j : Int)] (aN w h cs ((d + 2) % 4) j) cs (cs.length : Int) j w h cs) R := by
     intro R h2
     unfold strW at h2
     rw [Int.toNat_natCast] at h2
     by_cases hz : aN w h cs ((d + 2) % 4) j < 0
     ·rw [if_pos hz] at h2
      refine Ev.step h2 fun k => ?_
      simp only [spec_tiStretches.l1]
      rw [if_neg (by omega)]
     ·rw [if_neg hz] at h2
      obtain ⟨l1, l2⟩ := lf_all ⟨w, by omega⟩ ⟨h, by omega⟩ ⟨(aN w h cs ((d + 2) % 4) j).toNat, by have := aN_lt hw hh hs hjt he cs; omega⟩ ⟨(d + 2) % 4, he⟩ (by have := aN_lt hw hh hs hjt he cs; simp only; omega)
      exact own_l1 hw hh hs hd hn cs (cs.length : Int) j out _ 35 _ [(j : Int)] (by omega) (aN_lt hw hh hs hjt he cs) (by simp only at l1; omega) (by simp) h2
    refine Ev.step (Ev.step (g := fun k => spec_tiStretches.j1 k d out j cs (cs.length : Int) j false w h cs) (h3 _ h2) fun k => ?_) fun k => ?_
    ·simp only [spec_tiStretches.j1, Bool.false_eq_true, if_false]
     rw [hB, Option.bind_some]
    ·simp only [spec_tiStretches.l0]
     rw [if_pos (by omega), if_pos (by omega), if_pos (by omega), if_neg h35, hA, Option.bind_some, decide_eq_false (by omega)]
end
theorem sts_perm (w h : Nat) (cs : List Int) (d : Nat) : ∀ (m j : Nat) (out : List (List Int)), (sts w h cs d m j out).Perm (out ++ (((List.range' j m).filter fun i : Nat => decide (rd cs (i : Int) ≠ 35) && decide (aN w h cs d i < 0)).map fun i : Nat => strW w h cs ((d + 2) % 4) 36 (i : Int)))
 | 0, j, out => by simp [sts]
 | m + 1, j, out => by
  rw [List.range'_succ]
  unfold sts
  split
  ·rename_i h1
   rw [List.filter_cons_of_neg (by simp [h1])]
   exact sts_perm w h cs d m (j + 1) out
  ·rename_i h1
   split
   ·rename_i h2
    rw [List.filter_cons_of_neg (by simp; omega)]
    exact sts_perm w h cs d m (j + 1) out
   ·rename_i h2
    rw [List.filter_cons_of_pos (by simp [h1]; omega), List.map_cons]
    refine (sts_perm w h cs d m (j + 1) _).trans ?_
    refine ((insM_perm _ out).append_right _).trans ?_
    exact List.perm_middle.symm
theorem sts_sorted (w h : Nat) (cs : List Int) (d : Nat) : ∀ (m j : Nat) (out : List (List Int)), out.Pairwise (fun a b => Lib.minOf a ≤ Lib.minOf b) → (sts w h cs d m j out).Pairwise (fun a b => Lib.minOf a ≤ Lib.minOf b)
 | 0, _, _, hp => hp
 | m + 1, j, out, hp => by
  unfold sts
  split
  ·exact sts_sorted w h cs d m (j + 1) out hp
  ·split
   ·exact sts_sorted w h cs d m (j + 1) out hp
   ·exact sts_sorted w h cs d m (j + 1) _ (insM_sorted _ out hp)
section
variable {w h : Nat} {cs : List Int} (hw : w ≤ 7) (hh : h ≤ 7) (hs : w * h ≤ 36) {d : Nat} (hd : d < 4)
include hw hh hs hd
theorem str_sorted : (strL w h cs d).Pairwise fun a b => Lib.minOf a < Lib.minOf b := by
 have h1 : (strL w h cs d).Pairwise fun a b => leM a b = true := List.pairwise_mergeSort (fun a b c h1 h2 => by
  unfold leM at *
  simp only [decide_eq_true_eq] at *
  omega) (fun a b => by
  unfold leM
  simp only [Bool.or_eq_true, decide_eq_true_eq]
  omega) _
 refine strict_of (h1.imp fun h2 => by unfold leM at h2; simpa using h2) ?_
 have h3 := mins_nodup (cuts_nodup hw hh hs hd (cs := cs)) (cuts_ne hw hh hs hd)
 exact ((List.mergeSort_perm (cutsL w h cs d) leM).map Lib.minOf).nodup_iff.2 h3
theorem sts_eq : sts w h cs d (w * h) 0 [] = strL w h cs d := by
 have hp : (sts w h cs d (w * h) 0 []).Perm (cutsL w h cs d) := by
  refine (sts_perm w h cs d (w * h) 0 []).trans ?_
  refine List.Perm.trans ?_ (cuts_perm hw hh hs hd (cs := cs)).symm
  rw [List.nil_append]
  unfold startsL
  rw [List.map_map, List.range_eq_range']
  exact List.Perm.refl _
 refine sort_same _ _ (hp.trans (List.mergeSort_perm _ leM).symm) ?_ (str_sorted hw hh hs hd)
 refine strict_of (sts_sorted w h cs d _ _ [] List.Pairwise.nil) ?_
 exact (hp.map Lib.minOf).nodup_iff.2 (mins_nodup (cuts_nodup hw hh hs hd (cs := cs)) (cuts_ne hw hh hs hd))
theorem tiStretches_ev (hn : cs.length = w * h) : Ev (fun k => spec_tiStretches.f k w h cs d) (strL w h cs d) := by
 rw [← sts_eq hw hh hs hd]
 unfold spec_tiStretches.f
 exact sts_l0 hw hh hs hd hn (w * h) 0 [] (by omega) (fun _ ht => by cases ht) (by simp; omega)
end
end Go.Proofs.YtchkmhbngbgjnaaGreatDoor.Q
end
section
namespace Go.Proofs.YtchkmhbngbgjnaaGreatDoor.Q
open Go.RowKit Go.Shelf Go.Proofs.YtchkmhbngbgjnaaGreatDoorW.PrintWords Go.Proofs.YtchkmhbngbgjnaaGreatDoorW.PrintLast Go.Proofs.YtchkmhbngbgjnaaGreatDoorW.PrintMore
set_option linter.unusedSectionVars false
def pairsS (cs s : List Int) : List (Int × Int) := (s.filter (bI cs)).zip s
def pairsP (cs : List Int) (P : List (List Int)) : List (Int × Int) := P.flatMap (pairsS cs)
theorem slC_eq (cs own : List Int) (hc : cs.length ≤ 1000) (hown : ∀ x ∈ own, 0 ≤ x ∧ x ≤ 1000000) : ∀ (l : List Int) (nx : Nat) (m : List (Int × Int)), nx + (l.filter (bI cs)).length ≤ own.length → (∀ x ∈ l, 0 ≤ x ∧ x < (cs.length : Int)) → m.length + l.length ≤ 1000 →
  slC cs own l nx m = some (((l.filter (bI cs)).zip (own.drop nx)).reverse ++ m)
 | [], nx, m, _, _, _ => by
  unfold slC
  simp
 | x :: l, nx, m, hn, hx, hm => by
  obtain ⟨x0, x1⟩ := hx x List.mem_cons_self
  have hx' : ∀ y ∈ l, 0 ≤ y ∧ y < (cs.length : Int) := fun y hy => hx y (List.mem_cons_of_mem _ hy)
  simp only [List.length_cons] at hm
  unfold slC
  rw [if_pos ⟨x0, x1, by omega⟩, isBall_eq, Option.bind_some]
  by_cases hb : bI cs x = true
  ·rw [List.filter_cons_of_pos hb] at hn ⊢
   simp only [List.length_cons] at hn
   have hlt : nx < own.length := by omega
   have hg : own.getD nx 0 = own[nx] := by rw [List.getD_eq_getElem?_getD, List.getElem?_eq_getElem hlt]; rfl
   obtain ⟨o0, o1⟩ := hown _ (List.getElem_mem hlt)
   rw [if_pos (show isB (rd cs x) = true from hb), hg, if_pos ⟨hlt, o0, o1, by omega⟩, slC_eq cs own hc hown l (nx + 1) _ (by omega) hx' (by simp only [List.length_cons]; omega), List.drop_eq_getElem_cons hlt, List.zip_cons_cons, List.reverse_cons, List.append_assoc, List.singleton_append]
  ·rw [List.filter_cons_of_neg hb] at hn ⊢
   rw [if_neg (show ¬ isB (rd cs x) = true from hb)]
   exact slC_eq cs own hc hown l nx m hn hx' (by omega)
theorem pairsS_len (cs s : List Int) : (pairsS cs s).length ≤ s.length := by
 unfold pairsS
 rw [List.length_zip]
 omega
theorem slP_eq (cs : List Int) (hc : cs.length ≤ 1000) : ∀ (P : List (List Int)) (m : List (Int × Int)), (∀ s ∈ P, ∀ x ∈ s, 0 ≤ x ∧ x < (cs.length : Int)) → m.length + P.flatten.length ≤ 1000 → slP cs P m = some ((pairsP cs P).reverse ++ m)
 | [], m, _, _ => rfl
 | s :: P, m, hx, hl => by
  rw [List.flatten_cons, List.length_append] at hl
  have h1 := hx s List.mem_cons_self
  have h2 := List.length_filter_le (bI cs) s
  have h3 := pairsS_len cs s
  unfold slP
  rw [if_pos (by omega), slC_eq cs s hc (fun x hxs => by have := h1 x hxs; omega) s 0 m (by omega) h1 (by omega), Option.bind_some, List.drop_zero]
  show slP cs P ((pairsS cs s).reverse ++ m) = _
  rw [slP_eq cs hc P _ (fun t ht => hx t (List.mem_cons_of_mem _ ht)) (by rw [List.length_append, List.length_reverse]; omega)]
  unfold pairsP
  rw [List.flatMap_cons, List.reverse_append, List.append_assoc]
theorem zip_snd : ∀ a b : List Int, ((a.zip b).map Prod.snd).Sublist b
 | [], b => by simp
 | a :: l, [] => by simp
 | a :: l, b :: m => by
  rw [List.zip_cons_cons, List.map_cons]
  exact (zip_snd l m).cons_cons b
theorem pairs_keys (cs : List Int) : ∀ P : List (List Int), (pairsP cs P).map Prod.fst = P.flatten.filter (bI cs)
 | [] => rfl
 | s :: P => by
  unfold pairsP
  rw [List.flatMap_cons, List.map_append, List.flatten_cons, List.filter_append]
  have h1 : (pairsS cs s).map Prod.fst = s.filter (bI cs) := List.map_fst_zip (List.length_filter_le _ _)
  rw [h1]
  congr 1
  exact pairs_keys cs P
theorem pairs_vals (cs : List Int) : ∀ P : List (List Int), ((pairsP cs P).map Prod.snd).Sublist P.flatten
 | [] => List.Sublist.refl _
 | s :: P => by
  unfold pairsP
  rw [List.flatMap_cons, List.map_append, List.flatten_cons]
  exact (zip_snd _ s).append (pairs_vals cs P)
theorem asF_of : ∀ l : List (Int × Int), (l.map Prod.fst).Nodup → ∀ p ∈ l, asF l p.1 = some p.2
 | [], _, _, hp => by cases hp
 | (k, v) :: l, hn, p, hp => by
  obtain ⟨h1, h2⟩ := List.nodup_cons.1 hn
  unfold asF upd
  rcases List.mem_cons.1 hp with rfl | hp
  ·exact if_pos rfl
  ·rw [if_neg (show ¬ p.1 = k from fun e => h1 (by rw [← e]; exact List.mem_map.2 ⟨p, hp, rfl⟩))]
   exact asF_of l h2 p hp
theorem snd_one : ∀ l : List (Int × Int), (l.map Prod.snd).Nodup → ∀ p ∈ l, ∀ q ∈ l, p.2 = q.2 → p = q
 | [], _, _, hp, _, _, _ => by cases hp
 | a :: l, hn, p, hp, q, hq, e => by
  obtain ⟨h1, h2⟩ := List.nodup_cons.1 hn
  rcases List.mem_cons.1 hp with e1 | hp1
  ·rcases List.mem_cons.1 hq with e2 | hq1
   ·rw [e1, e2]
   ·exact absurd (show a.2 ∈ l.map Prod.snd from List.mem_map.2 ⟨q, hq1, by rw [← e, e1]⟩) h1
  ·rcases List.mem_cons.1 hq with e2 | hq1
   ·exact absurd (show a.2 ∈ l.map Prod.snd from List.mem_map.2 ⟨p, hp1, by rw [e, e2]⟩) h1
   ·exact snd_one l h2 p hp1 q hq1 e
def setsL (cs : List Int) (Q : List (Int × Int)) (out : List Int) : List Int := Q.foldl (fun o p => o.set p.2.toNat (rd cs p.1)) out
theorem setsL_len (cs : List Int) : ∀ (Q : List (Int × Int)) (out : List Int), (setsL cs Q out).length = out.length
 | [], _ => rfl
 | p :: Q, out => by
  show (setsL cs Q (out.set p.2.toNat (rd cs p.1))).length = _
  rw [setsL_len, List.length_set]
theorem sets_laid (cs em : List Int) (f : Int → Option Int) (hf : Fits f cs.length) : ∀ (Q : List (Int × Int)) (ca : Int → Bool), (∀ p ∈ Q, f p.1 = some p.2) → setsL cs Q (laidCells cs em f ca) = laidCells cs em f fun y => ca y || decide (y ∈ Q.map Prod.fst)
 | [], ca, _ => by
  simp [setsL]
 | p :: Q, ca, h => by
  have h1 := laid_step cs em f ca hf p.1 p.2 (h p List.mem_cons_self)
  show setsL cs Q ((laidCells cs em f ca).set p.2.toNat (rd cs p.1)) = _
  rw [← h1, sets_laid cs em f hf Q _ fun q hq => h q (List.mem_cons_of_mem _ hq)]
  congr 1
  funext y
  rw [List.map_cons, Bool.or_assoc]
  congr 1
  rw [Bool.eq_iff_iff]
  simp only [Bool.or_eq_true, decide_eq_true_eq, List.mem_cons]
section
variable {w h : Nat} {cs : List Int} (hw : w ≤ 7) (hh : h ≤ 7) (hs : w * h ≤ 36) {d : Nat} (hd : d < 4)
include hw hh hs hd
theorem str_flat : (strL w h cs d).flatten.Nodup := (List.mergeSort_perm (cutsL w h cs d) leM).flatten.nodup_iff.2 (cuts_nodup hw hh hs hd)
theorem str_in (hn : cs.length = w * h) : ∀ s ∈ strL w h cs d, s.length ≤ 1000 ∧ ∀ x ∈ s, 0 ≤ x ∧ x < (cs.length : Int) := fun s hm => by
 obtain ⟨h1, h2⟩ := cuts_in hw hh hs hd hn s ((List.mergeSort_perm (cutsL w h cs d) leM).subset hm)
 exact ⟨h1, fun x hx => by rw [hn]; exact h2 x hx⟩
theorem str_total (hn : cs.length = w * h) : (strL w h cs d).flatten.length ≤ w * h := nodup_len (w * h) _ (str_flat hw hh hs hd) fun x hx => by
 obtain ⟨s, h1, h2⟩ := List.mem_flatten.1 hx
 rw [← hn]
 exact (str_in hw hh hs hd hn s h1).2 x h2
theorem slide_ev (hw0 : 0 < w) (hh0 : 0 < h) (hn : cs.length = w * h) : Ev (fun k => impl_tray_slide.f k w h cs (dirC d)) (pairsP cs (strL w h cs d)).reverse := by
 have h1 := cuts_many hw hh hs hd (cs := cs)
 have h2 : (strL w h cs d).length = (cutsL w h cs d).length := by unfold strL; exact List.length_mergeSort _
 have h3 := str_total hw hh hs hd hn
 refine Ev.bind (f := fun _ P => if P.length ≤ 1000 then slP cs P [] else none) (stretches_ev hw hh hs hd hw0 hh0 hn) (Ev.const ?_)
 rw [if_pos (by omega), slP_eq cs (by omega) _ [] (fun s hm => (str_in hw hh hs hd hn s hm).2) (by simp only [List.length_nil]; omega), List.append_nil]
theorem slide_keys : (((pairsP cs (strL w h cs d)).reverse).map Prod.fst).Nodup := by
 rw [List.map_reverse, pairs_keys]
 exact (List.reverse_perm _).nodup_iff.2 ((str_flat hw hh hs hd).filter _)
theorem slide_vals : (((pairsP cs (strL w h cs d)).reverse).map Prod.snd).Nodup := by
 rw [List.map_reverse]
 exact (List.reverse_perm _).nodup_iff.2 ((str_flat hw hh hs hd).sublist (pairs_vals cs _))
theorem pair_in (hn : cs.length = w * h) : ∀ p ∈ pairsP cs (strL w h cs d), (0 ≤ p.1 ∧ p.1 < (cs.length : Int)) ∧ 0 ≤ p.2 ∧ p.2 < (cs.length : Int) := by
 intro p hp
 have hall : ∀ x ∈ (strL w h cs d).flatten, 0 ≤ x ∧ x < (cs.length : Int) := fun x hx => by
  obtain ⟨s, h1, h2⟩ := List.mem_flatten.1 hx
  exact (str_in hw hh hs hd hn s h1).2 x h2
 have h1 : p.1 ∈ (pairsP cs (strL w h cs d)).map Prod.fst := List.mem_map.2 ⟨p, hp, rfl⟩
 rw [pairs_keys] at h1
 exact ⟨hall _ (List.mem_filter.1 h1).1, hall _ ((pairs_vals cs _).subset (List.mem_map.2 ⟨p, hp, rfl⟩))⟩
theorem slide_fits (hn : cs.length = w * h) : fitsB (pairsP cs (strL w h cs d)).reverse cs.length = true := by
 have h1 := slide_vals hw hh hs hd (cs := cs)
 unfold fitsB
 rw [Bool.and_eq_true, List.all_eq_true, List.all_eq_true]
 refine ⟨fun p hp => ?_, fun p hp => List.all_eq_true.2 fun q hq => ?_⟩
 ·have := pair_in hw hh hs hd hn p (List.mem_reverse.1 hp)
  simp only [Bool.and_eq_true, decide_eq_true_eq]
  omega
 ·by_cases e : p.2 = q.2
  ·rw [snd_one _ h1 p hp q hq e]
   simp
  ·simp [e]
def tiltC (w h : Nat) (cs : List Int) (d : Nat) : List Int := laidCells cs (emptyC cs) (asF (pairsP cs (strL w h cs d)).reverse) fun _ => true
theorem tilted_ev (hw0 : 0 < w) (hh0 : 0 < h) (hn : cs.length = w * h) : Ev (fun k => impl_tray_tilted.f k w h cs (dirC d)) ((w : Int), (h : Int), tiltC w h cs d) := by
 have hz : 0 < w * h := Nat.mul_pos hw0 hh0
 refine Ev.bind (f := fun _ m => if (0 < cs.length ∧ cs.length ≤ 1000) ∧ fitsB m cs.length = true then some ((w : Int), (h : Int), laidCells cs (emptyC cs) (asF m) (fun _ => true)) else none) (slide_ev hw hh hs hd hw0 hh0 hn) (Ev.const ?_)
 rw [if_pos ⟨⟨by omega, by omega⟩, slide_fits hw hh hs hd hn⟩]
 rfl
theorem tilt_sets (hn : cs.length = w * h) : setsL cs (pairsP cs (strL w h cs d)) (emptyC cs) = tiltC w h cs d := by
 have hF := fits_tilt (slide_fits hw hh hs hd hn)
 have h1 := sets_laid cs (emptyC cs) (asF (pairsP cs (strL w h cs d)).reverse) hF (pairsP cs (strL w h cs d)) (fun _ => false) fun p hp => asF_of _ (slide_keys hw hh hs hd) p (List.mem_reverse.2 hp)
 rw [laid_none cs (emptyC cs) _ (by unfold emptyC; rw [List.length_map])] at h1
 rw [h1]
 refine laid_congr cs (emptyC cs) _ _ _ _ fun x _ => ⟨rfl, fun hx => ?_⟩
 rw [Bool.false_or, decide_eq_true_iff]
 cases e : asF (pairsP cs (strL w h cs d)).reverse (x : Int) with
 | none => exact absurd e hx
 | some c => exact List.mem_map.2 ⟨_, List.mem_reverse.1 (asF_mem _ _ _ e), rfl⟩
theorem tiltC_len : (tiltC w h cs d).length = cs.length := laid_len _ _ _ _
omit hw hh hs hd in
theorem tl_l1 (P : List (List Int)) (L : List Int) (n i a b wI hI : Int) (r : Int × Int × List Int) (hL : L.length ≤ 1000) (hLx : ∀ x ∈ L, 0 ≤ x ∧ x < (cs.length : Int)) : ∀ (l : List Int) (u nx : Nat) (out : List Int), L.drop u = l → u ≤ L.length → nx ≤ u → out.length = cs.length →
  Ev (fun k => spec_tiTilt.l0 k P n (wrap64 (i + 1)) wI hI cs a b (setsL cs ((l.filter (bI cs)).zip (L.drop nx)) out)) r → Ev (fun k => spec_tiTilt.l1 k L nx P n i L (L.length : Int) (u : Int) wI hI cs a b out) r
 | [], u, nx, out, hdr, hu, _, _, hE => by
  have h1 : u = L.length := by
   have := congrArg List.length hdr
   simp at this
   omega
  subst h1
  refine Ev.step hE fun k => ?_
  rw [spec_tiTilt.l1, if_neg (by omega)]
  rfl
 | x :: l, u, nx, out, hdr, hu, hnx, ho, hE => by
  obtain ⟨h1, h2, h3⟩ := rd_drop hdr
  obtain ⟨x0, x1⟩ := hLx x (List.mem_of_mem_drop (i := u) (by rw [hdr]; exact List.mem_cons_self))
  by_cases hb : bI cs x = true
  ·rw [List.filter_cons_of_pos hb] at hE
   have hlt : nx < L.length := by omega
   obtain ⟨y0, y1⟩ := hLx _ (List.getElem_mem hlt)
   rw [List.drop_eq_getElem_cons hlt, List.zip_cons_cons] at hE
   refine Ev.step (tl_l1 P L n i a b wI hI r hL hLx l (u + 1) (nx + 1) (out.set (L[nx]).toNat (rd cs x)) h3 h1 (by omega) (by rw [List.length_set]; exact ho) hE) fun k => ?_
   rw [spec_tiTilt.l1, if_pos (by omega), if_pos (by omega), if_pos (by omega), h2, if_pos x0, if_pos x1, tyBall_eq, Option.bind_some, if_pos (show isB (rd cs x) = true from hb), if_pos (by omega), if_pos (by omega), rd_nat L nx hlt, if_pos y0, if_pos (by omega), wr1 nx (by omega), wr1 u (by omega)]
  ·rw [List.filter_cons_of_neg hb] at hE
   refine Ev.step (tl_l1 P L n i a b wI hI r hL hLx l (u + 1) nx out h3 h1 (by omega) ho hE) fun k => ?_
   rw [spec_tiTilt.l1, if_pos (by omega), if_pos (by omega), if_pos (by omega), h2, if_pos x0, if_pos x1, tyBall_eq, Option.bind_some, if_neg (show ¬ isB (rd cs x) = true from hb), wr1 u (by omega)]
omit hw hh hs hd in
theorem tl_l0 (P : List (List Int)) (a b wI hI : Int) : ∀ (Ls : List (List Int)) (i : Nat) (out : List Int), P.drop i = Ls → i ≤ P.length → i + Ls.length ≤ 1000 → (∀ s ∈ Ls, s.length ≤ 1000 ∧ ∀ x ∈ s, 0 ≤ x ∧ x < (cs.length : Int)) → out.length = cs.length → Ev (fun k => spec_tiTilt.l0 k P (P.length : Int) (i : Int) wI hI cs a b out) (a, b, setsL cs (pairsP cs Ls) out)
 | [], i, out, hdr, hi, _, _, _ => by
  have h1 : i = P.length := by
   have := congrArg List.length hdr
   simp at this
   omega
  subst h1
  refine Ev.step (Ev.const rfl) fun k => ?_
  rw [spec_tiTilt.l0, if_neg (by omega)]
  rfl
 | s :: Ls, i, out, hdr, _, hq, hx, ho => by
  obtain ⟨h1, h2, h3⟩ := rdS_drop hdr
  simp only [List.length_cons] at hq
  obtain ⟨s1, s2⟩ := hx s List.mem_cons_self
  have ih := tl_l0 P a b wI hI Ls (i + 1) (setsL cs (pairsS cs s) out) h3 h1 (by omega) (fun t ht => hx t (List.mem_cons_of_mem _ ht)) (by rw [setsL_len]; exact ho)
  have he : setsL cs (pairsP cs (s :: Ls)) out = setsL cs (pairsP cs Ls) (setsL cs (pairsS cs s) out) := by
   unfold pairsP setsL
   rw [List.flatMap_cons, List.foldl_append]
  rw [he]
  rw [← wr1 i (by omega)] at ih
  refine Ev.step (tl_l1 P s P.length i a b wI hI _ s1 s2 s 0 0 out rfl (Nat.zero_le _) (Nat.le_refl _) ho (by rw [List.drop_zero]; exact ih)) fun k => ?_
  rw [spec_tiTilt.l0, if_pos (by omega), if_pos (by omega), if_pos (by omega), show rd_Lii P (i : Int) = s from h2]
  rfl
theorem tiTilt_ev (hw0 : 0 < w) (hh0 : 0 < h) (hn : cs.length = w * h) : Ev (fun k => spec_tiTilt.f k w h cs d) ((w : Int), (h : Int), tiltC w h cs d) := by
 have hz : 0 < w * h := Nat.mul_pos hw0 hh0
 have h1 := cuts_many hw hh hs hd (cs := cs)
 have h2 : (strL w h cs d).length = (cutsL w h cs d).length := by unfold strL; exact List.length_mergeSort _
 refine Ev.congr (Ev.bind (f := fun k t109 => (spec_tiTilt.l0 k t109 (t109.length : Int) 0 w h cs w h (emptyC cs))) (tiStretches_ev hw hh hs hd hn) (g := fun k => spec_tiStretches.f k w h cs d) ?_) fun k => ?_
 ·rw [← tilt_sets hw hh hs hd hn]
  exact tl_l0 (strL w h cs d) w h w h (strL w h cs d) 0 (emptyC cs) rfl (Nat.zero_le _) (by omega) (str_in hw hh hs hd hn) (by unfold emptyC; rw [List.length_map])
 ·unfold spec_tiTilt.f
  rw [show spec_tyWalls.f w h cs = some ((w : Int), (h : Int), emptyC cs) from if_pos ⟨by omega, by omega⟩]
  rfl
end
end Go.Proofs.YtchkmhbngbgjnaaGreatDoor.Q
end
section
namespace Go.Proofs.YtchkmhbngbgjnaaGreatDoor.Q
open Go.RowKit Go.Proofs.YtchkmhbngbgjnaaGreatDoorW.PrintWords Go.Proofs.YtchkmhbngbgjnaaGreatDoorW.PrintLast Go.Proofs.YtchkmhbngbgjnaaGreatDoorW.PrintMore
theorem dw_nil {α : Type} (p : α → Bool) : ∀ l : List α, l.dropWhile p = [] ↔ ∀ b ∈ l, p b = true
 | [] => by simp
 | b :: l => by
  rw [List.dropWhile_cons]
  by_cases h : p b = true
  ·rw [if_pos h, dw_nil p l]
   simp [h]
  ·rw [if_neg h]
   simp [h]
theorem dw_all {α : Type} (p : α → Bool) : ∀ l : List α, (∀ b ∈ l.dropWhile p, p b = true) → ∀ b ∈ l, p b = true
 | [], _ => by simp
 | b :: l, h => by
  rw [List.dropWhile_cons] at h
  by_cases hb : p b = true
  ·rw [if_pos hb] at h
   have ih := dw_all p l h
   simpa [hb] using ih
  ·rw [if_neg hb] at h
   exact h
theorem trimS_nil (l cs : List UInt8) : Lib.trimS l cs = [] ↔ ∀ b ∈ l, cs.contains b = true := by
 unfold Lib.trimS Lib.trimLeftS Lib.trimRightS
 rw [dw_nil]
 constructor
 ·intro h
  have h2 := dw_all (cs.contains ·) l.reverse (fun b hb => h b (by simpa using hb))
  exact fun b hb => h2 b (by simpa using hb)
 ·intro h b hb
  rw [List.mem_reverse] at hb
  exact h b (by simpa using (List.dropWhile_sublist _).subset hb)
theorem trim_tell (s cut : ByteArray) (hs : s.size ≤ 1048576) (hc : cut.size < 100) (ha : asciiB cut.data.toList = true) :
  ∃ t, strings_Trim.f s cut = some t ∧ (t.toList = [] ↔ ∀ b ∈ s.data.toList, cut.data.toList.contains b = true) := by
 refine ⟨_, if_pos ⟨by omega, by omega, ha⟩, ?_⟩
 rw [← trimS_nil]
 generalize Lib.trimS s.data.toList cut.data.toList = l
 have e : (⟨l.toArray⟩ : ByteArray).toList = l := ByteArray.toList_mk l
 rw [e]
theorem encode_name : ∀ n : Fin 6, Utf8.encode (97 + (n.val : Int)) = ⟨#[UInt8.ofNat (97 + n.val)]⟩ := by decide +kernel
theorem count_name (s : ByteArray) (n : Nat) (h1 : 97 ≤ n) (h2 : n ≤ 102) : (runeS.f (n : Int)).bind (fun t => strings_Count.f s t) = some ((s.data.toList.count (UInt8.ofNat n) : Nat) : Int) := by
 have h := encode_name ⟨n - 97, by omega⟩
 simp only [show (97 + ((n - 97 : Nat) : Int)) = (n : Int) by omega, show 97 + (n - 97) = n by omega] at h
 unfold runeS.f
 rw [Option.bind_some, h]
 rfl
theorem it_l1 (s : ByteArray) : ∀ (m n : Nat), 97 ≤ n → n + m = 103 → ∀ R : Bool, (R = true ↔ ∀ c : Nat, n ≤ c → c ≤ 102 → s.data.toList.count (UInt8.ofNat c) ≤ 1) → Ev (fun k => impl_IsTray.l1 k s n) R
 | 0, n, h1, h2, R, hR => by
  obtain rfl : R = true := hR.2 fun c h3 h4 => by omega
  refine Ev.step (Ev.const (o := some true) rfl) fun k => ?_
  rw [impl_IsTray.l1, if_neg (by omega)]
 | m + 1, n, h1, h2, R, hR => by
  have hc := count_name s n h1 (by omega)
  obtain ⟨t, e1, e2⟩ := Option.bind_eq_some_iff.1 hc
  have hw : wrap32 ((n : Int) + 1) = ((n + 1 : Nat) : Int) := by unfold wrap32; omega
  by_cases hn : s.data.toList.count (UInt8.ofNat n) ≤ 1
  ·have ih := it_l1 s m (n + 1) (by omega) (by omega) R (hR.trans ⟨fun h c h3 h4 => h c (by omega) h4, fun h c h3 h4 => by
    by_cases h5 : n = c
    ·rw [← h5]; exact hn
    ·exact h c (by omega) h4⟩)
   refine Ev.step ih fun k => ?_
   rw [impl_IsTray.l1, if_pos (by omega), e1, Option.bind_some, e2, Option.bind_some, if_neg (by omega), hw]
  ·obtain rfl : R = false := Bool.eq_false_iff.2 fun h => hn (hR.1 h n (Nat.le_refl _) (by omega))
   refine Ev.step (Ev.const (o := some false) rfl) fun k => ?_
   rw [impl_IsTray.l1, if_pos (by omega), e1, Option.bind_some, e2, Option.bind_some, if_pos (by omega)]
theorem named_count (s : ByteArray) : namedOK (ints (rows 47 s.data.toList).flatten) ↔ ∀ c : Nat, 97 ≤ c → c ≤ 102 → s.data.toList.count (UInt8.ofNat c) ≤ 1 := by
 have h : ∀ c : Nat, 97 ≤ c → c ≤ 102 → (ints (rows 47 s.data.toList).flatten).count (c : Int) = s.data.toList.count (UInt8.ofNat c) := by
  intro c h1 h2
  have e : ((UInt8.ofNat c).toNat : Int) = c := by
   rw [UInt8.toNat_ofNat']
   omega
  rw [← e, ints_count, rows_count 47 (UInt8.ofNat c)]
  intro e2
  have := congrArg UInt8.toNat e2
  rw [UInt8.toNat_ofNat'] at this
  have h47 : (47 : UInt8).toNat = 47 := rfl
  omega
 constructor
 ·intro h1 c h2 h3
  rw [← h c h2 h3]
  exact h1 c (by omega) (by omega)
 ·intro h1 c h2 h3
  have h4 := h c.toNat (by omega) (by omega)
  rw [show ((c.toNat : Nat) : Int) = c by omega] at h4
  rw [h4]
  exact h1 _ (by omega) (by omega)
theorem within_eq (a lo hi : Int) : impl_within.f a lo hi = some (decide (lo ≤ a ∧ a ≤ hi)) := by
 unfold impl_within.f
 by_cases h : lo ≤ a
 ·rw [if_pos h]
  simp [h]
 ·rw [if_neg h]
  simp [h]
theorem isSize_eq (w h : Nat) (hw : w ≤ 1048576) (hh : h ≤ 1048577) : impl_isSize.f w h = some (decide (1 ≤ w ∧ w ≤ 7 ∧ 1 ≤ h ∧ h ≤ 7 ∧ w * h ≤ 36)) := by
 unfold impl_isSize.f
 rw [within_eq, Option.bind_some]
 by_cases h1 : 1 ≤ w ∧ w ≤ 7
 ·rw [decide_eq_true (by omega), if_pos rfl, within_eq, Option.bind_some]
  by_cases h2 : 1 ≤ h ∧ h ≤ 7
  ·rw [decide_eq_true (by omega), if_pos rfl]
   have h3 : w * h ≤ 7 * 7 := Nat.mul_le_mul h1.2 h2.2
   have e : wrap64 ((w : Int) * h) = ((w * h : Nat) : Int) := by
    rw [← Int.natCast_mul]
    exact w64 (by omega) (by omega)
   rw [e]
   congr 1
   exact decide_eq_decide.2 ⟨fun h => ⟨h1.1, h1.2, h2.1, h2.2, by omega⟩, fun h => by omega⟩
  ·rw [decide_eq_false (by omega), if_neg (by decide), decide_eq_false (by omega)]
 ·rw [decide_eq_false (by omega), if_neg (by decide), decide_eq_false (by omega)]
theorem rowsL_len (s : ByteArray) : (rowsL s).length = (rows 47 s.data.toList).length := by rw [← rowsL_map, List.length_map]
theorem rowsL_drop (s : ByteArray) (i : Nat) (h : i < (rowsL s).length) : (rows 47 s.data.toList).drop i = (rdOf ByteArray.empty (rowsL s) (i : Int)).data.toList :: (rows 47 s.data.toList).drop (i + 1) := by
 rw [← rowsL_map]
 have h2 : i < ((rowsL s).map (·.data.toList)).length := by rw [List.length_map]; exact h
 rw [List.drop_eq_getElem_cons h2]
 congr 1
 unfold rdOf
 rw [List.getElem_map, Int.toNat_natCast, List.getD_eq_getElem?_getD, List.getElem?_eq_getElem h]
 rfl
theorem rowsL_tw (s : ByteArray) (h : 0 < (rowsL s).length) : (rdOf ByteArray.empty (rowsL s) 0).size = tw (rows 47 s.data.toList) := by
 have e := rowsL_drop s 0 h
 rw [List.drop_zero] at e
 unfold tw
 rw [e, List.headD_cons, data_length]
 rfl
theorem rows_le (c : UInt8) (l r : List UInt8) (h : r ∈ rows c l) : r.length ≤ l.length := by
 have h1 := rows_flat c l
 have h2 : r.length ≤ (rows c l).flatten.length := (List.sublist_flatten_of_mem h).length_le
 omega
def cutAll : ByteArray := ⟨#[35, 46, 111, 97, 98, 99, 100, 101, 102]⟩
theorem it_l0 (s : ByteArray) (hs : s.size ≤ 1048576) (w : Nat) (hw : (rdOf ByteArray.empty (rowsL s) 0).size = w) (K : Bool) (hK : Ev (fun k => impl_IsTray.l1 k s 97) K) :
  ∀ (m i : Nat), i + m = (rowsL s).length → Ev (fun k => impl_IsTray.l0 k s (rowsL s) (rowsL s) (rowsL s).length i) (if evenRows w ((rows 47 s.data.toList).drop i) then K else false)
 | 0, i, hi => by
  have e : (rows 47 s.data.toList).drop i = [] := List.drop_eq_nil_of_le (by rw [← rowsL_len]; omega)
  rw [e, if_pos (show evenRows w [] from fun r hr => by simp at hr)]
  refine Ev.step hK fun k => ?_
  rw [impl_IsTray.l0, if_neg (by omega)]
 | m + 1, i, hi => by
  have ih := it_l0 s hs w hw K hK m (i + 1) (by omega)
  have hlt : i < (rowsL s).length := by omega
  have hlen : (rowsL s).length ≤ 1048577 := by
   have h1 := rows_size 47 s.data.toList
   have h2 := data_length s
   rw [rowsL_len]
   omega
  have hd := rowsL_drop s i hlt
  have hrow : (rdOf ByteArray.empty (rowsL s) (i : Int)).data.toList ∈ rows 47 s.data.toList := (List.drop_sublist i _).subset (by rw [hd]; exact List.mem_cons_self)
  have hsz : (rdOf ByteArray.empty (rowsL s) (i : Int)).size ≤ 1048576 := by
   have h1 := rows_le 47 _ _ hrow
   rw [data_length, data_length] at h1
   omega
  have hwr : wrap64 ((i : Int) + 1) = ((i + 1 : Nat) : Int) := by rw [w64 (by omega) (by omega)]; omega
  rw [hd]
  generalize hrw : rdOf ByteArray.empty (rowsL s) (i : Int) = row at hsz hd ⊢
  obtain ⟨t, et, ht⟩ := trim_tell row cutAll hsz (by decide) (by decide)
  have hcell : (∀ b ∈ row.data.toList, cutAll.data.toList.contains b = true) ↔ row.data.toList.all isCellB = true := by
   rw [List.all_eq_true]
   rfl
  rw [ite_iff ((evenRows_cons w row.data.toList ((rows 47 s.data.toList).drop (i + 1))).trans (show _ ↔ (row.size = w ∧ t.toList = []) ∧ evenRows w ((rows 47 s.data.toList).drop (i + 1)) by rw [← hcell, ← ht, data_length]))]
  by_cases h1 : row.size = w
  ·by_cases h2 : t.toList = []
   ·rw [ite_iff (show ((row.size = w ∧ t.toList = []) ∧ evenRows w ((rows 47 s.data.toList).drop (i + 1))) ↔ evenRows w ((rows 47 s.data.toList).drop (i + 1)) from ⟨fun h => h.2, fun h => ⟨⟨h1, h2⟩, h⟩⟩)]
    refine Ev.step ih fun k => ?_
    rw [impl_IsTray.l0, if_pos (by omega), if_pos (by omega), if_pos (by omega), if_pos (by omega), hrw, hw, if_pos (by omega)]
    show (strings_Trim.f row cutAll).bind _ = _
    rw [et, Option.bind_some, if_pos h2, hwr]
   ·rw [if_neg fun h => h2 h.1.2]
    refine Ev.step (Ev.const (o := some false) rfl) fun k => ?_
    rw [impl_IsTray.l0, if_pos (by omega), if_pos (by omega), if_pos (by omega), if_pos (by omega), hrw, hw, if_pos (by omega)]
    show (strings_Trim.f row cutAll).bind _ = _
    rw [et, Option.bind_some, if_neg h2]
  ·rw [if_neg fun h => h1 h.1.1]
   refine Ev.step (Ev.const (o := some false) rfl) fun k => ?_
   rw [impl_IsTray.l0, if_pos (by omega), if_pos (by omega), if_pos (by omega), if_pos (by omega), hrw, hw, if_neg (by omega)]
theorem isTray_ev (s : ByteArray) (hs : s.size ≤ 1048576) : Ev (fun k => impl_IsTray.f k s) (trayOf s).isSome := by
 have h1 := rows_size 47 s.data.toList
 have h2 := data_length s
 have h3 := rowsL_len s
 have hne : 0 < (rowsL s).length := by
  rw [h3]
  exact List.length_pos_iff.2 (rows_ne 47 _)
 have hw := rowsL_tw s hne
 have hwle : tw (rows 47 s.data.toList) ≤ 1048576 := by
  have e := rowsL_drop s 0 hne
  rw [List.drop_zero] at e
  have := rows_le 47 s.data.toList _ (by rw [e]; exact List.mem_cons_self)
  rw [data_length, data_length] at this
  have h4 : (rdOf ByteArray.empty (rowsL s) ((0 : Nat) : Int)).size = (rdOf ByteArray.empty (rowsL s) 0).size := rfl
  omega
 have hsp : strings_Split.f s ⟨#[47]⟩ = some (rowsL s) := if_pos ⟨by omega, by decide⟩
 have hss := isSize_eq (tw (rows 47 s.data.toList)) (rowsL s).length hwle (by omega)
 have hf : ∀ k, impl_IsTray.f k s = if decide (1 ≤ tw (rows 47 s.data.toList) ∧ tw (rows 47 s.data.toList) ≤ 7 ∧ 1 ≤ (rowsL s).length ∧ (rowsL s).length ≤ 7 ∧ tw (rows 47 s.data.toList) * (rowsL s).length ≤ 36) = true then impl_IsTray.l0 k s (rowsL s) (rowsL s) (rowsL s).length 0 else some false := by
  intro k
  unfold impl_IsTray.f
  rw [hsp, Option.bind_some, if_pos (by omega), hw, hss, Option.bind_some]
 refine Ev.congr ?_ hf
 unfold trayOf trayRows
 by_cases hc : 1 ≤ tw (rows 47 s.data.toList) ∧ tw (rows 47 s.data.toList) ≤ 7 ∧ 1 ≤ (rowsL s).length ∧ (rowsL s).length ≤ 7 ∧ tw (rows 47 s.data.toList) * (rowsL s).length ≤ 36
 ·rw [decide_eq_true hc]
  refine Ev.congr ?_ (fun k => if_pos rfl)
  have h5 := it_l0 s hs _ hw (decide (namedOK (ints (rows 47 s.data.toList).flatten))) (it_l1 s 6 97 (by omega) (by omega) _ (by rw [decide_eq_true_iff]; exact named_count s)) (rowsL s).length 0 (by omega)
  rw [List.drop_zero] at h5
  have e : (if okRows (rows 47 s.data.toList) then some ((tw (rows 47 s.data.toList) : Int), ((rows 47 s.data.toList).length : Int), ints (rows 47 s.data.toList).flatten) else none).isSome =
    if evenRows (tw (rows 47 s.data.toList)) (rows 47 s.data.toList) then decide (namedOK (ints (rows 47 s.data.toList).flatten)) else false := by
   by_cases h6 : evenRows (tw (rows 47 s.data.toList)) (rows 47 s.data.toList)
   ·by_cases h7 : namedOK (ints (rows 47 s.data.toList).flatten)
    ·rw [if_pos h6, if_pos (show okRows _ from ⟨by rw [h3] at hc; omega, h6, h7⟩), decide_eq_true h7]
     rfl
    ·rw [if_pos h6, if_neg fun h => h7 h.2.2, decide_eq_false h7]
     rfl
   ·rw [if_neg h6, if_neg fun h => h6 h.2.1]
    rfl
  rw [e]
  exact h5
 ·rw [if_neg fun h => hc (by have h4 := h.1; rw [h3]; omega), decide_eq_false hc]
  exact Ev.congr (Ev.const (o := some false) rfl) (fun k => if_neg (by decide))
theorem joined_ints (s : ByteArray) : bytesOf (joinedB s) = ints (rows 47 s.data.toList).flatten := by
 unfold bytesOf ints
 rw [joinedB_list]
theorem trayOf_some {s : ByteArray} {t : Int × Int × List Int} (ht : trayOf s = some t) : ∃ w h : Nat, t = ((w : Int), (h : Int), ints (rows 47 s.data.toList).flatten) ∧ 1 ≤ w ∧ w ≤ 7 ∧ 1 ≤ h ∧ h ≤ 7 ∧ w * h ≤ 36 ∧ (ints (rows 47 s.data.toList).flatten).length = w * h := by
 unfold trayOf trayRows at ht
 split at ht
 ·rename_i hk
  have h1 := evenRows_flat _ _ hk.2.1
  have h2 := List.length_pos_iff.2 (rows_ne 47 s.data.toList)
  have h3 := hk.1
  refine ⟨_, _, (Option.some.inj ht).symm, h3.1, h3.2.1, by omega, h3.2.2.1, h3.2.2.2, ?_⟩
  rw [ints_length, h1]
 ·cases ht
theorem tray_parts {s : ByteArray} {t : Int × Int × List Int} (ht : trayOf s = some t) : ∃ (w h : Nat) (cs : List Int), t = ((w : Int), (h : Int), cs) ∧ 1 ≤ w ∧ w ≤ 7 ∧ 1 ≤ h ∧ h ≤ 7 ∧ w * h ≤ 36 ∧ cs.length = w * h := by
 obtain ⟨w, h, e, h1, h2, h3, h4, h5, h6⟩ := trayOf_some ht
 exact ⟨w, h, _, e, h1, h2, h3, h4, h5, h6⟩
end Go.Proofs.YtchkmhbngbgjnaaGreatDoor.Q
end
section
namespace Go.Proofs.YtchkmhbngbgjnaaGreatDoor.Q
set_option linter.unusedSectionVars false
open Go.RowKit Go.Proofs.YtchkmhbngbgjnaaGreatDoorW.PrintWords Go.Proofs.YtchkmhbngbgjnaaGreatDoorW.PrintLast Go.Proofs.YtchkmhbngbgjnaaGreatDoorW.PrintMore
theorem toList_data (s : ByteArray) : s.toList = s.data.toList := by
 obtain ⟨⟨l⟩⟩ := s
 exact ByteArray.toList_mk l
end Go.Proofs.YtchkmhbngbgjnaaGreatDoor.Q
end
section
namespace Go.Proofs.YtchkmhbngbgjnaaGreatDoor.Q
set_option linter.unusedSectionVars false
open Go.RowKit Go.Proofs.YtchkmhbngbgjnaaGreatDoorW.PrintWords Go.Proofs.YtchkmhbngbgjnaaGreatDoorW.PrintLast Go.Proofs.YtchkmhbngbgjnaaGreatDoorW.PrintMore
theorem le_big {n : Nat} (h : n ≤ 200) : n ≤ 9223372036854775807 := Nat.le_trans h (by decide)
theorem w64n (n : Nat) (h : n ≤ 1000000) : wrap64 (n : Int) = (n : Int) := w64 (by omega) (by omega)
theorem w64s (n : Nat) (h : n ≤ 1000000) : wrap64 ((n : Int) + 1) = ((n + 1 : Nat) : Int) := by rw [w64 (by omega) (by omega)]; omega
def jn : List (List UInt8) → List UInt8
 | [] => []
 | [r] => r
 | r :: s :: rs => r ++ 47 :: jn (s :: rs)
theorem jn_join : ∀ xs : List (List UInt8), Lib.join xs [47] = jn xs
 | [] => rfl
 | [r] => by simp [Lib.join, List.intercalate, jn]
 | r :: s :: rs => by
  have ih := jn_join (s :: rs)
  unfold Lib.join at ih ⊢
  simp only [List.intercalate, List.intersperse, List.flatten_cons, jn] at ih ⊢
  rw [← ih]
  simp
theorem jn_snoc : ∀ (xs : List (List UInt8)) (x : List UInt8), jn (xs ++ [x]) = if xs = [] then x else jn xs ++ 47 :: x
 | [], x => rfl
 | [r], x => by simp [jn]
 | r :: s :: rs, x => by
  have ih := jn_snoc (s :: rs) x
  rw [if_neg (by simp)] at ih ⊢
  show r ++ 47 :: jn ((s :: rs) ++ [x]) = _
  rw [ih]
  simp [jn]
theorem rows_jn : ∀ xs : List (List UInt8), xs ≠ [] → (∀ r ∈ xs, (47 : UInt8) ∉ r) → rows 47 (jn xs) = xs
 | [], h, _ => absurd rfl h
 | [r], _, h => rows_free 47 r (h r (by simp))
 | r :: s :: rs, _, h => by
  show rows 47 (r ++ 47 :: jn (s :: rs)) = _
  rw [rows_at 47 _ r (h r (by simp)), rows_jn (s :: rs) (by simp) fun x hx => h x (List.mem_cons_of_mem _ hx)]
def rowL (l : List Int) (c k : Nat) : List UInt8 := ((l.drop (k * c)).take c).map fun n => UInt8.ofNat n.toNat
def txL (l : List Int) (c n : Nat) : List UInt8 := jn ((List.range n).map (rowL l c))
def tx (l : List Int) (c n : Nat) : ByteArray := ⟨(txL l c n).toArray⟩
theorem tx_list (l : List Int) (c n : Nat) : (tx l c n).data.toList = txL l c n := rfl
theorem txL_succ (l : List Int) (c n : Nat) : txL l c (n + 1) = if n = 0 then rowL l c 0 else txL l c n ++ 47 :: rowL l c n := by
 unfold txL
 rw [List.range_succ, List.map_append, List.map_singleton, jn_snoc]
 by_cases h : n = 0
 ·subst h
  simp
 ·rw [if_neg h, if_neg (by simpa using h)]
theorem rowL_len (l : List Int) (c k : Nat) : (rowL l c k).length ≤ c := by
 unfold rowL
 rw [List.length_map, List.length_take]
 omega
theorem txL_len (l : List Int) (c : Nat) : ∀ n, (txL l c n).length ≤ n * (c + 1)
 | 0 => by simp [txL, jn]
 | n + 1 => by
  have ih := txL_len l c n
  have h1 := rowL_len l c n
  have h2 := rowL_len l c 0
  rw [txL_succ, Nat.succ_mul]
  split
  ·omega
  ·rw [List.length_append, List.length_cons]
   omega
theorem ba_ext {a b : ByteArray} (h : a.data.toList = b.data.toList) : a = b := by
 obtain ⟨⟨a⟩⟩ := a
 obtain ⟨⟨b⟩⟩ := b
 simp at h
 rw [h]
section
variable {w h : Nat} {cs : List Int} (hw1 : 1 ≤ w) (hh1 : 1 ≤ h) (hs : w * h ≤ 36) (hn : cs.length = w * h)
include hw1 hh1 hs hn
theorem ty_text_l0 : ∀ (m t : Nat), t + m = h → Ev (fun k => spec_tyText.l0 k (tx cs w t) t w h cs) (tx cs w h)
 | 0, t, ht => by
  obtain rfl : t = h := by omega
  refine Ev.step (Ev.const (o := some (tx cs w t)) rfl) fun k => ?_
  rw [spec_tyText.l0, if_neg (by omega)]
 | m + 1, t, ht => by
  have ih := ty_text_l0 m (t + 1) (by omega)
  have hth : t < h := by omega
  have h4 : h ≤ w * h := Nat.le_mul_of_pos_left h hw1
  have hle : (t + 1) * w ≤ w * h := by rw [Nat.mul_comm w h]; exact Nat.mul_le_mul_right w hth
  have ht1 : t * w + w = (t + 1) * w := (Nat.succ_mul t w).symm
  have hB : (t + 1) * w ≤ 36 := Nat.le_trans hle hs
  have hA : t * w ≤ 36 := Nat.le_trans (Nat.mul_le_mul_right w (Nat.le_succ t)) hB
  have hcut : strOfNums ((cs.take (((((t + 1) * w : Nat) : Int)).toNat)).drop ((((t * w : Nat) : Int)).toNat)) = strOfNums ((cs.drop (t * w)).take w) := by
   rw [Int.toNat_natCast, Int.toNat_natCast, List.drop_take, show (t + 1) * w - t * w = w from by rw [← ht1]; exact Nat.add_sub_cancel_left _ _]
  have h6 : t * (w + 1) ≤ 72 := by
   have a1 : t * (w + 1) ≤ h * (w + 1) := Nat.mul_le_mul_right _ (by omega)
   have a2 : h * (w + 1) ≤ 72 := by rw [Nat.mul_add, Nat.mul_one, Nat.mul_comm]; omega
   exact Nat.le_trans a1 a2
  have hsz : (tx cs w t).size ≤ 72 := by
   show (txL cs w t).toArray.size ≤ 72
   rw [List.size_toArray]
   exact Nat.le_trans (txL_len cs w t) h6
  have hrs : (strOfNums ((cs.drop (t * w)).take w)).size ≤ 36 := by
   rw [strOfNums_size, List.length_take]
   exact Nat.le_trans (Nat.min_le_left _ _) (Nat.le_trans (Nat.le_mul_of_pos_right w hh1) hs)
  have hs1 : (tx cs w t ++ (⟨#[47]⟩ : ByteArray)).size ≤ 73 := by
   rw [ByteArray.size_append]
   exact Nat.add_le_add hsz (Nat.le_refl 1)
  have e0 : (0 : Int) ≤ ((t * w : Nat) : Int) := Int.natCast_nonneg _
  have e1 : ((t * w : Nat) : Int) ≤ (((t + 1) * w : Nat) : Int) := Int.ofNat_le.2 (Nat.mul_le_mul_right w (Nat.le_succ t))
  have e2 : (((t + 1) * w : Nat) : Int) ≤ (cs.length : Int) := Int.ofNat_le.2 (by rw [hn]; exact hle)
  have b1 : (tx cs w t).size + (strOfNums ((cs.drop (t * w)).take w)).size ≤ 9223372036854775807 := le_big (Nat.le_trans (Nat.add_le_add hsz hrs) (by decide))
  have b2 : (tx cs w t).size + 1 ≤ 9223372036854775807 := le_big (Nat.le_trans (Nat.add_le_add hsz (Nat.le_refl 1)) (by decide))
  have b3 : (tx cs w t ++ (⟨#[47]⟩ : ByteArray)).size + (strOfNums ((cs.drop (t * w)).take w)).size ≤ 9223372036854775807 := le_big (Nat.le_trans (Nat.add_le_add hs1 hrs) (by decide))
  have c1 : (t : Int) < (h : Int) := Int.ofNat_lt.2 hth
  have hwt := w64s t (Nat.le_trans (Nat.le_of_lt hth) (Nat.le_trans h4 (Nat.le_trans hs (by decide))))
  have m0 : wrap64 ((t : Int) * (w : Int)) = ((t * w : Nat) : Int) := by
   rw [← Int.natCast_mul]
   exact w64n _ (Nat.le_trans hA (by decide))
  have m1 : wrap64 (((t + 1 : Nat) : Int) * (w : Int)) = (((t + 1) * w : Nat) : Int) := by
   rw [← Int.natCast_mul]
   exact w64n _ (Nat.le_trans hB (by decide))
  refine Ev.step ih fun k => ?_
  rw [spec_tyText.l0, if_pos c1]
  by_cases h0 : t = 0
  ·have c2 : ¬ (t : Int) > 0 := by
    rw [h0]
    decide
   have hx : (tx cs w t) ++ strOfNums ((cs.drop (t * w)).take w) = tx cs w (t + 1) := by
    apply ba_ext
    rw [tx_list, txL_succ, if_pos h0, ByteArray.data_append, Array.toList_append, tx_list, h0]
    rfl
   rw [if_neg c2, hwt, m0, m1, if_pos e0, if_pos e1, if_pos e2, hcut, if_pos b1, hx]
  ·have c2 : (t : Int) > 0 := Int.natCast_pos.2 (Nat.pos_of_ne_zero h0)
   have hx : (tx cs w t ++ (⟨#[47]⟩ : ByteArray)) ++ strOfNums ((cs.drop (t * w)).take w) = tx cs w (t + 1) := by
    apply ba_ext
    rw [tx_list, txL_succ, if_neg h0, ByteArray.data_append, Array.toList_append, ByteArray.data_append, Array.toList_append, tx_list, List.append_assoc]
    rfl
   rw [if_pos c2, if_pos b2, hwt, m0, m1, if_pos e0, if_pos e1, if_pos e2, hcut, if_pos b3, hx]
theorem tyText_ev : Ev (fun k => spec_tyText.f k w h cs) (tx cs w h) := ty_text_l0 hw1 hh1 hs hn h 0 (by omega)
end
def cellsOK (cs : List Int) : Prop := ∀ c ∈ cs, ∃ b : UInt8, c = (b.toNat : Int) ∧ isCellB b = true
theorem rowL_cells {cs : List Int} (hc : cellsOK cs) (c k : Nat) : (rowL cs c k).all isCellB = true ∧ ints (rowL cs c k) = (cs.drop (k * c)).take c := by
 unfold rowL ints
 have h1 : ∀ l : List Int, (∀ x ∈ l, ∃ b : UInt8, x = (b.toNat : Int) ∧ isCellB b = true) → (l.map fun n => UInt8.ofNat n.toNat).all isCellB = true ∧ (l.map fun n => UInt8.ofNat n.toNat).map (fun b => (b.toNat : Int)) = l := by
  intro l
  induction l with
  | nil => intro _; exact ⟨rfl, rfl⟩
  | cons x l ih =>
   intro h
   obtain ⟨b, rfl, hb⟩ := h x List.mem_cons_self
   obtain ⟨i1, i2⟩ := ih fun y hy => h y (List.mem_cons_of_mem _ hy)
   have e : UInt8.ofNat (((b.toNat : Nat) : Int)).toNat = b := by simp
   refine ⟨?_, ?_⟩
   ·rw [List.map_cons, List.all_cons, e, hb, i1]
    rfl
   ·rw [List.map_cons, List.map_cons, e, i2]
 exact h1 _ fun x hx => hc x (List.drop_subset _ _ (List.take_subset _ _ hx))
theorem cellB_47 : isCellB 47 = false := by decide
theorem flat_rows (cs : List Int) (c : Nat) : ∀ m, ((List.range m).map fun k => (cs.drop (k * c)).take c).flatten = cs.take (m * c)
 | 0 => by simp
 | m + 1 => by
  rw [List.range_succ, List.map_append, List.flatten_append, flat_rows cs c m, List.map_singleton, List.flatten_singleton, Nat.succ_mul, List.take_add]
theorem ints_flat : ∀ L : List (List UInt8), ints L.flatten = (L.map ints).flatten
 | [] => rfl
 | r :: L => by rw [List.flatten_cons, ints_append, ints_flat L, List.map_cons, List.flatten_cons]
section
variable {w h : Nat} {cs : List Int} (hw1 : 1 ≤ w) (hw : w ≤ 7) (hh1 : 1 ≤ h) (hh : h ≤ 7) (hs : w * h ≤ 36) (hn : cs.length = w * h)
include hw1 hw hh1 hh hs hn
theorem tx_rows (hc : cellsOK cs) : rows 47 (tx cs w h).data.toList = (List.range h).map (rowL cs w) := by
 rw [tx_list]
 unfold txL
 refine rows_jn _ (by simp; omega) fun r hr => ?_
 obtain ⟨k, _, rfl⟩ := List.mem_map.1 hr
 intro h47
 have h1 := List.all_eq_true.1 (rowL_cells hc w k).1 47 h47
 rw [cellB_47] at h1
 cases h1
theorem tx_flat (hc : cellsOK cs) : ints ((List.range h).map (rowL cs w)).flatten = cs := by
 rw [ints_flat, List.map_map]
 have h1 : (List.range h).map (ints ∘ rowL cs w) = (List.range h).map fun k => (cs.drop (k * w)).take w := List.map_congr_left fun k _ => (rowL_cells hc w k).2
 rw [h1, flat_rows, List.take_of_length_le (by rw [hn, Nat.mul_comm]; exact Nat.le_refl _)]
theorem tx_size : (tx cs w h).size ≤ 1048576 := by
 show (txL cs w h).toArray.size ≤ _
 rw [List.size_toArray]
 have h5 := txL_len cs w h
 have h6 : h * (w + 1) ≤ 72 := by
  have h4 : h ≤ w * h := Nat.le_mul_of_pos_left h hw1
  rw [Nat.mul_add, Nat.mul_one, Nat.mul_comm]
  omega
 omega
end
theorem jn_rows : ∀ l : List UInt8, jn (rows 47 l) = l
 | [] => rfl
 | b :: l => by
  have ih := jn_rows l
  unfold rows
  split
  ·rename_i e
   subst e
   cases hr : rows 47 l with
   | nil => exact absurd hr (rows_ne 47 l)
   | cons r rs =>
    rw [hr] at ih
    show [] ++ 47 :: jn (r :: rs) = _
    rw [ih]
    rfl
  ·split
   ·rename_i e
    exact absurd e (rows_ne 47 l)
   ·rename_i r rs e
    rw [e] at ih
    cases rs with
    | nil =>
     show b :: r = _
     rw [show r = l from ih]
    | cons s rs =>
     show (b :: r) ++ 47 :: jn (s :: rs) = _
     rw [List.cons_append]
     congr 1
theorem row_back : ∀ (rs : List (List UInt8)) (c : Nat), (∀ r ∈ rs, r.length = c) → (List.range rs.length).map (rowL (ints rs.flatten) c) = rs
 | [], _, _ => rfl
 | r :: rs, c, h => by
  have hr := h r List.mem_cons_self
  have hb : ∀ l : List UInt8, (ints l).map (fun n => UInt8.ofNat n.toNat) = l := by
   intro l
   unfold ints
   rw [List.map_map]
   exact (List.map_congr_left fun b _ => by simp).trans (List.map_id _)
  rw [List.length_cons, List.range_succ_eq_map, List.map_cons, List.map_map]
  have h0 : rowL (ints (r :: rs).flatten) c 0 = r := by
   unfold rowL
   rw [Nat.zero_mul, List.drop_zero, List.flatten_cons, ints_append, List.take_left' (by rw [ints_length]; exact hr), hb]
  rw [h0]
  congr 1
  refine Eq.trans (List.map_congr_left fun k _ => ?_) (row_back rs c fun x hx => h x (List.mem_cons_of_mem _ hx))
  show rowL (ints (r :: rs).flatten) c (k + 1) = _
  unfold rowL
  rw [List.flatten_cons, ints_append, Nat.succ_mul, Nat.add_comm, ← List.drop_drop, List.drop_left' (by rw [ints_length]; exact hr)]
theorem tray_own {t : ByteArray} {w h : Nat} {cs : List Int} (ht : trayOf t = some ((w : Int), (h : Int), cs)) : cellsOK cs ∧ tx cs w h = t ∧ cs = ints (rows 47 t.data.toList).flatten := by
 unfold trayOf trayRows at ht
 split at ht
 case isFalse => cases ht
 rename_i hk
 have h1 := Option.some.inj ht
 have hw : tw (rows 47 t.data.toList) = w := by have := congrArg (fun z => z.1) h1; simp only at this; omega
 have hh : (rows 47 t.data.toList).length = h := by have := congrArg (fun z => z.2.1) h1; simp only at this; omega
 have hc : ints (rows 47 t.data.toList).flatten = cs := congrArg (fun z => z.2.2) h1
 refine ⟨fun c hm => ?_, ?_, hc.symm⟩
 ·rw [← hc] at hm
  unfold ints at hm
  obtain ⟨b, hb, rfl⟩ := List.mem_map.1 hm
  obtain ⟨row, r1, r2⟩ := List.mem_flatten.1 hb
  exact ⟨b, rfl, List.all_eq_true.1 (hk.2.1 row r1).2 b r2⟩
 ·refine ba_ext ?_
  rw [tx_list]
  unfold txL
  rw [← hc, ← hh, row_back (rows 47 t.data.toList) w fun r hr => by rw [← hw]; exact (hk.2.1 r hr).1, jn_rows]
end Go.Proofs.YtchkmhbngbgjnaaGreatDoor.Q
end
section
namespace Go.Proofs.YtchkmhbngbgjnaaGreatDoor.Q
set_option linter.unusedSectionVars false
open Go.RowKit Go.Proofs.YtchkmhbngbgjnaaGreatDoorW.PrintWords Go.Proofs.YtchkmhbngbgjnaaGreatDoorW.PrintLast Go.Proofs.YtchkmhbngbgjnaaGreatDoorW.PrintMore
theorem laid_cells {cs em : List Int} {f : Int → Option Int} {ca : Int → Bool} (hc : cellsOK cs) (he : cellsOK em) (hl : em.length = cs.length) : cellsOK (laidCells cs em f ca) := by
 intro c hm
 unfold laidCells at hm
 obtain ⟨j, hj, rfl⟩ := List.mem_map.1 hm
 have hj := List.mem_range.1 hj
 split
 ·rename_i x hx
  have hxl : x < cs.length := by
   unfold comes at hx
   exact List.mem_range.1 (List.mem_of_find?_eq_some hx)
  rw [rd_nat cs x hxl]
  exact hc _ (List.getElem_mem hxl)
 ·rw [rd_nat em j (by omega)]
  exact he _ (List.getElem_mem _)
theorem empty_cells {cs : List Int} (hc : cellsOK cs) : cellsOK (emptyC cs) := by
 intro c hm
 unfold emptyC at hm
 obtain ⟨x, hx, rfl⟩ := List.mem_map.1 hm
 split
 ·exact ⟨46, rfl, by decide⟩
 ·exact hc x hx
theorem tilt_cells (w h : Nat) {cs : List Int} (d : Nat) (hc : cellsOK cs) : cellsOK (tiltC w h cs d) := laid_cells hc (empty_cells hc) (by unfold emptyC; rw [List.length_map])
end Go.Proofs.YtchkmhbngbgjnaaGreatDoor.Q
end
section
namespace Go.Proofs.YtchkmhbngbgjnaaGreatDoor.Q
set_option linter.unusedSectionVars false
open Go.RowKit Go.Proofs.YtchkmhbngbgjnaaGreatDoorW.PrintWords Go.Proofs.YtchkmhbngbgjnaaGreatDoorW.PrintLast Go.Proofs.YtchkmhbngbgjnaaGreatDoorW.PrintMore
theorem son_append (a b : List Int) : strOfNums a ++ strOfNums b = strOfNums (a ++ b) := by
 apply ByteArray.ext
 apply Array.ext'
 simp [strOfNums, ByteArray.data_append]
theorem son_size (a : List Int) : (strOfNums a).size = a.length := by
 rw [← data_length]
 simp [strOfNums]
end Go.Proofs.YtchkmhbngbgjnaaGreatDoor.Q
end
section
namespace Go.Proofs.YtchkmhbngbgjnaaGreatDoor.Q
set_option linter.unusedSectionVars false
open Go.RowKit Go.Proofs.YtchkmhbngbgjnaaGreatDoorW.PrintWords Go.Proofs.YtchkmhbngbgjnaaGreatDoorW.PrintLast Go.Proofs.YtchkmhbngbgjnaaGreatDoorW.PrintMore
def idxS : List (List UInt8) → List UInt8 → Nat → Option Nat
 | [], _, _ => none
 | x :: l, t, i => if x = t then some i else idxS l t (i + 1)
theorem idxS_snoc : ∀ (L : List (List UInt8)) (t x : List UInt8) (i : Nat), idxS (L ++ [t]) x i = match idxS L x i with | some j => some j | none => if t = x then some (i + L.length) else none
 | [], t, x, i => rfl
 | y :: L, t, x, i => by
  rw [List.cons_append, idxS, idxS]
  by_cases e : y = x
  ·rw [if_pos e, if_pos e]
  ·rw [if_neg e, if_neg e, idxS_snoc L t x (i + 1), List.length_cons, show i + 1 + L.length = i + (L.length + 1) by omega]
def fS (L : List (List UInt8)) : List UInt8 → Option Int := fun x => (idxS L x 0).map fun i => ((i : Nat) : Int)
theorem fS_none {L : List (List UInt8)} {t : List UInt8} (h : idxS L t 0 = none) : fS L t = none := by
 unfold fS
 rw [h]
 rfl
theorem fS_some {L : List (List UInt8)} {t : List UInt8} {j : Nat} (h : idxS L t 0 = some j) : fS L t = some (j : Int) := by
 unfold fS
 rw [h]
 rfl
theorem fS_snoc {L : List (List UInt8)} {t : List UInt8} (h : idxS L t 0 = none) : (fun x => if x = t then some (L.length : Int) else fS L x) = fS (L ++ [t]) := by
 funext x
 unfold fS
 rw [idxS_snoc]
 by_cases e : x = t
 ·rw [if_pos e, e, h]
  simp
 ·rw [if_neg e]
  cases idxS L x 0 with
  | some j => rfl
  | none =>
   show _ = Option.map _ (if t = x then _ else _)
   rw [if_neg fun e2 => e e2.symm]
end Go.Proofs.YtchkmhbngbgjnaaGreatDoor.Q
end
section
namespace Go.Proofs.YtchkmhbngbgjnaaGreatDoor.Q
set_option linter.unusedSectionVars false
open Go.RowKit Go.Proofs.YtchkmhbngbgjnaaGreatDoorW.PrintWords Go.Proofs.YtchkmhbngbgjnaaGreatDoorW.PrintLast Go.Proofs.YtchkmhbngbgjnaaGreatDoorW.PrintMore
theorem text_val (w h : Nat) (l : List Int) (hw : 1 ≤ w) (hh : 1 ≤ h) (hs : w * h ≤ 36) (hn : l.length = w * h) : impl_tray_text.f w h l = some (tx l w h) := by
 have hd : l.length / w = h := by rw [hn, Nat.mul_div_cancel_left h (by omega)]
 unfold impl_tray_text.f
 have h1 : 1 ≤ w * h := Nat.mul_pos hw hh
 rw [Int.toNat_natCast, hd, if_pos ⟨by omega, by omega, by omega, by rw [hn, Nat.mul_comm]⟩]
 have h2 : ((List.range h).map (rowS l w)).map (·.data.toList) = (List.range h).map (rowL l w) := by
  rw [List.map_map]
  rfl
 have h4 : h ≤ w * h := Nat.le_mul_of_pos_left h hw
 have h5 := txL_len l w h
 have h6 : h * (w + 1) ≤ 72 := by rw [Nat.mul_add, Nat.mul_one, Nat.mul_comm]; omega
 have h7 : Lib.join (((List.range h).map (rowS l w)).map (·.data.toList)) (⟨#[47]⟩ : ByteArray).data.toList = txL l w h := by
  rw [h2]
  exact jn_join _
 unfold strings_Join.f
 rw [h7, List.length_map, List.length_range, if_pos ⟨by omega, by omega⟩]
 rfl
end Go.Proofs.YtchkmhbngbgjnaaGreatDoor.Q
end
section
namespace Go.Proofs.YtchkmhbngbgjnaaGreatDoor.Q
set_option linter.unusedSectionVars false
set_option linter.unusedVariables false
open Go.RowKit Go.Proofs.YtchkmhbngbgjnaaGreatDoorW.PrintWords Go.Proofs.YtchkmhbngbgjnaaGreatDoorW.PrintLast Go.Proofs.YtchkmhbngbgjnaaGreatDoorW.PrintMore
abbrev RS := BSt (List Int)
def tiT (w h : Nat) (d : Nat) (cs : List Int) : List Int := tiltC w h cs d
def goodC (w h : Nat) (cs : List Int) : Prop := cellsOK cs ∧ cs.length = w * h
theorem b_far {α : Type} [DecidableEq α] {T : Nat → α → α} {t : α} {L : List (BSt α)} (h : BInv T t L) : ∀ (k : Nat) (s : BSt α), L[k]? = some s → s.far ≤ k ∧ s.word.length = s.far ∧ ∀ d ∈ s.word, d < 4 := by
 intro k
 induction k using Nat.strongRecOn with
 | _ k ih =>
  intro s hs
  rcases Nat.eq_zero_or_pos k with e | hk
  ·subst e
   obtain ⟨l, e⟩ := h.first
   rw [e] at hs
   cases hs
   exact ⟨Nat.le_refl _, rfl, fun d hd => by simp at hd⟩
  ·obtain ⟨j, b, h1, h2, h3, h4, h5, h6, h7⟩ := h.back k s hs hk
   obtain ⟨g1, g2, g3⟩ := ih j h2 b h3
   refine ⟨by omega, by rw [h6, h5]; simp [g2], fun d hd => ?_⟩
   rw [h6] at hd
   rcases List.mem_append.1 hd with hd | hd
   ·exact g3 d hd
   ·rw [List.mem_singleton.1 hd]
    exact h7
def farL (L : List RS) (j : Nat) : Nat := ((L[j]?).map BSt.far).getD 0
theorem farL_at {L : List RS} {j : Nat} {s : RS} (h : L[j]? = some s) : farL L j = s.far := by unfold farL; rw [h]; rfl
theorem farL_pre (L l : List RS) {j : Nat} (h : j < L.length) : farL (L ++ l) j = farL L j := by unfold farL; rw [List.getElem?_append_left h]
def bump (L : List RS) (i : Nat) (V : Nat → Int) (j : Nat) : Nat → Int := if farL L j = farL L i + 1 then fun q => if q = j then wrap64 (V j + V i) else V q else V
def vRow (L : List RS) (i : Nat) (V : Nat → Int) (ms : List Nat) : Nat → Int := ms.foldl (bump L i) V
def vRows (L : List RS) : Nat → (Nat → Int) → List (List Nat) → Nat → Int
 | _, V, [] => V
 | i, V, nx :: N => vRows L (i + 1) (vRow L i V nx) N
theorem vRows_snoc (L : List RS) : ∀ (N : List (List Nat)) (i : Nat) (V : Nat → Int) (nx : List Nat), vRows L i V (N ++ [nx]) = vRow L (i + N.length) (vRows L i V N) nx
 | [], i, V, nx => rfl
 | n :: N, i, V, nx => by
  rw [List.cons_append, vRows, vRows, vRows_snoc L N (i + 1), List.length_cons, show i + 1 + N.length = i + (N.length + 1) by omega]
theorem bump_pre (L l : List RS) {i j : Nat} (hi : i < L.length) (hj : j < L.length) (V : Nat → Int) : bump (L ++ l) i V j = bump L i V j := by
 unfold bump
 rw [farL_pre L l hi, farL_pre L l hj]
theorem vRow_pre (L l : List RS) {i : Nat} (hi : i < L.length) : ∀ (ms : List Nat) (V : Nat → Int), (∀ j ∈ ms, j < L.length) → vRow (L ++ l) i V ms = vRow L i V ms
 | [], V, _ => rfl
 | j :: ms, V, h => by
  show vRow (L ++ l) i (bump (L ++ l) i V j) ms = vRow L i (bump L i V j) ms
  rw [bump_pre L l hi (h j (by simp)), vRow_pre L l hi ms _ fun q hq => h q (by simp [hq])]
theorem vRows_pre (L l : List RS) : ∀ (N : List (List Nat)) (i : Nat) (V : Nat → Int), i + N.length ≤ L.length → (∀ nx ∈ N, ∀ j ∈ nx, j < L.length) → vRows (L ++ l) i V N = vRows L i V N
 | [], i, V, _, _ => rfl
 | nx :: N, i, V, hi, h => by
  rw [List.length_cons] at hi
  rw [vRows, vRows, vRow_pre L l (by omega) nx V (h nx (by simp)), vRows_pre L l N (i + 1) _ (by omega) fun m hm => h m (by simp [hm])]
def V0 : Nat → Int := fun j => if j = 0 then 1 else 0
section
variable {w h : Nat} (hw : w ≤ 7) (hh : h ≤ 7) (hs : w * h ≤ 36) (hw1 : 0 < w) (hh1 : 0 < h)
include hw hh hs hw1 hh1
theorem good_tilt {cs : List Int} {d : Nat} (hd : d < 4) (hc : goodC w h cs) : goodC w h (tiT w h d cs) := ⟨tilt_cells w h d hc.1, (tiltC_len hw hh hs hd).trans hc.2⟩
theorem tx_inj {a b : List Int} (ha : goodC w h a) (hb : goodC w h b) : (tx a w h).data.toList = (tx b w h).data.toList ↔ a = b := by
 constructor
 ·intro e
  have h1 := tx_flat hw1 hw hh1 hh hs ha.2 ha.1
  have h2 := tx_flat hw1 hw hh1 hh hs hb.2 hb.1
  rw [← tx_rows hw1 hw hh1 hh hs ha.2 ha.1] at h1
  rw [← tx_rows hw1 hw hh1 hh hs hb.2 hb.1] at h2
  rw [← h1, ← h2, e]
 ·intro e
  rw [e]
theorem idxS_bIdx {u : List Int} (hu : goodC w h u) : ∀ (L : List RS) (k : Nat), (∀ s ∈ L, goodC w h s.x) → idxS (L.map fun s => (tx s.x w h).data.toList) (tx u w h).data.toList k = bIdx L u k
 | [], k, _ => rfl
 | s :: L, k, hL => by
  rw [List.map_cons, idxS, bIdx, idxS_bIdx hu L (k + 1) fun s' hs' => hL s' (by simp [hs'])]
  exact ite_iff (tx_inj hw hh hs hw1 hh1 (hL s (by simp)) hu)
theorem zPlace_bIdx {u : List Int} (hu : goodC w h u) : ∀ (L' : List Zs) (L : List RS) (k : Nat), (∀ s ∈ L, goodC w h s.x) → L'.map Zs.text = L.map (fun s => tx s.x w h) → zPlace L' (tx u w h) k = match bIdx L u k with | some j => (j : Int) | none => -1
 | [], [], k, _, _ => rfl
 | z :: L', [], k, _, e => by simp at e
 | [], s :: L, k, _, e => by simp at e
 | z :: L', s :: L, k, hL, e => by
  rw [List.map_cons, List.map_cons] at e
  injection e with e1 e2
  have ih := zPlace_bIdx hu L' L (k + 1) (fun s' hs' => hL s' (by simp [hs'])) e2
  rw [zPlace, bIdx, e1, ih, toList_data, toList_data]
  by_cases e3 : s.x = u
  ·rw [if_pos e3, if_pos ((tx_inj hw hh hs hw1 hh1 (hL s (by simp)) hu).2 e3)]
  ·rw [if_neg e3, if_neg fun h4 => e3 ((tx_inj hw hh hs hw1 hh1 (hL s (by simp)) hu).1 h4)]
end
def zOf (w h : Nat) (V : Nat → Int) (N : Nat → List Nat) (i : Nat) (s : RS) : Zs := ⟨w, h, s.x, tx s.x w h, s.far, V i, s.before, s.dir, (N i).map fun j => ((j : Nat) : Int)⟩
def zL (w h : Nat) (L : List RS) (V : Nat → Int) (N : Nat → List Nat) : List Zs := L.mapIdx (zOf w h V N)
theorem zL_at (w h : Nat) (L : List RS) (V : Nat → Int) (N : Nat → List Nat) (i : Nat) : (zL w h L V N)[i]? = (L[i]?).map (zOf w h V N i) := List.getElem?_mapIdx ..
theorem zL_len (w h : Nat) (L : List RS) (V : Nat → Int) (N : Nat → List Nat) : (zL w h L V N).length = L.length := List.length_mapIdx ..
theorem zL_get {w h : Nat} {L : List RS} {V : Nat → Int} {N : Nat → List Nat} {i : Nat} {s : RS} (hs : L[i]? = some s) : zAt (zL w h L V N) i = zOf w h V N i s := by
 unfold zAt
 rw [List.getD_eq_getElem?_getD, zL_at, hs]
 rfl
theorem zL_text (w h : Nat) (L : List RS) (V : Nat → Int) (N : Nat → List Nat) : (zL w h L V N).map Zs.text = L.map fun s => tx s.x w h := by
 refine List.ext_getElem? fun i => ?_
 rw [List.getElem?_map, List.getElem?_map, zL_at]
 cases L[i]? <;> rfl
theorem zL_add (w h : Nat) (L : List RS) (V : Nat → Int) (N : Nat → List Nat) (s : RS) : zL w h L V N ++ [zOf w h V N L.length s] = zL w h (L ++ [s]) V N := by
 unfold zL
 rw [List.mapIdx_append]
 show _ = _ ++ [zOf w h V N (0 + L.length) s]
 rw [Nat.zero_add]
def updN (N : Nat → List Nat) (i : Nat) (l : List Nat) : Nat → List Nat := fun q => if q = i then l else N q
theorem updN_self (N : Nat → List Nat) (i : Nat) : updN N i (N i) = N := by
 funext q
 unfold updN
 split
 ·rename_i e
  rw [e]
 ·rfl
theorem updN_upd (N : Nat → List Nat) (i : Nat) (a b : List Nat) : updN (updN N i a) i b = updN N i b := by
 funext q
 unfold updN
 split <;> rfl
theorem zL_touch {w h : Nat} {L : List RS} {V : Nat → Int} {N : Nat → List Nat} {i j : Nat} {s r : RS} (hs : L[i]? = some s) (hr : L[j]? = some r) (h1 : s.far ≤ 1000) (h2 : r.far ≤ 1000) : zTouch (zL w h L V N) i j = zL w h L (bump L i V j) (updN N i (N i ++ [j])) := by
 have hW : zWords (zL w h L V N) i j = zL w h L (bump L i V j) N := by
  unfold zWords bump
  rw [zL_get hs, zL_get hr, farL_at hs, farL_at hr]
  show (if (r.far : Int) = wrap64 ((s.far : Int) + 1) then _ else _) = _
  rw [w64 (n := (s.far : Int) + 1) (by omega) (by omega)]
  by_cases e : r.far = s.far + 1
  ·rw [if_pos (by omega), if_pos e]
   refine List.ext_getElem? fun q => ?_
   rw [List.getElem?_set, zL_at, zL_at, zL_len]
   have hj := (List.getElem?_eq_some_iff.1 hr).1
   by_cases eq : j = q
   ·subst eq
    rw [if_pos rfl, if_pos hj, hr]
    show some _ = some _
    unfold zOf
    simp
   ·rw [if_neg eq]
    cases hq : L[q]? with
    | none => rfl
    | some x =>
     refine congrArg some ?_
     unfold zOf
     have e3 : (if q = j then wrap64 (V j + V i) else V q) = V q := if_neg fun e3 => eq e3.symm
     rw [show (fun q => if q = j then wrap64 (V j + V i) else V q) q = V q from e3]
  ·rw [if_neg (by omega), if_neg e]
 unfold zTouch zNext
 rw [hW, zL_get hs]
 refine List.ext_getElem? fun q => ?_
 have hi := (List.getElem?_eq_some_iff.1 hs).1
 rw [List.getElem?_set, zL_at, zL_at, zL_len]
 by_cases eq : i = q
 ·subst eq
  rw [if_pos rfl, if_pos hi, hs]
  show some _ = some _
  unfold zOf updN
  simp
 ·rw [if_neg eq]
  cases hq : L[q]? with
  | none => rfl
  | some x =>
   refine congrArg some ?_
   unfold zOf
   rw [show updN N i (N i ++ [j]) q = N q from if_neg fun e3 => eq e3.symm]
theorem bump_far {L : List RS} {i j : Nat} (hj : j < L.length) {V : Nat → Int} {q : Nat} (hq : L.length ≤ q) : bump L i V j q = V q := by
 unfold bump
 split
 ·exact if_neg (by omega)
 ·rfl
section
variable {w h : Nat} (hw : w ≤ 7) (hh : h ≤ 7) (hs : w * h ≤ 36) (hw1 : 0 < w) (hh1 : 0 < h)
include hw hh hs hw1 hh1
theorem one_good {t : List Int} {L : List RS} {i d : Nat} {s : RS} (hI : BInv (tiT w h) t L) (hg : ∀ s ∈ L, goodC w h s.x) (hi : L[i]? = some s) (hd : d < 4) {p : List RS × Nat} (hp : bOne (tiT w h) L i s d = some p) : ∀ s ∈ p.1, goodC w h s.x := by
 unfold bOne at hp
 split at hp
 ·cases hp
  exact hg
 ·split at hp
  ·cases hp
  ·cases hp
   intro x hx
   rcases List.mem_append.1 hx with hx | hx
   ·exact hg x hx
   ·rw [List.mem_singleton.1 hx]
    exact good_tilt hw hh hs hw1 hh1 hd (hg s (List.mem_of_getElem? hi))
theorem reS_ev {t : List Int} {i : Nat} {s : RS} {K : Nat → List Zs → Option (List Zs × Bool)} {r : List Zs × Bool} : ∀ (m d : Nat) (L : List RS) (V : Nat → Int) (N : Nat → List Nat) (nx : List Nat), d + m = 4 → nx.length ≤ d → BInv (tiT w h) t L → (∀ s ∈ L, goodC w h s.x) → L[i]? = some s → N i = nx → (∀ q, L.length ≤ q → V q = 0 ∧ N q = []) →
  (bFour (tiT w h) i s (List.range' d m) L nx = none → r = ([], false)) →
  (∀ p ms, bFour (tiT w h) i s (List.range' d m) L nx = some p → p.2 = nx ++ ms → BInv (tiT w h) t p.1 → (∀ s ∈ p.1, goodC w h s.x) → (∃ l, p.1 = L ++ l) → (∀ j ∈ ms, j < p.1.length) → (∀ q, p.1.length ≤ q → vRow p.1 i V ms q = 0 ∧ updN N i p.2 q = []) → Ev (fun k => K k (zL w h p.1 (vRow p.1 i V ms) (updN N i p.2))) r) →
  Ev (fun k => reS k (K k) i m d (zL w h L V N)) r
 | 0, d, L, V, N, nx, hm, hxl, hI, hg, hi, hn, hz, hF, hK => by
  have hil := (List.getElem?_eq_some_iff.1 hi).1
  have := hK (L, nx) [] rfl (by simp) hI hg ⟨[], by simp⟩ (fun j hj => by simp at hj) (fun q hq => ⟨(hz q hq).1, by unfold updN; rw [if_neg (by simp at hq; omega)]; exact (hz q hq).2⟩)
  rw [← hn, updN_self] at this
  exact this
 | m + 1, d, L, V, N, nx, hm, hxl, hI, hg, hi, hn, hz, hF, hK => by
  have hd : d < 4 := by omega
  have hil := (List.getElem?_eq_some_iff.1 hi).1
  have hlen := hI.len
  have hgs := hg s (List.mem_of_getElem? hi)
  have hgu : goodC w h (tiT w h d s.x) := good_tilt hw hh hs hw1 hh1 hd hgs
  have hti : Ev (fun k => spec_tiTilt.f k w h s.x d) ((w : Int), (h : Int), tiltC w h s.x d) := tiTilt_ev hw hh hs hd hw1 hh1 hgs.2
  have htx : Ev (fun k => spec_tyText.f k w h (tiltC w h s.x d)) (tx (tiltC w h s.x d) w h) := tyText_ev hw1 hh1 hs hgu.2
  have hzi : zAt (zL w h L V N) i = zOf w h V N i s := zL_get hi
  have hfi := (b_far hI i s hi).1
  have hpl := zPlace_bIdx hw hh hs hw1 hh1 hgu (zL w h L V N) L 0 hg (zL_text w h L V N)
  rw [List.range'_succ] at hF hK
  rw [show tiT w h d s.x = tiltC w h s.x d from rfl] at hpl
  have hfour : ∀ q, bOne (tiT w h) L i s d = q → bFour (tiT w h) i s (d :: List.range' (d + 1) m) L nx = q.bind fun p => bFour (tiT w h) i s (List.range' (d + 1) m) p.1 (nx ++ [p.2]) := fun q e => by rw [bFour, e]
  refine Ev.congr (Ev.bind (f := fun k (o : Int × Int × List Int) => (spec_tyText.f k o.1 o.2.1 o.2.2).bind fun t => if zPlace (zL w h L V N) t 0 < 0 then (if (zL w h L V N).length = 300 then some ([], false) else reS k (K k) i m (d + 1) (zTouch (zL w h L V N ++ [zNew o t (zAt (zL w h L V N) i).far i d]) i (zL w h L V N).length)) else reS k (K k) i m (d + 1) (zTouch (zL w h L V N) i (zPlace (zL w h L V N) t 0).toNat)) hti (Ev.bind (f := fun k (t : ByteArray) => if zPlace (zL w h L V N) t 0 < 0 then (if (zL w h L V N).length = 300 then some ([], false) else reS k (K k) i m (d + 1) (zTouch (zL w h L V N ++ [zNew ((w : Int), (h : Int), tiltC w h s.x d) t (zAt (zL w h L V N) i).far i d]) i (zL w h L V N).length)) else reS k (K k) i m (d + 1) (zTouch (zL w h L V N) i (zPlace (zL w h L V N) t 0).toNat)) htx ?_)) fun k => by rw [reS, hzi, if_pos (show (zOf w h V N i s).next.length ≤ 1000 by unfold zOf; rw [List.length_map, hn]; omega)]; rfl
  cases hb : bIdx L (tiltC w h s.x d) 0 with
  | some j =>
   rw [hb] at hpl
   obtain ⟨_, hj, rr, hr1, hr2⟩ := b_idx_some L _ 0 j hb
   rw [Nat.sub_zero] at hr1
   have hone : bOne (tiT w h) L i s d = some (L, j) := by
    unfold bOne
    rw [show bIdx L (tiT w h d s.x) 0 = some j from hb]
   have hfj := (b_far hI j rr hr1).1
   have hjl : j < L.length := by omega
   refine Ev.congr (g' := fun k => reS k (K k) i m (d + 1) (zL w h L (bump L i V j) (updN N i (N i ++ [j])))) ?_ fun k => ?_
   ·refine reS_ev m (d + 1) L (bump L i V j) (updN N i (N i ++ [j])) (nx ++ [j]) (by omega) (by rw [List.length_append, List.length_singleton]; omega) hI hg hi (by unfold updN; rw [if_pos rfl, hn]) (fun q hq => ⟨by rw [bump_far hjl hq]; exact (hz q hq).1, by unfold updN; rw [if_neg (by omega)]; exact (hz q hq).2⟩) (fun e => hF (by rw [hfour _ hone]; exact e)) fun p ms hp he hI2 hg2 hpre hms hz2 => ?_
    have hfb : bump L i V j = bump p.1 i V j := by
     obtain ⟨l, e⟩ := hpre
     rw [e, bump_pre L l hil hjl]
    have := hK p (j :: ms) (by rw [hfour _ hone]; exact hp) (by rw [he, List.append_assoc]; rfl) hI2 hg2 hpre (fun q hq => by
     rcases List.mem_cons.1 hq with e | hq
     ·obtain ⟨l, e2⟩ := hpre
      rw [e, e2, List.length_append]
      omega
     ·exact hms q hq) (fun q hq => ⟨by show vRow p.1 i (bump p.1 i V j) ms q = 0; rw [← hfb]; exact (hz2 q hq).1, by have := (hz2 q hq).2; rw [updN_upd] at this; exact this⟩)
    rw [updN_upd]
    rw [hfb]
    exact this
   ·rw [hpl]
    show (if ((j : Nat) : Int) < 0 then _ else _) = _
    rw [if_neg (by omega), Int.toNat_natCast, zL_touch hi hr1 (by omega) (by omega)]
  | none =>
   rw [hb] at hpl
   by_cases hL : L.length = 300
   ·have hone : bOne (tiT w h) L i s d = none := by
     unfold bOne
     rw [show bIdx L (tiT w h d s.x) 0 = none from hb]
     exact if_pos hL
    rw [hF (by rw [hfour _ hone]; rfl)]
    refine Ev.congr (Ev.const rfl) fun k => ?_
    rw [hpl, if_pos (by decide), if_pos (by rw [zL_len]; exact hL)]
   ·have hone : bOne (tiT w h) L i s d = some (L ++ [⟨tiltC w h s.x d, s.far + 1, s.word ++ [d], i, d⟩], L.length) := by
     unfold bOne
     rw [show bIdx L (tiT w h d s.x) 0 = none from hb]
     exact if_neg hL
    obtain ⟨hI1, _, _⟩ := hI.one (tiT w h) hi hd hone
    have hg1 := one_good hw hh hs hw1 hh1 hI hg hi hd hone
    generalize hs1 : (⟨tiltC w h s.x d, s.far + 1, s.word ++ [d], i, d⟩ : RS) = s1 at hone hI1 hg1
    have hi1 : (L ++ [s1])[i]? = some s := by rw [List.getElem?_append_left hil]; exact hi
    have hr1 : (L ++ [s1])[L.length]? = some s1 := by simp
    have hnew : zNew ((w : Int), (h : Int), tiltC w h s.x d) (tx (tiltC w h s.x d) w h) (s.far : Int) i d = zOf w h V N L.length s1 := by
     obtain ⟨v0, n0⟩ := hz L.length (Nat.le_refl _)
     rw [← hs1]
     unfold zNew zOf
     rw [v0, n0, w64 (n := (s.far : Int) + 1) (by omega) (by omega)]
     rfl
    refine Ev.congr (g' := fun k => reS k (K k) i m (d + 1) (zL w h (L ++ [s1]) (bump (L ++ [s1]) i V L.length) (updN N i (N i ++ [L.length])))) ?_ fun k => ?_
    ·refine reS_ev m (d + 1) (L ++ [s1]) (bump (L ++ [s1]) i V L.length) (updN N i (N i ++ [L.length])) (nx ++ [L.length]) (by omega) (by rw [List.length_append, List.length_singleton]; omega) hI1 hg1 hi1 (by unfold updN; rw [if_pos rfl, hn]) (fun q hq => ?_) (fun e => hF (by rw [hfour _ hone]; exact e)) fun p ms hp he hI2 hg2 hpre hms hz2 => ?_
     ·rw [List.length_append, List.length_singleton] at hq
      exact ⟨by rw [bump_far (by simp) (by simp; omega)]; exact (hz q (by omega)).1, by unfold updN; rw [if_neg (by omega)]; exact (hz q (by omega)).2⟩
     ·have hfb : bump (L ++ [s1]) i V L.length = bump p.1 i V L.length := by
       obtain ⟨l, e⟩ := hpre
       rw [e, bump_pre (L ++ [s1]) l (by simp; omega) (by simp)]
      have := hK p (L.length :: ms) (by rw [hfour _ hone]; exact hp) (by rw [he, List.append_assoc]; rfl) hI2 hg2 (by obtain ⟨l, e⟩ := hpre; exact ⟨[s1] ++ l, by rw [e, List.append_assoc]⟩) (fun q hq => by
       rcases List.mem_cons.1 hq with e | hq
       ·obtain ⟨l, e2⟩ := hpre
        rw [e, e2]
        simp
       ·exact hms q hq) (fun q hq => ⟨by show vRow p.1 i (bump p.1 i V L.length) ms q = 0; rw [← hfb]; exact (hz2 q hq).1, by have := (hz2 q hq).2; rw [updN_upd] at this; exact this⟩)
      rw [updN_upd]
      rw [hfb]
      exact this
    ·rw [hpl, if_pos (by decide), if_neg (by rw [zL_len]; exact hL), hzi, show (zOf w h V N i s).far = (s.far : Int) from rfl, hnew, zL_add, zL_len, zL_touch hi1 hr1 (by omega) (by have := (b_far hI1 L.length s1 hr1).1; omega)]
def foundZ (w h : Nat) (p : List RS × List (List Nat)) : List Zs := zL w h p.1 (vRows p.1 0 V0 p.2) fun q => p.2.getD q []
def foundR (w h : Nat) : Option (List RS × List (List Nat)) → List Zs × Bool
 | none => ([], false)
 | some p => (foundZ w h p, true)
theorem reA_ev {t : List Int} : ∀ (m i : Nat) (L : List RS) (V : Nat → Int) (N : List (List Nat)), m + i = 301 → i ≤ L.length → N.length = i → BInv (tiT w h) t L → (∀ s ∈ L, goodC w h s.x) → (∀ nx ∈ N, ∀ j ∈ nx, j < L.length) → (∀ q, L.length ≤ q → V q = 0) → V = vRows L 0 V0 N →
  Ev (fun k => reA k m i (zL w h L V fun q => N.getD q [])) (foundR w h (bAll (tiT w h) m i L N))
 | 0, i, L, V, N, hm, hi, hN, hI, hg, hj, hz, hV => by
  have := hI.len
  omega
 | m + 1, i, L, V, N, hm, hi, hN, hI, hg, hj, hz, hV => by
  by_cases hil : i < L.length
  ·obtain ⟨s, hs'⟩ : ∃ s, L[i]? = some s := ⟨_, List.getElem?_eq_getElem hil⟩
   have hb : bAll (tiT w h) (m + 1) i L N = (bFour (tiT w h) i s [0, 1, 2, 3] L []).bind fun p => bAll (tiT w h) m (i + 1) p.1 (N ++ [p.2]) := by
    rw [bAll, hs']
   rw [hb]
   refine Ev.congr (reS_ev hw hh hs hw1 hh1 (t := t) (i := i) (s := s) (K := fun k L => reA k m (i + 1) L) 4 0 L V (fun q => N.getD q []) [] rfl (Nat.le_refl _) hI hg hs' (by rw [List.getD_eq_getElem?_getD, List.getElem?_eq_none (by omega)]; rfl) (fun q hq => ⟨hz q hq, by rw [List.getD_eq_getElem?_getD, List.getElem?_eq_none (by omega)]; rfl⟩) (fun e => ?_) fun p ms hp he hI2 hg2 hpre hms hz2 => ?_) fun k => ?_
   ·rw [show bFour (tiT w h) i s [0, 1, 2, 3] L [] = none from e]
    rfl
   ·rw [show bFour (tiT w h) i s [0, 1, 2, 3] L [] = some p from hp]
    obtain ⟨l, hl⟩ := hpre
    rw [List.nil_append] at he
    subst he
    have hNN : updN (fun q => N.getD q []) i p.2 = fun q => (N ++ [p.2]).getD q [] := by
     funext q
     unfold updN
     rw [List.getD_eq_getElem?_getD]
     by_cases e : q = i
     ·subst e
      rw [if_pos rfl, ← hN]
      simp
     ·rw [if_neg e]
      show N.getD q [] = _
      rcases Nat.lt_or_ge q N.length with h1 | h1
      ·rw [List.getElem?_append_left h1, List.getD_eq_getElem?_getD]
      ·rw [List.getElem?_eq_none (by simp; omega), List.getD_eq_getElem?_getD, List.getElem?_eq_none h1]
    rw [hNN]
    refine reA_ev m (i + 1) p.1 _ (N ++ [p.2]) (by omega) (by rw [hl]; simp; omega) (by simp [hN]) hI2 hg2 (fun nx hnx j hj2 => ?_) (fun q hq => (hz2 q hq).1) ?_
    ·rcases List.mem_append.1 hnx with hnx | hnx
     ·rw [hl, List.length_append]
      have := hj nx hnx j hj2
      omega
     ·rw [List.mem_singleton.1 hnx] at hj2
      exact hms j hj2
    ·rw [vRows_snoc, Nat.zero_add, hN, hV, hl, vRows_pre L l N 0 V0 (by omega) hj]
   ·rw [reA, zL_len, if_pos hil]
  ·have hb : bAll (tiT w h) (m + 1) i L N = some (L, N) := by
    rw [bAll, List.getElem?_eq_none (by omega)]
   rw [hb]
   refine Ev.congr (Ev.const (o := some (zL w h L V fun q => N.getD q [], true)) ?_) fun k => ?_
   ·show some _ = some (foundZ w h (L, N), true)
    unfold foundZ
    rw [hV]
   ·rw [reA, zL_len, if_neg hil]
end
def start (cs : List Int) : List RS := [⟨cs, 0, [], -1, 0⟩]
def search (w h : Nat) (cs : List Int) : Option (List RS × List (List Nat)) := bAll (tiT w h) 301 0 (start cs) []
def reAllR (t : ByteArray) : List Zs × Bool := match trayOf t with
 | none => ([], false)
 | some (w, h, cs) => foundR w.toNat h.toNat (search w.toNat h.toNat cs)
theorem reAll_ev (t : ByteArray) : Ev (fun k => spec_reAll.f k t) (reAllR t) := by
 refine Ev.bind (f := fun k (g : Int × Int × List Int × Bool) => if g.2.2.2 = true then reA k 301 0 [⟨g.1, g.2.1, g.2.2.1, t, 0, 1, -1, 0, []⟩] else some ([], false)) (tyRead_ev t) ?_
 unfold reAllR
 rcases ht : trayOf t with _ | ⟨w, h, cs⟩
 ·exact Ev.congr (Ev.const rfl) fun k => if_neg Bool.false_ne_true
 ·obtain ⟨w, h, cs, e, hw1, hw, hh1, hh, hs, hn⟩ := tray_parts ht
  injection e with e1 e2
  injection e2 with e2 e3
  subst e1 e2 e3
  obtain ⟨hc, htx, _⟩ := tray_own ht
  show Ev _ (foundR w h (search w h cs))
  refine Ev.congr (reA_ev hw hh hs hw1 hh1 (t := cs) 301 0 (start cs) V0 [] rfl (Nat.zero_le _) rfl (BInv.made _ cs) (fun s hs => ?_) (fun nx hnx => by simp at hnx) (fun q hq => if_neg (by simp [start] at hq; omega)) rfl) fun k => ?_
  ·rw [List.mem_singleton.1 hs]
   exact ⟨hc, hn⟩
  ·show (if true = true then reA k 301 0 [_] else _) = _
   rw [if_pos rfl, ← htx]
   rfl
end Go.Proofs.YtchkmhbngbgjnaaGreatDoor.Q
end
section
namespace Go.Proofs.YtchkmhbngbgjnaaGreatDoor.Q
set_option linter.unusedSectionVars false
set_option linter.unusedVariables false
open Go.RowKit Go.Proofs.YtchkmhbngbgjnaaGreatDoorW.PrintWords Go.Proofs.YtchkmhbngbgjnaaGreatDoorW.PrintLast Go.Proofs.YtchkmhbngbgjnaaGreatDoorW.PrintMore
def casts (l : List Nat) : List Int := l.map fun j => ((j : Nat) : Int)
def txs (w h : Nat) (L : List RS) : List ByteArray := L.map fun s => tx s.x w h
def txl (w h : Nat) (L : List RS) : List (List UInt8) := L.map fun s => (tx s.x w h).data.toList
def fars (L : List RS) : List Int := L.map fun s => ((s.far : Nat) : Int)
def wordT (l : List Nat) : ByteArray := strOfNums (l.map dirC)
def wds (L : List RS) : List ByteArray := L.map fun s => wordT s.word
theorem rdOf_map {α β : Type} (z : β) (f : α → β) {L : List α} {i : Nat} {s : α} (h : L[i]? = some s) : rdOf z (L.map f) (i : Int) = f s := by
 unfold rdOf
 rw [Int.toNat_natCast, List.getD_eq_getElem?_getD, List.getElem?_map, h]
 rfl
theorem rd_fars {L : List RS} {i : Nat} {s : RS} (h : L[i]? = some s) : rd (fars L) (i : Int) = (s.far : Int) := by
 unfold rd fars
 rw [Int.toNat_natCast, List.getD_eq_getElem?_getD, List.getElem?_map, h]
 rfl
def failI : ReR := ([], [], [], [], false)
section
variable {w h : Nat} (hw : w ≤ 7) (hh : h ≤ 7) (hs : w * h ≤ 36) (hw1 : 0 < w) (hh1 : 0 < h)
include hw hh hs hw1 hh1
theorem reI_ev {t : List Int} {i : Nat} {s : RS} {K : Nat → List ByteArray → List Int → List ByteArray → (List UInt8 → Option Int) → List Int → Option ReR} {r : ReR} : ∀ (ds : List Nat) (L : List RS) (nx : List Nat), (∀ d ∈ ds, d < 4) → BInv (tiT w h) t L → (∀ s ∈ L, goodC w h s.x) → L[i]? = some s →
  (bFour (tiT w h) i s ds L nx = none → r = failI) →
  (∀ p, bFour (tiT w h) i s ds L nx = some p → BInv (tiT w h) t p.1 → (∀ s ∈ p.1, goodC w h s.x) → (∃ l, p.1 = L ++ l) → Ev (fun k => K k (txs w h p.1) (fars p.1) (wds p.1) (fS (txl w h p.1)) (casts p.2)) r) →
  Ev (fun k => reI k (K k) i w h s.x (ds.map dirC) (txs w h L) (fars L) (wds L) (fS (txl w h L)) (casts nx)) r
 | [], L, nx, hd, hI, hg, hi, hF, hK => hK (L, nx) rfl hI hg ⟨[], by simp⟩
 | d :: ds, L, nx, hd, hI, hg, hi, hF, hK => by
  have hd4 : d < 4 := hd d (by simp)
  have hil := (List.getElem?_eq_some_iff.1 hi).1
  have hlen := hI.len
  have hgs := hg s (List.mem_of_getElem? hi)
  have hgu : goodC w h (tiT w h d s.x) := good_tilt hw hh hs hw1 hh1 hd4 hgs
  have hti : Ev (fun k => impl_tray_tilted.f k w h s.x (dirC d)) ((w : Int), (h : Int), tiltC w h s.x d) := tilted_ev hw hh hs hd4 hw1 hh1 hgs.2
  have htx := text_val w h (tiltC w h s.x d) hw1 hh1 hs hgu.2
  have hsz := tx_size (w := w) (h := h) (cs := tiltC w h s.x d) hw1 hw hh1 hh hs hgu.2
  obtain ⟨hfi, hwi, _⟩ := b_far hI i s hi
  have hrw : rdOf ByteArray.empty (wds L) (i : Int) = wordT s.word := rdOf_map ByteArray.empty (fun s : RS => wordT s.word) hi
  have hws : (wordT s.word).size ≤ 1000000 := by
   unfold wordT
   rw [son_size, List.length_map]
   omega
  have hix : idxS (txl w h L) (tx (tiltC w h s.x d) w h).data.toList 0 = bIdx L (tiltC w h s.x d) 0 := idxS_bIdx hw hh hs hw1 hh1 hgu L 0 hg
  have hfour : ∀ q, bOne (tiT w h) L i s d = q → bFour (tiT w h) i s (d :: ds) L nx = q.bind fun p => bFour (tiT w h) i s ds p.1 (nx ++ [p.2]) := fun q e => by rw [bFour, e]
  have hca : ∀ j : Nat, casts nx ++ [(j : Int)] = casts (nx ++ [j]) := fun j => by unfold casts; rw [List.map_append]; rfl
  refine Ev.congr (Ev.bind (f := fun k (g : Int × Int × List Int) => (impl_tray_text.f g.1 g.2.1 g.2.2).bind fun u => if u.size ≤ 1048576 ∧ (rdOf ByteArray.empty (wds L) (i : Int)).size ≤ 1000000 then (match fS (txl w h L) u.data.toList with
   | some c => reI k (K k) i w h s.x (ds.map dirC) (txs w h L) (fars L) (wds L) (fS (txl w h L)) (casts nx ++ [c])
   | none => if (txs w h L).length = 300 then some failI else reI k (K k) i w h s.x (ds.map dirC) (txs w h L ++ [u]) (fars L ++ [wrap64 (rd (fars L) (i : Int) + 1)]) (wds L ++ [rdOf ByteArray.empty (wds L) (i : Int) ++ strOfNums [dirC d]]) (updS (fS (txl w h L)) u.data.toList ((txs w h L).length : Int)) (casts nx ++ [((txs w h L).length : Int)])) else none) hti ?_) fun k => rfl
  cases hb : bIdx L (tiltC w h s.x d) 0 with
  | some j =>
   have hone : bOne (tiT w h) L i s d = some (L, j) := by
    unfold bOne
    rw [show bIdx L (tiT w h d s.x) 0 = some j from hb]
   rw [hb] at hix
   refine Ev.congr (reI_ev ds L (nx ++ [j]) (fun d' h' => hd d' (by simp [h'])) hI hg hi (fun e => hF (by rw [hfour _ hone]; exact e)) fun p hp => hK p (by rw [hfour _ hone]; exact hp)) fun k => ?_
   show (impl_tray_text.f (w : Int) (h : Int) (tiltC w h s.x d)).bind _ = _
   rw [htx, Option.bind_some, hrw, if_pos ⟨hsz, hws⟩, fS_some hix]
   show reI k (K k) i w h s.x (ds.map dirC) (txs w h L) (fars L) (wds L) (fS (txl w h L)) (casts nx ++ [(j : Int)]) = _
   rw [hca]
  | none =>
   rw [hb] at hix
   have hTl : (txs w h L).length = L.length := List.length_map ..
   by_cases hL : L.length = 300
   ·have hone : bOne (tiT w h) L i s d = none := by
     unfold bOne
     rw [show bIdx L (tiT w h d s.x) 0 = none from hb]
     exact if_pos hL
    rw [hF (by rw [hfour _ hone]; rfl)]
    refine Ev.congr (Ev.const (o := some failI) rfl) fun k => ?_
    show (impl_tray_text.f (w : Int) (h : Int) (tiltC w h s.x d)).bind _ = _
    rw [htx, Option.bind_some, hrw, if_pos ⟨hsz, hws⟩, fS_none hix, hTl]
    exact if_pos hL
   ·have hone : bOne (tiT w h) L i s d = some (L ++ [⟨tiltC w h s.x d, s.far + 1, s.word ++ [d], i, d⟩], L.length) := by
     unfold bOne
     rw [show bIdx L (tiT w h d s.x) 0 = none from hb]
     exact if_neg hL
    obtain ⟨hI1, _, _⟩ := hI.one (tiT w h) hi hd4 hone
    have hg1 := one_good hw hh hs hw1 hh1 hI hg hi hd4 hone
    refine Ev.congr (reI_ev ds (L ++ [⟨tiltC w h s.x d, s.far + 1, s.word ++ [d], i, d⟩]) (nx ++ [L.length]) (fun d' h' => hd d' (by simp [h'])) hI1 hg1 (by rw [List.getElem?_append_left hil]; exact hi) (fun e => hF (by rw [hfour _ hone]; exact e)) fun p hp hI2 hg2 hpre => hK p (by rw [hfour _ hone]; exact hp) hI2 hg2 (by obtain ⟨l, e⟩ := hpre; exact ⟨_, by rw [e, List.append_assoc]⟩)) fun k => ?_
    show (impl_tray_text.f (w : Int) (h : Int) (tiltC w h s.x d)).bind _ = _
    rw [htx, Option.bind_some, hrw, if_pos ⟨hsz, hws⟩, fS_none hix, hTl]
    show (if L.length = 300 then _ else _) = _
    rw [if_neg hL, hca, rd_fars hi, w64 (n := (s.far : Int) + 1) (by omega) (by omega)]
    have e1 : txs w h L ++ [tx (tiltC w h s.x d) w h] = txs w h (L ++ [⟨tiltC w h s.x d, s.far + 1, s.word ++ [d], i, d⟩]) := by unfold txs; rw [List.map_append]; rfl
    have e2 : fars L ++ [(s.far : Int) + 1] = fars (L ++ [⟨tiltC w h s.x d, s.far + 1, s.word ++ [d], i, d⟩]) := by unfold fars; rw [List.map_append]; rfl
    have e3 : wds L ++ [wordT s.word ++ strOfNums [dirC d]] = wds (L ++ [⟨tiltC w h s.x d, s.far + 1, s.word ++ [d], i, d⟩]) := by
     unfold wds
     rw [List.map_append]
     refine congrArg (fun z => _ ++ [z]) ?_
     show wordT s.word ++ strOfNums [dirC d] = wordT (s.word ++ [d])
     unfold wordT
     rw [son_append, List.map_append]
     rfl
    have e4 : updS (fS (txl w h L)) (tx (tiltC w h s.x d) w h).data.toList (L.length : Int) = fS (txl w h (L ++ [⟨tiltC w h s.x d, s.far + 1, s.word ++ [d], i, d⟩])) := by
     have := fS_snoc hix
     rw [show (txl w h L).length = L.length from List.length_map ..] at this
     unfold updS
     rw [this]
     unfold txl
     rw [List.map_append]
     rfl
    rw [e1, e2, e3, e4]
theorem read_tx {cs : List Int} (hc : goodC w h cs) : impl_read.f (tx cs w h) = some ((w : Int), (h : Int), cs) := by
 have hr := tx_rows hw1 hw hh1 hh hs hc.2 hc.1
 have hf := tx_flat hw1 hw hh1 hh hs hc.2 hc.1
 have hsz := tx_size (w := w) (h := h) (cs := cs) hw1 hw hh1 hh hs hc.2
 have hrl : (rowsL (tx cs w h)).map (fun x => x.data.toList) = (List.range h).map (rowL cs w) := by rw [rowsL_map, hr]
 have hlen : (rowsL (tx cs w h)).length = h := by
  have := congrArg List.length hrl
  simpa using this
 have h0 : ((rowsL (tx cs w h)).getD 0 ByteArray.empty).size = w := by
  rw [List.getD_eq_getElem?_getD, List.getElem?_eq_getElem (by omega)]
  have h1 : ((rowsL (tx cs w h)).map (fun x => x.data.toList))[0]? = ((List.range h).map (rowL cs w))[0]? := by rw [hrl]
  rw [List.getElem?_map, List.getElem?_map, List.getElem?_eq_getElem (by omega), List.getElem?_eq_getElem (by simpa using hh1)] at h1
  have h2 := Option.some.inj h1
  rw [List.getElem_range] at h2
  show ((rowsL (tx cs w h))[0]).size = w
  rw [← data_length, show (rowsL (tx cs w h))[0].data.toList = rowL cs w 0 from h2]
  unfold rowL
  rw [List.length_map, row_len cs w 0 h (by rw [hc.2, Nat.mul_comm]) hh1]
 unfold impl_read.f
 rw [if_pos hsz, h0, hlen, joined_ints, hr, hf]
def foundI (w h : Nat) (p : List RS × List (List Nat)) : ReR := (txs w h p.1, fars p.1, p.2.map casts, wds p.1, true)
def foundIR (w h : Nat) : Option (List RS × List (List Nat)) → ReR
 | none => failI
 | some p => foundI w h p
theorem reO_ev {t : List Int} : ∀ (m i : Nat) (L : List RS) (N : List (List Nat)), m + i = 301 → i ≤ L.length → BInv (tiT w h) t L → (∀ s ∈ L, goodC w h s.x) →
  Ev (fun k => reO k m i (txs w h L) (fars L) (N.map casts) (wds L) (fS (txl w h L))) (foundIR w h (bAll (tiT w h) m i L N))
 | 0, i, L, N, hm, hi, hI, hg => by
  have := hI.len
  omega
 | m + 1, i, L, N, hm, hi, hI, hg => by
  have hTl : (txs w h L).length = L.length := List.length_map ..
  by_cases hil : i < L.length
  ·obtain ⟨s, hs'⟩ : ∃ s, L[i]? = some s := ⟨_, List.getElem?_eq_getElem hil⟩
   have hgs := hg s (List.mem_of_getElem? hs')
   have hb : bAll (tiT w h) (m + 1) i L N = (bFour (tiT w h) i s [0, 1, 2, 3] L []).bind fun p => bAll (tiT w h) m (i + 1) p.1 (N ++ [p.2]) := by
    rw [bAll, hs']
   rw [hb]
   refine Ev.congr (reI_ev hw hh hs hw1 hh1 (t := t) (i := i) (s := s) (K := fun k T F W f nx => reO k m (i + 1) T F (N.map casts ++ [nx]) W f) [0, 1, 2, 3] L [] (by decide) hI hg hs' (fun e => ?_) fun p hp hI2 hg2 hpre => ?_) fun k => ?_
   ·rw [e]
    rfl
   ·rw [hp]
    obtain ⟨l, hl⟩ := hpre
    have := reO_ev m (i + 1) p.1 (N ++ [p.2]) (by omega) (by rw [hl]; simp; omega) hI2 hg2
    rw [List.map_append] at this
    exact this
   ·rw [reO, hTl, if_pos hil, show rdOf ByteArray.empty (txs w h L) (i : Int) = tx s.x w h from rdOf_map ByteArray.empty (fun s : RS => tx s.x w h) hs', read_tx hw hh hs hw1 hh1 hgs, Option.bind_some]
    rfl
  ·have hb : bAll (tiT w h) (m + 1) i L N = some (L, N) := by
    rw [bAll, List.getElem?_eq_none (by omega)]
   rw [hb]
   refine Ev.congr (Ev.const (o := some (foundI w h (L, N))) rfl) fun k => ?_
   rw [reO, hTl, if_neg hil]
   rfl
end
def reachR (t : ByteArray) : ReR := match trayOf t with
 | none => failI
 | some (w, h, cs) => foundIR w.toNat h.toNat (search w.toNat h.toNat cs)
theorem reachOf_ev (t : ByteArray) (ht0 : t.size ≤ 1048576) : Ev (fun k => impl_reachOf.f k t) (reachR t) := by
 refine Ev.bind (f := fun k (b : Bool) => if b = true then (if t.size ≤ 1048576 then reO k 301 0 [t] [0] [] [⟨#[]⟩] (updS (fun _ => none) t.data.toList 0) else none) else some ([], [], [], [], false)) (isTray_ev t ht0) ?_
 unfold reachR
 rcases ht : trayOf t with _ | ⟨w, h, cs⟩
 ·exact Ev.congr (Ev.const rfl) fun k => if_neg (by simp)
 ·obtain ⟨w, h, cs, e, hw1, hw, hh1, hh, hs, hn⟩ := tray_parts ht
  injection e with e1 e2
  injection e2 with e2 e3
  subst e1 e2 e3
  obtain ⟨hc, htx, _⟩ := tray_own ht
  show Ev _ (foundIR w h (search w h cs))
  refine Ev.congr (reO_ev hw hh hs hw1 hh1 (t := cs) 301 0 (start cs) [] rfl (Nat.zero_le _) (BInv.made _ cs) (fun s hs => ?_)) fun k => ?_
  ·rw [List.mem_singleton.1 hs]
   exact ⟨hc, hn⟩
  ·show (if true = true then (if t.size ≤ 1048576 then _ else _) else _) = _
   rw [if_pos rfl, if_pos ht0]
   have e1 : txs w h (start cs) = [t] := by
    show [tx cs w h] = [t]
    rw [htx]
   have e2 : fS (txl w h (start cs)) = updS (fun _ => none) t.data.toList 0 := by
    funext x
    show fS [(tx cs w h).data.toList] x = _
    rw [htx]
    unfold fS updS
    rw [idxS]
    by_cases e : t.data.toList = x
    ·rw [if_pos e, if_pos e.symm]
     rfl
    ·rw [if_neg e, if_neg fun e2 => e e2.symm]
     rfl
   rw [e1, e2]
   rfl
end Go.Proofs.YtchkmhbngbgjnaaGreatDoor.Q
end
section
namespace Go.Proofs.YtchkmhbngbgjnaaGreatDoor.Q
set_option linter.unusedSectionVars false
open Go.RowKit Go.Proofs.YtchkmhbngbgjnaaGreatDoorW.PrintWords Go.Proofs.YtchkmhbngbgjnaaGreatDoorW.PrintLast Go.Proofs.YtchkmhbngbgjnaaGreatDoorW.PrintMore
structure Found (t : ByteArray) (w h : Nat) (cs : List Int) (p : List RS × List (List Nat)) : Prop where
 tray : trayOf t = some ((w : Int), (h : Int), cs)
 hw1 : 0 < w
 hw : w ≤ 7
 hh1 : 0 < h
 hh : h ≤ 7
 hs : w * h ≤ 36
 all : reAllR t = (foundZ w h p, true)
 prog : reachR t = foundI w h p
 done : BDone (tiT w h) cs p.1 p.2
 good : ∀ s ∈ p.1, goodC w h s.x
 srch : search w h cs = some p
 up : ∃ q, BSorted p.1 q
theorem way_good {w h : Nat} (hw : w ≤ 7) (hh : h ≤ 7) (hs : w * h ≤ 36) (hw1 : 0 < w) (hh1 : 0 < h) {t y : List Int} (ht : goodC w h t) (hy : BWay (tiT w h) t y) : goodC w h y := by
 induction hy with
 | here => exact ht
 | go d hd _ ih => exact good_tilt hw hh hs hw1 hh1 hd ih
theorem found_cases (t : ByteArray) : (reAllR t = ([], false) ∧ reachR t = failI) ∨ ∃ w h cs p, Found t w h cs p := by
 rcases ht : trayOf t with _ | ⟨w, h, cs⟩
 ·left
  unfold reAllR reachR
  rw [ht]
  exact ⟨rfl, rfl⟩
 ·obtain ⟨w, h, cs, e, hw1, hw, hh1, hh, hs, hn⟩ := tray_parts ht
  injection e with e1 e2
  injection e2 with e2 e3
  subst e1 e2 e3
  obtain ⟨hc, htx, _⟩ := tray_own ht
  have h1 : reAllR t = foundR w h (search w h cs) := by
   unfold reAllR
   rw [ht]
   rfl
  have h2 : reachR t = foundIR w h (search w h cs) := by
   unfold reachR
   rw [ht]
   rfl
  cases hp : search w h cs with
  | none =>
   left
   rw [h1, h2, hp]
   exact ⟨rfl, rfl⟩
  | some p =>
   right
   have hd : BDone (tiT w h) cs p.1 p.2 := b_all_fin (tiT w h) 301 0 (start cs) [] p rfl (Nat.zero_le _) rfl (BInv.made _ cs) (fun j s hj => absurd hj (Nat.not_lt_zero _)) hp
   refine ⟨w, h, cs, p, ht, hw1, hw, hh1, hh, hs, by rw [h1, hp]; rfl, by rw [h2, hp]; rfl, hd, fun s hm => ?_, hp, b_all_up (tiT w h) hp⟩
   obtain ⟨k, hk⟩ := List.getElem?_of_mem hm
   exact way_good hw hh hs hw1 hh1 ⟨hc, hn⟩ (hd.inv.way (tiT w h) k s hk)
section
variable {t : ByteArray} {w h : Nat} {cs : List Int} {p : List RS × List (List Nat)} (H : Found t w h cs p)
include H
theorem Found.len : p.1.length ≤ 300 := H.done.inv.len
theorem Found.pos : 0 < p.1.length := by
 obtain ⟨l, e⟩ := H.done.inv.first
 rw [e]
 simp
end
end Go.Proofs.YtchkmhbngbgjnaaGreatDoor.Q
end
section
namespace Go.Proofs.YtchkmhbngbgjnaaGreatDoor.Q
set_option linter.unusedSectionVars false
open Go.RowKit Go.Proofs.YtchkmhbngbgjnaaGreatDoorW.PrintWords Go.Proofs.YtchkmhbngbgjnaaGreatDoorW.PrintLast Go.Proofs.YtchkmhbngbgjnaaGreatDoorW.PrintMore
def slices_Max_int.f (l : List Int) : Option Int := if 1 ≤ l.length ∧ l.length ≤ 1000000 then some (Lib.maxOf l) else none
theorem slices_Max_int.calls (A : Option Addr) (c : Nat) (l : List Int) (r : Int) (w : World) (hr : Kd.C (Kd.int .i64) w A l.length l) (_hc : l.length ≤ c) (h : slices_Max_int.f l = some r) :
  Calls Tryz.prog 32 #[.slice A l.length c] w fun e w' => e = .returned (.int .i64 r) ∧ Drawn0 w w' := by
 unfold slices_Max_int.f at h
 split at h
 case isFalse => cases h
 rename_i hl
 cases h
 obtain ⟨b, o, rfl, x⟩ := ints_at hr hl.1
 have h1 := Tryz.slices_Max_int b o l.length c l w (by omega) (Nat.le_refl _) (by omega) x
 rw [List.take_length] at h1
 exact h1.mono fun e w' hh => ⟨hh.1, by rw [hh.2]; exact Drawn0.refl _⟩
end Go.Proofs.YtchkmhbngbgjnaaGreatDoor.Q
end
section
namespace Go.Proofs.YtchkmhbngbgjnaaGreatDoor.Q
set_option linter.unusedSectionVars false
set_option linter.unusedVariables false
open Go.RowKit Go.Proofs.YtchkmhbngbgjnaaGreatDoorW.PrintWords Go.Proofs.YtchkmhbngbgjnaaGreatDoorW.PrintLast Go.Proofs.YtchkmhbngbgjnaaGreatDoorW.PrintMore
def upo (o : Nat → Nat) (s j : Nat) : Nat → Nat := fun k => if k < s then o k else j
theorem upo_old {o : Nat → Nat} {s j k : Nat} (h : k < s) : upo o s j k = o k := if_pos h
theorem upo_new {o : Nat → Nat} {s j k : Nat} (h : s ≤ k) : upo o s j k = j := if_neg (Nat.not_lt.2 h)
section
variable {α : Type} {d : Kd α} {e base : Nat} {w w1 : World} {o : Nat → Nat} {v : Value} {xs : List α} {i : Nat}
theorem rowg_at (h : d.R e w base (fun k => o k = i) v xs) (j : Nat) : d.R e w base (fun k => upo o w.heap.size j k = i) v xs :=
 Kd.R_mono (Kd.R_bound h) fun k hk => (upo_old hk.2.2.1).trans hk.1
theorem rowg_other (h : d.R e w base (fun k => o k = i) v xs) {row : Option Nat} (hg : w.grownBy w1 row) {j : Nat} (hrow : ∀ k, row = some k → o k = j) (hij : i ≠ j) : d.R e w1 base (fun k => upo o w.heap.size j k = i) v xs :=
 Kd.R_mono (Kd.R_grown (Kd.R_bound h) hg fun k hk he => hij (hk.1.symm.trans (hrow k he.symm))) fun k hk => (upo_old hk.2.2.1).trans hk.1
theorem rowg_below (h : d.R e w base (fun k => o k = i) v xs) (hb : Below w.heap.size w w1) (j : Nat) : d.R e w1 base (fun k => upo o w.heap.size j k = i) v xs := Kd.R_below (rowg_at h j) hb
theorem rowv_at (h : d.V e w base (fun k => o k = i) v xs) (j : Nat) : d.V e w base (fun k => upo o w.heap.size j k = i) v xs :=
 Kd.V_mono (Kd.V_bound h) fun k hk => (upo_old hk.2).trans hk.1
theorem rowv_other (h : d.V e w base (fun k => o k = i) v xs) {row : Option Nat} (hg : w.grownBy w1 row) {j : Nat} (hrow : ∀ k, row = some k → o k = j) (hij : i ≠ j) : d.V e w1 base (fun k => upo o w.heap.size j k = i) v xs :=
 Kd.V_grown (rowv_at h j) hg fun k hk he => by
  by_cases hl : k < w.heap.size
  ·exact hij ((((upo_old hl).symm.trans hk).symm).trans (hrow k he.symm))
  ·exact hij (((upo_new (Nat.not_lt.1 hl)).symm.trans hk).symm)
theorem rowv_below (h : d.V e w base (fun k => o k = i) v xs) (hb : Below w.heap.size w w1) (j : Nat) : d.V e w1 base (fun k => upo o w.heap.size j k = i) v xs := Kd.V_below (rowv_at h j) hb
theorem rowx_at (h : d.S e w base (fun k => o k = i) v xs) (j : Nat) : d.S e w base (fun k => upo o w.heap.size j k = i) v xs :=
 Kd.S_mono (Kd.S_bound h) fun k hk => (upo_old hk.2.2.1).trans hk.1
theorem rowx_other (h : d.S e w base (fun k => o k = i) v xs) {row : Option Nat} (hg : w.grownBy w1 row) {j : Nat} (hrow : ∀ k, row = some k → o k = j) (hij : i ≠ j) : d.S e w1 base (fun k => upo o w.heap.size j k = i) v xs :=
 Kd.S_mono (Kd.S_grown (Kd.S_bound h) hg fun k hk he => hij (hk.1.symm.trans (hrow k he.symm))) fun k hk => (upo_old hk.2.2.1).trans hk.1
theorem rowx_below (h : d.S e w base (fun k => o k = i) v xs) (hb : Below w.heap.size w w1) (j : Nat) : d.S e w1 base (fun k => upo o w.heap.size j k = i) v xs := Kd.S_below (rowx_at h j) hb
theorem rowg_mine (h : d.R e w base (fun k => o k = i) v xs) : ∀ k, v.ownBlock = some k → o k = i := h.1
end
theorem MPS.row {α : Type} {d : Kd α} {e base b n : Nat} {ok : Nat → Prop} {w w1 : World} {v : Value} {xs : List α} {f : List UInt8 → Option Int} (h : MPS w b n f) (hr : Kd.R d e w base ok v xs) (hg : w.grownBy w1 v.ownBlock) : MPS w1 b n f :=
 h.kept hg fun he => by
  obtain ⟨_, _, _, q, _, cells, hc⟩ := (Kd.R_bound hr).1 b he.symm
  exact h.nc _ _ _ hc
structure RG (w : World) (B gb gr gt bm n : Nat) (cs cg : Array Value) (f : List UInt8 → Option Int) (o : Nat → Nat) (vt : Value) (lt : List (ByteArray)) (vfa : Value) (lfa : List (Int)) (vwd : Value) (lwd : List (ByteArray)) (vnx : Value) (lnx : List (List Int)) (vx : Value) (lx : List (Int)) (vb3 : Value) (lb3 : List (ByteArray)) (vb13 : Value) (lb13 : List (Int)) (vb23 : Value) (lb23 : List (Int)) (vb26 : Value) (lb26 : List (ByteArray)) (vg : Value) (lg : List (Int)) (vd : Value) (ld : List (Int)) : Prop where
 blk : w.heap[gr]? = some (.cells cs 51 (0, 0))
 gbk : cg ≠ #[] → w.heap[gt]? = some (.cells cg 75 (0, 0))
 map : MPS w bm n f
 t : Kd.R Kd.string 9 w B (fun k => o k = 1) vt lt
 fa : Kd.R (Kd.int .i64) 3 w B (fun k => o k = 2) vfa lfa
 wd : Kd.R Kd.string 9 w B (fun k => o k = 3) vwd lwd
 nx : Kd.S (Kd.slice 3 (Kd.int .i64)) 22 w B (fun k => o k = 4) vnx lnx
 x : Kd.R (Kd.int .i64) 3 w B (fun k => o k = 5) vx lx
 b3 : Kd.R Kd.string 9 w B (fun k => o k = 6) vb3 lb3
 b13 : Kd.R (Kd.int .i64) 3 w B (fun k => o k = 7) vb13 lb13
 b23 : Kd.R (Kd.int .u8) 5 w B (fun k => o k = 8) vb23 lb23
 b26 : Kd.R Kd.string 9 w B (fun k => o k = 9) vb26 lb26
 g : Kd.V (Kd.int .u8) 5 w B (fun k => o k = 10) vg lg
 d : Kd.V (Kd.int .u8) 5 w B (fun k => o k = 11) vd ld
 rbk : w.heap[gb]? = some (.cells #[.slice none 0 0, .slice none 0 0, .slice none 0 0, .slice none 0 0] 51 (0, 0))
 own : o gr = 0 ∧ o bm = 0
 nes : gb ≠ gr ∧ bm ≠ gr ∧ B ≤ gr ∧ B ≤ gb ∧ B ≤ bm
section
variable {w w1 : World} {B gb gr gt bm n : Nat} {cs cg : Array Value} {f : List UInt8 → Option Int} {o : Nat → Nat} {vt : Value} {lt : List (ByteArray)} {vfa : Value} {lfa : List (Int)} {vwd : Value} {lwd : List (ByteArray)} {vnx : Value} {lnx : List (List Int)} {vx : Value} {lx : List (Int)} {vb3 : Value} {lb3 : List (ByteArray)} {vb13 : Value} {lb13 : List (Int)} {vb23 : Value} {lb23 : List (Int)} {vb26 : Value} {lb26 : List (ByteArray)} {vg : Value} {lg : List (Int)} {vd : Value} {ld : List (Int)}
theorem RG.below (h : RG w B gb gr gt bm n cs cg f o vt lt vfa lfa vwd lwd vnx lnx vx lx vb3 lb3 vb13 lb13 vb23 lb23 vb26 lb26 vg lg vd ld) (hb : Below w.heap.size w w1) (j : Nat) : RG w1 B gb gr gt bm n cs cg f (upo o w.heap.size j) vt lt vfa lfa vwd lwd vnx lnx vx lx vb3 lb3 vb13 lb13 vb23 lb23 vb26 lb26 vg lg vd ld :=
 ⟨(hb.block gr (blk_lt h.blk)).trans h.blk, fun hz => (hb.block gt (blk_lt (h.gbk hz))).trans (h.gbk hz), h.map.below hb, rowg_below h.t hb j, rowg_below h.fa hb j, rowg_below h.wd hb j, rowx_below h.nx hb j, rowg_below h.x hb j, rowg_below h.b3 hb j, rowg_below h.b13 hb j, rowg_below h.b23 hb j, rowg_below h.b26 hb j, rowv_below h.g hb j, rowv_below h.d hb j, (hb.block gb (blk_lt h.rbk)).trans h.rbk, ⟨(upo_old (blk_lt h.blk)).trans h.own.1, (upo_old h.map.lt).trans h.own.2⟩, h.nes⟩
theorem RG.turn_t (h : RG w B gb gr gt bm n cs cg f o vt lt vfa lfa vwd lwd vnx lnx vx lx vb3 lb3 vb13 lb13 vb23 lb23 vb26 lb26 vg lg vd ld) {v1 : Value} {l1 : List (ByteArray)} (hg : w.grownBy w1 vt.ownBlock) (hr : Kd.R Kd.string 9 w1 B (fun k => upo o w.heap.size 1 k = 1) v1 l1) : RG w1 B gb gr gt bm n cs cg f (upo o w.heap.size 1) v1 l1 vfa lfa vwd lwd vnx lnx vx lx vb3 lb3 vb13 lb13 vb23 lb23 vb26 lb26 vg lg vd ld :=
 ⟨blk_grown h.blk hg (Kd.R_ne h.t h.blk (by decide)), fun hz => blk_grown (h.gbk hz) hg (Kd.R_ne h.t (h.gbk hz) (by decide)), h.map.row h.t hg, hr, rowg_other h.fa hg (rowg_mine h.t) (by decide), rowg_other h.wd hg (rowg_mine h.t) (by decide), rowx_other h.nx hg (rowg_mine h.t) (by decide), rowg_other h.x hg (rowg_mine h.t) (by decide), rowg_other h.b3 hg (rowg_mine h.t) (by decide), rowg_other h.b13 hg (rowg_mine h.t) (by decide), rowg_other h.b23 hg (rowg_mine h.t) (by decide), rowg_other h.b26 hg (rowg_mine h.t) (by decide), rowv_other h.g hg (rowg_mine h.t) (by decide), rowv_other h.d hg (rowg_mine h.t) (by decide), blk_grown h.rbk hg (Kd.R_ne h.t h.rbk (by decide)), ⟨(upo_old (blk_lt h.blk)).trans h.own.1, (upo_old h.map.lt).trans h.own.2⟩, h.nes⟩
theorem RG.turn_fa (h : RG w B gb gr gt bm n cs cg f o vt lt vfa lfa vwd lwd vnx lnx vx lx vb3 lb3 vb13 lb13 vb23 lb23 vb26 lb26 vg lg vd ld) {v1 : Value} {l1 : List (Int)} (hg : w.grownBy w1 vfa.ownBlock) (hr : Kd.R (Kd.int .i64) 3 w1 B (fun k => upo o w.heap.size 2 k = 2) v1 l1) : RG w1 B gb gr gt bm n cs cg f (upo o w.heap.size 2) vt lt v1 l1 vwd lwd vnx lnx vx lx vb3 lb3 vb13 lb13 vb23 lb23 vb26 lb26 vg lg vd ld :=
 ⟨blk_grown h.blk hg (Kd.R_ne h.fa h.blk (by decide)), fun hz => blk_grown (h.gbk hz) hg (Kd.R_ne h.fa (h.gbk hz) (by decide)), h.map.row h.fa hg, rowg_other h.t hg (rowg_mine h.fa) (by decide), hr, rowg_other h.wd hg (rowg_mine h.fa) (by decide), rowx_other h.nx hg (rowg_mine h.fa) (by decide), rowg_other h.x hg (rowg_mine h.fa) (by decide), rowg_other h.b3 hg (rowg_mine h.fa) (by decide), rowg_other h.b13 hg (rowg_mine h.fa) (by decide), rowg_other h.b23 hg (rowg_mine h.fa) (by decide), rowg_other h.b26 hg (rowg_mine h.fa) (by decide), rowv_other h.g hg (rowg_mine h.fa) (by decide), rowv_other h.d hg (rowg_mine h.fa) (by decide), blk_grown h.rbk hg (Kd.R_ne h.fa h.rbk (by decide)), ⟨(upo_old (blk_lt h.blk)).trans h.own.1, (upo_old h.map.lt).trans h.own.2⟩, h.nes⟩
theorem RG.turn_wd (h : RG w B gb gr gt bm n cs cg f o vt lt vfa lfa vwd lwd vnx lnx vx lx vb3 lb3 vb13 lb13 vb23 lb23 vb26 lb26 vg lg vd ld) {v1 : Value} {l1 : List (ByteArray)} (hg : w.grownBy w1 vwd.ownBlock) (hr : Kd.R Kd.string 9 w1 B (fun k => upo o w.heap.size 3 k = 3) v1 l1) : RG w1 B gb gr gt bm n cs cg f (upo o w.heap.size 3) vt lt vfa lfa v1 l1 vnx lnx vx lx vb3 lb3 vb13 lb13 vb23 lb23 vb26 lb26 vg lg vd ld :=
 ⟨blk_grown h.blk hg (Kd.R_ne h.wd h.blk (by decide)), fun hz => blk_grown (h.gbk hz) hg (Kd.R_ne h.wd (h.gbk hz) (by decide)), h.map.row h.wd hg, rowg_other h.t hg (rowg_mine h.wd) (by decide), rowg_other h.fa hg (rowg_mine h.wd) (by decide), hr, rowx_other h.nx hg (rowg_mine h.wd) (by decide), rowg_other h.x hg (rowg_mine h.wd) (by decide), rowg_other h.b3 hg (rowg_mine h.wd) (by decide), rowg_other h.b13 hg (rowg_mine h.wd) (by decide), rowg_other h.b23 hg (rowg_mine h.wd) (by decide), rowg_other h.b26 hg (rowg_mine h.wd) (by decide), rowv_other h.g hg (rowg_mine h.wd) (by decide), rowv_other h.d hg (rowg_mine h.wd) (by decide), blk_grown h.rbk hg (Kd.R_ne h.wd h.rbk (by decide)), ⟨(upo_old (blk_lt h.blk)).trans h.own.1, (upo_old h.map.lt).trans h.own.2⟩, h.nes⟩
theorem RG.turn_nx (h : RG w B gb gr gt bm n cs cg f o vt lt vfa lfa vwd lwd vnx lnx vx lx vb3 lb3 vb13 lb13 vb23 lb23 vb26 lb26 vg lg vd ld) {v1 : Value} {l1 : List (List Int)} (hg : w.grownBy w1 vnx.ownBlock) (hr : Kd.S (Kd.slice 3 (Kd.int .i64)) 22 w1 B (fun k => upo o w.heap.size 4 k = 4) v1 l1) : RG w1 B gb gr gt bm n cs cg f (upo o w.heap.size 4) vt lt vfa lfa vwd lwd v1 l1 vx lx vb3 lb3 vb13 lb13 vb23 lb23 vb26 lb26 vg lg vd ld :=
 ⟨blk_grown h.blk hg (Kd.R_ne (Kd.S_R h.nx) h.blk (by decide)), fun hz => blk_grown (h.gbk hz) hg (Kd.R_ne (Kd.S_R h.nx) (h.gbk hz) (by decide)), h.map.row (Kd.S_R h.nx) hg, rowg_other h.t hg (rowg_mine (Kd.S_R h.nx)) (by decide), rowg_other h.fa hg (rowg_mine (Kd.S_R h.nx)) (by decide), rowg_other h.wd hg (rowg_mine (Kd.S_R h.nx)) (by decide), hr, rowg_other h.x hg (rowg_mine (Kd.S_R h.nx)) (by decide), rowg_other h.b3 hg (rowg_mine (Kd.S_R h.nx)) (by decide), rowg_other h.b13 hg (rowg_mine (Kd.S_R h.nx)) (by decide), rowg_other h.b23 hg (rowg_mine (Kd.S_R h.nx)) (by decide), rowg_other h.b26 hg (rowg_mine (Kd.S_R h.nx)) (by decide), rowv_other h.g hg (rowg_mine (Kd.S_R h.nx)) (by decide), rowv_other h.d hg (rowg_mine (Kd.S_R h.nx)) (by decide), blk_grown h.rbk hg (Kd.R_ne (Kd.S_R h.nx) h.rbk (by decide)), ⟨(upo_old (blk_lt h.blk)).trans h.own.1, (upo_old h.map.lt).trans h.own.2⟩, h.nes⟩
theorem RG.turn_x (h : RG w B gb gr gt bm n cs cg f o vt lt vfa lfa vwd lwd vnx lnx vx lx vb3 lb3 vb13 lb13 vb23 lb23 vb26 lb26 vg lg vd ld) {v1 : Value} {l1 : List (Int)} (hg : w.grownBy w1 vx.ownBlock) (hr : Kd.R (Kd.int .i64) 3 w1 B (fun k => upo o w.heap.size 5 k = 5) v1 l1) : RG w1 B gb gr gt bm n cs cg f (upo o w.heap.size 5) vt lt vfa lfa vwd lwd vnx lnx v1 l1 vb3 lb3 vb13 lb13 vb23 lb23 vb26 lb26 vg lg vd ld :=
 ⟨blk_grown h.blk hg (Kd.R_ne h.x h.blk (by decide)), fun hz => blk_grown (h.gbk hz) hg (Kd.R_ne h.x (h.gbk hz) (by decide)), h.map.row h.x hg, rowg_other h.t hg (rowg_mine h.x) (by decide), rowg_other h.fa hg (rowg_mine h.x) (by decide), rowg_other h.wd hg (rowg_mine h.x) (by decide), rowx_other h.nx hg (rowg_mine h.x) (by decide), hr, rowg_other h.b3 hg (rowg_mine h.x) (by decide), rowg_other h.b13 hg (rowg_mine h.x) (by decide), rowg_other h.b23 hg (rowg_mine h.x) (by decide), rowg_other h.b26 hg (rowg_mine h.x) (by decide), rowv_other h.g hg (rowg_mine h.x) (by decide), rowv_other h.d hg (rowg_mine h.x) (by decide), blk_grown h.rbk hg (Kd.R_ne h.x h.rbk (by decide)), ⟨(upo_old (blk_lt h.blk)).trans h.own.1, (upo_old h.map.lt).trans h.own.2⟩, h.nes⟩
theorem RG.made_x (h : RG w B gb gr gt bm n cs cg f o vt lt vfa lfa vwd lwd vnx lnx vx lx vb3 lb3 vb13 lb13 vb23 lb23 vb26 lb26 vg lg vd ld) {v1 : Value} {l1 : List (Int)} (hg : w.grownBy w1 none) (hr : Kd.R (Kd.int .i64) 3 w1 B (fun k => upo o w.heap.size 5 k = 5) v1 l1) : RG w1 B gb gr gt bm n cs cg f (upo o w.heap.size 5) vt lt vfa lfa vwd lwd vnx lnx v1 l1 vb3 lb3 vb13 lb13 vb23 lb23 vb26 lb26 vg lg vd ld :=
 ⟨blk_grown h.blk hg (by simp), fun hz => blk_grown (h.gbk hz) hg (by simp), h.map.kept hg (by simp), rowg_other h.t hg (fun _ hk => by cases hk) (by decide : (1 : Nat) ≠ 5), rowg_other h.fa hg (fun _ hk => by cases hk) (by decide : (2 : Nat) ≠ 5), rowg_other h.wd hg (fun _ hk => by cases hk) (by decide : (3 : Nat) ≠ 5), rowx_other h.nx hg (fun _ hk => by cases hk) (by decide : (4 : Nat) ≠ 5), hr, rowg_other h.b3 hg (fun _ hk => by cases hk) (by decide : (6 : Nat) ≠ 5), rowg_other h.b13 hg (fun _ hk => by cases hk) (by decide : (7 : Nat) ≠ 5), rowg_other h.b23 hg (fun _ hk => by cases hk) (by decide : (8 : Nat) ≠ 5), rowg_other h.b26 hg (fun _ hk => by cases hk) (by decide : (9 : Nat) ≠ 5), rowv_other h.g hg (fun _ hk => by cases hk) (by decide : (10 : Nat) ≠ 5), rowv_other h.d hg (fun _ hk => by cases hk) (by decide : (11 : Nat) ≠ 5), blk_grown h.rbk hg (by simp), ⟨(upo_old (blk_lt h.blk)).trans h.own.1, (upo_old h.map.lt).trans h.own.2⟩, h.nes⟩
theorem RG.made_b3 (h : RG w B gb gr gt bm n cs cg f o vt lt vfa lfa vwd lwd vnx lnx vx lx vb3 lb3 vb13 lb13 vb23 lb23 vb26 lb26 vg lg vd ld) {v1 : Value} {l1 : List (ByteArray)} (hg : w.grownBy w1 none) (hr : Kd.R Kd.string 9 w1 B (fun k => upo o w.heap.size 6 k = 6) v1 l1) : RG w1 B gb gr gt bm n cs cg f (upo o w.heap.size 6) vt lt vfa lfa vwd lwd vnx lnx vx lx v1 l1 vb13 lb13 vb23 lb23 vb26 lb26 vg lg vd ld :=
 ⟨blk_grown h.blk hg (by simp), fun hz => blk_grown (h.gbk hz) hg (by simp), h.map.kept hg (by simp), rowg_other h.t hg (fun _ hk => by cases hk) (by decide : (1 : Nat) ≠ 6), rowg_other h.fa hg (fun _ hk => by cases hk) (by decide : (2 : Nat) ≠ 6), rowg_other h.wd hg (fun _ hk => by cases hk) (by decide : (3 : Nat) ≠ 6), rowx_other h.nx hg (fun _ hk => by cases hk) (by decide : (4 : Nat) ≠ 6), rowg_other h.x hg (fun _ hk => by cases hk) (by decide : (5 : Nat) ≠ 6), hr, rowg_other h.b13 hg (fun _ hk => by cases hk) (by decide : (7 : Nat) ≠ 6), rowg_other h.b23 hg (fun _ hk => by cases hk) (by decide : (8 : Nat) ≠ 6), rowg_other h.b26 hg (fun _ hk => by cases hk) (by decide : (9 : Nat) ≠ 6), rowv_other h.g hg (fun _ hk => by cases hk) (by decide : (10 : Nat) ≠ 6), rowv_other h.d hg (fun _ hk => by cases hk) (by decide : (11 : Nat) ≠ 6), blk_grown h.rbk hg (by simp), ⟨(upo_old (blk_lt h.blk)).trans h.own.1, (upo_old h.map.lt).trans h.own.2⟩, h.nes⟩
theorem RG.made_b13 (h : RG w B gb gr gt bm n cs cg f o vt lt vfa lfa vwd lwd vnx lnx vx lx vb3 lb3 vb13 lb13 vb23 lb23 vb26 lb26 vg lg vd ld) {v1 : Value} {l1 : List (Int)} (hg : w.grownBy w1 none) (hr : Kd.R (Kd.int .i64) 3 w1 B (fun k => upo o w.heap.size 7 k = 7) v1 l1) : RG w1 B gb gr gt bm n cs cg f (upo o w.heap.size 7) vt lt vfa lfa vwd lwd vnx lnx vx lx vb3 lb3 v1 l1 vb23 lb23 vb26 lb26 vg lg vd ld :=
 ⟨blk_grown h.blk hg (by simp), fun hz => blk_grown (h.gbk hz) hg (by simp), h.map.kept hg (by simp), rowg_other h.t hg (fun _ hk => by cases hk) (by decide : (1 : Nat) ≠ 7), rowg_other h.fa hg (fun _ hk => by cases hk) (by decide : (2 : Nat) ≠ 7), rowg_other h.wd hg (fun _ hk => by cases hk) (by decide : (3 : Nat) ≠ 7), rowx_other h.nx hg (fun _ hk => by cases hk) (by decide : (4 : Nat) ≠ 7), rowg_other h.x hg (fun _ hk => by cases hk) (by decide : (5 : Nat) ≠ 7), rowg_other h.b3 hg (fun _ hk => by cases hk) (by decide : (6 : Nat) ≠ 7), hr, rowg_other h.b23 hg (fun _ hk => by cases hk) (by decide : (8 : Nat) ≠ 7), rowg_other h.b26 hg (fun _ hk => by cases hk) (by decide : (9 : Nat) ≠ 7), rowv_other h.g hg (fun _ hk => by cases hk) (by decide : (10 : Nat) ≠ 7), rowv_other h.d hg (fun _ hk => by cases hk) (by decide : (11 : Nat) ≠ 7), blk_grown h.rbk hg (by simp), ⟨(upo_old (blk_lt h.blk)).trans h.own.1, (upo_old h.map.lt).trans h.own.2⟩, h.nes⟩
theorem RG.made_b23 (h : RG w B gb gr gt bm n cs cg f o vt lt vfa lfa vwd lwd vnx lnx vx lx vb3 lb3 vb13 lb13 vb23 lb23 vb26 lb26 vg lg vd ld) {v1 : Value} {l1 : List (Int)} (hg : w.grownBy w1 none) (hr : Kd.R (Kd.int .u8) 5 w1 B (fun k => upo o w.heap.size 8 k = 8) v1 l1) : RG w1 B gb gr gt bm n cs cg f (upo o w.heap.size 8) vt lt vfa lfa vwd lwd vnx lnx vx lx vb3 lb3 vb13 lb13 v1 l1 vb26 lb26 vg lg vd ld :=
 ⟨blk_grown h.blk hg (by simp), fun hz => blk_grown (h.gbk hz) hg (by simp), h.map.kept hg (by simp), rowg_other h.t hg (fun _ hk => by cases hk) (by decide : (1 : Nat) ≠ 8), rowg_other h.fa hg (fun _ hk => by cases hk) (by decide : (2 : Nat) ≠ 8), rowg_other h.wd hg (fun _ hk => by cases hk) (by decide : (3 : Nat) ≠ 8), rowx_other h.nx hg (fun _ hk => by cases hk) (by decide : (4 : Nat) ≠ 8), rowg_other h.x hg (fun _ hk => by cases hk) (by decide : (5 : Nat) ≠ 8), rowg_other h.b3 hg (fun _ hk => by cases hk) (by decide : (6 : Nat) ≠ 8), rowg_other h.b13 hg (fun _ hk => by cases hk) (by decide : (7 : Nat) ≠ 8), hr, rowg_other h.b26 hg (fun _ hk => by cases hk) (by decide : (9 : Nat) ≠ 8), rowv_other h.g hg (fun _ hk => by cases hk) (by decide : (10 : Nat) ≠ 8), rowv_other h.d hg (fun _ hk => by cases hk) (by decide : (11 : Nat) ≠ 8), blk_grown h.rbk hg (by simp), ⟨(upo_old (blk_lt h.blk)).trans h.own.1, (upo_old h.map.lt).trans h.own.2⟩, h.nes⟩
theorem RG.made_b26 (h : RG w B gb gr gt bm n cs cg f o vt lt vfa lfa vwd lwd vnx lnx vx lx vb3 lb3 vb13 lb13 vb23 lb23 vb26 lb26 vg lg vd ld) {v1 : Value} {l1 : List (ByteArray)} (hg : w.grownBy w1 none) (hr : Kd.R Kd.string 9 w1 B (fun k => upo o w.heap.size 9 k = 9) v1 l1) : RG w1 B gb gr gt bm n cs cg f (upo o w.heap.size 9) vt lt vfa lfa vwd lwd vnx lnx vx lx vb3 lb3 vb13 lb13 vb23 lb23 v1 l1 vg lg vd ld :=
 ⟨blk_grown h.blk hg (by simp), fun hz => blk_grown (h.gbk hz) hg (by simp), h.map.kept hg (by simp), rowg_other h.t hg (fun _ hk => by cases hk) (by decide : (1 : Nat) ≠ 9), rowg_other h.fa hg (fun _ hk => by cases hk) (by decide : (2 : Nat) ≠ 9), rowg_other h.wd hg (fun _ hk => by cases hk) (by decide : (3 : Nat) ≠ 9), rowx_other h.nx hg (fun _ hk => by cases hk) (by decide : (4 : Nat) ≠ 9), rowg_other h.x hg (fun _ hk => by cases hk) (by decide : (5 : Nat) ≠ 9), rowg_other h.b3 hg (fun _ hk => by cases hk) (by decide : (6 : Nat) ≠ 9), rowg_other h.b13 hg (fun _ hk => by cases hk) (by decide : (7 : Nat) ≠ 9), rowg_other h.b23 hg (fun _ hk => by cases hk) (by decide : (8 : Nat) ≠ 9), hr, rowv_other h.g hg (fun _ hk => by cases hk) (by decide : (10 : Nat) ≠ 9), rowv_other h.d hg (fun _ hk => by cases hk) (by decide : (11 : Nat) ≠ 9), blk_grown h.rbk hg (by simp), ⟨(upo_old (blk_lt h.blk)).trans h.own.1, (upo_old h.map.lt).trans h.own.2⟩, h.nes⟩
theorem RG.seen_g (h : RG w B gb gr gt bm n cs cg f o vt lt vfa lfa vwd lwd vnx lnx vx lx vb3 lb3 vb13 lb13 vb23 lb23 vb26 lb26 vg lg vd ld) {v1 : Value} {l1 : List (Int)} (hb : Below w.heap.size w w1) (hr : Kd.V (Kd.int .u8) 5 w1 B (fun k => upo o w.heap.size 10 k = 10) v1 l1) : RG w1 B gb gr gt bm n cs cg f (upo o w.heap.size 10) vt lt vfa lfa vwd lwd vnx lnx vx lx vb3 lb3 vb13 lb13 vb23 lb23 vb26 lb26 v1 l1 vd ld :=
 { RG.below h hb 10 with g := hr }
theorem RG.seen_d (h : RG w B gb gr gt bm n cs cg f o vt lt vfa lfa vwd lwd vnx lnx vx lx vb3 lb3 vb13 lb13 vb23 lb23 vb26 lb26 vg lg vd ld) {v1 : Value} {l1 : List (Int)} (hb : Below w.heap.size w w1) (hr : Kd.V (Kd.int .u8) 5 w1 B (fun k => upo o w.heap.size 11 k = 11) v1 l1) : RG w1 B gb gr gt bm n cs cg f (upo o w.heap.size 11) vt lt vfa lfa vwd lwd vnx lnx vx lx vb3 lb3 vb13 lb13 vb23 lb23 vb26 lb26 vg lg v1 l1 :=
 { RG.below h hb 11 with d := hr }
theorem RG.cell (h : RG w B gb gr gt bm n cs cg f o vt lt vfa lfa vwd lwd vnx lnx vx lx vb3 lb3 vb13 lb13 vb23 lb23 vb26 lb26 vg lg vd ld) {cs' : Array Value} (j : Nat) (u : Value) (he : cs.setIfInBounds j u = cs') : RG (w.setCell ⟨gr, j, none⟩ u) B gb gr gt bm n cs' cg f o vt lt vfa lfa vwd lwd vnx lnx vx lx vb3 lb3 vb13 lb13 vb23 lb23 vb26 lb26 vg lg vd ld :=
 ⟨blk_put h.blk j u he, fun hz => blk_far (h.gbk hz) (p := ⟨gr, j, none⟩) (blk_ne (h.gbk hz) h.blk (by decide)) u, h.map.set h.nes.2.1 j u, Kd.R_set h.t h.blk (by decide) j u, Kd.R_set h.fa h.blk (by decide) j u, Kd.R_set h.wd h.blk (by decide) j u, Kd.S_set h.nx h.blk (by decide) j u, Kd.R_set h.x h.blk (by decide) j u, Kd.R_set h.b3 h.blk (by decide) j u, Kd.R_set h.b13 h.blk (by decide) j u, Kd.R_set h.b23 h.blk (by decide) j u, Kd.R_set h.b26 h.blk (by decide) j u, Kd.V_far (p := ⟨gr, j, none⟩) h.g (fun k_ hk e => by have h1 := h.own.1; rw [← show k_ = gr from e, hk] at h1; cases h1) u, Kd.V_far (p := ⟨gr, j, none⟩) h.d (fun k_ hk e => by have h1 := h.own.1; rw [← show k_ = gr from e, hk] at h1; cases h1) u, blk_far h.rbk (p := ⟨gr, j, none⟩) h.nes.1 u, h.own, h.nes⟩
theorem RG.tcell (h : RG w B gb gr gt bm n cs cg f o vt lt vfa lfa vwd lwd vnx lnx vx lx vb3 lb3 vb13 lb13 vb23 lb23 vb26 lb26 vg lg vd ld) {cg' : Array Value} (hz : cg ≠ #[]) (hot : o gt = 0) (j : Nat) (u : Value) (he : cg.setIfInBounds j u = cg') : RG (w.setCell ⟨gt, j, none⟩ u) B gb gr gt bm n cs cg' f o vt lt vfa lfa vwd lwd vnx lnx vx lx vb3 lb3 vb13 lb13 vb23 lb23 vb26 lb26 vg lg vd ld :=
 ⟨blk_far h.blk (p := ⟨gt, j, none⟩) (blk_ne h.blk (h.gbk hz) (by decide)) u, fun _ => blk_put (h.gbk hz) j u he, h.map.set (blk_nc (h.gbk hz) h.map.nc) j u, Kd.R_set h.t (h.gbk hz) (by decide) j u, Kd.R_set h.fa (h.gbk hz) (by decide) j u, Kd.R_set h.wd (h.gbk hz) (by decide) j u, Kd.S_set h.nx (h.gbk hz) (by decide) j u, Kd.R_set h.x (h.gbk hz) (by decide) j u, Kd.R_set h.b3 (h.gbk hz) (by decide) j u, Kd.R_set h.b13 (h.gbk hz) (by decide) j u, Kd.R_set h.b23 (h.gbk hz) (by decide) j u, Kd.R_set h.b26 (h.gbk hz) (by decide) j u, Kd.V_far (p := ⟨gt, j, none⟩) h.g (fun k_ hk e => by have h1 := hot; rw [← show k_ = gt from e, hk] at h1; cases h1) u, Kd.V_far (p := ⟨gt, j, none⟩) h.d (fun k_ hk e => by have h1 := hot; rw [← show k_ = gt from e, hk] at h1; cases h1) u, blk_far h.rbk (p := ⟨gt, j, none⟩) (blk_ne h.rbk (h.gbk hz) (by decide)) u, h.own, h.nes⟩
theorem RG.mapped (h : RG w B gb gr gt bm n cs cg f o vt lt vfa lfa vwd lwd vnx lnx vx lx vb3 lb3 vb13 lb13 vb23 lb23 vb26 lb26 vg lg vd ld) {n' : Nat} {f' : List UInt8 → Option Int} (hg : w.grownBy w1 (some bm)) (hm : MPS w1 bm n' f') : RG w1 B gb gr gt bm n' cs cg f' o vt lt vfa lfa vwd lwd vnx lnx vx lx vb3 lb3 vb13 lb13 vb23 lb23 vb26 lb26 vg lg vd ld :=
 ⟨blk_turn h.blk hg h.map.nc, fun hz => blk_turn (h.gbk hz) hg h.map.nc, hm, R_turn h.t hg h.map.nc, R_turn h.fa hg h.map.nc, R_turn h.wd hg h.map.nc, S_turn h.nx hg h.map.nc, R_turn h.x hg h.map.nc, R_turn h.b3 hg h.map.nc, R_turn h.b13 hg h.map.nc, R_turn h.b23 hg h.map.nc, R_turn h.b26 hg h.map.nc, Kd.V_grown h.g hg (fun k_ hk e => by have h1 := h.own.2; cases e; rw [hk] at h1; cases h1), Kd.V_grown h.d hg (fun k_ hk e => by have h1 := h.own.2; cases e; rw [hk] at h1; cases h1), blk_turn h.rbk hg h.map.nc, h.own, h.nes⟩
theorem RG.tray (h : RG w B gb gr gt bm n cs cg f o vt lt vfa lfa vwd lwd vnx lnx vx lx vb3 lb3 vb13 lb13 vb23 lb23 vb26 lb26 vg lg vd ld) {gt' : Nat} {cg' : Array Value} (hx : w.heap[gt']? = some (.cells cg' 75 (0, 0))) : RG w B gb gr gt' bm n cs cg' f o vt lt vfa lfa vwd lwd vnx lnx vx lx vb3 lb3 vb13 lb13 vb23 lb23 vb26 lb26 vg lg vd ld :=
 { h with gbk := fun _ => hx }
theorem RG.give (h : RG w B gb gr gt bm n cs cg f o vt lt vfa lfa vwd lwd vnx lnx vx lx vb3 lb3 vb13 lb13 vb23 lb23 vb26 lb26 vg lg vd ld) : RG w B gb gr gt bm n cs cg f (fun k => if o k = 5 then 4 else o k) vt lt vfa lfa vwd lwd vnx lnx (.slice none 0 0) [] vb3 lb3 vb13 lb13 vb23 lb23 vb26 lb26 vg lg vd ld :=
 ⟨h.blk, h.gbk, h.map, Kd.R_mono h.t (fun k hk => by show (if o k = 5 then 4 else o k) = 1; rw [if_neg (by omega), hk]), Kd.R_mono h.fa (fun k hk => by show (if o k = 5 then 4 else o k) = 2; rw [if_neg (by omega), hk]), Kd.R_mono h.wd (fun k hk => by show (if o k = 5 then 4 else o k) = 3; rw [if_neg (by omega), hk]), Kd.S_mono h.nx (fun k hk => by show (if o k = 5 then 4 else o k) = 4; rw [if_neg (by omega), hk]), Kd.R_nil _ _ _ _ _, Kd.R_mono h.b3 (fun k hk => by show (if o k = 5 then 4 else o k) = 6; rw [if_neg (by omega), hk]), Kd.R_mono h.b13 (fun k hk => by show (if o k = 5 then 4 else o k) = 7; rw [if_neg (by omega), hk]), Kd.R_mono h.b23 (fun k hk => by show (if o k = 5 then 4 else o k) = 8; rw [if_neg (by omega), hk]), Kd.R_mono h.b26 (fun k hk => by show (if o k = 5 then 4 else o k) = 9; rw [if_neg (by omega), hk]), Kd.V_mono h.g (fun k hk => by show (if o k = 5 then 4 else o k) = 10; rw [if_neg (by omega), hk]), Kd.V_mono h.d (fun k hk => by show (if o k = 5 then 4 else o k) = 11; rw [if_neg (by omega), hk]), h.rbk, ⟨by show (if o gr = 5 then 4 else o gr) = 0; rw [h.own.1]; rfl, by show (if o bm = 5 then 4 else o bm) = 0; rw [h.own.2]; rfl⟩, h.nes⟩
theorem RG.bare (h : RG w B gb gr gt bm n cs cg f o vt lt vfa lfa vwd lwd vnx lnx vx lx vb3 lb3 vb13 lb13 vb23 lb23 vb26 lb26 vg lg vd ld) : RG w B gb gr gt bm n cs cg f o vt lt vfa lfa vwd lwd vnx lnx vx lx (.slice none 0 0) [] (.slice none 0 0) [] (.slice none 0 0) [] (.slice none 0 0) [] vg lg vd ld :=
 { h with b3 := Kd.R_nil _ _ _ _ _, b13 := Kd.R_nil _ _ _ _ _, b23 := Kd.R_nil _ _ _ _ _, b26 := Kd.R_nil _ _ _ _ _ }
theorem RG.rest (h : RG w B gb gr gt bm n cs cg f o vt lt vfa lfa vwd lwd vnx lnx vx lx vb3 lb3 vb13 lb13 vb23 lb23 vb26 lb26 vg lg vd ld) : RG w B gb gr gt bm n cs cg f o vt lt vfa lfa vwd lwd vnx lnx vx lx vb3 lb3 vb13 lb13 vb23 lb23 vb26 lb26 (.slice none 0 0) [] (.slice none 0 0) [] :=
 { h with g := Kd.V_nil _ _ _ _ _, d := Kd.V_nil _ _ _ _ _ }
end
end Go.Proofs.YtchkmhbngbgjnaaGreatDoor.Q
end
