/- Texts of this claim, joined. -/
import Derived.Test.YtcpeldgnabfdmaaDoorJStretchesOf03
import Derived.Test.YtcpeldgnabfdmaaDoorJStretchesOf02
import Derived.Test.YtcpeldgnabfdmaaDoorJStretchesOf01
import Derived.WalkKit
import Derived.Laws.AppendOwn
import Derived.Shelf.SlicesE.Clone
set_option linter.unusedVariables false
set_option linter.unusedSimpArgs false
set_option linter.unusedSectionVars false
section
namespace Go.Proofs.YtcpeldgnabfdmaaDoor.Q
open Go.RowKit Go.Shelf Go.Proofs.YtcpeldgnabfdmaaDoorW.PrintWords Go.Proofs.YtcpeldgnabfdmaaDoorW.PrintLast Go.Proofs.YtcpeldgnabfdmaaDoorW.PrintMore
set_option linter.unusedSectionVars false
theorem least_eq (a b : Int) : spec_l1Least.f a b = some (min a b) := by
 unfold spec_l1Least.f
 by_cases h : a < b
 ·rw [if_pos h, show min a b = a by omega]
 ·rw [if_neg h, show min a b = b by omega]
theorem first_l0 (L : List Int) : ∀ (l : List Int) (u : Nat) (a : Int), L.drop u = l → u ≤ L.length → u + l.length ≤ 1000 → Ev (fun k => spec_tiFirst.l0 k a L (L.length : Int) (u : Int)) (l.foldl min a)
 | [], u, a, hd, hu, _ => by
  have hL : u = L.length := by
   have := congrArg List.length hd
   simp at this
   omega
  subst hL
  refine Ev.step (Ev.const rfl) fun k => ?_
  simp only [spec_tiFirst.l0]
  rw [if_neg (by omega)]
  rfl
 | x :: l, u, a, hd, _, hq => by
  obtain ⟨h1, h2, h3⟩ := rd_drop hd
  simp only [List.length_cons] at hq
  refine Ev.step (first_l0 L l (u + 1) (min a x) h3 h1 (by omega)) fun k => ?_
  simp only [spec_tiFirst.l0]
  rw [if_pos (by omega), if_pos (by omega), if_pos (by omega), h2, least_eq, Option.bind_some, wr1 u (by omega)]
theorem first_ev (s : List Int) (h : s ≠ []) (hl : s.length ≤ 1000) : Ev (fun k => spec_tiFirst.f k s) (Lib.minOf s) := by
 have h1 := List.length_pos_iff.2 h
 cases s with
 | nil => exact absurd rfl h
 | cons x l =>
  refine Ev.congr (first_l0 (x :: l) (x :: l) 0 x rfl (Nat.zero_le _) (by omega)) fun k => ?_
  unfold spec_tiFirst.f
  rw [if_pos (by omega)]
  rfl
def insM (s : List Int) : List (List Int) → List (List Int)
 | [] => [s]
 | t :: L => if Lib.minOf t < Lib.minOf s then t :: insM s L else s :: t :: L
theorem insM_perm (s : List Int) : ∀ L, (insM s L).Perm (s :: L)
 | [] => List.Perm.refl _
 | t :: L => by
  unfold insM
  split
  ·exact ((insM_perm s L).cons t).trans (List.Perm.swap s t L)
  ·exact List.Perm.refl _
theorem insM_sorted (s : List Int) : ∀ L : List (List Int), L.Pairwise (fun a b => Lib.minOf a ≤ Lib.minOf b) → (insM s L).Pairwise (fun a b => Lib.minOf a ≤ Lib.minOf b)
 | [], _ => List.pairwise_singleton _ _
 | t :: L, h => by
  obtain ⟨h1, h2⟩ := List.pairwise_cons.1 h
  unfold insM
  split
  ·rename_i hlt
   refine List.pairwise_cons.2 ⟨fun x hx => ?_, insM_sorted s L h2⟩
   rcases List.mem_cons.1 ((insM_perm s L).subset hx) with rfl | hx
   ·omega
   ·exact h1 x hx
  ·rename_i hge
   refine List.pairwise_cons.2 ⟨fun x hx => ?_, h⟩
   rcases List.mem_cons.1 hx with rfl | hx
   ·omega
   ·have := h1 x hx
    omega
theorem sort_same : ∀ A B : List (List Int), A.Perm B → A.Pairwise (fun a b => Lib.minOf a < Lib.minOf b) → B.Pairwise (fun a b => Lib.minOf a < Lib.minOf b) → A = B
 | [], B, hp, _, _ => hp.nil_eq
 | a :: A, [], hp, _, _ => by have := hp.length_eq; simp at this
 | a :: A, b :: B, hp, ha, hb => by
  obtain ⟨a1, a2⟩ := List.pairwise_cons.1 ha
  obtain ⟨b1, b2⟩ := List.pairwise_cons.1 hb
  have hab : a = b := by
   rcases List.mem_cons.1 (hp.subset List.mem_cons_self) with h | h
   ·exact h
   ·rcases List.mem_cons.1 (hp.symm.subset List.mem_cons_self) with h2 | h2
    ·exact h2.symm
    ·have := b1 a h
     have := a1 b h2
     omega
  subst hab
  rw [sort_same A B ((List.perm_cons a).1 hp) a2 b2]
theorem strict_of {L : List (List Int)} (h : L.Pairwise fun a b => Lib.minOf a ≤ Lib.minOf b) (hn : (L.map Lib.minOf).Nodup) : L.Pairwise fun a b => Lib.minOf a < Lib.minOf b := by
 have h2 : L.Pairwise fun a b => Lib.minOf a ≠ Lib.minOf b := List.pairwise_map.1 hn
 exact (h.and h2).imp fun ⟨h3, h4⟩ => by omega
theorem rdL_app (A B : List (List Int)) (t : List Int) : rd_Lii (A ++ t :: B) (A.length : Int) = t := by
 unfold rd_Lii
 rw [Int.toNat_natCast, List.getD_eq_getElem?_getD, List.getElem?_append_right (Nat.le_refl _), Nat.sub_self]
 rfl
theorem ins_l2 (d : Int) (own : List Int) (ho : own ≠ []) (hol : own.length ≤ 1000) (c : List Int) (n i w h : Int) (cs : List Int) (r : List (List Int)) : ∀ (B A : List (List Int)), (∀ t ∈ B, t ≠ [] ∧ t.length ≤ 1000) → A.length + B.length ≤ 500 →
  Ev (fun k => spec_tiStretches.l0 k d (A ++ insM own B) c n (wrap64 (i + 1)) w h cs) r → Ev (fun k => spec_tiStretches.l2 k d (A ++ B) own (A.length : Int) c n i w h cs) r
 | [], A, _, hl, hE => by
  simp only [List.length_nil] at hl
  refine Ev.step hE fun k => ?_
  simp only [spec_tiStretches.l2, Option.bind_some, List.append_nil, List.nil_append, insM]
  rw [if_neg (by omega), if_pos (by omega), if_pos (by omega), Int.toNat_natCast, List.take_length, List.drop_length, if_pos (by simp; omega), if_pos (by omega), if_pos (by simp; omega), List.append_nil]
 | t :: B, A, hb, hl, hE => by
  simp only [List.length_cons] at hl
  obtain ⟨t1, t2⟩ := hb t List.mem_cons_self
  have hlen : (A.length : Int) < ((A ++ t :: B).length : Int) := by simp; omega
  unfold insM at hE
  obtain ⟨k1, e1⟩ := first_ev t t1 t2
  obtain ⟨k2, e2⟩ := first_ev own ho hol
  by_cases hlt : Lib.minOf t < Lib.minOf own
  ·rw [if_pos hlt] at hE
   have ih := ins_l2 d own ho hol c n i w h cs r B (A ++ [t]) (fun x hx => hb x (List.mem_cons_of_mem _ hx)) (by simp; omega) (by rw [List.append_assoc]; exact hE)
   rw [List.append_assoc, List.singleton_append, List.length_append, List.length_singleton, ← wr1 A.length (by omega)] at ih
   obtain ⟨k3, e3⟩ := ih
   refine ⟨k1 + k2 + k3 + 1, fun k hk => ?_⟩
   obtain ⟨k, rfl⟩ : ∃ k', k = k' + 1 := ⟨k - 1, by omega⟩
   simp only [spec_tiStretches.l2]
   rw [if_pos hlen, if_pos (by omega), rdL_app, show spec_tiFirst.f k t = some (Lib.minOf t) from e1 k (by omega), Option.bind_some, show spec_tiFirst.f k own = some (Lib.minOf own) from e2 k (by omega), Option.bind_some, if_pos hlt]
   exact e3 k (by omega)
  ·rw [if_neg hlt] at hE
   obtain ⟨k3, e3⟩ := hE
   refine ⟨k1 + k2 + k3 + 1, fun k hk => ?_⟩
   obtain ⟨k, rfl⟩ : ∃ k', k = k' + 1 := ⟨k - 1, by omega⟩
   simp only [spec_tiStretches.l2]
   rw [if_pos hlen, if_pos (by omega), rdL_app, show spec_tiFirst.f k t = some (Lib.minOf t) from e1 k (by omega), Option.bind_some, show spec_tiFirst.f k own = some (Lib.minOf own) from e2 k (by omega), Option.bind_some, if_neg hlt]
   simp only [Option.bind_some, List.nil_append, Int.toNat_natCast, List.take_left', List.drop_left', List.take_left, List.drop_left]
   rw [if_pos (by omega), if_pos (by simp; omega), if_pos (by omega), if_pos (by simp; omega), List.append_assoc, List.singleton_append]
   exact e3 k (by omega)
def lf (w h i d : Nat) : Nat := if d = 0 then i / w else if d = 1 then w - 1 - i % w else if d = 2 then h - 1 - i / w else i % w
theorem lf_all : ∀ (w h : Fin 8) (i : Fin 36) (d : Fin 4), i.val < w.val * h.val → lf w.val h.val i.val d.val ≤ 6 ∧ (0 ≤ an w.val h.val i.val d.val → lf w.val h.val (an w.val h.val i.val d.val).toNat d.val < lf w.val h.val i.val d.val) := by decide +kernel
theorem back_all : ∀ d : Fin 4, Int.tmod (wrap64 ((d.val : Int) + 2)) 4 = (((d.val + 2) % 4 : Nat) : Int) := by decide +kernel
theorem strW_len (w h : Nat) (cs : List Int) (e : Nat) : ∀ (m : Nat) (x : Int), (strW w h cs e m x).length ≤ m
 | 0, _ => Nat.le_refl _
 | m + 1, x => by
  unfold strW
  rw [List.length_cons]
  split
  ·simp
  ·have := strW_len w h cs e m (aN w h cs e x.toNat)
   omega
section
variable {w h : Nat} {cs : List Int} (hw : w ≤ 7) (hh : h ≤ 7) (hs : w * h ≤ 36) {d : Nat} (hd : d < 4) (hn : cs.length = w * h)
include hw hh hs hd hn
theorem own_l1 (c : List Int) (n i : Int) (out : List (List Int)) (r : List (List Int)) : ∀ (m : Nat) (x : Int) (own : List Int), 0 ≤ x → x < ((w * h : Nat) : Int) → lf w h x.toNat ((d + 2) % 4) < m → own.length + m ≤ 500 →
  Ev (fun k => spec_tiStretches.l2 k d out (own ++ strW w h cs ((d + 2) % 4) m x) 0 c n i w h cs) r → Ev (fun k => spec_tiStretches.l1 k d out own x c n i w h cs) r
 | 0, x, own, _, _, hl, _, _ => absurd hl (Nat.not_lt_zero _)
 | m + 1, x, own, x0, x1, hl, ho, hE => by
  have he : (d + 2) % 4 < 4 := Nat.mod_lt _ (by omega)
  have hxt : x.toNat < w * h := by omega
  have hA := aN_eq hw hh hs hxt he cs hn
  rw [Int.toNat_of_nonneg x0, ← back_all ⟨d, hd⟩] at hA
  obtain ⟨_, l2⟩ := lf_all ⟨w, by omega⟩ ⟨h, by omega⟩ ⟨x.toNat, by omega⟩ ⟨(d + 2) % 4, he⟩ hxt
  have hlt := aN_lt hw hh hs hxt he cs
  unfold strW at hE
  have h1 : Ev (fun k => spec_tiStretches.l1 k d out (own ++ [x]) (aN w h cs ((d + 2) % 4) x.toNat) c n i w h cs) r := by
   by_cases hz : aN w h cs ((d + 2) % 4) x.toNat < 0
   ·rw [if_pos hz] at hE
    refine Ev.step hE fun k => ?_
    simp only [spec_tiStretches.l1]
    rw [if_neg (by omega)]
   ·rw [if_neg hz] at hE
    have ha : aN w h cs ((d + 2) % 4) x.toNat = an w h x.toNat ((d + 2) % 4) := by
     unfold aN at hz ⊢
     split
     ·rename_i h5
      rw [if_pos h5] at hz
      omega
     ·rename_i h5
      rw [if_neg h5] at hz
      split
      ·rename_i h6
       rw [if_pos h6] at hz
       omega
      ·rfl
    simp only at l2
    have h6 := l2 (by omega)
    refine own_l1 c n i out r m _ (own ++ [x]) (by omega) hlt (by rw [ha]; omega) (by simp; omega) ?_
    rw [List.append_assoc]
    exact hE
  refine Ev.step h1 fun k => ?_
  simp only [spec_tiStretches.l1]
  rw [if_pos (by omega), if_pos (by omega), hA, Option.bind_some]
def sts (w h : Nat) (cs : List Int) (d : Nat) : Nat → Nat → List (List Int) → List (List Int)
 | 0, _, out => out
 | m + 1, j, out => if rd cs (j : Int) = 35 then sts w h cs d m (j + 1) out else if 0 ≤ aN w h cs d j then sts w h cs d m (j + 1) out else sts w h cs d m (j + 1) (insM (strW w h cs ((d + 2) % 4) 36 (j : Int)) out)
theorem sts_l0 : ∀ (m j : Nat) (out : List (List Int)), j + m = w * h → (∀ t ∈ out, t ≠ [] ∧ t.length ≤ 1000) → out.length + m ≤ 400 → Ev (fun k => spec_tiStretches.l0 k d out cs (cs.length : Int) (j : Int) w h cs) (sts w h cs d m j out)
 | 0, j, out, hj, _, _ => by
  refine Ev.step (Ev.const rfl) fun k => ?_
  simp only [spec_tiStretches.l0]
  rw [if_neg (by omega)]
  rfl
 | m + 1, j, out, hj, hb, hl => by
  have hjt : j < w * h := by omega
  have he : (d + 2) % 4 < 4 := Nat.mod_lt _ (by omega)
  have hA := aN_eq hw hh hs hjt hd cs hn
  have hB := aN_eq hw hh hs hjt he cs hn
  rw [← back_all ⟨d, hd⟩] at hB
  simp only at hB
  unfold sts
  by_cases h35 : rd cs (j : Int) = 35
  ·rw [if_pos h35]
   have ih := sts_l0 m (j + 1) out (by omega) hb (by omega)
   rw [← wr1 j (by omega)] at ih
   refine Ev.step (Ev.step (g := fun k => spec_tiStretches.j1 k d out j cs (cs.length : Int) j true w h cs) ih fun k => ?_) fun k => ?_
   ·simp only [spec_tiStretches.j1, if_true]
   ·simp only [spec_tiStretches.l0]
    rw [if_pos (by omega), if_pos (by omega), if_pos (by omega), if_pos h35]
  ·rw [if_neg h35]
   by_cases h0 : 0 ≤ aN w h cs d j
   ·rw [if_pos h0]
    have ih := sts_l0 m (j + 1) out (by omega) hb (by omega)
    rw [← wr1 j (by omega)] at ih
    refine Ev.step (Ev.step (g := fun k => spec_tiStretches.j1 k d out j cs (cs.length : Int) j true w h cs) ih fun k => ?_) fun k => ?_
    ·simp only [spec_tiStretches.j1, if_true]
    ·simp only [spec_tiStretches.l0]
     rw [if_pos (by omega), if_pos (by omega), if_pos (by omega), if_neg h35, hA, Option.bind_some, decide_eq_true (by omega)]
   ·rw [if_neg h0]
    have hne : strW w h cs ((d + 2) % 4) 36 (j : Int) ≠ [] := by
     unfold strW
     simp
    have hsl := strW_len w h cs ((d + 2) % 4) 36 (j : Int)
    have hip := (insM_perm (strW w h cs ((d + 2) % 4) 36 (j : Int)) out)
    have ih := sts_l0 m (j + 1) (insM (strW w h cs ((d + 2) % 4) 36 (j : Int)) out) (by omega) (fun t ht => by
     rcases List.mem_cons.1 (hip.subset ht) with rfl | ht
     ·exact ⟨hne, by omega⟩
     ·exact hb t ht) (by rw [hip.length_eq, List.length_cons]; omega)
    rw [← wr1 j (by omega)] at ih
    have h2 := ins_l2 d _ hne (by omega) cs (cs.length : Int) j w h cs _ out [] hb (by simp; omega) ih
    have h3 : ∀ R, Ev (fun k => spec_tiStretches.l2 k d out (strW w h cs ((d + 2) % 4) 36 (j : Int)) 0 cs (cs.length : Int) j w h cs) R → Ev (fun k => spec_tiStretches.l1 k d out [(j : Int)] (aN w h cs ((d + 2) % 4) j) cs (cs.length : Int) j w h cs) R := by
     intro R h2
     unfold strW at h2
     rw [Int.toNat_natCast] at h2
     by_cases hz : aN w h cs ((d + 2) % 4) j < 0
     ·rw [if_pos hz] at h2
      refine Ev.step h2 fun k => ?_
      simp only [spec_tiStretches.l1]
      rw [if_neg (by omega)]
     ·rw [if_neg hz] at h2
      obtain ⟨l1, l2⟩ := lf_all ⟨w, by omega⟩ ⟨h, by omega⟩ ⟨(aN w h cs ((d + 2) % 4) j).toNat, by have := aN_lt hw hh hs hjt he cs; omega⟩ ⟨(d + 2) % 4, he⟩ (by have := aN_lt hw hh hs hjt he cs; simp only; omega)
      exact own_l1 hw hh hs hd hn cs (cs.length : Int) j out _ 35 _ [(j : Int)] (by omega) (aN_lt hw hh hs hjt he cs) (by simp only at l1; omega) (by simp) h2
    refine Ev.step (Ev.step (g := fun k => spec_tiStretches.j1 k d out j cs (cs.length : Int) j false w h cs) (h3 _ h2) fun k => ?_) fun k => ?_
    ·simp only [spec_tiStretches.j1, Bool.false_eq_true, if_false]
     rw [hB, Option.bind_some]
    ·simp only [spec_tiStretches.l0]
     rw [if_pos (by omega), if_pos (by omega), if_pos (by omega), if_neg h35, hA, Option.bind_some, decide_eq_false (by omega)]
end
theorem sts_perm (w h : Nat) (cs : List Int) (d : Nat) : ∀ (m j : Nat) (out : List (List Int)), (sts w h cs d m j out).Perm (out ++ (((List.range' j m).filter fun i : Nat => decide (rd cs (i : Int) ≠ 35) && decide (aN w h cs d i < 0)).map fun i : Nat => strW w h cs ((d + 2) % 4) 36 (i : Int)))
 | 0, j, out => by simp [sts]
 | m + 1, j, out => by
  rw [List.range'_succ]
  unfold sts
  split
  ·rename_i h1
   rw [List.filter_cons_of_neg (by simp [h1])]
   exact sts_perm w h cs d m (j + 1) out
  ·rename_i h1
   split
   ·rename_i h2
    rw [List.filter_cons_of_neg (by simp; omega)]
    exact sts_perm w h cs d m (j + 1) out
   ·rename_i h2
    rw [List.filter_cons_of_pos (by simp [h1]; omega), List.map_cons]
    refine (sts_perm w h cs d m (j + 1) _).trans ?_
    refine ((insM_perm _ out).append_right _).trans ?_
    exact List.perm_middle.symm
theorem sts_sorted (w h : Nat) (cs : List Int) (d : Nat) : ∀ (m j : Nat) (out : List (List Int)), out.Pairwise (fun a b => Lib.minOf a ≤ Lib.minOf b) → (sts w h cs d m j out).Pairwise (fun a b => Lib.minOf a ≤ Lib.minOf b)
 | 0, _, _, hp => hp
 | m + 1, j, out, hp => by
  unfold sts
  split
  ·exact sts_sorted w h cs d m (j + 1) out hp
  ·split
   ·exact sts_sorted w h cs d m (j + 1) out hp
   ·exact sts_sorted w h cs d m (j + 1) _ (insM_sorted _ out hp)
section
variable {w h : Nat} {cs : List Int} (hw : w ≤ 7) (hh : h ≤ 7) (hs : w * h ≤ 36) {d : Nat} (hd : d < 4)
include hw hh hs hd
theorem str_sorted : (strL w h cs d).Pairwise fun a b => Lib.minOf a < Lib.minOf b := by
 have h1 : (strL w h cs d).Pairwise fun a b => leM a b = true := List.pairwise_mergeSort (fun a b c h1 h2 => by
  unfold leM at *
  simp only [decide_eq_true_eq] at *
  omega) (fun a b => by
  unfold leM
  simp only [Bool.or_eq_true, decide_eq_true_eq]
  omega) _
 refine strict_of (h1.imp fun h2 => by unfold leM at h2; simpa using h2) ?_
 have h3 := mins_nodup (cuts_nodup hw hh hs hd (cs := cs)) (cuts_ne hw hh hs hd)
 exact ((List.mergeSort_perm (cutsL w h cs d) leM).map Lib.minOf).nodup_iff.2 h3
theorem sts_eq : sts w h cs d (w * h) 0 [] = strL w h cs d := by
 have hp : (sts w h cs d (w * h) 0 []).Perm (cutsL w h cs d) := by
  refine (sts_perm w h cs d (w * h) 0 []).trans ?_
  refine List.Perm.trans ?_ (cuts_perm hw hh hs hd (cs := cs)).symm
  rw [List.nil_append]
  unfold startsL
  rw [List.map_map, List.range_eq_range']
  exact List.Perm.refl _
 refine sort_same _ _ (hp.trans (List.mergeSort_perm _ leM).symm) ?_ (str_sorted hw hh hs hd)
 refine strict_of (sts_sorted w h cs d _ _ [] List.Pairwise.nil) ?_
 exact (hp.map Lib.minOf).nodup_iff.2 (mins_nodup (cuts_nodup hw hh hs hd (cs := cs)) (cuts_ne hw hh hs hd))
theorem tiStretches_ev (hn : cs.length = w * h) : Ev (fun k => spec_tiStretches.f k w h cs d) (strL w h cs d) := by
 rw [← sts_eq hw hh hs hd]
 unfold spec_tiStretches.f
 exact sts_l0 hw hh hs hd hn (w * h) 0 [] (by omega) (fun _ ht => by cases ht) (by simp; omega)
end
end Go.Proofs.YtcpeldgnabfdmaaDoor.Q
end
section
namespace Go.Proofs.YtcpeldgnabfdmaaDoor.Q
open Go.RowKit Go.Shelf Go.Proofs.YtcpeldgnabfdmaaDoorW.PrintWords Go.Proofs.YtcpeldgnabfdmaaDoorW.PrintLast Go.Proofs.YtcpeldgnabfdmaaDoorW.PrintMore
set_option linter.unusedSectionVars false
section
variable {w h : Nat} {cs : List Int} (hw : w ≤ 7) (hh : h ≤ 7) (hs : w * h ≤ 36) {d : Nat} (hd : d < 4)
include hw hh hs hd
theorem str_flat : (strL w h cs d).flatten.Nodup := (List.mergeSort_perm (cutsL w h cs d) leM).flatten.nodup_iff.2 (cuts_nodup hw hh hs hd)
theorem str_in (hn : cs.length = w * h) : ∀ s ∈ strL w h cs d, s.length ≤ 1000 ∧ ∀ x ∈ s, 0 ≤ x ∧ x < (cs.length : Int) := fun s hm => by
 obtain ⟨h1, h2⟩ := cuts_in hw hh hs hd hn s ((List.mergeSort_perm (cutsL w h cs d) leM).subset hm)
 exact ⟨h1, fun x hx => by rw [hn]; exact h2 x hx⟩
theorem str_total (hn : cs.length = w * h) : (strL w h cs d).flatten.length ≤ w * h := nodup_len (w * h) _ (str_flat hw hh hs hd) fun x hx => by
 obtain ⟨s, h1, h2⟩ := List.mem_flatten.1 hx
 rw [← hn]
 exact (str_in hw hh hs hd hn s h1).2 x h2
omit hw hh hs hd in
omit hw hh hs hd in
end
end Go.Proofs.YtcpeldgnabfdmaaDoor.Q
end
section
namespace Go.Proofs.YtcpeldgnabfdmaaDoor.Q
open Go.RowKit Go.Proofs.YtcpeldgnabfdmaaDoorW.PrintWords Go.Proofs.YtcpeldgnabfdmaaDoorW.PrintLast Go.Proofs.YtcpeldgnabfdmaaDoorW.PrintMore
theorem dw_nil {α : Type} (p : α → Bool) : ∀ l : List α, l.dropWhile p = [] ↔ ∀ b ∈ l, p b = true
 | [] => by simp
 | b :: l => by
  rw [List.dropWhile_cons]
  by_cases h : p b = true
  ·rw [if_pos h, dw_nil p l]
   simp [h]
  ·rw [if_neg h]
   simp [h]
theorem dw_all {α : Type} (p : α → Bool) : ∀ l : List α, (∀ b ∈ l.dropWhile p, p b = true) → ∀ b ∈ l, p b = true
 | [], _ => by simp
 | b :: l, h => by
  rw [List.dropWhile_cons] at h
  by_cases hb : p b = true
  ·rw [if_pos hb] at h
   have ih := dw_all p l h
   simpa [hb] using ih
  ·rw [if_neg hb] at h
   exact h
theorem trimS_nil (l cs : List UInt8) : Lib.trimS l cs = [] ↔ ∀ b ∈ l, cs.contains b = true := by
 unfold Lib.trimS Lib.trimLeftS Lib.trimRightS
 rw [dw_nil]
 constructor
 ·intro h
  have h2 := dw_all (cs.contains ·) l.reverse (fun b hb => h b (by simpa using hb))
  exact fun b hb => h2 b (by simpa using hb)
 ·intro h b hb
  rw [List.mem_reverse] at hb
  exact h b (by simpa using (List.dropWhile_sublist _).subset hb)
theorem trim_tell (s cut : ByteArray) (hs : s.size ≤ 1048576) (hc : cut.size < 100) (ha : asciiB cut.data.toList = true) :
  ∃ t, strings_Trim.f s cut = some t ∧ (t.toList = [] ↔ ∀ b ∈ s.data.toList, cut.data.toList.contains b = true) := by
 refine ⟨_, if_pos ⟨by omega, by omega, ha⟩, ?_⟩
 rw [← trimS_nil]
 generalize Lib.trimS s.data.toList cut.data.toList = l
 have e : (⟨l.toArray⟩ : ByteArray).toList = l := ByteArray.toList_mk l
 rw [e]
theorem encode_name : ∀ n : Fin 6, Utf8.encode (97 + (n.val : Int)) = ⟨#[UInt8.ofNat (97 + n.val)]⟩ := by decide +kernel
theorem count_name (s : ByteArray) (n : Nat) (h1 : 97 ≤ n) (h2 : n ≤ 102) : (runeS.f (n : Int)).bind (fun t => strings_Count.f s t) = some ((s.data.toList.count (UInt8.ofNat n) : Nat) : Int) := by
 have h := encode_name ⟨n - 97, by omega⟩
 simp only [show (97 + ((n - 97 : Nat) : Int)) = (n : Int) by omega, show 97 + (n - 97) = n by omega] at h
 unfold runeS.f
 rw [Option.bind_some, h]
 rfl
theorem it_l1 (s : ByteArray) : ∀ (m n : Nat), 97 ≤ n → n + m = 103 → ∀ R : Bool, (R = true ↔ ∀ c : Nat, n ≤ c → c ≤ 102 → s.data.toList.count (UInt8.ofNat c) ≤ 1) → Ev (fun k => impl_IsTray.l1 k s n) R
 | 0, n, h1, h2, R, hR => by
  obtain rfl : R = true := hR.2 fun c h3 h4 => by omega
  refine Ev.step (Ev.const (o := some true) rfl) fun k => ?_
  rw [impl_IsTray.l1, if_neg (by omega)]
 | m + 1, n, h1, h2, R, hR => by
  have hc := count_name s n h1 (by omega)
  obtain ⟨t, e1, e2⟩ := Option.bind_eq_some_iff.1 hc
  have hw : wrap32 ((n : Int) + 1) = ((n + 1 : Nat) : Int) := by unfold wrap32; omega
  by_cases hn : s.data.toList.count (UInt8.ofNat n) ≤ 1
  ·have ih := it_l1 s m (n + 1) (by omega) (by omega) R (hR.trans ⟨fun h c h3 h4 => h c (by omega) h4, fun h c h3 h4 => by
    by_cases h5 : n = c
    ·rw [← h5]; exact hn
    ·exact h c (by omega) h4⟩)
   refine Ev.step ih fun k => ?_
   rw [impl_IsTray.l1, if_pos (by omega), e1, Option.bind_some, e2, Option.bind_some, if_neg (by omega), hw]
  ·obtain rfl : R = false := Bool.eq_false_iff.2 fun h => hn (hR.1 h n (Nat.le_refl _) (by omega))
   refine Ev.step (Ev.const (o := some false) rfl) fun k => ?_
   rw [impl_IsTray.l1, if_pos (by omega), e1, Option.bind_some, e2, Option.bind_some, if_pos (by omega)]
theorem named_count (s : ByteArray) : namedOK (ints (rows 47 s.data.toList).flatten) ↔ ∀ c : Nat, 97 ≤ c → c ≤ 102 → s.data.toList.count (UInt8.ofNat c) ≤ 1 := by
 have h : ∀ c : Nat, 97 ≤ c → c ≤ 102 → (ints (rows 47 s.data.toList).flatten).count (c : Int) = s.data.toList.count (UInt8.ofNat c) := by
  intro c h1 h2
  have e : ((UInt8.ofNat c).toNat : Int) = c := by
   rw [UInt8.toNat_ofNat']
   omega
  rw [← e, ints_count, rows_count 47 (UInt8.ofNat c)]
  intro e2
  have := congrArg UInt8.toNat e2
  rw [UInt8.toNat_ofNat'] at this
  have h47 : (47 : UInt8).toNat = 47 := rfl
  omega
 constructor
 ·intro h1 c h2 h3
  rw [← h c h2 h3]
  exact h1 c (by omega) (by omega)
 ·intro h1 c h2 h3
  have h4 := h c.toNat (by omega) (by omega)
  rw [show ((c.toNat : Nat) : Int) = c by omega] at h4
  rw [h4]
  exact h1 _ (by omega) (by omega)
theorem within_eq (a lo hi : Int) : impl_within.f a lo hi = some (decide (lo ≤ a ∧ a ≤ hi)) := by
 unfold impl_within.f
 by_cases h : lo ≤ a
 ·rw [if_pos h]
  simp [h]
 ·rw [if_neg h]
  simp [h]
theorem isSize_eq (w h : Nat) (hw : w ≤ 1048576) (hh : h ≤ 1048577) : impl_isSize.f w h = some (decide (1 ≤ w ∧ w ≤ 7 ∧ 1 ≤ h ∧ h ≤ 7 ∧ w * h ≤ 36)) := by
 unfold impl_isSize.f
 rw [within_eq, Option.bind_some]
 by_cases h1 : 1 ≤ w ∧ w ≤ 7
 ·rw [decide_eq_true (by omega), if_pos rfl, within_eq, Option.bind_some]
  by_cases h2 : 1 ≤ h ∧ h ≤ 7
  ·rw [decide_eq_true (by omega), if_pos rfl]
   have h3 : w * h ≤ 7 * 7 := Nat.mul_le_mul h1.2 h2.2
   have e : wrap64 ((w : Int) * h) = ((w * h : Nat) : Int) := by
    rw [← Int.natCast_mul]
    exact w64 (by omega) (by omega)
   rw [e]
   congr 1
   exact decide_eq_decide.2 ⟨fun h => ⟨h1.1, h1.2, h2.1, h2.2, by omega⟩, fun h => by omega⟩
  ·rw [decide_eq_false (by omega), if_neg (by decide), decide_eq_false (by omega)]
 ·rw [decide_eq_false (by omega), if_neg (by decide), decide_eq_false (by omega)]
theorem rowsL_len (s : ByteArray) : (rowsL s).length = (rows 47 s.data.toList).length := by rw [← rowsL_map, List.length_map]
theorem rowsL_drop (s : ByteArray) (i : Nat) (h : i < (rowsL s).length) : (rows 47 s.data.toList).drop i = (rdOf ByteArray.empty (rowsL s) (i : Int)).data.toList :: (rows 47 s.data.toList).drop (i + 1) := by
 rw [← rowsL_map]
 have h2 : i < ((rowsL s).map (·.data.toList)).length := by rw [List.length_map]; exact h
 rw [List.drop_eq_getElem_cons h2]
 congr 1
 unfold rdOf
 rw [List.getElem_map, Int.toNat_natCast, List.getD_eq_getElem?_getD, List.getElem?_eq_getElem h]
 rfl
theorem rowsL_tw (s : ByteArray) (h : 0 < (rowsL s).length) : (rdOf ByteArray.empty (rowsL s) 0).size = tw (rows 47 s.data.toList) := by
 have e := rowsL_drop s 0 h
 rw [List.drop_zero] at e
 unfold tw
 rw [e, List.headD_cons, data_length]
 rfl
theorem rows_le (c : UInt8) (l r : List UInt8) (h : r ∈ rows c l) : r.length ≤ l.length := by
 have h1 := rows_flat c l
 have h2 : r.length ≤ (rows c l).flatten.length := (List.sublist_flatten_of_mem h).length_le
 omega
def cutAll : ByteArray := ⟨#[35, 46, 111, 97, 98, 99, 100, 101, 102]⟩
theorem it_l0 (s : ByteArray) (hs : s.size ≤ 1048576) (w : Nat) (hw : (rdOf ByteArray.empty (rowsL s) 0).size = w) (K : Bool) (hK : Ev (fun k => impl_IsTray.l1 k s 97) K) :
  ∀ (m i : Nat), i + m = (rowsL s).length → Ev (fun k => impl_IsTray.l0 k s (rowsL s) (rowsL s) (rowsL s).length i) (if evenRows w ((rows 47 s.data.toList).drop i) then K else false)
 | 0, i, hi => by
  have e : (rows 47 s.data.toList).drop i = [] := List.drop_eq_nil_of_le (by rw [← rowsL_len]; omega)
  rw [e, if_pos (show evenRows w [] from fun r hr => by simp at hr)]
  refine Ev.step hK fun k => ?_
  rw [impl_IsTray.l0, if_neg (by omega)]
 | m + 1, i, hi => by
  have ih := it_l0 s hs w hw K hK m (i + 1) (by omega)
  have hlt : i < (rowsL s).length := by omega
  have hlen : (rowsL s).length ≤ 1048577 := by
   have h1 := rows_size 47 s.data.toList
   have h2 := data_length s
   rw [rowsL_len]
   omega
  have hd := rowsL_drop s i hlt
  have hrow : (rdOf ByteArray.empty (rowsL s) (i : Int)).data.toList ∈ rows 47 s.data.toList := (List.drop_sublist i _).subset (by rw [hd]; exact List.mem_cons_self)
  have hsz : (rdOf ByteArray.empty (rowsL s) (i : Int)).size ≤ 1048576 := by
   have h1 := rows_le 47 _ _ hrow
   rw [data_length, data_length] at h1
   omega
  have hwr : wrap64 ((i : Int) + 1) = ((i + 1 : Nat) : Int) := by rw [w64 (by omega) (by omega)]; omega
  rw [hd]
  generalize hrw : rdOf ByteArray.empty (rowsL s) (i : Int) = row at hsz hd ⊢
  obtain ⟨t, et, ht⟩ := trim_tell row cutAll hsz (by decide) (by decide)
  have hcell : (∀ b ∈ row.data.toList, cutAll.data.toList.contains b = true) ↔ row.data.toList.all isCellB = true := by
   rw [List.all_eq_true]
   rfl
  rw [ite_iff ((evenRows_cons w row.data.toList ((rows 47 s.data.toList).drop (i + 1))).trans (show _ ↔ (row.size = w ∧ t.toList = []) ∧ evenRows w ((rows 47 s.data.toList).drop (i + 1)) by rw [← hcell, ← ht, data_length]))]
  by_cases h1 : row.size = w
  ·by_cases h2 : t.toList = []
   ·rw [ite_iff (show ((row.size = w ∧ t.toList = []) ∧ evenRows w ((rows 47 s.data.toList).drop (i + 1))) ↔ evenRows w ((rows 47 s.data.toList).drop (i + 1)) from ⟨fun h => h.2, fun h => ⟨⟨h1, h2⟩, h⟩⟩)]
    refine Ev.step ih fun k => ?_
    rw [impl_IsTray.l0, if_pos (by omega), if_pos (by omega), if_pos (by omega), if_pos (by omega), hrw, hw, if_pos (by omega)]
    show (strings_Trim.f row cutAll).bind _ = _
    rw [et, Option.bind_some, if_pos h2, hwr]
   ·rw [if_neg fun h => h2 h.1.2]
    refine Ev.step (Ev.const (o := some false) rfl) fun k => ?_
    rw [impl_IsTray.l0, if_pos (by omega), if_pos (by omega), if_pos (by omega), if_pos (by omega), hrw, hw, if_pos (by omega)]
    show (strings_Trim.f row cutAll).bind _ = _
    rw [et, Option.bind_some, if_neg h2]
  ·rw [if_neg fun h => h1 h.1.1]
   refine Ev.step (Ev.const (o := some false) rfl) fun k => ?_
   rw [impl_IsTray.l0, if_pos (by omega), if_pos (by omega), if_pos (by omega), if_pos (by omega), hrw, hw, if_neg (by omega)]
theorem isTray_ev (s : ByteArray) (hs : s.size ≤ 1048576) : Ev (fun k => impl_IsTray.f k s) (trayOf s).isSome := by
 have h1 := rows_size 47 s.data.toList
 have h2 := data_length s
 have h3 := rowsL_len s
 have hne : 0 < (rowsL s).length := by
  rw [h3]
  exact List.length_pos_iff.2 (rows_ne 47 _)
 have hw := rowsL_tw s hne
 have hwle : tw (rows 47 s.data.toList) ≤ 1048576 := by
  have e := rowsL_drop s 0 hne
  rw [List.drop_zero] at e
  have := rows_le 47 s.data.toList _ (by rw [e]; exact List.mem_cons_self)
  rw [data_length, data_length] at this
  have h4 : (rdOf ByteArray.empty (rowsL s) ((0 : Nat) : Int)).size = (rdOf ByteArray.empty (rowsL s) 0).size := rfl
  omega
 have hsp : strings_Split.f s ⟨#[47]⟩ = some (rowsL s) := if_pos ⟨by omega, by decide⟩
 have hss := isSize_eq (tw (rows 47 s.data.toList)) (rowsL s).length hwle (by omega)
 have hf : ∀ k, impl_IsTray.f k s = if decide (1 ≤ tw (rows 47 s.data.toList) ∧ tw (rows 47 s.data.toList) ≤ 7 ∧ 1 ≤ (rowsL s).length ∧ (rowsL s).length ≤ 7 ∧ tw (rows 47 s.data.toList) * (rowsL s).length ≤ 36) = true then impl_IsTray.l0 k s (rowsL s) (rowsL s) (rowsL s).length 0 else some false := by
  intro k
  unfold impl_IsTray.f
  rw [hsp, Option.bind_some, if_pos (by omega), hw, hss, Option.bind_some]
 refine Ev.congr ?_ hf
 unfold trayOf trayRows
 by_cases hc : 1 ≤ tw (rows 47 s.data.toList) ∧ tw (rows 47 s.data.toList) ≤ 7 ∧ 1 ≤ (rowsL s).length ∧ (rowsL s).length ≤ 7 ∧ tw (rows 47 s.data.toList) * (rowsL s).length ≤ 36
 ·rw [decide_eq_true hc]
  refine Ev.congr ?_ (fun k => if_pos rfl)
  have h5 := it_l0 s hs _ hw (decide (namedOK (ints (rows 47 s.data.toList).flatten))) (it_l1 s 6 97 (by omega) (by omega) _ (by rw [decide_eq_true_iff]; exact named_count s)) (rowsL s).length 0 (by omega)
  rw [List.drop_zero] at h5
  have e : (if okRows (rows 47 s.data.toList) then some ((tw (rows 47 s.data.toList) : Int), ((rows 47 s.data.toList).length : Int), ints (rows 47 s.data.toList).flatten) else none).isSome =
    if evenRows (tw (rows 47 s.data.toList)) (rows 47 s.data.toList) then decide (namedOK (ints (rows 47 s.data.toList).flatten)) else false := by
   by_cases h6 : evenRows (tw (rows 47 s.data.toList)) (rows 47 s.data.toList)
   ·by_cases h7 : namedOK (ints (rows 47 s.data.toList).flatten)
    ·rw [if_pos h6, if_pos (show okRows _ from ⟨by rw [h3] at hc; omega, h6, h7⟩), decide_eq_true h7]
     rfl
    ·rw [if_pos h6, if_neg fun h => h7 h.2.2, decide_eq_false h7]
     rfl
   ·rw [if_neg h6, if_neg fun h => h6 h.2.1]
    rfl
  rw [e]
  exact h5
 ·rw [if_neg fun h => hc (by have h4 := h.1; rw [h3]; omega), decide_eq_false hc]
  exact Ev.congr (Ev.const (o := some false) rfl) (fun k => if_neg (by decide))
theorem joined_ints (s : ByteArray) : bytesOf (joinedB s) = ints (rows 47 s.data.toList).flatten := by
 unfold bytesOf ints
 rw [joinedB_list]
theorem trayOf_row (s : ByteArray) : trayOf s = none ∨ (s.size ≤ 42 ∧ impl_read.f s = trayOf s) := by
 rcases h : trayOf s with _ | t
 ·exact Or.inl rfl
 ·have hs := trayOf_small s (by rw [h]; exact fun e => nomatch e)
  refine Or.inr ⟨hs, ?_⟩
  rw [← h]
  have hne : 0 < (rowsL s).length := by
   rw [rowsL_len]
   exact List.length_pos_iff.2 (rows_ne 47 _)
  have hw := rowsL_tw s hne
  unfold trayOf trayRows at h ⊢
  split at h
  ·rename_i hk
   rw [if_pos hk]
   unfold impl_read.f
   rw [if_pos (by omega), joined_ints, rowsL_len, ← hw]
   rfl
  ·cases h
theorem trayOf_some {s : ByteArray} {t : Int × Int × List Int} (ht : trayOf s = some t) : ∃ w h : Nat, t = ((w : Int), (h : Int), ints (rows 47 s.data.toList).flatten) ∧ 1 ≤ w ∧ w ≤ 7 ∧ 1 ≤ h ∧ h ≤ 7 ∧ w * h ≤ 36 ∧ (ints (rows 47 s.data.toList).flatten).length = w * h := by
 unfold trayOf trayRows at ht
 split at ht
 ·rename_i hk
  have h1 := evenRows_flat _ _ hk.2.1
  have h2 := List.length_pos_iff.2 (rows_ne 47 s.data.toList)
  have h3 := hk.1
  refine ⟨_, _, (Option.some.inj ht).symm, h3.1, h3.2.1, by omega, h3.2.2.1, h3.2.2.2, ?_⟩
  rw [ints_length, h1]
 ·cases ht
theorem tray_parts {s : ByteArray} {t : Int × Int × List Int} (ht : trayOf s = some t) : ∃ (w h : Nat) (cs : List Int), t = ((w : Int), (h : Int), cs) ∧ 1 ≤ w ∧ w ≤ 7 ∧ 1 ≤ h ∧ h ≤ 7 ∧ w * h ≤ 36 ∧ cs.length = w * h := by
 obtain ⟨w, h, e, h1, h2, h3, h4, h5, h6⟩ := trayOf_some ht
 exact ⟨w, h, _, e, h1, h2, h3, h4, h5, h6⟩
theorem tray_read {s : ByteArray} {t : Int × Int × List Int} (ht : trayOf s = some t) : impl_read.f s = some t := by
 rw [← ht]
 exact ((trayOf_row s).resolve_left (by rw [ht]; exact fun e => nomatch e)).2
end Go.Proofs.YtcpeldgnabfdmaaDoor.Q
end
section
namespace Go.Proofs.YtcpeldgnabfdmaaDoor.Q
set_option linter.unusedSectionVars false
open Go.RowKit Go.Proofs.YtcpeldgnabfdmaaDoorW.PrintWords Go.Proofs.YtcpeldgnabfdmaaDoorW.PrintLast Go.Proofs.YtcpeldgnabfdmaaDoorW.PrintMore
def dirB (d : Nat) : UInt8 := ([117, 114, 100, 108] : List UInt8).getD d 0
theorem toList_data (s : ByteArray) : s.toList = s.data.toList := by
 obtain ⟨⟨l⟩⟩ := s
 exact ByteArray.toList_mk l
theorem has_byte : ∀ (l : List UInt8) (c : UInt8), decide (0 ≤ Lib.indexByte l c) = decide (c ∈ l)
 | [], c => by simp [Lib.indexByte]
 | b :: l, c => by
  have ih := has_byte l c
  have hge := Lib.indexByte_ge l c
  unfold Lib.indexByte
  by_cases hb : b = c
  ·subst hb
   simp
  ·have h1 : (b == c) = false := by simpa using hb
   have h2 : (c ∈ b :: l) ↔ c ∈ l := by simp [Ne.symm hb]
   rw [h1, decide_eq_decide.2 h2, ← ih]
   rw [decide_eq_decide]
   rw [if_neg Bool.false_ne_true]
   by_cases h3 : Lib.indexByte l c = -1
   ·rw [h3]
    decide
   ·rw [show (Lib.indexByte l c == -1) = false by simpa using h3, if_neg Bool.false_ne_true]
    omega
def dirFrom (l : List UInt8) : Nat → Nat → Int
 | 0, _ => -1
 | m + 1, t => if l = [dirB t] then t else dirFrom l m (t + 1)
def dirI (s : ByteArray) : Int := dirFrom s.data.toList 4 0
theorem cut_toList : ∀ d : Fin 4, ((⟨#[117, 114, 100, 108]⟩ : ByteArray).extract ((d.val : Int)).toNat (((d.val + 1 : Nat) : Int)).toNat).toList = [dirB d.val] := by
 intro d
 rw [toList_data]
 revert d
 decide
theorem tiDir_l0 (s : ByteArray) : ∀ (m t : Nat), t + m = 4 → Ev (fun k => spec_tiDir.l0 k s t) (dirFrom s.data.toList m t)
 | 0, t, ht => by
  obtain rfl : t = 4 := by omega
  refine Ev.step (Ev.const (o := some (-1)) rfl) fun k => ?_
  rw [spec_tiDir.l0, if_neg (by decide)]
 | m + 1, t, ht => by
  have ih := tiDir_l0 s m (t + 1) (by omega)
  have ht4 : t < 4 := by omega
  have hwt : wrap64 ((t : Int) + 1) = ((t + 1 : Nat) : Int) := by rw [w64 (by omega) (by omega)]; omega
  have hcut := cut_toList ⟨t, ht4⟩
  simp only at hcut
  have hsz : ((⟨#[117, 114, 100, 108]⟩ : ByteArray).size : Int) = 4 := rfl
  unfold dirFrom
  have hgo : ∀ k, spec_tiDir.l0 (k + 1) s t = if s.data.toList = [dirB t] then some (t : Int) else spec_tiDir.l0 k s ((t + 1 : Nat) : Int) := by
   intro k
   rw [spec_tiDir.l0, if_pos (by omega), hwt]
   show (Option.some (⟨#[117, 114, 100, 108]⟩ : ByteArray)).bind _ = _
   rw [Option.bind_some, if_pos (by omega), if_pos (by omega), if_pos (by rw [hsz]; omega), hcut, toList_data]
  by_cases he : s.data.toList = [dirB t]
  ·rw [if_pos he]
   exact Ev.step (Ev.const (o := some (t : Int)) rfl) fun k => by rw [hgo, if_pos he]
  ·rw [if_neg he]
   exact Ev.step ih fun k => by rw [hgo, if_neg he]
theorem tiDir_ev (s : ByteArray) : Ev (fun k => spec_tiDir.f k s) (dirI s) := tiDir_l0 s 4 0 (by omega)
theorem dirI_cases (s : ByteArray) : (dirI s = -1 ∧ ∀ d : Nat, d < 4 → s.data.toList ≠ [dirB d]) ∨ ∃ d : Nat, d < 4 ∧ dirI s = d ∧ s.data.toList = [dirB d] := by
 unfold dirI dirFrom
 by_cases h0 : s.data.toList = [dirB 0]
 ·exact Or.inr ⟨0, by omega, by rw [if_pos h0], h0⟩
 rw [if_neg h0]
 unfold dirFrom
 by_cases h1 : s.data.toList = [dirB (0 + 1)]
 ·exact Or.inr ⟨1, by omega, by rw [if_pos h1], h1⟩
 rw [if_neg h1]
 unfold dirFrom
 by_cases h2 : s.data.toList = [dirB (0 + 1 + 1)]
 ·exact Or.inr ⟨2, by omega, by rw [if_pos h2], h2⟩
 rw [if_neg h2]
 unfold dirFrom
 by_cases h3 : s.data.toList = [dirB (0 + 1 + 1 + 1)]
 ·exact Or.inr ⟨3, by omega, by rw [if_pos h3], h3⟩
 rw [if_neg h3]
 refine Or.inl ⟨rfl, fun d hd => ?_⟩
 obtain h | h | h | h : d = 0 ∨ d = 1 ∨ d = 2 ∨ d = 3 := by omega
 ·subst h; exact h0
 ·subst h; exact h1
 ·subst h; exact h2
 ·subst h; exact h3
theorem one_byte_of {s : ByteArray} {b : UInt8} (h : s.data.toList = [b]) : s = ⟨#[b]⟩ := by
 obtain ⟨⟨l⟩⟩ := s
 simp at h
 subst h
 rfl
theorem dirB_mem : ∀ c : UInt8, c ∈ ([117, 114, 100, 108] : List UInt8) → ∃ d : Nat, d < 4 ∧ c = dirB d := by
 intro c hc
 simp only [List.mem_cons, List.not_mem_nil, or_false] at hc
 rcases hc with h | h | h | h
 ·exact ⟨0, by omega, h⟩
 ·exact ⟨1, by omega, h⟩
 ·exact ⟨2, by omega, h⟩
 ·exact ⟨3, by omega, h⟩
theorem isDir_eq (s : ByteArray) : impl_isDir.f s = some (decide (0 ≤ dirI s)) := by
 unfold impl_isDir.f
 rcases dirI_cases s with ⟨h1, h2⟩ | ⟨d, hd, h1, h2⟩
 ·rw [h1]
  by_cases hs : (s.size : Int) = 1
  ·rw [if_pos hs]
   have hs2 : s.size = 1 := by omega
   obtain ⟨c, rfl⟩ := Lib.one_byte s hs2
   unfold strings_Contains.f
   rw [if_pos (show (⟨#[c]⟩ : ByteArray).size = 1 from rfl), has_byte, Option.bind_some]
   congr 1
   show decide (c ∈ ([117, 114, 100, 108] : List UInt8)) = _
   rw [decide_eq_decide]
   constructor
   ·intro hc
    obtain ⟨d, hd, rfl⟩ := dirB_mem c hc
    exact absurd rfl (h2 d hd)
   ·intro h
    omega
  ·rw [if_neg hs]
   rfl
 ·obtain rfl := one_byte_of h2
  rw [h1, if_pos (show ((⟨#[dirB d]⟩ : ByteArray).size : Int) = 1 from rfl)]
  unfold strings_Contains.f
  rw [if_pos (show (⟨#[dirB d]⟩ : ByteArray).size = 1 from rfl), has_byte, Option.bind_some]
  congr 1
  rw [decide_eq_decide]
  constructor
  ·intro _
   omega
  ·intro _
   show dirB d ∈ ([117, 114, 100, 108] : List UInt8)
   obtain h | h | h | h : d = 0 ∨ d = 1 ∨ d = 2 ∨ d = 3 := by omega
   ·subst h; decide
   ·subst h; decide
   ·subst h; decide
   ·subst h; decide
end Go.Proofs.YtcpeldgnabfdmaaDoor.Q
end
section
namespace Go.Proofs.YtcpeldgnabfdmaaDoor.Q
set_option linter.unusedSectionVars false
open Go.RowKit Go.Proofs.YtcpeldgnabfdmaaDoorW.PrintWords Go.Proofs.YtcpeldgnabfdmaaDoorW.PrintLast Go.Proofs.YtcpeldgnabfdmaaDoorW.PrintMore
theorem isTilted_ev (t s : ByteArray) (ht : t.size ≤ 1048576) : Ev (fun k => impl_isTilted.f k t s) ((trayOf t).isSome && decide (0 ≤ dirI s)) := by
 refine Ev.bind (f := fun _ (t101 : Bool) => (if t101 = true then ((impl_isDir.f s).bind fun t102 => (some t102)) else (some false))) (isTray_ev t ht) (Ev.const ?_)
 by_cases h : (trayOf t).isSome = true
 ·rw [if_pos h, h, isDir_eq]
  rfl
 ·rw [if_neg h, Bool.eq_false_iff.2 h]
  rfl
theorem tiRead_ev (t s : ByteArray) : Ev (fun k => spec_tiRead.f k t s) (match trayOf t with | none => (0, 0, [], dirI s, false) | some (w, h, cs) => (w, h, cs, dirI s, decide (0 ≤ dirI s))) := by
 refine Ev.bind (f := fun k (bt102 : Int × Int × List Int × Bool) => ((spec_tiDir.f k s).bind fun t109 => (if bt102.2.2.2 = true then (some (bt102.1, bt102.2.1, bt102.2.2.1, t109, decide (t109 ≥ 0))) else (some (bt102.1, bt102.2.1, bt102.2.2.1, t109, false))))) (tyRead_ev t) ?_
 refine Ev.bind (tiDir_ev s) (Ev.const ?_)
 rcases trayOf t with _ | ⟨w, h, cs⟩
 ·rfl
 ·rfl
theorem dirI_nat {s : ByteArray} (h : 0 ≤ dirI s) : ∃ d : Nat, d < 4 ∧ dirI s = d ∧ s = ⟨#[dirB d]⟩ := by
 rcases dirI_cases s with ⟨e, _⟩ | ⟨d, hd4, e, e2⟩
 ·omega
 ·exact ⟨d, hd4, e, one_byte_of e2⟩
theorem bt_dir : ∀ d : Fin 4, (0 : Int) < ((⟨#[dirB d.val]⟩ : ByteArray).size : Int) ∧ bt (⟨#[dirB d.val]⟩ : ByteArray) 0 = dirC d.val := by decide
end Go.Proofs.YtcpeldgnabfdmaaDoor.Q
end
section
namespace Go.Proofs.YtcpeldgnabfdmaaDoor.Q
set_option linter.unusedSectionVars false
open Go.RowKit Go.Proofs.YtcpeldgnabfdmaaDoorW.PrintWords Go.Proofs.YtcpeldgnabfdmaaDoorW.PrintLast Go.Proofs.YtcpeldgnabfdmaaDoorW.PrintMore
open Classical
theorem eqSS_l0 (L : List (List Int)) (hL : L.length ≤ 1000) : ∀ (Ls : List (List Int)) (u : Nat), L.drop u = Ls → u ≤ L.length → (∀ s ∈ Ls, s.length ≤ 1000000) → Ev (fun k => laws_eqIntSS.l0 k L L (u : Int)) true
 | [], u, hd, hu, _ => by
  have h1 : u = L.length := by
   have := congrArg List.length hd
   simp at this
   omega
  subst h1
  refine Ev.step (Ev.const rfl) fun k => ?_
  rw [laws_eqIntSS.l0, if_neg (by omega)]
 | s :: Ls, u, hd, _, hs => by
  obtain ⟨h1, h2, h3⟩ := rdS_drop hd
  have ih := eqSS_l0 L hL Ls (u + 1) h3 h1 fun t ht => hs t (List.mem_cons_of_mem _ ht)
  rw [← wr1 u (by omega)] at ih
  refine Ev.step (Ev.bind (f := fun k t103 => (if t103 = true then (laws_eqIntSS.l0 k L L (wrap64 ((u : Int) + 1))) else (some false))) (eqInts_ev s (hs s List.mem_cons_self)) (Ev.congr ih fun k => if_pos rfl)) fun k => ?_
  rw [laws_eqIntSS.l0, if_pos (by omega), if_pos (by omega), if_pos (by omega), show rd_Lii L (u : Int) = s from h2]
def rowsFrom : Int → List (List Int) → Prop
 | _, [] => True
 | a, x :: l => (∀ j : Int, 0 ≤ j → j < (x.length : Int) → rd x j = a + j) ∧ rowsFrom (a + x.length) l
theorem markSS_ev : ∀ (L : List (List Int)) (a : Int), 0 ≤ a → a + (L.flatten.length : Int) ≤ 1000000 → ∃ L' : List (List Int), L'.length = L.length ∧ L'.flatten.length = L.flatten.length ∧ rowsFrom a L' ∧ Ev (fun k => laws_markIntSS.f k L a) (a + (L.flatten.length : Int), L')
 | [], a, _, _ => ⟨[], rfl, rfl, trivial, Ev.const (by simp [laws_markIntSS.f])⟩
 | x :: l, a, h0, h1 => by
  rw [List.flatten_cons, List.length_append] at h1 ⊢
  obtain ⟨x', e1, e2, e3⟩ := mark_ev x a h0 (by omega) (by omega)
  obtain ⟨l', i1, i2, i3, i4⟩ := markSS_ev l (a + x.length) (by omega) (by omega)
  refine ⟨x' :: l', by rw [List.length_cons, List.length_cons, i1], by rw [List.flatten_cons, List.length_append, e1, i2], ⟨by rw [e1]; exact e2, by rw [e1]; exact i3⟩, ?_⟩
  rw [show a + ((x.length + l.flatten.length : Nat) : Int) = a + x.length + (l.flatten.length : Int) by omega]
  exact Ev.bind (f := fun k (p : Int × List Int) => (laws_markIntSS.f k l p.1).bind fun q => some (q.1, p.2 :: q.2)) e3 (Ev.bind (f := fun _ (q : Int × List (List Int)) => some (q.1, x' :: q.2)) i4 (Ev.const rfl))
theorem heldSS_l0 (L : List (List Int)) (hL : L.length ≤ 1000) : ∀ (Ls : List (List Int)) (u : Nat) (a : Int), L.drop u = Ls → u ≤ L.length → rowsFrom a Ls → 0 ≤ a → a + (Ls.flatten.length : Int) ≤ 1000000 → Ev (fun k => laws_heldIntSS.l0 k L a (u : Int)) (a + (Ls.flatten.length : Int))
 | [], u, a, hd, hu, _, _, _ => by
  have h1 : u = L.length := by
   have := congrArg List.length hd
   simp at this
   omega
  subst h1
  refine Ev.step (Ev.const rfl) fun k => ?_
  rw [laws_heldIntSS.l0, if_neg (by omega)]
  simp
 | x :: Ls, u, a, hd, _, hr, h0, hb => by
  obtain ⟨h1, h2, h3⟩ := rdS_drop hd
  rw [List.flatten_cons, List.length_append] at hb ⊢
  have ih := heldSS_l0 L hL Ls (u + 1) (a + x.length) h3 h1 hr.2 (by omega) (by omega)
  rw [← wr1 u (by omega)] at ih
  rw [show a + ((x.length + Ls.flatten.length : Nat) : Int) = a + x.length + (Ls.flatten.length : Int) by omega]
  refine Ev.step (Ev.bind (f := fun k t102 => (if t102 < 0 then (some (-1)) else (laws_heldIntSS.l0 k L t102 (wrap64 ((u : Int) + 1))))) (held_ev x a h0 (by omega) (by omega) hr.1) (Ev.congr ih fun k => if_neg (by omega))) fun k => ?_
  rw [laws_heldIntSS.l0, if_pos (by omega), if_pos (by omega), show rd_Lii L (u : Int) = x from h2]
def StretchesOfR (t s : ByteArray) : List (List Int) × Bool := match trayOf t with
 | none => ([], false)
 | some (w, h, cs) => if 0 ≤ dirI s then (strL w.toNat h.toNat cs (dirI s).toNat, true) else ([], false)
theorem specStretchesOf_ev (t s : ByteArray) : Ev (fun k => spec_StretchesOf.f k t s) (StretchesOfR t s) := by
 refine Ev.bind (f := fun k (bt101 : Int × Int × List Int × Int × Bool) => (if bt101.2.2.2.2 = true then ((spec_tiStretches.f k bt101.1 bt101.2.1 bt101.2.2.1 bt101.2.2.2.1).bind fun t109 => (some (t109, true))) else (some (([] : List (List Int)), false)))) (tiRead_ev t s) ?_
 unfold StretchesOfR
 rcases ht : trayOf t with _ | ⟨w, h, cs⟩
 ·exact Ev.congr (Ev.const rfl) fun k => if_neg Bool.false_ne_true
 ·obtain ⟨w, h, cs, e, hw1, hw, hh1, hh, hs, hn⟩ := tray_parts ht
  injection e with e1 e2
  injection e2 with e2 e3
  subst e1 e2 e3
  show Ev _ (if 0 ≤ dirI s then _ else _)
  by_cases hd : 0 ≤ dirI s
  ·obtain ⟨d, hd4, e, _⟩ := dirI_nat hd
   rw [if_pos hd, e]
   simp only [Int.toNat_natCast]
   refine Ev.congr (Ev.bind (f := fun _ t109 => some (t109, true)) (tiStretches_ev hw hh hs hd4 hn) (Ev.const rfl)) fun k => ?_
   exact if_pos (decide_eq_true (show (0 : Int) ≤ (d : Int) by omega))
  ·rw [if_neg hd]
   exact Ev.congr (Ev.const rfl) fun k => if_neg (by simpa using hd)
theorem implStretchesOf_ev (t s : ByteArray) (ht0 : t.size ≤ 1048576) : Ev (fun k => impl_StretchesOf.f k t s) (StretchesOfR t s) := by
 refine Ev.bind (f := fun k (t101 : Bool) => (if t101 = true then ((impl_read.f t).bind fun bt102 => (if 0 < (s.size : Int) then ((impl_tray_stretches.f k bt102.1 bt102.2.1 bt102.2.2 (bt s 0)).bind fun t107 => (some (t107, true))) else (none))) else (some (([] : List (List Int)), false)))) (isTilted_ev t s ht0) ?_
 unfold StretchesOfR
 rcases ht : trayOf t with _ | ⟨w, h, cs⟩
 ·exact Ev.congr (Ev.const rfl) fun k => if_neg (by simp)
 ·have hread := tray_read ht
  obtain ⟨w, h, cs, e, hw1, hw, hh1, hh, hs, hn⟩ := tray_parts ht
  injection e with e1 e2
  injection e2 with e2 e3
  subst e1 e2 e3
  show Ev _ (if 0 ≤ dirI s then _ else _)
  by_cases hd : 0 ≤ dirI s
  ·obtain ⟨d, hd4, e, rfl⟩ := dirI_nat hd
   rw [if_pos hd, e]
   simp only [Int.toNat_natCast]
   obtain ⟨b1, b2⟩ := bt_dir ⟨d, hd4⟩
   simp only at b1 b2
   refine Ev.congr (Ev.bind (f := fun _ t107 => some (t107, true)) (stretches_ev hw hh hs hd4 hw1 hh1 hn) (Ev.const rfl)) fun k => ?_
   rw [if_pos (show ((some ((w : Int), (h : Int), cs)).isSome && decide (0 ≤ (d : Int))) = true by rw [decide_eq_true (show (0 : Int) ≤ (d : Int) by omega)]; rfl), hread, Option.bind_some, if_pos b1, b2]
  ·rw [if_neg hd]
   exact Ev.congr (Ev.const rfl) fun k => if_neg (by simpa using hd)
theorem StretchesOfR_small (t s : ByteArray) : (StretchesOfR t s).1.length ≤ 1000 ∧ (StretchesOfR t s).1.flatten.length ≤ 1000 := by
 unfold StretchesOfR
 rcases ht : trayOf t with _ | ⟨w, h, cs⟩
 ·simp
 ·obtain ⟨w, h, cs, e, hw1, hw, hh1, hh, hs, hn⟩ := tray_parts ht
  injection e with e1 e2
  injection e2 with e2 e3
  subst e1 e2 e3
  show (if 0 ≤ dirI s then (strL _ _ cs _, true) else ([], false)).1.length ≤ 1000 ∧ (if 0 ≤ dirI s then (strL _ _ cs _, true) else ([], false)).1.flatten.length ≤ 1000
  by_cases hd : 0 ≤ dirI s
  ·obtain ⟨d, hd4, e, _⟩ := dirI_nat hd
   rw [if_pos hd, e]
   simp only [Int.toNat_natCast]
   have h1 := cuts_many hw hh hs hd4 (cs := cs)
   have h2 : (strL w h cs d).length = (cutsL w h cs d).length := by unfold strL; exact List.length_mergeSort _
   have h3 := str_total hw hh hs hd4 hn
   omega
  ·rw [if_neg hd]
   simp
theorem lawStretchesOf_ev (t : ByteArray) (s : ByteArray) : Ev (fun k => laws_FnExactStretchesOf.f k t s) true := by
 by_cases ht : t.size ≤ 1048576
 case neg =>
  refine Ev.congr (Ev.const (o := some true) rfl) fun k => ?_
  unfold laws_FnExactStretchesOf.f
  exact if_pos (by omega)
 by_cases hs : s.size ≤ 1048576
 case neg =>
  refine Ev.congr (Ev.const (o := some true) rfl) fun k => ?_
  unfold laws_FnExactStretchesOf.f
  rw [if_neg (by omega)]
  exact if_pos (by omega)
 have hsp := specStretchesOf_ev t s
 have him := implStretchesOf_ev t s ht
 obtain ⟨l1, l2⟩ := StretchesOfR_small t s
 generalize StretchesOfR t s = R at hsp him l1 l2
 obtain ⟨P, b⟩ := R
 simp only at l1 l2
 obtain ⟨P', m1, m2, m3, m4⟩ := markSS_ev P 1 (by omega) (by omega)
 have hrow : ∀ s ∈ P, s.length ≤ 1000000 := fun s hm => by
  have := (List.sublist_flatten_of_mem hm).length_le
  omega
 have heq : Ev (fun k => laws_eqIntSS.f k P P) true := Ev.congr (eqSS_l0 P l1 P 0 rfl (Nat.zero_le _) hrow) fun k => if_pos rfl
 have hhd : Ev (fun k => laws_heldIntSS.f k P' 1) (1 + (P.flatten.length : Int)) := by
  have := heldSS_l0 P' (by omega) P' 0 1 rfl (Nat.zero_le _) m3 (by omega) (by omega)
  rw [m2] at this
  exact this
 refine Ev.congr (Ev.bind (f := fun k (s0 : List (List Int) × Bool) => (impl_StretchesOf.f k t s).bind fun g => (laws_eqIntSS.f k g.1 s0.1).bind fun t =>
  if (t = true ∧ g.2 = s0.2) ∧ g.1.length ≤ 1000 then (laws_markIntSS.f k g.1 1).bind fun m => (laws_heldIntSS.f k m.2 1).bind fun q => if (¬ q < 0 ∧ q = m.1) ∧ m.2.length = g.1.length then some true else none else none) hsp
  (Ev.bind (f := fun k (g : List (List Int) × Bool) => (laws_eqIntSS.f k g.1 P).bind fun t =>
  if (t = true ∧ g.2 = b) ∧ g.1.length ≤ 1000 then (laws_markIntSS.f k g.1 1).bind fun m => (laws_heldIntSS.f k m.2 1).bind fun q => if (¬ q < 0 ∧ q = m.1) ∧ m.2.length = g.1.length then some true else none else none) him
  (Ev.bind (f := fun k (t : Bool) => if (t = true ∧ b = b) ∧ P.length ≤ 1000 then (laws_markIntSS.f k P 1).bind fun m => (laws_heldIntSS.f k m.2 1).bind fun q => if (¬ q < 0 ∧ q = m.1) ∧ m.2.length = P.length then some true else none else none) heq
  (Ev.congr (Ev.bind (f := fun k (m : Int × List (List Int)) => (laws_heldIntSS.f k m.2 1).bind fun q => if (¬ q < 0 ∧ q = m.1) ∧ m.2.length = P.length then some true else none) m4
  (Ev.bind (f := fun _ q => if (¬ q < 0 ∧ q = 1 + (P.flatten.length : Int)) ∧ P'.length = P.length then some true else none) hhd (Ev.const (if_pos ⟨⟨by omega, rfl⟩, m1⟩)))) fun k => if_pos ⟨⟨rfl, rfl⟩, l1⟩)))) fun k => ?_
 unfold laws_FnExactStretchesOf.f
 rw [if_neg (by omega), if_neg (by omega)]
end Go.Proofs.YtcpeldgnabfdmaaDoor.Q
end
